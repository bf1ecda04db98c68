/- What the Go functions that the law FnExactReadInsText reaches compute, function by function, and that Go comes to just that. -/
import Derived.Test.YtmiebnpmckjidaaGreatDoorPFnExactReadInsTextx0
import Derived.Test.YtmiebnpmckjidaaGreatDoorAidZ
namespace Go.Proofs.YtmiebnpmckjidaaGreatDoor.PFnExactReadInsText
open Go.RowKit Go.Proofs.YtmiebnpmckjidaaGreatDoor.Z Go.Proofs.YtmiebnpmckjidaaGreatDoorW.PrintWords Go.Proofs.YtmiebnpmckjidaaGreatDoorW.PrintLast Go.Proofs.YtmiebnpmckjidaaGreatDoorW.PrintMore
attribute [local go_sem] max2_int min2_int max_two min_two max_three min_three max_four min_four   -- for this text's walks alone
set_option linter.unusedVariables false
set_option linter.unusedSimpArgs false

/-! ### spec_l3Turns: function 21 -/
/-! ### spec_l3Regs: function 22 -/
/-! ### spec_l1Dec: function 23 -/
mutual
def spec_l1Dec.l0 : Nat → Int → ByteArray → Option (ByteArray)
  | 0, _, _ => none
  | k + 1, x0, x3 => if x0 ≥ 10 then ((some (([(wrap64 (48 + (Int.tmod x0 10))) % 256] : List Int) : List Int)).bind fun y108 => (if (strOfNums y108).size + x3.size ≤ 9223372036854775807 then (spec_l1Dec.l0 k (wrap64 (Int.tdiv x0 10)) ((strOfNums y108) ++ x3)) else (none))) else ((some (([(wrap64 (48 + x0)) % 256] : List Int) : List Int)).bind fun y111 => (if (strOfNums y111).size + x3.size ≤ 9223372036854775807 then (some ((strOfNums y111) ++ x3)) else (none)))
def spec_l1Dec.f : Nat → Int → Option (ByteArray)
  | 0, _ => none
  | k + 1, a0 => if a0 < 0 then ((spec_l1Dec.f k (wrap64 (-a0))).bind fun t107 => (if 1 + t107.size ≤ 9223372036854775807 then (some ((⟨#[45]⟩ : ByteArray) ++ t107)) else (none))) else (spec_l1Dec.l0 k a0 (⟨#[]⟩ : ByteArray))
end
theorem spec_l1Dec.mono_l : ∀ k, (∀ y0, LeO (spec_l1Dec.f k y0) (spec_l1Dec.f (k + 1) y0)) ∧ (∀ y0 y1, LeO (spec_l1Dec.l0 k y0 y1) (spec_l1Dec.l0 (k + 1) y0 y1))
  | 0 => ⟨fun _ r h => by simp [spec_l1Dec.f] at h, fun _ _ r h => by simp [spec_l1Dec.l0] at h⟩
  | k + 1 => by
    obtain ⟨ih0, ih1⟩ := spec_l1Dec.mono_l k
    refine ⟨?_, ?_⟩
    · intro y0
      unfold spec_l1Dec.f
      repeat' first
      | (with_reducible exact ih0 _)
      | (with_reducible exact ih1 _ _)
      | (with_reducible exact LeO.refl _)
      | (with_reducible exact LeO.none _)
      | (with_reducible refine LeO.ite ?_ ?_)
      | (with_reducible refine LeO.bind ?_ (fun _ => ?_))
      | exact ih0 _
      | exact ih1 _ _
      | exact LeO.none _
      | refine LeO.ite ?_ ?_
      | refine LeO.bind ?_ (fun _ => ?_)
    · intro y0 y1
      unfold spec_l1Dec.l0
      repeat' first
      | (with_reducible exact ih0 _)
      | (with_reducible exact ih1 _ _)
      | (with_reducible exact LeO.refl _)
      | (with_reducible exact LeO.none _)
      | (with_reducible refine LeO.ite ?_ ?_)
      | (with_reducible refine LeO.bind ?_ (fun _ => ?_))
      | exact ih0 _
      | exact ih1 _ _
      | exact LeO.none _
      | refine LeO.ite ?_ ?_
      | refine LeO.bind ?_ (fun _ => ?_)
theorem spec_l1Dec.mono : ∀ a0 k, LeO (spec_l1Dec.f k a0) (spec_l1Dec.f (k + 1) a0) := by
  intro a0 k
  obtain ⟨ih0, ih1⟩ := spec_l1Dec.mono_l k
  exact ih0 a0
set_option maxHeartbeats 8000000 in
set_option maxRecDepth 100000 in
theorem spec_l1Dec.calls (k : Nat) : ∀ (a0 : Int) (r : ByteArray) (w : World) (h : spec_l1Dec.f k a0 = some r),
 Calls Tryz.prog 23 #[.int .i64 a0] w fun e w' => e = .returned (.string r) ∧ Below w.heap.size w w' := by
 induction k using Nat.strongRecOn with
 | _ k ih =>
 intro a0 r w h
 cases k with
 | zero => exact absurd h (by simp [spec_l1Dec.f])
 | succ k =>
 simp only [spec_l1Dec.f] at h
 have HB := Aside0.mk (Below.refl w.heap.size w)
 have H : (if a0 < 0 then ((spec_l1Dec.f k (wrap64 (-a0))).bind fun t107 => (if 1 + t107.size ≤ 9223372036854775807 then (some ((⟨#[45]⟩ : ByteArray) ++ t107)) else (none))) else (spec_l1Dec.l0 k a0 (⟨#[]⟩ : ByteArray))) = some r := h
 clear h
 by_cases c2 : a0 < 0
 ·rw [if_pos c2] at H
  have c2b0 : decide (a0 < 0) = true := decide_eq_true c2
  clear c2
  obtain ⟨t107, A30, H⟩ := Option.bind_eq_some_iff.mp H
  have A3 := Aside0.mk A30
  clear A30
  by_cases c4 : 1 + t107.size ≤ 9223372036854775807
  ·rw [if_pos c4] at H
   have c4b0 := eq_true c4
   have c4b1 : decide (1 + t107.size ≤ 9223372036854775807) = true := decide_eq_true c4
   try have c4b2 : (9223372036854775807 < 1 + t107.size) = False := eq_false (Nat.not_lt.2 c4)
   obtain rfl := Option.some.inj H
   go_enter Tryz.func23, Tryz.ntmps23
   go_wp2_with (first | ((with_reducible refine gate_callee (f := 23) rfl ?_); refine zc (some 8) Tryz.func23 #[.int .i64 (wrap64 (-a0))] ?_; (with_reducible refine (ih k (by omega) (wrap64 (-a0)) t107 _ A3.out).mono ?_); rintro e w5 ⟨rfl, hb⟩; refine ⟨_, rfl, ?_⟩; replace HB := zt w hb; (try clear hb); (try clear hb2); (try clear hk); (try clear hi)))
   first | go_ret | ((try simp only [Exit.inBlock, Exit.then]); apply bodyPost_ret; (exact results_tmp rfl _ _ _); rfl)
   exact ⟨ze _, zb _⟩
  ·rw [if_neg c4] at H
   exact absurd H (by simp)
 ·rw [if_neg c2] at H
  have c2b0 : decide (a0 < 0) = false := decide_eq_false c2
  clear c2
  have H' := Aside0.mk H
  clear H
  go_enter Tryz.func23, Tryz.ntmps23
  go_wp2
  go_loopg [0, 3] k (fun kq v0 v3 w' => ∃ (x0_1 : Int) (x3_1 : ByteArray), v0 = .int .i64 x0_1 ∧ v3 = .string x3_1 ∧ Aside0 (spec_l1Dec.l0 kq x0_1 x3_1 = some r) ∧ Aside0 (kq ≤ k) ∧ Aside0 (Below w.heap.size w w'))
  case atStart => exact ⟨(a0), ((⟨#[]⟩ : ByteArray)), (zE _), (zE _), H', ⟨Nat.le_refl _⟩, ⟨zb _⟩⟩
  case round =>
   clear H'
   try clear c2
   try clear c2b0
   try clear p2
   try clear c4
   try clear c4b0
   try clear c4b1
   try clear c4b2
   obtain ⟨x0_1, x3_1, rfl, rfl, HA, HK1, HB⟩ := hrel
   cases gk with
   | zero => exact absurd HA.out (by simp [spec_l1Dec.l0])
   | succ k1 =>
    have H := HA.out
    clear HA
    simp only [spec_l1Dec.l0] at H
    by_cases c6 : x0_1 ≥ 10
    ·rw [if_pos c6] at H
     have c6b0 : decide (10 ≤ x0_1) = true := decide_eq_true c6
     clear c6
     obtain ⟨y108, hy108⟩ : ∃ y_ : List Int, y_ = (([(wrap64 (48 + (Int.tmod x0_1 10))) % 256] : List Int)) := ⟨_, rfl⟩
     replace H : (if (strOfNums y108).size + x3_1.size ≤ 9223372036854775807 then (spec_l1Dec.l0 k1 (wrap64 (Int.tdiv x0_1 10)) ((strOfNums y108) ++ x3_1)) else (none)) = some r := by first | (rw [hy108]; with_reducible exact H) | (have H2_ := (Option.bind_some _ _).symm.trans H; rw [hy108]; with_reducible exact H2_) | (have H2_ := (Option.bind_some _ _).symm.trans H; with_reducible exact H2_) | with_reducible exact H | (rw [hy108]; exact H) | exact H
     have Ny108 := Aside0.mk hy108
     clear hy108
     by_cases c7 : (strOfNums y108).size + x3_1.size ≤ 9223372036854775807
     ·rw [if_pos c7] at H
      have c7b0 := eq_true c7
      have c7b1 : decide ((strOfNums y108).size + x3_1.size ≤ 9223372036854775807) = true := decide_eq_true c7
      try have c7b2 : (9223372036854775807 < (strOfNums y108).size + x3_1.size) = False := eq_false (Nat.not_lt.2 c7)
      have H' := Aside0.mk H
      clear H
      go_wp2_with (first | ((with_reducible refine gate_dst (N := 16) rfl ?_); refine Kd.R_lit (Kd.int .u8) _ 5 ?hg (N := 16) ?hd (xs := ([(wrap64 (48 + (Int.tmod x0_1 10))) % 256] : List Int)) (inner := [.int .u8 ((wrap64 (48 + (Int.tmod x0_1 10))) % 256)]) (ok := fun _ => True) (okp := fun _ => True) ?hr ?hp (fun _ hk => hk) trivial (Below.refl _ _) (Nat.le_refl _) (by simp) ?_; (case hd => rfl); (case hg => rfl); (case hr => first | (go_simp; done) | (go_simp; rfl)); (case hp => exact (Reps.one (show Kd.M (Kd.int .u8) _ _ _ ((wrap64 (48 + (Int.tmod x0_1 10))) % 256) [.int .u8 ((wrap64 (48 + (Int.tmod x0_1 10))) % 256)] from rfl) (Reps.none _ _))); intro v109 w8 ho9 hb hg_ hnew_; clear hg_ hnew_; (first | rw [← Ny108.out] at ho9 | (simp only [Int.reduceToNat] at ho9; rw [← Ny108.out] at ho9)); have HO110 := Aside0.mk (Kd.R_lower ho9 (below_size (zb _))); replace HB := zt w hb; clear hb ho9; have hcv10 := own_string (P := Tryz.prog) Tryz.underlying62 Tryz.underlying5 Tryz.underlying9 (Kd.own_of_R HO110.out)))
      go_roundg k1
      case measure => have := HK1.out; omega
      case rel => exact ⟨(wrap64 (Int.tdiv x0_1 10)), ((strOfNums y108) ++ x3_1), (zE _), (zE _), H', ⟨by have := HK1.out; omega⟩, ⟨zb _⟩⟩
     ·rw [if_neg c7] at H
      exact absurd H (by simp)
    ·rw [if_neg c6] at H
     have c6b0 : decide (10 ≤ x0_1) = false := decide_eq_false c6
     clear c6
     obtain ⟨y111, hy111⟩ : ∃ y_ : List Int, y_ = (([(wrap64 (48 + x0_1)) % 256] : List Int)) := ⟨_, rfl⟩
     replace H : (if (strOfNums y111).size + x3_1.size ≤ 9223372036854775807 then (some ((strOfNums y111) ++ x3_1)) else (none)) = some r := by first | (rw [hy111]; with_reducible exact H) | (have H2_ := (Option.bind_some _ _).symm.trans H; rw [hy111]; with_reducible exact H2_) | (have H2_ := (Option.bind_some _ _).symm.trans H; with_reducible exact H2_) | with_reducible exact H | (rw [hy111]; exact H) | exact H
     have Ny111 := Aside0.mk hy111
     clear hy111
     by_cases c11 : (strOfNums y111).size + x3_1.size ≤ 9223372036854775807
     ·rw [if_pos c11] at H
      have c11b0 := eq_true c11
      have c11b1 : decide ((strOfNums y111).size + x3_1.size ≤ 9223372036854775807) = true := decide_eq_true c11
      try have c11b2 : (9223372036854775807 < (strOfNums y111).size + x3_1.size) = False := eq_false (Nat.not_lt.2 c11)
      obtain rfl := Option.some.inj H
      go_wp2_with (first | ((with_reducible refine gate_dst (N := 25) rfl ?_); refine Kd.R_lit (Kd.int .u8) _ 5 ?hg (N := 25) ?hd (xs := ([(wrap64 (48 + x0_1)) % 256] : List Int)) (inner := [.int .u8 ((wrap64 (48 + x0_1)) % 256)]) (ok := fun _ => True) (okp := fun _ => True) ?hr ?hp (fun _ hk => hk) trivial (Below.refl _ _) (Nat.le_refl _) (by simp) ?_; (case hd => rfl); (case hg => rfl); (case hr => first | (go_simp; done) | (go_simp; rfl)); (case hp => exact (Reps.one (show Kd.M (Kd.int .u8) _ _ _ ((wrap64 (48 + x0_1)) % 256) [.int .u8 ((wrap64 (48 + x0_1)) % 256)] from rfl) (Reps.none _ _))); intro v112 w12 ho13 hb hg_ hnew_; clear hg_ hnew_; (first | rw [← Ny111.out] at ho13 | (simp only [Int.reduceToNat] at ho13; rw [← Ny111.out] at ho13)); have HO113 := Aside0.mk (Kd.R_lower ho13 (below_size (zb _))); replace HB := zt w hb; clear hb ho13; have hcv14 := own_string (P := Tryz.prog) Tryz.underlying62 Tryz.underlying5 Tryz.underlying9 (Kd.own_of_R HO113.out)))
      first | go_ret | ((try simp only [Exit.inBlock, Exit.then]); apply bodyPost_ret; (exact results_tmp rfl _ _ _); rfl)
      exact ⟨ze _, zb _⟩
     ·rw [if_neg c11] at H
      exact absurd H (by simp)

/-! ### spec_l3Low: function 24 -/
open Go.Proofs.YtmiebnpmckjidaaGreatDoor.Aid
def spec_l3Low.regsArr : Array Value := #[.string (⟨#[98]⟩ : ByteArray), .string (⟨#[99]⟩ : ByteArray), .string (⟨#[100]⟩ : ByteArray), .string (⟨#[101]⟩ : ByteArray), .string (⟨#[104]⟩ : ByteArray), .string (⟨#[108]⟩ : ByteArray), .string (⟨#[91, 104, 108, 93]⟩ : ByteArray), .string (⟨#[97]⟩ : ByteArray)]
theorem spec_l3Low.regsC (w : World) : Calls Tryz.prog 22 #[] w fun e w' => e = .returned (.slice (some ⟨w.heap.size, 0, none⟩) 8 8) ∧ w' = w.alloc (.cells spec_l3Low.regsArr 9) := by
  go_enter Tryz.func22, Tryz.ntmps22
  go_wp2
  (first | go_ret | (apply bodyPost_ret; (exact results_tmp rfl _ _ _); rfl))
  exact ⟨rfl, rfl⟩
def spec_l3Low.pairsArr : Array Value := #[.string (⟨#[98, 99]⟩ : ByteArray), .string (⟨#[100, 101]⟩ : ByteArray), .string (⟨#[104, 108]⟩ : ByteArray), .string (⟨#[115, 112]⟩ : ByteArray)]
theorem spec_l3Low.pairsC (w : World) : Calls Tryz.prog 51 #[] w fun e w' => e = .returned (.slice (some ⟨w.heap.size, 0, none⟩) 4 4) ∧ w' = w.alloc (.cells spec_l3Low.pairsArr 9) := by
  go_enter Tryz.func51, Tryz.ntmps51
  go_wp2
  (first | go_ret | (apply bodyPost_ret; (exact results_tmp rfl _ _ _); rfl))
  exact ⟨rfl, rfl⟩
def spec_l3Low.condsArr : Array Value := #[.string (⟨#[110, 122]⟩ : ByteArray), .string (⟨#[122]⟩ : ByteArray), .string (⟨#[110, 99]⟩ : ByteArray), .string (⟨#[99]⟩ : ByteArray)]
theorem spec_l3Low.condsC (w : World) : Calls Tryz.prog 50 #[] w fun e w' => e = .returned (.slice (some ⟨w.heap.size, 0, none⟩) 4 4) ∧ w' = w.alloc (.cells spec_l3Low.condsArr 9) := by
  go_enter Tryz.func50, Tryz.ntmps50
  go_wp2
  (first | go_ret | (apply bodyPost_ret; (exact results_tmp rfl _ _ _); rfl))
  exact ⟨rfl, rfl⟩
set_option maxRecDepth 100000 in
set_option maxHeartbeats 8000000 in
theorem spec_l3Low.w0_0 (w : World) : Calls Tryz.prog 24 #[.int .i64 0, .int .i64 0] w fun e w' => e = .returned (.string (⟨#[110, 111, 112]⟩ : ByteArray)) ∧ Below w.heap.size w w' := by
  go_enter Tryz.func24, Tryz.ntmps24
  go_wp2
  (first | go_ret | (apply bodyPost_ret; (exact results_tmp rfl _ _ _); rfl))
  exact ⟨by first | rfl | decide, by repeat (first | exact Below.refl _ _ | apply below_alloc | apply pw_below_drewN | apply below_drew)⟩
set_option maxRecDepth 100000 in
set_option maxHeartbeats 8000000 in
theorem spec_l3Low.w1_0 (w : World) : Calls Tryz.prog 24 #[.int .i64 1, .int .i64 0] w fun e w' => e = .returned (.string (⟨#[108, 100, 32, 91, 110, 49, 54, 93, 44, 115, 112]⟩ : ByteArray)) ∧ Below w.heap.size w w' := by
  go_enter Tryz.func24, Tryz.ntmps24
  go_wp2
  (first | go_ret | (apply bodyPost_ret; (exact results_tmp rfl _ _ _); rfl))
  exact ⟨by first | rfl | decide, by repeat (first | exact Below.refl _ _ | apply below_alloc | apply pw_below_drewN | apply below_drew)⟩
set_option maxRecDepth 100000 in
set_option maxHeartbeats 8000000 in
theorem spec_l3Low.w2_0 (w : World) : Calls Tryz.prog 24 #[.int .i64 2, .int .i64 0] w fun e w' => e = .returned (.string (⟨#[115, 116, 111, 112, 32, 110, 56]⟩ : ByteArray)) ∧ Below w.heap.size w w' := by
  go_enter Tryz.func24, Tryz.ntmps24
  go_wp2
  (first | go_ret | (apply bodyPost_ret; (exact results_tmp rfl _ _ _); rfl))
  exact ⟨by first | rfl | decide, by repeat (first | exact Below.refl _ _ | apply below_alloc | apply pw_below_drewN | apply below_drew)⟩
set_option maxRecDepth 100000 in
set_option maxHeartbeats 8000000 in
theorem spec_l3Low.w3_0 (w : World) : Calls Tryz.prog 24 #[.int .i64 3, .int .i64 0] w fun e w' => e = .returned (.string (⟨#[106, 114, 32, 101, 56]⟩ : ByteArray)) ∧ Below w.heap.size w w' := by
  go_enter Tryz.func24, Tryz.ntmps24
  go_wp2
  (first | go_ret | (apply bodyPost_ret; (exact results_tmp rfl _ _ _); rfl))
  exact ⟨by first | rfl | decide, by repeat (first | exact Below.refl _ _ | apply below_alloc | apply pw_below_drewN | apply below_drew)⟩
set_option maxRecDepth 100000 in
set_option maxHeartbeats 8000000 in
theorem spec_l3Low.s0 (y i : Nat) (s : ByteArray) (h4 : ¬ (y : Int) < 4) (e : IntKind.i64.wrap ((y : Int) - 4) = (i : Int)) (hs : spec_l3Low.condsArr[i]? = some (.string s)) (ls : (i : Int) < 4) (zs : s.size ≤ 100) (w : World) : Calls Tryz.prog 24 #[.int .i64 (y : Int), .int .i64 0] w fun e w' => e = .returned (.string (((⟨#[106, 114, 32]⟩ : ByteArray) ++ s) ++ (⟨#[44, 101, 56]⟩ : ByteArray))) ∧ Below w.heap.size w w' := by
  go_enter Tryz.func24, Tryz.ntmps24
  go_wp2_with (go_at_call 50; refine (spec_l3Low.condsC _).mono ?_; rintro e w' ⟨rfl, rfl⟩)
  (first | go_ret | (apply bodyPost_ret; (exact results_tmp rfl _ _ _); rfl))
  exact ⟨by first | rfl | decide, by repeat (first | exact Below.refl _ _ | apply below_alloc | apply pw_below_drewN | apply below_drew)⟩
set_option maxRecDepth 100000 in
set_option maxHeartbeats 8000000 in
theorem spec_l3Low.s1a (y p : Nat) (s : ByteArray) (eq : (y : Int).tmod 2 = 0) (ep : wrap64 ((y : Int) / 2) = (p : Int)) (hs : spec_l3Low.pairsArr[p]? = some (.string s)) (ls : (p : Int) < 4) (zs : s.size ≤ 100) (w : World) : Calls Tryz.prog 24 #[.int .i64 (y : Int), .int .i64 1] w fun e w' => e = .returned (.string (((⟨#[108, 100, 32]⟩ : ByteArray) ++ s) ++ (⟨#[44, 110, 49, 54]⟩ : ByteArray))) ∧ Below w.heap.size w w' := by
  go_enter Tryz.func24, Tryz.ntmps24
  go_wp2_with (go_at_call 51; refine (spec_l3Low.pairsC _).mono ?_; rintro e w' ⟨rfl, rfl⟩)
  (first | go_ret | (apply bodyPost_ret; (exact results_tmp rfl _ _ _); rfl))
  exact ⟨by first | rfl | decide, by repeat (first | exact Below.refl _ _ | apply below_alloc | apply pw_below_drewN | apply below_drew)⟩
set_option maxRecDepth 100000 in
set_option maxHeartbeats 8000000 in
theorem spec_l3Low.s1b (y p : Nat) (s : ByteArray) (eq : (y : Int).tmod 2 = 1) (ep : wrap64 ((y : Int) / 2) = (p : Int)) (hs : spec_l3Low.pairsArr[p]? = some (.string s)) (ls : (p : Int) < 4) (zs : s.size ≤ 100) (w : World) : Calls Tryz.prog 24 #[.int .i64 (y : Int), .int .i64 1] w fun e w' => e = .returned (.string ((⟨#[97, 100, 100, 32, 104, 108, 44]⟩ : ByteArray) ++ s)) ∧ Below w.heap.size w w' := by
  go_enter Tryz.func24, Tryz.ntmps24
  go_wp2_with (go_at_call 51; refine (spec_l3Low.pairsC _).mono ?_; rintro e w' ⟨rfl, rfl⟩)
  (first | go_ret | (apply bodyPost_ret; (exact results_tmp rfl _ _ _); rfl))
  exact ⟨by first | rfl | decide, by repeat (first | exact Below.refl _ _ | apply below_alloc | apply pw_below_drewN | apply below_drew)⟩
set_option maxRecDepth 100000 in
set_option maxHeartbeats 8000000 in
theorem spec_l3Low.w0_2 (w : World) : Calls Tryz.prog 24 #[.int .i64 0, .int .i64 2] w fun e w' => e = .returned (.string (⟨#[108, 100, 32, 91, 98, 99, 93, 44, 97]⟩ : ByteArray)) ∧ Below w.heap.size w w' := by
  go_enter Tryz.func24, Tryz.ntmps24
  go_wp2
  (first | go_ret | (apply bodyPost_ret; (exact results_tmp rfl _ _ _); rfl))
  exact ⟨by first | rfl | decide, by repeat (first | exact Below.refl _ _ | apply below_alloc | apply pw_below_drewN | apply below_drew)⟩
set_option maxRecDepth 100000 in
set_option maxHeartbeats 8000000 in
theorem spec_l3Low.w1_2 (w : World) : Calls Tryz.prog 24 #[.int .i64 1, .int .i64 2] w fun e w' => e = .returned (.string (⟨#[108, 100, 32, 97, 44, 91, 98, 99, 93]⟩ : ByteArray)) ∧ Below w.heap.size w w' := by
  go_enter Tryz.func24, Tryz.ntmps24
  go_wp2
  (first | go_ret | (apply bodyPost_ret; (exact results_tmp rfl _ _ _); rfl))
  exact ⟨by first | rfl | decide, by repeat (first | exact Below.refl _ _ | apply below_alloc | apply pw_below_drewN | apply below_drew)⟩
set_option maxRecDepth 100000 in
set_option maxHeartbeats 8000000 in
theorem spec_l3Low.w2_2 (w : World) : Calls Tryz.prog 24 #[.int .i64 2, .int .i64 2] w fun e w' => e = .returned (.string (⟨#[108, 100, 32, 91, 100, 101, 93, 44, 97]⟩ : ByteArray)) ∧ Below w.heap.size w w' := by
  go_enter Tryz.func24, Tryz.ntmps24
  go_wp2
  (first | go_ret | (apply bodyPost_ret; (exact results_tmp rfl _ _ _); rfl))
  exact ⟨by first | rfl | decide, by repeat (first | exact Below.refl _ _ | apply below_alloc | apply pw_below_drewN | apply below_drew)⟩
set_option maxRecDepth 100000 in
set_option maxHeartbeats 8000000 in
theorem spec_l3Low.w3_2 (w : World) : Calls Tryz.prog 24 #[.int .i64 3, .int .i64 2] w fun e w' => e = .returned (.string (⟨#[108, 100, 32, 97, 44, 91, 100, 101, 93]⟩ : ByteArray)) ∧ Below w.heap.size w w' := by
  go_enter Tryz.func24, Tryz.ntmps24
  go_wp2
  (first | go_ret | (apply bodyPost_ret; (exact results_tmp rfl _ _ _); rfl))
  exact ⟨by first | rfl | decide, by repeat (first | exact Below.refl _ _ | apply below_alloc | apply pw_below_drewN | apply below_drew)⟩
set_option maxRecDepth 100000 in
set_option maxHeartbeats 8000000 in
theorem spec_l3Low.w4_2 (w : World) : Calls Tryz.prog 24 #[.int .i64 4, .int .i64 2] w fun e w' => e = .returned (.string (⟨#[108, 100, 32, 91, 104, 108, 43, 93, 44, 97]⟩ : ByteArray)) ∧ Below w.heap.size w w' := by
  go_enter Tryz.func24, Tryz.ntmps24
  go_wp2
  (first | go_ret | (apply bodyPost_ret; (exact results_tmp rfl _ _ _); rfl))
  exact ⟨by first | rfl | decide, by repeat (first | exact Below.refl _ _ | apply below_alloc | apply pw_below_drewN | apply below_drew)⟩
set_option maxRecDepth 100000 in
set_option maxHeartbeats 8000000 in
theorem spec_l3Low.w5_2 (w : World) : Calls Tryz.prog 24 #[.int .i64 5, .int .i64 2] w fun e w' => e = .returned (.string (⟨#[108, 100, 32, 97, 44, 91, 104, 108, 43, 93]⟩ : ByteArray)) ∧ Below w.heap.size w w' := by
  go_enter Tryz.func24, Tryz.ntmps24
  go_wp2
  (first | go_ret | (apply bodyPost_ret; (exact results_tmp rfl _ _ _); rfl))
  exact ⟨by first | rfl | decide, by repeat (first | exact Below.refl _ _ | apply below_alloc | apply pw_below_drewN | apply below_drew)⟩
set_option maxRecDepth 100000 in
set_option maxHeartbeats 8000000 in
theorem spec_l3Low.w6_2 (w : World) : Calls Tryz.prog 24 #[.int .i64 6, .int .i64 2] w fun e w' => e = .returned (.string (⟨#[108, 100, 32, 91, 104, 108, 45, 93, 44, 97]⟩ : ByteArray)) ∧ Below w.heap.size w w' := by
  go_enter Tryz.func24, Tryz.ntmps24
  go_wp2
  (first | go_ret | (apply bodyPost_ret; (exact results_tmp rfl _ _ _); rfl))
  exact ⟨by first | rfl | decide, by repeat (first | exact Below.refl _ _ | apply below_alloc | apply pw_below_drewN | apply below_drew)⟩
set_option maxRecDepth 100000 in
set_option maxHeartbeats 8000000 in
theorem spec_l3Low.w7_2 (w : World) : Calls Tryz.prog 24 #[.int .i64 7, .int .i64 2] w fun e w' => e = .returned (.string (⟨#[108, 100, 32, 97, 44, 91, 104, 108, 45, 93]⟩ : ByteArray)) ∧ Below w.heap.size w w' := by
  go_enter Tryz.func24, Tryz.ntmps24
  go_wp2
  (first | go_ret | (apply bodyPost_ret; (exact results_tmp rfl _ _ _); rfl))
  exact ⟨by first | rfl | decide, by repeat (first | exact Below.refl _ _ | apply below_alloc | apply pw_below_drewN | apply below_drew)⟩
set_option maxRecDepth 100000 in
set_option maxHeartbeats 8000000 in
theorem spec_l3Low.s3a (y p : Nat) (s : ByteArray) (eq : (y : Int).tmod 2 = 0) (ep : wrap64 ((y : Int) / 2) = (p : Int)) (hs : spec_l3Low.pairsArr[p]? = some (.string s)) (ls : (p : Int) < 4) (zs : s.size ≤ 100) (w : World) : Calls Tryz.prog 24 #[.int .i64 (y : Int), .int .i64 3] w fun e w' => e = .returned (.string ((⟨#[105, 110, 99, 32]⟩ : ByteArray) ++ s)) ∧ Below w.heap.size w w' := by
  go_enter Tryz.func24, Tryz.ntmps24
  go_wp2
  go_region_with (go_at_call 51; refine (spec_l3Low.pairsC _).mono ?_; rintro e w' ⟨rfl, rfl⟩)
  all_goals go_wp2
  all_goals ((first | go_ret | (apply bodyPost_ret; (exact results_tmp rfl _ _ _); rfl)); exact ⟨by first | rfl | decide, by repeat (first | exact Below.refl _ _ | apply below_alloc | apply pw_below_drewN | apply below_drew)⟩)
set_option maxRecDepth 100000 in
set_option maxHeartbeats 8000000 in
theorem spec_l3Low.s3b (y p : Nat) (s : ByteArray) (eq : (y : Int).tmod 2 = 1) (ep : wrap64 ((y : Int) / 2) = (p : Int)) (hs : spec_l3Low.pairsArr[p]? = some (.string s)) (ls : (p : Int) < 4) (zs : s.size ≤ 100) (w : World) : Calls Tryz.prog 24 #[.int .i64 (y : Int), .int .i64 3] w fun e w' => e = .returned (.string ((⟨#[100, 101, 99, 32]⟩ : ByteArray) ++ s)) ∧ Below w.heap.size w w' := by
  go_enter Tryz.func24, Tryz.ntmps24
  go_wp2
  go_region_with (go_at_call 51; refine (spec_l3Low.pairsC _).mono ?_; rintro e w' ⟨rfl, rfl⟩)
  all_goals go_wp2
  all_goals ((first | go_ret | (apply bodyPost_ret; (exact results_tmp rfl _ _ _); rfl)); exact ⟨by first | rfl | decide, by repeat (first | exact Below.refl _ _ | apply below_alloc | apply pw_below_drewN | apply below_drew)⟩)
set_option maxRecDepth 100000 in
set_option maxHeartbeats 8000000 in
theorem spec_l3Low.s4 (y : Nat) (s : ByteArray) (hs : spec_l3Low.regsArr[y]? = some (.string s)) (ls : (y : Int) < 8) (zs : s.size ≤ 100) (w : World) : Calls Tryz.prog 24 #[.int .i64 (y : Int), .int .i64 4] w fun e w' => e = .returned (.string ((⟨#[105, 110, 99, 32]⟩ : ByteArray) ++ s)) ∧ Below w.heap.size w w' := by
  go_enter Tryz.func24, Tryz.ntmps24
  go_wp2_with (go_at_call 22; refine (spec_l3Low.regsC _).mono ?_; rintro e w' ⟨rfl, rfl⟩)
  (first | go_ret | (apply bodyPost_ret; (exact results_tmp rfl _ _ _); rfl))
  exact ⟨by first | rfl | decide, by repeat (first | exact Below.refl _ _ | apply below_alloc | apply pw_below_drewN | apply below_drew)⟩
set_option maxRecDepth 100000 in
set_option maxHeartbeats 8000000 in
theorem spec_l3Low.s5 (y : Nat) (s : ByteArray) (hs : spec_l3Low.regsArr[y]? = some (.string s)) (ls : (y : Int) < 8) (zs : s.size ≤ 100) (w : World) : Calls Tryz.prog 24 #[.int .i64 (y : Int), .int .i64 5] w fun e w' => e = .returned (.string ((⟨#[100, 101, 99, 32]⟩ : ByteArray) ++ s)) ∧ Below w.heap.size w w' := by
  go_enter Tryz.func24, Tryz.ntmps24
  go_wp2_with (go_at_call 22; refine (spec_l3Low.regsC _).mono ?_; rintro e w' ⟨rfl, rfl⟩)
  (first | go_ret | (apply bodyPost_ret; (exact results_tmp rfl _ _ _); rfl))
  exact ⟨by first | rfl | decide, by repeat (first | exact Below.refl _ _ | apply below_alloc | apply pw_below_drewN | apply below_drew)⟩
set_option maxRecDepth 100000 in
set_option maxHeartbeats 8000000 in
theorem spec_l3Low.s6 (y : Nat) (s : ByteArray) (hs : spec_l3Low.regsArr[y]? = some (.string s)) (ls : (y : Int) < 8) (zs : s.size ≤ 100) (w : World) : Calls Tryz.prog 24 #[.int .i64 (y : Int), .int .i64 6] w fun e w' => e = .returned (.string (((⟨#[108, 100, 32]⟩ : ByteArray) ++ s) ++ (⟨#[44, 110, 56]⟩ : ByteArray))) ∧ Below w.heap.size w w' := by
  go_enter Tryz.func24, Tryz.ntmps24
  go_wp2_with (go_at_call 22; refine (spec_l3Low.regsC _).mono ?_; rintro e w' ⟨rfl, rfl⟩)
  (first | go_ret | (apply bodyPost_ret; (exact results_tmp rfl _ _ _); rfl))
  exact ⟨by first | rfl | decide, by repeat (first | exact Below.refl _ _ | apply below_alloc | apply pw_below_drewN | apply below_drew)⟩
set_option maxRecDepth 100000 in
set_option maxHeartbeats 8000000 in
theorem spec_l3Low.w0_7 (w : World) : Calls Tryz.prog 24 #[.int .i64 0, .int .i64 7] w fun e w' => e = .returned (.string (⟨#[114, 108, 99, 97]⟩ : ByteArray)) ∧ Below w.heap.size w w' := by
  go_enter Tryz.func24, Tryz.ntmps24
  go_wp2
  (first | go_ret | (apply bodyPost_ret; (exact results_tmp rfl _ _ _); rfl))
  exact ⟨by first | rfl | decide, by repeat (first | exact Below.refl _ _ | apply below_alloc | apply pw_below_drewN | apply below_drew)⟩
set_option maxRecDepth 100000 in
set_option maxHeartbeats 8000000 in
theorem spec_l3Low.w1_7 (w : World) : Calls Tryz.prog 24 #[.int .i64 1, .int .i64 7] w fun e w' => e = .returned (.string (⟨#[114, 114, 99, 97]⟩ : ByteArray)) ∧ Below w.heap.size w w' := by
  go_enter Tryz.func24, Tryz.ntmps24
  go_wp2
  (first | go_ret | (apply bodyPost_ret; (exact results_tmp rfl _ _ _); rfl))
  exact ⟨by first | rfl | decide, by repeat (first | exact Below.refl _ _ | apply below_alloc | apply pw_below_drewN | apply below_drew)⟩
set_option maxRecDepth 100000 in
set_option maxHeartbeats 8000000 in
theorem spec_l3Low.w2_7 (w : World) : Calls Tryz.prog 24 #[.int .i64 2, .int .i64 7] w fun e w' => e = .returned (.string (⟨#[114, 108, 97]⟩ : ByteArray)) ∧ Below w.heap.size w w' := by
  go_enter Tryz.func24, Tryz.ntmps24
  go_wp2
  (first | go_ret | (apply bodyPost_ret; (exact results_tmp rfl _ _ _); rfl))
  exact ⟨by first | rfl | decide, by repeat (first | exact Below.refl _ _ | apply below_alloc | apply pw_below_drewN | apply below_drew)⟩
set_option maxRecDepth 100000 in
set_option maxHeartbeats 8000000 in
theorem spec_l3Low.w3_7 (w : World) : Calls Tryz.prog 24 #[.int .i64 3, .int .i64 7] w fun e w' => e = .returned (.string (⟨#[114, 114, 97]⟩ : ByteArray)) ∧ Below w.heap.size w w' := by
  go_enter Tryz.func24, Tryz.ntmps24
  go_wp2
  (first | go_ret | (apply bodyPost_ret; (exact results_tmp rfl _ _ _); rfl))
  exact ⟨by first | rfl | decide, by repeat (first | exact Below.refl _ _ | apply below_alloc | apply pw_below_drewN | apply below_drew)⟩
set_option maxRecDepth 100000 in
set_option maxHeartbeats 8000000 in
theorem spec_l3Low.w4_7 (w : World) : Calls Tryz.prog 24 #[.int .i64 4, .int .i64 7] w fun e w' => e = .returned (.string (⟨#[100, 97, 97]⟩ : ByteArray)) ∧ Below w.heap.size w w' := by
  go_enter Tryz.func24, Tryz.ntmps24
  go_wp2
  (first | go_ret | (apply bodyPost_ret; (exact results_tmp rfl _ _ _); rfl))
  exact ⟨by first | rfl | decide, by repeat (first | exact Below.refl _ _ | apply below_alloc | apply pw_below_drewN | apply below_drew)⟩
set_option maxRecDepth 100000 in
set_option maxHeartbeats 8000000 in
theorem spec_l3Low.w5_7 (w : World) : Calls Tryz.prog 24 #[.int .i64 5, .int .i64 7] w fun e w' => e = .returned (.string (⟨#[99, 112, 108]⟩ : ByteArray)) ∧ Below w.heap.size w w' := by
  go_enter Tryz.func24, Tryz.ntmps24
  go_wp2
  (first | go_ret | (apply bodyPost_ret; (exact results_tmp rfl _ _ _); rfl))
  exact ⟨by first | rfl | decide, by repeat (first | exact Below.refl _ _ | apply below_alloc | apply pw_below_drewN | apply below_drew)⟩
set_option maxRecDepth 100000 in
set_option maxHeartbeats 8000000 in
theorem spec_l3Low.w6_7 (w : World) : Calls Tryz.prog 24 #[.int .i64 6, .int .i64 7] w fun e w' => e = .returned (.string (⟨#[115, 99, 102]⟩ : ByteArray)) ∧ Below w.heap.size w w' := by
  go_enter Tryz.func24, Tryz.ntmps24
  go_wp2
  (first | go_ret | (apply bodyPost_ret; (exact results_tmp rfl _ _ _); rfl))
  exact ⟨by first | rfl | decide, by repeat (first | exact Below.refl _ _ | apply below_alloc | apply pw_below_drewN | apply below_drew)⟩
set_option maxRecDepth 100000 in
set_option maxHeartbeats 8000000 in
theorem spec_l3Low.w7_7 (w : World) : Calls Tryz.prog 24 #[.int .i64 7, .int .i64 7] w fun e w' => e = .returned (.string (⟨#[99, 99, 102]⟩ : ByteArray)) ∧ Below w.heap.size w w' := by
  go_enter Tryz.func24, Tryz.ntmps24
  go_wp2
  (first | go_ret | (apply bodyPost_ret; (exact results_tmp rfl _ _ _); rfl))
  exact ⟨by first | rfl | decide, by repeat (first | exact Below.refl _ _ | apply below_alloc | apply pw_below_drewN | apply below_drew)⟩
def spec_l3Low.f (a0 a1 : Int) : Option ByteArray := if (0 ≤ a0 ∧ a0 < 8) ∧ (0 ≤ a1 ∧ a1 < 8) then some (lowL.getD (8 * a1 + a0).toNat ⟨#[]⟩) else none
theorem spec_l3Low.calls (a0 a1 : Int) (r : ByteArray) (w : World) (h : spec_l3Low.f a0 a1 = some r) :
 Calls Tryz.prog 24 #[.int .i64 a0, .int .i64 a1] w fun e w' => e = .returned (.string r) ∧ Below w.heap.size w w' := by
 unfold spec_l3Low.f at h
 by_cases hr : (0 ≤ a0 ∧ a0 < 8) ∧ (0 ≤ a1 ∧ a1 < 8)
 ·rw [if_pos hr] at h
  obtain rfl := Option.some.inj h
  have hy : a0 = 0 ∨ a0 = 1 ∨ a0 = 2 ∨ a0 = 3 ∨ a0 = 4 ∨ a0 = 5 ∨ a0 = 6 ∨ a0 = 7 := by omega
  have hz : a1 = 0 ∨ a1 = 1 ∨ a1 = 2 ∨ a1 = 3 ∨ a1 = 4 ∨ a1 = 5 ∨ a1 = 6 ∨ a1 = 7 := by omega
  clear hr h
  rcases hz with rfl | rfl | rfl | rfl | rfl | rfl | rfl | rfl
  ·rcases hy with rfl | rfl | rfl | rfl | rfl | rfl | rfl | rfl
   ·exact (spec_l3Low.w0_0 w).mono (by rintro e w' ⟨rfl, h⟩; exact ⟨by first | rfl | decide, h⟩)
   ·exact (spec_l3Low.w1_0 w).mono (by rintro e w' ⟨rfl, h⟩; exact ⟨by first | rfl | decide, h⟩)
   ·exact (spec_l3Low.w2_0 w).mono (by rintro e w' ⟨rfl, h⟩; exact ⟨by first | rfl | decide, h⟩)
   ·exact (spec_l3Low.w3_0 w).mono (by rintro e w' ⟨rfl, h⟩; exact ⟨by first | rfl | decide, h⟩)
   ·exact (spec_l3Low.s0 4 0 (⟨#[110, 122]⟩ : ByteArray) (by decide) (by decide) rfl (by decide) (by decide) w).mono (by rintro e w' ⟨rfl, h⟩; exact ⟨by first | rfl | decide, h⟩)
   ·exact (spec_l3Low.s0 5 1 (⟨#[122]⟩ : ByteArray) (by decide) (by decide) rfl (by decide) (by decide) w).mono (by rintro e w' ⟨rfl, h⟩; exact ⟨by first | rfl | decide, h⟩)
   ·exact (spec_l3Low.s0 6 2 (⟨#[110, 99]⟩ : ByteArray) (by decide) (by decide) rfl (by decide) (by decide) w).mono (by rintro e w' ⟨rfl, h⟩; exact ⟨by first | rfl | decide, h⟩)
   ·exact (spec_l3Low.s0 7 3 (⟨#[99]⟩ : ByteArray) (by decide) (by decide) rfl (by decide) (by decide) w).mono (by rintro e w' ⟨rfl, h⟩; exact ⟨by first | rfl | decide, h⟩)
  ·rcases hy with rfl | rfl | rfl | rfl | rfl | rfl | rfl | rfl
   ·exact (spec_l3Low.s1a 0 0 (⟨#[98, 99]⟩ : ByteArray) (by decide) (by unfold wrap64; decide) rfl (by decide) (by decide) w).mono (by rintro e w' ⟨rfl, h⟩; exact ⟨by first | rfl | decide, h⟩)
   ·exact (spec_l3Low.s1b 1 0 (⟨#[98, 99]⟩ : ByteArray) (by decide) (by unfold wrap64; decide) rfl (by decide) (by decide) w).mono (by rintro e w' ⟨rfl, h⟩; exact ⟨by first | rfl | decide, h⟩)
   ·exact (spec_l3Low.s1a 2 1 (⟨#[100, 101]⟩ : ByteArray) (by decide) (by unfold wrap64; decide) rfl (by decide) (by decide) w).mono (by rintro e w' ⟨rfl, h⟩; exact ⟨by first | rfl | decide, h⟩)
   ·exact (spec_l3Low.s1b 3 1 (⟨#[100, 101]⟩ : ByteArray) (by decide) (by unfold wrap64; decide) rfl (by decide) (by decide) w).mono (by rintro e w' ⟨rfl, h⟩; exact ⟨by first | rfl | decide, h⟩)
   ·exact (spec_l3Low.s1a 4 2 (⟨#[104, 108]⟩ : ByteArray) (by decide) (by unfold wrap64; decide) rfl (by decide) (by decide) w).mono (by rintro e w' ⟨rfl, h⟩; exact ⟨by first | rfl | decide, h⟩)
   ·exact (spec_l3Low.s1b 5 2 (⟨#[104, 108]⟩ : ByteArray) (by decide) (by unfold wrap64; decide) rfl (by decide) (by decide) w).mono (by rintro e w' ⟨rfl, h⟩; exact ⟨by first | rfl | decide, h⟩)
   ·exact (spec_l3Low.s1a 6 3 (⟨#[115, 112]⟩ : ByteArray) (by decide) (by unfold wrap64; decide) rfl (by decide) (by decide) w).mono (by rintro e w' ⟨rfl, h⟩; exact ⟨by first | rfl | decide, h⟩)
   ·exact (spec_l3Low.s1b 7 3 (⟨#[115, 112]⟩ : ByteArray) (by decide) (by unfold wrap64; decide) rfl (by decide) (by decide) w).mono (by rintro e w' ⟨rfl, h⟩; exact ⟨by first | rfl | decide, h⟩)
  ·rcases hy with rfl | rfl | rfl | rfl | rfl | rfl | rfl | rfl
   ·exact (spec_l3Low.w0_2 w).mono (by rintro e w' ⟨rfl, h⟩; exact ⟨by first | rfl | decide, h⟩)
   ·exact (spec_l3Low.w1_2 w).mono (by rintro e w' ⟨rfl, h⟩; exact ⟨by first | rfl | decide, h⟩)
   ·exact (spec_l3Low.w2_2 w).mono (by rintro e w' ⟨rfl, h⟩; exact ⟨by first | rfl | decide, h⟩)
   ·exact (spec_l3Low.w3_2 w).mono (by rintro e w' ⟨rfl, h⟩; exact ⟨by first | rfl | decide, h⟩)
   ·exact (spec_l3Low.w4_2 w).mono (by rintro e w' ⟨rfl, h⟩; exact ⟨by first | rfl | decide, h⟩)
   ·exact (spec_l3Low.w5_2 w).mono (by rintro e w' ⟨rfl, h⟩; exact ⟨by first | rfl | decide, h⟩)
   ·exact (spec_l3Low.w6_2 w).mono (by rintro e w' ⟨rfl, h⟩; exact ⟨by first | rfl | decide, h⟩)
   ·exact (spec_l3Low.w7_2 w).mono (by rintro e w' ⟨rfl, h⟩; exact ⟨by first | rfl | decide, h⟩)
  ·rcases hy with rfl | rfl | rfl | rfl | rfl | rfl | rfl | rfl
   ·exact (spec_l3Low.s3a 0 0 (⟨#[98, 99]⟩ : ByteArray) (by decide) (by unfold wrap64; decide) rfl (by decide) (by decide) w).mono (by rintro e w' ⟨rfl, h⟩; exact ⟨by first | rfl | decide, h⟩)
   ·exact (spec_l3Low.s3b 1 0 (⟨#[98, 99]⟩ : ByteArray) (by decide) (by unfold wrap64; decide) rfl (by decide) (by decide) w).mono (by rintro e w' ⟨rfl, h⟩; exact ⟨by first | rfl | decide, h⟩)
   ·exact (spec_l3Low.s3a 2 1 (⟨#[100, 101]⟩ : ByteArray) (by decide) (by unfold wrap64; decide) rfl (by decide) (by decide) w).mono (by rintro e w' ⟨rfl, h⟩; exact ⟨by first | rfl | decide, h⟩)
   ·exact (spec_l3Low.s3b 3 1 (⟨#[100, 101]⟩ : ByteArray) (by decide) (by unfold wrap64; decide) rfl (by decide) (by decide) w).mono (by rintro e w' ⟨rfl, h⟩; exact ⟨by first | rfl | decide, h⟩)
   ·exact (spec_l3Low.s3a 4 2 (⟨#[104, 108]⟩ : ByteArray) (by decide) (by unfold wrap64; decide) rfl (by decide) (by decide) w).mono (by rintro e w' ⟨rfl, h⟩; exact ⟨by first | rfl | decide, h⟩)
   ·exact (spec_l3Low.s3b 5 2 (⟨#[104, 108]⟩ : ByteArray) (by decide) (by unfold wrap64; decide) rfl (by decide) (by decide) w).mono (by rintro e w' ⟨rfl, h⟩; exact ⟨by first | rfl | decide, h⟩)
   ·exact (spec_l3Low.s3a 6 3 (⟨#[115, 112]⟩ : ByteArray) (by decide) (by unfold wrap64; decide) rfl (by decide) (by decide) w).mono (by rintro e w' ⟨rfl, h⟩; exact ⟨by first | rfl | decide, h⟩)
   ·exact (spec_l3Low.s3b 7 3 (⟨#[115, 112]⟩ : ByteArray) (by decide) (by unfold wrap64; decide) rfl (by decide) (by decide) w).mono (by rintro e w' ⟨rfl, h⟩; exact ⟨by first | rfl | decide, h⟩)
  ·rcases hy with rfl | rfl | rfl | rfl | rfl | rfl | rfl | rfl
   ·exact (spec_l3Low.s4 0 (⟨#[98]⟩ : ByteArray) rfl (by decide) (by decide) w).mono (by rintro e w' ⟨rfl, h⟩; exact ⟨by first | rfl | decide, h⟩)
   ·exact (spec_l3Low.s4 1 (⟨#[99]⟩ : ByteArray) rfl (by decide) (by decide) w).mono (by rintro e w' ⟨rfl, h⟩; exact ⟨by first | rfl | decide, h⟩)
   ·exact (spec_l3Low.s4 2 (⟨#[100]⟩ : ByteArray) rfl (by decide) (by decide) w).mono (by rintro e w' ⟨rfl, h⟩; exact ⟨by first | rfl | decide, h⟩)
   ·exact (spec_l3Low.s4 3 (⟨#[101]⟩ : ByteArray) rfl (by decide) (by decide) w).mono (by rintro e w' ⟨rfl, h⟩; exact ⟨by first | rfl | decide, h⟩)
   ·exact (spec_l3Low.s4 4 (⟨#[104]⟩ : ByteArray) rfl (by decide) (by decide) w).mono (by rintro e w' ⟨rfl, h⟩; exact ⟨by first | rfl | decide, h⟩)
   ·exact (spec_l3Low.s4 5 (⟨#[108]⟩ : ByteArray) rfl (by decide) (by decide) w).mono (by rintro e w' ⟨rfl, h⟩; exact ⟨by first | rfl | decide, h⟩)
   ·exact (spec_l3Low.s4 6 (⟨#[91, 104, 108, 93]⟩ : ByteArray) rfl (by decide) (by decide) w).mono (by rintro e w' ⟨rfl, h⟩; exact ⟨by first | rfl | decide, h⟩)
   ·exact (spec_l3Low.s4 7 (⟨#[97]⟩ : ByteArray) rfl (by decide) (by decide) w).mono (by rintro e w' ⟨rfl, h⟩; exact ⟨by first | rfl | decide, h⟩)
  ·rcases hy with rfl | rfl | rfl | rfl | rfl | rfl | rfl | rfl
   ·exact (spec_l3Low.s5 0 (⟨#[98]⟩ : ByteArray) rfl (by decide) (by decide) w).mono (by rintro e w' ⟨rfl, h⟩; exact ⟨by first | rfl | decide, h⟩)
   ·exact (spec_l3Low.s5 1 (⟨#[99]⟩ : ByteArray) rfl (by decide) (by decide) w).mono (by rintro e w' ⟨rfl, h⟩; exact ⟨by first | rfl | decide, h⟩)
   ·exact (spec_l3Low.s5 2 (⟨#[100]⟩ : ByteArray) rfl (by decide) (by decide) w).mono (by rintro e w' ⟨rfl, h⟩; exact ⟨by first | rfl | decide, h⟩)
   ·exact (spec_l3Low.s5 3 (⟨#[101]⟩ : ByteArray) rfl (by decide) (by decide) w).mono (by rintro e w' ⟨rfl, h⟩; exact ⟨by first | rfl | decide, h⟩)
   ·exact (spec_l3Low.s5 4 (⟨#[104]⟩ : ByteArray) rfl (by decide) (by decide) w).mono (by rintro e w' ⟨rfl, h⟩; exact ⟨by first | rfl | decide, h⟩)
   ·exact (spec_l3Low.s5 5 (⟨#[108]⟩ : ByteArray) rfl (by decide) (by decide) w).mono (by rintro e w' ⟨rfl, h⟩; exact ⟨by first | rfl | decide, h⟩)
   ·exact (spec_l3Low.s5 6 (⟨#[91, 104, 108, 93]⟩ : ByteArray) rfl (by decide) (by decide) w).mono (by rintro e w' ⟨rfl, h⟩; exact ⟨by first | rfl | decide, h⟩)
   ·exact (spec_l3Low.s5 7 (⟨#[97]⟩ : ByteArray) rfl (by decide) (by decide) w).mono (by rintro e w' ⟨rfl, h⟩; exact ⟨by first | rfl | decide, h⟩)
  ·rcases hy with rfl | rfl | rfl | rfl | rfl | rfl | rfl | rfl
   ·exact (spec_l3Low.s6 0 (⟨#[98]⟩ : ByteArray) rfl (by decide) (by decide) w).mono (by rintro e w' ⟨rfl, h⟩; exact ⟨by first | rfl | decide, h⟩)
   ·exact (spec_l3Low.s6 1 (⟨#[99]⟩ : ByteArray) rfl (by decide) (by decide) w).mono (by rintro e w' ⟨rfl, h⟩; exact ⟨by first | rfl | decide, h⟩)
   ·exact (spec_l3Low.s6 2 (⟨#[100]⟩ : ByteArray) rfl (by decide) (by decide) w).mono (by rintro e w' ⟨rfl, h⟩; exact ⟨by first | rfl | decide, h⟩)
   ·exact (spec_l3Low.s6 3 (⟨#[101]⟩ : ByteArray) rfl (by decide) (by decide) w).mono (by rintro e w' ⟨rfl, h⟩; exact ⟨by first | rfl | decide, h⟩)
   ·exact (spec_l3Low.s6 4 (⟨#[104]⟩ : ByteArray) rfl (by decide) (by decide) w).mono (by rintro e w' ⟨rfl, h⟩; exact ⟨by first | rfl | decide, h⟩)
   ·exact (spec_l3Low.s6 5 (⟨#[108]⟩ : ByteArray) rfl (by decide) (by decide) w).mono (by rintro e w' ⟨rfl, h⟩; exact ⟨by first | rfl | decide, h⟩)
   ·exact (spec_l3Low.s6 6 (⟨#[91, 104, 108, 93]⟩ : ByteArray) rfl (by decide) (by decide) w).mono (by rintro e w' ⟨rfl, h⟩; exact ⟨by first | rfl | decide, h⟩)
   ·exact (spec_l3Low.s6 7 (⟨#[97]⟩ : ByteArray) rfl (by decide) (by decide) w).mono (by rintro e w' ⟨rfl, h⟩; exact ⟨by first | rfl | decide, h⟩)
  ·rcases hy with rfl | rfl | rfl | rfl | rfl | rfl | rfl | rfl
   ·exact (spec_l3Low.w0_7 w).mono (by rintro e w' ⟨rfl, h⟩; exact ⟨by first | rfl | decide, h⟩)
   ·exact (spec_l3Low.w1_7 w).mono (by rintro e w' ⟨rfl, h⟩; exact ⟨by first | rfl | decide, h⟩)
   ·exact (spec_l3Low.w2_7 w).mono (by rintro e w' ⟨rfl, h⟩; exact ⟨by first | rfl | decide, h⟩)
   ·exact (spec_l3Low.w3_7 w).mono (by rintro e w' ⟨rfl, h⟩; exact ⟨by first | rfl | decide, h⟩)
   ·exact (spec_l3Low.w4_7 w).mono (by rintro e w' ⟨rfl, h⟩; exact ⟨by first | rfl | decide, h⟩)
   ·exact (spec_l3Low.w5_7 w).mono (by rintro e w' ⟨rfl, h⟩; exact ⟨by first | rfl | decide, h⟩)
   ·exact (spec_l3Low.w6_7 w).mono (by rintro e w' ⟨rfl, h⟩; exact ⟨by first | rfl | decide, h⟩)
   ·exact (spec_l3Low.w7_7 w).mono (by rintro e w' ⟨rfl, h⟩; exact ⟨by first | rfl | decide, h⟩)
 ·rw [if_neg hr] at h
  cases h

/-! ### spec_l3Alus: function 25 -/
/-! ### spec_l1In: function 28 -/
def spec_l1In.f (a0 : Int) (a1 : Int) (a2 : Int) : Option (Bool) := if a0 ≥ a1 then (some (decide (a0 ≤ a2))) else (some false)
set_option maxHeartbeats 8000000 in
set_option maxRecDepth 100000 in
theorem spec_l1In.calls (a0 : Int) (a1 : Int) (a2 : Int) (r : Bool) (w : World) (h : spec_l1In.f a0 a1 a2 = some r) :
 Calls Tryz.prog 28 #[.int .i64 a0, .int .i64 a1, .int .i64 a2] w fun e w' => e = .returned (.bool r) ∧ Drawn0 w w' := by
 have H : (if a0 ≥ a1 then (some (decide (a0 ≤ a2))) else (some false)) = some r := h
 clear h
 by_cases c4 : a0 ≥ a1
 ·rw [if_pos c4] at H
  have c4b0 : decide (a1 ≤ a0) = true := decide_eq_true c4
  clear c4
  obtain rfl := Option.some.inj H
  go_enter Tryz.func28, Tryz.ntmps28
  go_wp2
  first | go_ret | ((try simp only [Exit.inBlock, Exit.then]); apply bodyPost_ret; (exact results_tmp rfl _ _ _); rfl)
  exact ⟨zE _, zd _⟩
 ·rw [if_neg c4] at H
  have c4b0 : decide (a1 ≤ a0) = false := decide_eq_false c4
  clear c4
  obtain rfl := Option.some.inj H
  go_enter Tryz.func28, Tryz.ntmps28
  go_wp2
  first | go_ret | ((try simp only [Exit.inBlock, Exit.then]); apply bodyPost_ret; (exact results_tmp rfl _ _ _); rfl)
  exact ⟨zE _, zd _⟩

/-! ### spec_HexOf: function 30 -/
mutual
def spec_HexOf.j0 : Nat → Int → Int → Bool → Option (ByteArray)
  | 0, _, _, _ => none
  | k + 1, x0, x1, x14 => if x14 = true then (some (⟨#[]⟩ : ByteArray)) else (spec_HexOf.l0 k x0 x1 (⟨#[]⟩ : ByteArray) 0)
def spec_HexOf.l0 : Nat → Int → Int → ByteArray → Int → Option (ByteArray)
  | 0, _, _, _, _ => none
  | k + 1, x0, x1, x5, x6 => if x6 < x1 then (if 0 ≤ (Int.tmod x0 16) then (if (Int.tmod x0 16) ≤ (wrap64 ((Int.tmod x0 16) + 1)) then (if (wrap64 ((Int.tmod x0 16) + 1)) ≤ 16 then (if ((⟨#[48, 49, 50, 51, 52, 53, 54, 55, 56, 57, 65, 66, 67, 68, 69, 70]⟩ : ByteArray).extract ((Int.tmod x0 16) : Int).toNat ((wrap64 ((Int.tmod x0 16) + 1)) : Int).toNat).size + x5.size ≤ 9223372036854775807 then (spec_HexOf.l0 k (wrap64 (Int.tdiv x0 16)) x1 (((⟨#[48, 49, 50, 51, 52, 53, 54, 55, 56, 57, 65, 66, 67, 68, 69, 70]⟩ : ByteArray).extract ((Int.tmod x0 16) : Int).toNat ((wrap64 ((Int.tmod x0 16) + 1)) : Int).toNat) ++ x5) (wrap64 (x6 + 1))) else (none)) else (none)) else (none)) else (none)) else (if x0 > 0 then (some (⟨#[]⟩ : ByteArray)) else (if 1 + x5.size ≤ 9223372036854775807 then (some ((⟨#[36]⟩ : ByteArray) ++ x5)) else (none)))
end
def spec_HexOf.f (k : Nat) (a0 : Int) (a1 : Int) : Option (ByteArray) := (spec_l1In.f a1 1 4).bind fun t117 => (if t117 = true then ((spec_l1In.f a0 0 65535).bind fun t118 => (spec_HexOf.j0 k a0 a1 (!t118))) else (spec_HexOf.j0 k a0 a1 true))
theorem spec_HexOf.mono_l : ∀ k, (∀ y0 y1 y2, LeO (spec_HexOf.j0 k y0 y1 y2) (spec_HexOf.j0 (k + 1) y0 y1 y2)) ∧ (∀ y0 y1 y2 y3, LeO (spec_HexOf.l0 k y0 y1 y2 y3) (spec_HexOf.l0 (k + 1) y0 y1 y2 y3))
  | 0 => ⟨fun _ _ _ r h => by simp [spec_HexOf.j0] at h, fun _ _ _ _ r h => by simp [spec_HexOf.l0] at h⟩
  | k + 1 => by
    obtain ⟨ih0, ih1⟩ := spec_HexOf.mono_l k
    refine ⟨?_, ?_⟩
    · intro y0 y1 y2
      unfold spec_HexOf.j0
      repeat' first
      | (with_reducible exact ih0 _ _ _)
      | (with_reducible exact ih1 _ _ _ _)
      | (with_reducible exact LeO.refl _)
      | (with_reducible exact LeO.none _)
      | (with_reducible refine LeO.ite ?_ ?_)
      | (with_reducible refine LeO.bind ?_ (fun _ => ?_))
      | exact ih0 _ _ _
      | exact ih1 _ _ _ _
      | exact LeO.none _
      | refine LeO.ite ?_ ?_
      | refine LeO.bind ?_ (fun _ => ?_)
    · intro y0 y1 y2 y3
      unfold spec_HexOf.l0
      repeat' first
      | (with_reducible exact ih0 _ _ _)
      | (with_reducible exact ih1 _ _ _ _)
      | (with_reducible exact LeO.refl _)
      | (with_reducible exact LeO.none _)
      | (with_reducible refine LeO.ite ?_ ?_)
      | (with_reducible refine LeO.bind ?_ (fun _ => ?_))
      | exact ih0 _ _ _
      | exact ih1 _ _ _ _
      | exact LeO.none _
      | refine LeO.ite ?_ ?_
      | refine LeO.bind ?_ (fun _ => ?_)
theorem spec_HexOf.mono : ∀ a0 a1 k, LeO (spec_HexOf.f k a0 a1) (spec_HexOf.f (k + 1) a0 a1) := by
  intro a0 a1 k
  obtain ⟨ih0, ih1⟩ := spec_HexOf.mono_l k
  unfold spec_HexOf.f
  repeat' first
      | (with_reducible exact ih0 _ _ _)
      | (with_reducible exact ih1 _ _ _ _)
      | (with_reducible exact LeO.refl _)
      | (with_reducible exact LeO.none _)
      | (with_reducible refine LeO.ite ?_ ?_)
      | (with_reducible refine LeO.bind ?_ (fun _ => ?_))
      | exact ih0 _ _ _
      | exact ih1 _ _ _ _
      | exact LeO.none _
      | refine LeO.ite ?_ ?_
      | refine LeO.bind ?_ (fun _ => ?_)
set_option maxHeartbeats 8000000 in
set_option maxRecDepth 100000 in
theorem spec_HexOf.calls (k : Nat) (a0 : Int) (a1 : Int) (r : ByteArray) (w : World) (h : spec_HexOf.f k a0 a1 = some r) :
 Calls Tryz.prog 30 #[.int .i64 a0, .int .i64 a1] w fun e w' => e = .returned (.string r) ∧ Drawn0 w w' := by
 have H : ((spec_l1In.f a1 1 4).bind fun t117 => (if t117 = true then ((spec_l1In.f a0 0 65535).bind fun t118 => (spec_HexOf.j0 k a0 a1 (!t118))) else (spec_HexOf.j0 k a0 a1 true))) = some r := h
 clear h
 have HC3 := Aside0.mk H
 clear H
 go_enter Tryz.func30, Tryz.ntmps30
 go_upto_region 1 with (fail)
 go_cut [14] (fun v14 wc => ∃ (kq : Nat) (x14_2 : Bool), v14 = .bool x14_2 ∧ Aside0 (spec_HexOf.j0 kq a0 a1 x14_2 = some r) ∧ Aside0 (kq ≤ k) ∧ Drawn0 w wc)
 case first =>
  have H := HC3.out
  clear HC3
  obtain ⟨t117, A40, H⟩ := Option.bind_eq_some_iff.mp H
  have A4 := Aside0.mk A40
  clear A40
  by_cases c5 : t117 = true
  ·subst c5
   rw [if_pos rfl] at H
   obtain ⟨t118, A60, H⟩ := Option.bind_eq_some_iff.mp H
   have A6 := Aside0.mk A60
   clear A60
   have H' := Aside0.mk H
   clear H
   go_wp2_with (first | ((with_reducible refine gate_callee (f := 28) rfl ?_); refine zc (some 8) Tryz.func28 #[.int .i64 a1, .int .i64 1, .int .i64 4] ?_; (with_reducible refine (spec_l1In.calls a1 1 4 true _ A4.out).mono ?_); rintro e w' ⟨rfl, ⟨nd, rfl⟩⟩; refine ⟨_, rfl, ?_⟩) | (go_at_call 28; (with_reducible refine (spec_l1In.calls a0 0 65535 t118 _ A6.out).mono ?_); rintro e w' ⟨rfl, ⟨nd, rfl⟩⟩))
   go_meet
   case rel => exact ⟨_, (!t118), (zE _), H', ⟨by first | omega | exact Nat.le_refl _⟩, zd _⟩
  ·replace c5 := Bool.eq_false_iff.mpr c5
   subst c5
   rw [if_neg (show ¬ (false = true) by decide)] at H
   have H' := Aside0.mk H
   clear H
   go_wp2_with (first | ((with_reducible refine gate_callee (f := 28) rfl ?_); refine zc (some 8) Tryz.func28 #[.int .i64 a1, .int .i64 1, .int .i64 4] ?_; (with_reducible refine (spec_l1In.calls a1 1 4 false _ A4.out).mono ?_); rintro e w' ⟨rfl, ⟨nd, rfl⟩⟩; refine ⟨_, rfl, ?_⟩))
   go_meet
   case rel => exact ⟨_, (true), (zE _), H', ⟨by first | omega | exact Nat.le_refl _⟩, zd _⟩
 case rest =>
  clear HC3
  try clear c2
  try clear p2
  try clear c3
  try clear c5
  obtain ⟨kq, x14_2, rfl, HA, HJ2, ⟨mc2, rfl⟩⟩ := hcut
  cases kq with
  | zero => exact absurd HA.out (by simp [spec_HexOf.j0])
  | succ kj2 =>
   have H := HA.out
   clear HA
   simp only [spec_HexOf.j0] at H
   by_cases c7 : x14_2 = true
   ·subst c7
    rw [if_pos rfl] at H
    obtain rfl := Option.some.inj H
    go_wp2
    first | go_ret | ((try simp only [Exit.inBlock, Exit.then]); apply bodyPost_ret; (exact results_tmp rfl _ _ _); rfl)
    exact ⟨zE _, zd _⟩
   ·replace c7 := Bool.eq_false_iff.mpr c7
    subst c7
    rw [if_neg (show ¬ (false = true) by decide)] at H
    have H' := Aside0.mk H
    clear H
    go_wp2
    go_loopg [0, 5, 6] kj2 (fun kq v0 v5 v6 w' => ∃ (x0_2 : Int) (x5_2 : ByteArray) (x6_2 : Int), v0 = .int .i64 x0_2 ∧ v5 = .string x5_2 ∧ v6 = .int .i64 x6_2 ∧ Aside0 (spec_HexOf.l0 kq x0_2 a1 x5_2 x6_2 = some r) ∧ Aside0 (kq ≤ kj2) ∧ Drawn0 w w')
    case atStart => exact ⟨(a0), ((⟨#[]⟩ : ByteArray)), (0), (zE _), (zE _), (zE _), H', ⟨Nat.le_refl _⟩, zd _⟩
    case round =>
     clear H'
     try clear c2
     try clear p2
     try clear c3
     try clear c5
     try clear c7
     try clear p2
     obtain ⟨x0_2, x5_2, x6_2, rfl, rfl, rfl, HA, HK2, ⟨m2, rfl⟩⟩ := hrel
     cases gk with
     | zero => exact absurd HA.out (by simp [spec_HexOf.l0])
     | succ k2 =>
      have H := HA.out
      clear HA
      simp only [spec_HexOf.l0] at H
      by_cases c8 : x6_2 < a1
      ·rw [if_pos c8] at H
       have c8b0 : decide (x6_2 < a1) = true := decide_eq_true c8
       clear c8
       obtain ⟨ji9, hji9⟩ : ∃ j_ : Int, (Int.tmod x0_2 16) = j_ := ⟨_, rfl⟩
       replace H : (if 0 ≤ (ji9) then (if (ji9) ≤ (wrap64 ((ji9) + 1)) then (if (wrap64 ((ji9) + 1)) ≤ 16 then (if ((⟨#[48, 49, 50, 51, 52, 53, 54, 55, 56, 57, 65, 66, 67, 68, 69, 70]⟩ : ByteArray).extract ((ji9) : Int).toNat ((wrap64 ((ji9) + 1)) : Int).toNat).size + x5_2.size ≤ 9223372036854775807 then (spec_HexOf.l0 k2 (wrap64 (Int.tdiv x0_2 16)) a1 (((⟨#[48, 49, 50, 51, 52, 53, 54, 55, 56, 57, 65, 66, 67, 68, 69, 70]⟩ : ByteArray).extract ((ji9) : Int).toNat ((wrap64 ((ji9) + 1)) : Int).toNat) ++ x5_2) (wrap64 (x6_2 + 1))) else (none)) else (none)) else (none)) else (none)) = some r := by first | (rw [hji9] at H; exact H) | (simp only [hji9] at H ⊢; exact H)
       by_cases c10 : 0 ≤ (ji9)
       ·rw [if_pos c10] at H
        have c10b0 := eq_true c10
        have c10b1 : decide (0 ≤ (ji9)) = true := decide_eq_true c10
        clear c10
        by_cases c11 : (ji9) ≤ (wrap64 ((ji9) + 1))
        ·rw [if_pos c11] at H
         have c11b0 := eq_true c11
         have c11b1 : decide ((ji9) ≤ (wrap64 ((ji9) + 1))) = true := decide_eq_true c11
         by_cases c12 : (wrap64 ((ji9) + 1)) ≤ 16
         ·rw [if_pos c12] at H
          have c12b0 := eq_true c12
          have c12b1 : decide ((wrap64 ((ji9) + 1)) ≤ 16) = true := decide_eq_true c12
          by_cases c13 : ((⟨#[48, 49, 50, 51, 52, 53, 54, 55, 56, 57, 65, 66, 67, 68, 69, 70]⟩ : ByteArray).extract ((ji9) : Int).toNat ((wrap64 ((ji9) + 1)) : Int).toNat).size + x5_2.size ≤ 9223372036854775807
          ·rw [if_pos c13] at H
           have c13b0 := eq_true c13
           have c13b1 : decide (((⟨#[48, 49, 50, 51, 52, 53, 54, 55, 56, 57, 65, 66, 67, 68, 69, 70]⟩ : ByteArray).extract ((ji9) : Int).toNat ((wrap64 ((ji9) + 1)) : Int).toNat).size + x5_2.size ≤ 9223372036854775807) = true := decide_eq_true c13
           try have c13b2 : (9223372036854775807 < ((⟨#[48, 49, 50, 51, 52, 53, 54, 55, 56, 57, 65, 66, 67, 68, 69, 70]⟩ : ByteArray).extract ((ji9) : Int).toNat ((wrap64 ((ji9) + 1)) : Int).toNat).size + x5_2.size) = False := eq_false (Nat.not_lt.2 c13)
           have H' := Aside0.mk H
           clear H
           go_wp2
           go_roundg k2
           case measure => have := HJ2.out; have := HK2.out; omega
           case rel => exact ⟨(wrap64 (Int.tdiv x0_2 16)), (((⟨#[48, 49, 50, 51, 52, 53, 54, 55, 56, 57, 65, 66, 67, 68, 69, 70]⟩ : ByteArray).extract ((ji9) : Int).toNat ((wrap64 ((ji9) + 1)) : Int).toNat) ++ x5_2), (wrap64 (x6_2 + 1)), (zE _), (by first | rfl | (simp; done) | (simp only [← hji9] <;> (first | rfl | simp)) | (simp [*]; done)), (zE _), H', ⟨by have := HJ2.out; have := HK2.out; omega⟩, zd _⟩
          ·rw [if_neg c13] at H
           exact absurd H (by simp)
         ·rw [if_neg c12] at H
          exact absurd H (by simp)
        ·rw [if_neg c11] at H
         exact absurd H (by simp)
       ·rw [if_neg c10] at H
        exact absurd H (by simp)
      ·rw [if_neg c8] at H
       have c8b0 : decide (x6_2 < a1) = false := decide_eq_false c8
       clear c8
       by_cases c14 : x0_2 > 0
       ·rw [if_pos c14] at H
        have c14b0 : decide (0 < x0_2) = true := decide_eq_true c14
        clear c14
        obtain rfl := Option.some.inj H
        go_wp2
        first | go_ret | ((try simp only [Exit.inBlock, Exit.then]); apply bodyPost_ret; (exact results_tmp rfl _ _ _); rfl)
        exact ⟨zE _, zd _⟩
       ·rw [if_neg c14] at H
        have c14b0 : decide (0 < x0_2) = false := decide_eq_false c14
        clear c14
        by_cases c15 : 1 + x5_2.size ≤ 9223372036854775807
        ·rw [if_pos c15] at H
         have c15b0 := eq_true c15
         have c15b1 : decide (1 + x5_2.size ≤ 9223372036854775807) = true := decide_eq_true c15
         try have c15b2 : (9223372036854775807 < 1 + x5_2.size) = False := eq_false (Nat.not_lt.2 c15)
         obtain rfl := Option.some.inj H
         go_wp2
         first | go_ret | ((try simp only [Exit.inBlock, Exit.then]); apply bodyPost_ret; (exact results_tmp rfl _ _ _); rfl)
         exact ⟨zE _, zd _⟩
        ·rw [if_neg c15] at H
         exact absurd H (by simp)

/-! ### spec_l3Conds: function 50 -/
end Go.Proofs.YtmiebnpmckjidaaGreatDoor.PFnExactReadInsText
