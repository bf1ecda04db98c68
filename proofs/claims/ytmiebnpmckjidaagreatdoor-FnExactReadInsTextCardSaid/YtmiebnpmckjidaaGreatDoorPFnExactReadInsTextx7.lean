/- What the Go functions that the law FnExactReadInsText reaches compute, function by function, and that Go comes to just that. -/
import Derived.Test.YtmiebnpmckjidaaGreatDoorPFnExactReadInsTextx0
import Derived.Test.YtmiebnpmckjidaaGreatDoorAidZ
import Derived.Test.YtmiebnpmckjidaaGreatDoorPFnExactReadInsTextx6
namespace Go.Proofs.YtmiebnpmckjidaaGreatDoor.PFnExactReadInsText
open Go.RowKit Go.Proofs.YtmiebnpmckjidaaGreatDoor.Z Go.Proofs.YtmiebnpmckjidaaGreatDoorW.PrintWords Go.Proofs.YtmiebnpmckjidaaGreatDoorW.PrintLast Go.Proofs.YtmiebnpmckjidaaGreatDoorW.PrintMore
attribute [local go_sem] max2_int min2_int max_two min_two max_three min_three max_four min_four   -- for this text's walks alone
set_option linter.unusedVariables false
set_option linter.unusedSimpArgs false

/-! ### impl_alus: function 36 -/
/-! ### impl_conds: function 56 -/
/-! ### impl_isWord: function 71 -/
def impl_isWord.f (a0 : Int) : Option (Bool) := (impl_within.f a0 0 65535).bind fun t185 => (some t185)
set_option maxHeartbeats 8000000 in
set_option maxRecDepth 100000 in
theorem impl_isWord.calls (a0 : Int) (r : Bool) (w : World) (h : impl_isWord.f a0 = some r) :
 Calls Tryz.prog 71 #[.int .i64 a0] w fun e w' => e = .returned (.bool r) ∧ Drawn0 w w' := by
 have H : ((impl_within.f a0 0 65535).bind fun t185 => (some t185)) = some r := h
 clear h
 obtain ⟨t185, A20, H⟩ := Option.bind_eq_some_iff.mp H
 have A2 := Aside0.mk A20
 clear A20
 obtain rfl := Option.some.inj H
 go_enter Tryz.func71, Tryz.ntmps71
 go_wp2_with (first | ((with_reducible refine gate_callee (f := 18) rfl ?_); refine zc (some 4) Tryz.func18 #[.int .i64 a0, .int .i64 0, .int .i64 65535] ?_; (with_reducible refine (impl_within.calls a0 0 65535 t185 _ A2.out).mono ?_); rintro e w' ⟨rfl, ⟨nd, rfl⟩⟩; refine ⟨_, rfl, ?_⟩))
 first | go_ret | ((try simp only [Exit.inBlock, Exit.then]); apply bodyPost_ret; (exact results_tmp rfl _ _ _); rfl)
 exact ⟨zE _, zd _⟩

/-! ### strconv_FormatInt: function 79 -/
open Go.Proofs.YtmiebnpmckjidaaGreatDoor.Aid
def strconv_FormatInt.f (a0 a1 : Int) : Option ByteArray := if a1 = 10 then (if -9223372036854775808 ≤ a0 then (if a0 ≤ 9223372036854775807 then some ⟨(Go.Lib.itoa a0).toArray⟩ else none) else none) else if a1 = 16 then (if 0 ≤ a0 then (if a0 < 65536 then some ⟨(hexLow a0.toNat).toArray⟩ else none) else none) else none
open Go.Lib in
set_option maxRecDepth 100000 in
theorem strconv_FormatInt.tz64 (w : World) (hG : GW w) : Calls Tryz.prog 128 #[.int .u64 16] w fun e w' => e = .returned (.int .i64 4) ∧ Drawn0 w w' := by
  have e15 : IntKind.u64.wrap (bits BinOp.and IntKind.u64 16 (IntKind.u64.wrap (-16)) * 285870213051353865) / 288230376151711744 = 15 := by decide
  have hc : w.cell? ⟨8, (IntKind.u64.wrap (bits BinOp.and IntKind.u64 16 (IntKind.u64.wrap (-16)) * 285870213051353865) / 288230376151711744).toNat, none⟩ = some (.int .u8 4) := by
    rw [e15]
    exact TabIs.cell hG.db64 (g := 8) (by kernel_rfl) 15 (by decide)
  have hb : 0 ≤ IntKind.u64.wrap (bits BinOp.and IntKind.u64 16 (IntKind.u64.wrap (-16)) * 285870213051353865) / 288230376151711744 ∧ IntKind.u64.wrap (bits BinOp.and IntKind.u64 16 (IntKind.u64.wrap (-16)) * 285870213051353865) / 288230376151711744 < 64 := by
    rw [e15]; decide
  clear e15
  go_enter Tryz.func128, Tryz.ntmps128
  go_wp2
  go_ret
  exact ⟨rfl, Drawn0.refl _⟩
set_option maxRecDepth 100000 in
theorem strconv_FormatInt.pow2 (w : World) : Calls Tryz.prog 119 #[.int .i64 16] w fun e w' => e = .returned (.bool true) ∧ Drawn0 w w' := by
  go_enter Tryz.func119, Tryz.ntmps119
  go_wp2
  rw [show bits BinOp.and IntKind.i64 16 15 = 0 from by decide]
  go_ret
  exact ⟨rfl, Drawn0.refl _⟩
set_option maxRecDepth 100000 in
theorem strconv_FormatInt.tz (w : World) (hG : GW w) : Calls Tryz.prog 120 #[.int .u64 16] w fun e w' => e = .returned (.int .i64 4) ∧ Drawn0 w w' := by
  go_enter Tryz.func120, Tryz.ntmps120
  go_wp2_with (go_at_call 128; refine (strconv_FormatInt.tz64 _ hG).mono ?_; rintro e w' ⟨rfl, ⟨m, rfl⟩⟩)
  go_ret
  exact ⟨rfl, ⟨m, rfl⟩⟩
def strconv_FormatInt.hexDigits : ByteArray := ⟨#[48, 49, 50, 51, 52, 53, 54, 55, 56, 57, 97, 98, 99, 100, 101, 102, 103, 104, 105, 106, 107, 108, 109, 110, 111, 112, 113, 114, 115, 116, 117, 118, 119, 120, 121, 122]⟩
theorem strconv_FormatInt.hexDigits_at : ∀ (r : Nat) (h : r < 16), strconv_FormatInt.hexDigits[r]'(Nat.lt_of_lt_of_le h (by decide)) = hexB r := by decide
theorem strconv_FormatInt.hex_at (r : Nat) (h : r < 16) (w : World) : (Instr.index 9 (.string strconv_FormatInt.hexDigits) (.int .u64 (r : Int))).run Tryz.prog w = .ok (.int .u8 ((hexB r).toNat : Int)) w := by
  rw [run_index_string w 9 strconv_FormatInt.hexDigits .u64 _ Tryz.underlying9, dif_pos ⟨by omega, by rw [show strconv_FormatInt.hexDigits.size = 36 from rfl]; omega⟩]
  have e : ((r : Int)).toNat = r := by omega
  simp only [e]
  rw [strconv_FormatInt.hexDigits_at r h]
def strconv_FormatInt.HexInv (n j : Nat) (C : Array Value) : Prop := C.size = 65 ∧ (∀ t, t < j → C[64 - t]? = some (.int .u8 ((hexB (n / 16 ^ t % 16)).toNat : Int))) ∧ (16 ^ j ≤ n ∨ j = 0)
theorem strconv_FormatInt.hexLow_of (n j : Nat) (hn : n < 65536) (hj : j ≤ 3) (h0 : 16 ^ j ≤ n ∨ j = 0) (h1 : n / 16 ^ j < 16) : (List.range (j + 1)).map (fun t => hexB (n / 16 ^ (j - t) % 16)) = hexLow n := by
  unfold hexLow
  have h4 : j = 0 ∨ j = 1 ∨ j = 2 ∨ j = 3 := by omega
  rcases h4 with rfl | rfl | rfl | rfl
  · rw [if_pos (by omega)]
    simp [List.range_succ_eq_map]
    congr 1
    omega
  · rw [if_neg (by omega), if_pos (by omega)]
    simp [List.range_succ_eq_map]
    congr 1
    omega
  · rw [if_neg (by omega), if_neg (by omega), if_pos (by omega)]
    simp [List.range_succ_eq_map]
    congr 1
    omega
  · rw [if_neg (by omega), if_neg (by omega), if_neg (by omega)]
    simp [List.range_succ_eq_map]
    congr 1
    omega
theorem strconv_FormatInt.add_plain_at (g q i : Nat) : (⟨g, q, none⟩ : Addr).add i = ⟨g, q + i, none⟩ := by unfold Addr.add; split <;> simp_all
theorem strconv_FormatInt.below_own {w wr : World} {g : Nat} {v : Value} (h : Below w.heap.size w wr) (hg : w.heap.size ≤ g) (q : Nat) : Below w.heap.size w (wr.setCell ⟨g, q, none⟩ v) := h.setCell hg _
set_option maxRecDepth 100000 in
theorem strconv_FormatInt.hexSlice (g q : Nat) (hq : q ≤ 64) (hq0 : 0 < q) (W : World) : (Instr.sliceAt 123 (.pointer (some ⟨g, 0, none⟩)) (some (.int .i64 (q : Int))) none none).run Tryz.prog W = .ok (.slice (some ⟨g, q, none⟩) (65 - q) (65 - q)) W := by
  rw [run_sliceAt_array_l W 123 ⟨g, 0, none⟩ (by kernel_rfl) .i64 q (by omega) (by rw [show Tryz.prog.arrayLen 123 = 65 by kernel_rfl]; omega), show Tryz.prog.arrayLen 123 = 65 by kernel_rfl, show Tryz.prog.elem 123 = 5 by kernel_rfl]
  have hs : (sizeOf 5).run Tryz.prog W = .ok 1 W := by go_simp
  rw [hs]
  simp only [Result.andThen, slicedAt, Int.toNat_natCast]
  rw [if_neg (by omega), add_plain, Nat.mul_one]
set_option maxRecDepth 100000 in
set_option maxHeartbeats 4000000 in
theorem strconv_FormatInt.fb (n : Nat) (hn : n < 65536) (w : World) (hG : GW w) : Calls Tryz.prog 109 #[.slice none 0 0, .int .u64 n, .int .i64 16, .bool false, .bool false] w fun e w' => e = .returned (.tuple #[.slice none 0 0, .string ⟨(hexLow n).toArray⟩]) ∧ Below w.heap.size w w' := by
  have HG := Aside0.mk hG
  clear hG
  have HN := Aside0.mk hn
  clear hn
  go_enter Tryz.func109, Tryz.ntmps109
  go_wp2_with (first | (go_at_call 119; refine (strconv_FormatInt.pow2 _).mono ?_; rintro e w' ⟨rfl, ⟨m, rfl⟩⟩) | (go_at_call 120; refine (strconv_FormatInt.tz _ ?_).mono ?_; (exact HG.out.alloc _ |>.drewN _); rintro e w' ⟨rfl, ⟨m2, rfl⟩⟩))
  go_loopg [1, 13] 4 (fun gg s1 s13 wr => ∃ (j q : Nat) (C : Array Value), j ≤ 3 ∧ 4 - j ≤ gg ∧ s1 = .int .u64 ((n / 16 ^ j : Nat) : Int) ∧ s13 = .int .i64 ((q : Int) + 1) ∧ Aside0 (q + 1 + j = 65) ∧ Aside0 (strconv_FormatInt.HexInv n j C) ∧ Aside0 (wr.heap[w.heap.size]? = some (.cells C 123 (0, 0))) ∧ Aside0 (Below w.heap.size w wr))
  case atStart =>
    refine ⟨0, 64, Tryz.zeroCells123, by omega, by omega, by simp, rfl, ⟨rfl⟩, ⟨⟨by decide +kernel, fun t ht => by omega, .inr rfl⟩⟩, ⟨?_⟩, ⟨pw_below_drewN (below_alloc (Below.refl _ _) _) _⟩⟩
    show (w.heap.push _)[w.heap.size]? = _
    rw [Array.getElem?_push_size]
  case round =>
    obtain ⟨j, q, C, hj, hg, rfl, rfl, HQ, HI, HC, HB⟩ := hrel
    rename_i wr_
    rename World => wr
    have hq : (q : Int) < 65 := by have := HQ.out; omega
    obtain ⟨v, hv⟩ : ∃ v, v = n / 16 ^ j := ⟨_, rfl⟩
    have hcq : ∃ c0, C[q]? = some c0 := ⟨C[q]'(by rw [HI.out.1]; omega), Array.getElem?_eq_getElem _⟩
    obtain ⟨c0, hc0⟩ := hcq
    have hcell : wr.cell? ⟨w.heap.size, q, none⟩ = some c0 := by
      simp only [World.cell?, HC.out]
      exact hc0
    have hfro : wr.frozen? ⟨w.heap.size, q, none⟩ = false := by
      simp [World.frozen?, HC.out]
    have hr : bits BinOp.and IntKind.u64 (v : Int) 15 = ((v % 16 : Nat) : Int) := by
      have hb : v < 65536 := by rw [hv]; exact Nat.lt_of_le_of_lt (Nat.div_le_self _ _) HN.out
      have h := bits_mask .u64 64 (by decide) (fun n h0 h1 => by rw [IntKind.wrap_u64]; omega) 4 (by decide) (v : Int) (by omega) (by omega)
      rw [show (2 : Int) ^ 4 - 1 = 15 from rfl, show (2 : Int) ^ 4 = 16 from rfl] at h
      rw [h]
      omega
    have hX : ∀ w, (Instr.index 9 (.string ⟨#[48, 49, 50, 51, 52, 53, 54, 55, 56, 57, 97, 98, 99, 100, 101, 102, 103, 104, 105, 106, 107, 108, 109, 110, 111, 112, 113, 114, 115, 116, 117, 118, 119, 120, 121, 122]⟩) (.int .u64 ((v % 16 : Nat) : Int))).run Tryz.prog w = .ok (.int .u8 ((hexB (v % 16)).toNat : Int)) w := strconv_FormatInt.hex_at (v % 16) (by omega)
    rw [← hv]
    have hd : (hexB (v % 16)).toNat = (hexB (n / 16 ^ j % 16)).toNat := by rw [hv]
    have HV := Aside0.mk hv
    have HD := Aside0.mk hd
    clear hv hd hc0
    have hput : (wr.setCell ⟨w.heap.size, q, none⟩ (.int .u8 ((hexB (v % 16)).toNat : Int))).heap[w.heap.size]? = some (.cells (C.setIfInBounds q (.int .u8 ((hexB (v % 16)).toNat : Int))) 123 (0, 0)) := by
      exact heap_setCell_same _ _ _ _ _ _ HC.out
    have HP := Aside0.mk hput
    clear hput
    by_cases h16 : (16 : Int) ≤ (v : Int)
    · generalize hrr : v % 16 = r at hr hX HP HD
      have HRR := Aside0.mk hrr
      clear hrr
      go_wp2
      go_roundg (4 - (j + 1))
      case measure => omega
      case rel =>
        have hv16 : 16 ≤ n / 16 ^ j := by rw [← HV.out]; omega
        have hpow : 16 ^ (j + 1) ≤ n := by
          rw [Nat.pow_succ, Nat.mul_comm]
          exact (Nat.le_div_iff_mul_le (Nat.pow_pos (by decide))).1 hv16
        have hj3 : j + 1 ≤ 3 := by
          rcases Nat.lt_or_ge j 3 with h | h
          · exact h
          · have : j = 3 := by omega
            subst this
            have := HN.out
            omega
        refine ⟨j + 1, q - 1, _, hj3, by omega, ?_, ?_, ⟨by have := HQ.out; omega⟩, ⟨?_⟩, ⟨HP.out⟩, ⟨by repeat (first | exact strconv_FormatInt.below_own HB.out (Nat.le_refl _) _ | apply pw_below_drewN | apply below_drew)⟩⟩
        · show Value.int IntKind.u64 _ = _
          congr 1
          rw [HV.out, Nat.pow_succ, ← Nat.div_div_eq_div_mul]
          omega
        · show Value.int IntKind.i64 _ = _
          congr 1
          have := HQ.out
          omega
        · refine ⟨by rw [Array.size_setIfInBounds]; exact HI.out.1, fun t ht => ?_, .inl hpow⟩
          have hq' := HQ.out
          by_cases e : t = j
          · subst e
            rw [show 64 - t = q by omega, Array.getElem?_setIfInBounds_self_of_lt (by rw [HI.out.1]; omega), HD.out]
          · rw [Array.getElem?_setIfInBounds_ne (by omega)]
            exact HI.out.2.1 t (by omega)
    · have h15 : v < 16 := by omega
      have hX2 : ∀ w, (Instr.index 9 (.string ⟨#[48, 49, 50, 51, 52, 53, 54, 55, 56, 57, 97, 98, 99, 100, 101, 102, 103, 104, 105, 106, 107, 108, 109, 110, 111, 112, 113, 114, 115, 116, 117, 118, 119, 120, 121, 122]⟩) (.int .u64 (v:Int))).run Tryz.prog w = .ok (.int .u8 ((hexB v).toNat : Int)) w := strconv_FormatInt.hex_at v h15
      rw [Nat.mod_eq_of_lt h15] at HP HD
      clear hX hr
      have hSl := strconv_FormatInt.hexSlice w.heap.size q (by have := HQ.out; omega) (by have := HQ.out; omega)
      have hback := run_convert_bytes_back (P := Tryz.prog) (wr.setCell ⟨w.heap.size, q, none⟩ (.int .u8 ((hexB v).toNat : Int))) 62 9 5 ⟨w.heap.size, q, none⟩ (65 - q) ((List.range (j + 1)).map (fun t => hexB (n / 16 ^ (j - t) % 16))) Tryz.underlying62 Tryz.underlying5 Tryz.underlying9 (fun i hi => by
        have hi' : i < j + 1 := by simpa using hi
        have hq' := HQ.out
        rw [strconv_FormatInt.add_plain_at]
        simp only [World.cell?, HP.out]
        by_cases e : i = 0
        · subst e
          rw [Nat.add_zero, Array.getElem?_setIfInBounds_self_of_lt (by rw [HI.out.1]; omega)]
          simp only [List.getElem_map, List.getElem_range, Nat.sub_zero]
          rw [HD.out]
          rfl
        · rw [Array.getElem?_setIfInBounds_ne (by omega), show q + i = 64 - (j - i) by omega, HI.out.2.1 (j - i) (by omega)]
          simp only [List.getElem_map, List.getElem_range]
          rfl)
      rw [show ((List.range (j + 1)).map (fun t => hexB (n / 16 ^ (j - t) % 16))).length = 65 - q by rw [List.length_map, List.length_range]; have := HQ.out; omega, strconv_FormatInt.hexLow_of n j HN.out hj HI.out.2.2 (by rw [← HV.out]; exact h15)] at hback
      clear h15
      go_wp2
      go_ret2
      exact ⟨rfl, by repeat (first | exact strconv_FormatInt.below_own HB.out (Nat.le_refl _) _ | apply pw_below_drewN | apply below_drew)⟩
set_option maxRecDepth 100000 in
set_option maxHeartbeats 4000000 in
theorem strconv_FormatInt.fi (n : Nat) (hn : n < 65536) (w : World) (hG : GW w) : Calls Tryz.prog 95 #[.int .i64 n, .int .i64 16] w fun e w' => e = .returned (.string ⟨(hexLow n).toArray⟩) ∧ Below w.heap.size w w' := by
  have HG := Aside0.mk hG
  clear hG
  have HN := Aside0.mk hn
  have hw : IntKind.u64.wrap (n : Int) = (n : Int) := by rw [IntKind.wrap_u64]; omega
  have hneg : ¬ ((n : Int) < 0) := by omega
  clear hn
  go_enter Tryz.func95, Tryz.ntmps95
  go_wp2_with (go_at_call 109; refine (strconv_FormatInt.fb n HN.out _ ?_).mono ?_; (repeat (first | exact HG.out | apply GW.drewN | apply GW.drew)); rintro e w' ⟨rfl, hb⟩)
  go_ret
  exact ⟨rfl, by repeat (first | exact below_step (by repeat (first | exact Below.refl _ _ | apply pw_below_drewN | apply below_drew)) hb | exact hb | apply pw_below_drewN | apply below_drew)⟩
set_option maxRecDepth 100000 in
theorem strconv_FormatInt.hex (n : Nat) (hn : n < 65536) (w : World) (hG : GW w) :
    Calls Tryz.prog 79 #[.int .i64 n, .int .i64 16] w fun e w' => e = .returned (.string ⟨(hexLow n).toArray⟩) ∧ Below w.heap.size w w' := by
  have HG := Aside0.mk hG
  clear hG
  have HN := Aside0.mk hn
  clear hn
  go_enter Tryz.func79, Tryz.ntmps79
  go_wp2_with (go_at_call 95; refine (strconv_FormatInt.fi n HN.out _ ?_).mono ?_; (repeat (first | exact HG.out | apply GW.drewN | apply GW.drew)); rintro e w' ⟨rfl, hb⟩)
  go_ret
  exact ⟨rfl, by repeat (first | exact below_step (by repeat (first | exact Below.refl _ _ | apply pw_below_drewN | apply below_drew)) hb | exact hb | apply pw_below_drewN | apply below_drew)⟩
theorem strconv_FormatInt.calls (a0 a1 : Int) (r : ByteArray) (w : World) (hG : GW w) (h : strconv_FormatInt.f a0 a1 = some r) :
 Calls Tryz.prog 79 #[.int .i64 a0, .int .i64 a1] w fun e w' => e = .returned (.string r) ∧ Below w.heap.size w w' := by
 unfold strconv_FormatInt.f at h
 by_cases h0 : a1 = 10
 ·by_cases h1 : -9223372036854775808 ≤ a0
  ·by_cases h2 : a0 ≤ 9223372036854775807
   ·rw [if_pos h0, if_pos h1, if_pos h2] at h
    obtain rfl := Option.some.inj h
    subst h0
    refine (Tryz.strconv_FormatInt_10 a0 h1 h2 w hG.pow10).mono ?_
    rintro e w' ⟨rfl, k, os, rfl⟩
    exact ⟨rfl, below_grow w k os⟩
   ·rw [if_pos h0, if_pos h1, if_neg h2] at h
    cases h
  ·rw [if_pos h0, if_neg h1] at h
   cases h
 ·by_cases h3 : a1 = 16
  ·by_cases h1 : 0 ≤ a0
   ·by_cases h2 : a0 < 65536
    ·rw [if_neg h0, if_pos h3, if_pos h1, if_pos h2] at h
     obtain rfl := Option.some.inj h
     subst h3
     obtain ⟨n, rfl⟩ : ∃ n : Nat, a0 = (n : Int) := ⟨a0.toNat, by omega⟩
     exact strconv_FormatInt.hex n (by omega) w hG
    ·rw [if_neg h0, if_pos h3, if_pos h1, if_neg h2] at h
     cases h
   ·rw [if_neg h0, if_pos h3, if_neg h1] at h
    cases h
  ·rw [if_neg h0, if_neg h3] at h
   cases h

/-! ### strings_ToUpper: function 96 -/
def strings_ToUpper.f (a0 : ByteArray) : Option ByteArray := if a0.size ≤ 140737488355328 then (if (a0.data.toList.all fun b => decide (b.toNat < 128)) = true then some ⟨(Go.Lib.toUpperA a0.data.toList).toArray⟩ else none) else none
theorem strings_ToUpper.calls (a0 : ByteArray) (r : ByteArray) (w : World) (h : strings_ToUpper.f a0 = some r) :
 Calls Tryz.prog 96 #[.string a0] w fun e w' => e = .returned (.string r) ∧ Below w.heap.size w w' := by
 unfold strings_ToUpper.f at h
 by_cases h0 : a0.size ≤ 140737488355328
 ·by_cases h1 : (a0.data.toList.all fun b => decide (b.toNat < 128)) = true
  ·rw [if_pos h0, if_pos h1] at h
   obtain rfl := Option.some.inj h
   exact Tryz.strings_ToUpper_ascii a0 w h0 (fun j b hb => of_decide_eq_true (List.all_eq_true.1 h1 b (List.mem_of_getElem? hb)))
  ·rw [if_pos h0, if_neg h1] at h
   cases h
 ·rw [if_neg h0] at h
  cases h

/-! ### strings_Repeat: function 97 -/
def strings_Repeat.f (a0 : ByteArray) (a1 : Int) : Option ByteArray := if 0 ≤ a1 then (if a1 ≤ 9223372036854775807 then (if a0.size * a1.toNat ≤ 140737488355328 then some ⟨(Go.Lib.repeatL a0.data.toList a1.toNat).toArray⟩ else none) else none) else none
theorem strings_Repeat.calls (a0 : ByteArray) (a1 : Int) (r : ByteArray) (w : World) (h : strings_Repeat.f a0 a1 = some r) :
 Calls Tryz.prog 97 #[.string a0, .int .i64 a1] w fun e w' => e = .returned (.string r) ∧ Below w.heap.size w w' := by
 unfold strings_Repeat.f at h
 split at h
 ·split at h
  ·split at h
   ·obtain rfl := Option.some.inj h
    obtain ⟨c, rfl⟩ : ∃ c : Nat, a1 = (c : Int) := ⟨a1.toNat, by omega⟩
    exact Tryz.strings_Repeat a0 c w (by omega) (by simpa using ‹a0.size * (c : Int).toNat ≤ 140737488355328›)
   ·cases h
  ·cases h
 ·cases h

/-! ### impl_hexDigits: function 80 -/
def impl_hexDigits.f (a0 : Int) (a1 : Int) : Option (ByteArray) := (strconv_FormatInt.f a0 16).bind fun t186 => ((strings_ToUpper.f t186).bind fun t187 => ((strings_Repeat.f (⟨#[48]⟩ : ByteArray) (mx 0 (wrap64 (a1 - (t187.size : Int))))).bind fun t188 => (if t188.size + t187.size ≤ 9223372036854775807 then (some (t188 ++ t187)) else (none))))
set_option maxHeartbeats 8000000 in
set_option maxRecDepth 100000 in
theorem impl_hexDigits.calls (a0 : Int) (a1 : Int) (r : ByteArray) (w : World) (hG : GW w) (h : impl_hexDigits.f a0 a1 = some r) :
 Calls Tryz.prog 80 #[.int .i64 a0, .int .i64 a1] w fun e w' => e = .returned (.string r) ∧ Below w.heap.size w w' := by
 have HB := Aside0.mk (Below.refl w.heap.size w)
 have HG := Aside0.mk hG
 clear hG
 have H : ((strconv_FormatInt.f a0 16).bind fun t186 => ((strings_ToUpper.f t186).bind fun t187 => ((strings_Repeat.f (⟨#[48]⟩ : ByteArray) (mx 0 (wrap64 (a1 - (t187.size : Int))))).bind fun t188 => (if t188.size + t187.size ≤ 9223372036854775807 then (some (t188 ++ t187)) else (none))))) = some r := h
 clear h
 obtain ⟨t186, A30, H⟩ := Option.bind_eq_some_iff.mp H
 have A3 := Aside0.mk A30
 clear A30
 obtain ⟨t187, A40, H⟩ := Option.bind_eq_some_iff.mp H
 have A4 := Aside0.mk A40
 clear A40
 obtain ⟨ji5, hji5⟩ : ∃ j_ : Int, (mx 0 (wrap64 (a1 - (t187.size : Int)))) = j_ := ⟨_, rfl⟩
 replace H : ((strings_Repeat.f (⟨#[48]⟩ : ByteArray) (ji5)).bind fun t188 => (if t188.size + t187.size ≤ 9223372036854775807 then (some (t188 ++ t187)) else (none))) = some r := by first | (rw [hji5] at H; exact H) | (simp only [hji5] at H ⊢; exact H)
 (try rw [hji5] at A3)
 (try rw [hji5] at A4)
 (try (have hji5l : 0 ≤ ji5 := by (rw [← hji5]; unfold mx; (repeat' split) <;> omega)))
 (try (have hji5m : 0 ≤ ji5 := by omega))
 have hji5_ : (if 0 < (wrap64 (a1 - (t187.size : Int))) then (wrap64 (a1 - (t187.size : Int))) else 0) = ji5 := hji5
 obtain ⟨t188, A60, H⟩ := Option.bind_eq_some_iff.mp H
 have A6 := Aside0.mk A60
 clear A60
 by_cases c7 : t188.size + t187.size ≤ 9223372036854775807
 ·rw [if_pos c7] at H
  have c7b0 := eq_true c7
  have c7b1 : decide (t188.size + t187.size ≤ 9223372036854775807) = true := decide_eq_true c7
  try have c7b2 : (9223372036854775807 < t188.size + t187.size) = False := eq_false (Nat.not_lt.2 c7)
  obtain rfl := Option.some.inj H
  go_enter Tryz.func80, Tryz.ntmps80
  go_wp2_with (first | ((with_reducible refine gate_callee (f := 79) rfl ?_); refine zc (some 7) Tryz.func79 #[.int .i64 a0, .int .i64 16] ?_; (with_reducible refine (strconv_FormatInt.calls a0 16 t186 _ ?side1 A3.out).mono ?_); (case side1 => exact GW.below HG.out (zb _)); rintro e w8 ⟨rfl, hb⟩; refine ⟨_, rfl, ?_⟩; replace HB := zt w hb; (try clear hb); (try clear hb2); (try clear hk); (try clear hi)) | ((with_reducible refine gate_callee (f := 96) rfl ?_); refine zc (some 8) Tryz.func96 #[.string t186] ?_; (with_reducible refine (strings_ToUpper.calls t186 t187 _ A4.out).mono ?_); rintro e w9 ⟨rfl, hb⟩; refine ⟨_, rfl, ?_⟩; replace HB := zt w hb; (try clear hb); (try clear hb2); (try clear hk); (try clear hi)) | ((with_reducible refine gate_callee (f := 97) rfl ?_); refine zc (some 14) Tryz.func97 #[.string (⟨#[48]⟩ : ByteArray), .int .i64 ji5] ?_ (hargs := by (try simp only [List.map_toArray, List.map_cons, List.map_nil]); first | done | (simp only [hji5]; rfl) | rfl | (simp only [List.length_drop, List.length_take]; rfl)); (with_reducible refine (strings_Repeat.calls (⟨#[48]⟩ : ByteArray) ji5 t188 _ A6.out).mono ?_); rintro e w10 ⟨rfl, hb⟩; refine ⟨_, rfl, ?_⟩; replace HB := zt w hb; (try clear hb); (try clear hb2); (try clear hk); (try clear hi)))
  first | go_ret | ((try simp only [Exit.inBlock, Exit.then]); apply bodyPost_ret; (exact results_tmp rfl _ _ _); rfl)
  exact ⟨by first | rfl | (simp [errW_none, errW_some] <;> rfl) | (simp only [← hji5]; first | rfl | (simp [errW_none, errW_some] <;> rfl)) | (simp [*, errW_none, errW_some] <;> rfl), zb _⟩
 ·rw [if_neg c7] at H
  exact absurd H (by simp)

/-! ### impl_HexOf: function 58 -/
def impl_HexOf.f (a0 : Int) (a1 : Int) : Option (ByteArray) := (impl_within.f a1 1 4).bind fun t189 => (if t189 = true then ((impl_isWord.f a0).bind fun t190 => (if t190 = true then (if 0 ≤ (wrap64 (4 * a1)) then (if (shr .i64 a0 (wrap64 (4 * a1))) > 0 then (some (⟨#[]⟩ : ByteArray)) else ((impl_hexDigits.f a0 a1).bind fun t191 => (if 1 + t191.size ≤ 9223372036854775807 then (some ((⟨#[36]⟩ : ByteArray) ++ t191)) else (none)))) else (none)) else (some (⟨#[]⟩ : ByteArray)))) else (some (⟨#[]⟩ : ByteArray)))
set_option maxHeartbeats 8000000 in
set_option maxRecDepth 100000 in
theorem impl_HexOf.calls (a0 : Int) (a1 : Int) (r : ByteArray) (w : World) (hG : GW w) (h : impl_HexOf.f a0 a1 = some r) :
 Calls Tryz.prog 58 #[.int .i64 a0, .int .i64 a1] w fun e w' => e = .returned (.string r) ∧ Below w.heap.size w w' := by
 have HB := Aside0.mk (Below.refl w.heap.size w)
 have HG := Aside0.mk hG
 clear hG
 have H : ((impl_within.f a1 1 4).bind fun t189 => (if t189 = true then ((impl_isWord.f a0).bind fun t190 => (if t190 = true then (if 0 ≤ (wrap64 (4 * a1)) then (if (shr .i64 a0 (wrap64 (4 * a1))) > 0 then (some (⟨#[]⟩ : ByteArray)) else ((impl_hexDigits.f a0 a1).bind fun t191 => (if 1 + t191.size ≤ 9223372036854775807 then (some ((⟨#[36]⟩ : ByteArray) ++ t191)) else (none)))) else (none)) else (some (⟨#[]⟩ : ByteArray)))) else (some (⟨#[]⟩ : ByteArray)))) = some r := h
 clear h
 obtain ⟨t189, A30, H⟩ := Option.bind_eq_some_iff.mp H
 have A3 := Aside0.mk A30
 clear A30
 by_cases c4 : t189 = true
 ·subst c4
  rw [if_pos rfl] at H
  obtain ⟨t190, A50, H⟩ := Option.bind_eq_some_iff.mp H
  have A5 := Aside0.mk A50
  clear A50
  by_cases c6 : t190 = true
  ·subst c6
   rw [if_pos rfl] at H
   obtain ⟨ji7, hji7⟩ : ∃ j_ : Int, (wrap64 (4 * a1)) = j_ := ⟨_, rfl⟩
   replace H : (if 0 ≤ (ji7) then (if (shr .i64 a0 (ji7)) > 0 then (some (⟨#[]⟩ : ByteArray)) else ((impl_hexDigits.f a0 a1).bind fun t191 => (if 1 + t191.size ≤ 9223372036854775807 then (some ((⟨#[36]⟩ : ByteArray) ++ t191)) else (none)))) else (none)) = some r := by first | (rw [hji7] at H; exact H) | (simp only [hji7] at H ⊢; exact H)
   (try rw [hji7] at A3)
   (try rw [hji7] at A5)
   have hji7w : (IntKind.i64.wrap (4 * a1)) = ji7 := (i64_w _).trans hji7
   by_cases c8 : 0 ≤ (ji7)
   ·rw [if_pos c8] at H
    have c8b0 := eq_true c8
    have c8b1 : decide (0 ≤ (ji7)) = true := decide_eq_true c8
    clear c8
    obtain ⟨ji9, hji9⟩ : ∃ j_ : Int, (shr .i64 a0 (ji7)) = j_ := ⟨_, rfl⟩
    replace H : (if (ji9) > 0 then (some (⟨#[]⟩ : ByteArray)) else ((impl_hexDigits.f a0 a1).bind fun t191 => (if 1 + t191.size ≤ 9223372036854775807 then (some ((⟨#[36]⟩ : ByteArray) ++ t191)) else (none)))) = some r := by first | (rw [hji9] at H; exact H) | (simp only [hji9] at H ⊢; exact H)
    (try rw [hji9] at A3)
    (try rw [hji9] at A5)
    have hji9_ : (a0 / 2 ^ min (ji7).toNat 64) = ji9 := hji9
    have hji9z : (ji7) ≤ 64 → (a0 / 2 ^ (ji7).toNat) = ji9 := shr_small hji9
    by_cases c10 : (ji9) > 0
    ·rw [if_pos c10] at H
     have c10b0 : decide (0 < (ji9)) = true := decide_eq_true c10
     clear c10
     obtain rfl := Option.some.inj H
     go_enter Tryz.func58, Tryz.ntmps58
     go_wp2_with (first | ((with_reducible refine gate_callee (f := 18) rfl ?_); refine zc (some 6) Tryz.func18 #[.int .i64 a1, .int .i64 1, .int .i64 4] ?_; (with_reducible refine (impl_within.calls a1 1 4 true _ A3.out).mono ?_); rintro e w' ⟨rfl, ⟨nd, rfl⟩⟩; refine ⟨_, rfl, ?_⟩) | (go_at_call 71; (with_reducible refine (impl_isWord.calls a0 true _ A5.out).mono ?_); rintro e w' ⟨rfl, ⟨nd, rfl⟩⟩))
     first | go_ret | ((try simp only [Exit.inBlock, Exit.then]); apply bodyPost_ret; (exact results_tmp rfl _ _ _); rfl)
     exact ⟨by first | rfl | (simp [errW_none, errW_some] <;> rfl) | (simp only [← hji7, ← hji9]; first | rfl | (simp [errW_none, errW_some] <;> rfl)) | (simp [*, errW_none, errW_some] <;> rfl), zb _⟩
    ·rw [if_neg c10] at H
     have c10b0 : decide (0 < (ji9)) = false := decide_eq_false c10
     clear c10
     obtain ⟨t191, A110, H⟩ := Option.bind_eq_some_iff.mp H
     have A11 := Aside0.mk A110
     clear A110
     by_cases c12 : 1 + t191.size ≤ 9223372036854775807
     ·rw [if_pos c12] at H
      have c12b0 := eq_true c12
      have c12b1 : decide (1 + t191.size ≤ 9223372036854775807) = true := decide_eq_true c12
      try have c12b2 : (9223372036854775807 < 1 + t191.size) = False := eq_false (Nat.not_lt.2 c12)
      obtain rfl := Option.some.inj H
      go_enter Tryz.func58, Tryz.ntmps58
      go_wp2_with (first | ((with_reducible refine gate_callee (f := 18) rfl ?_); refine zc (some 6) Tryz.func18 #[.int .i64 a1, .int .i64 1, .int .i64 4] ?_; (with_reducible refine (impl_within.calls a1 1 4 true _ A3.out).mono ?_); rintro e w' ⟨rfl, ⟨nd, rfl⟩⟩; refine ⟨_, rfl, ?_⟩) | (go_at_call 71; (with_reducible refine (impl_isWord.calls a0 true _ A5.out).mono ?_); rintro e w' ⟨rfl, ⟨nd, rfl⟩⟩) | ((with_reducible refine gate_callee (f := 80) rfl ?_); refine zc (some 22) Tryz.func80 #[.int .i64 a0, .int .i64 a1] ?_; (with_reducible refine (impl_hexDigits.calls a0 a1 t191 _ ?side1 A11.out).mono ?_); (case side1 => exact GW.below HG.out (zb _)); rintro e w13 ⟨rfl, hb⟩; refine ⟨_, rfl, ?_⟩; replace HB := zt w hb; (try clear hb); (try clear hb2); (try clear hk); (try clear hi)))
      first | go_ret | ((try simp only [Exit.inBlock, Exit.then]); apply bodyPost_ret; (exact results_tmp rfl _ _ _); rfl)
      exact ⟨by first | rfl | (simp [errW_none, errW_some] <;> rfl) | (simp only [← hji7, ← hji9]; first | rfl | (simp [errW_none, errW_some] <;> rfl)) | (simp [*, errW_none, errW_some] <;> rfl), zb _⟩
     ·rw [if_neg c12] at H
      exact absurd H (by simp)
   ·rw [if_neg c8] at H
    exact absurd H (by simp)
  ·replace c6 := Bool.eq_false_iff.mpr c6
   subst c6
   rw [if_neg (show ¬ (false = true) by decide)] at H
   obtain rfl := Option.some.inj H
   go_enter Tryz.func58, Tryz.ntmps58
   go_wp2_with (first | ((with_reducible refine gate_callee (f := 18) rfl ?_); refine zc (some 6) Tryz.func18 #[.int .i64 a1, .int .i64 1, .int .i64 4] ?_; (with_reducible refine (impl_within.calls a1 1 4 true _ A3.out).mono ?_); rintro e w' ⟨rfl, ⟨nd, rfl⟩⟩; refine ⟨_, rfl, ?_⟩) | (go_at_call 71; (with_reducible refine (impl_isWord.calls a0 false _ A5.out).mono ?_); rintro e w' ⟨rfl, ⟨nd, rfl⟩⟩))
   first | go_ret | ((try simp only [Exit.inBlock, Exit.then]); apply bodyPost_ret; (exact results_tmp rfl _ _ _); rfl)
   exact ⟨ze _, zb _⟩
 ·replace c4 := Bool.eq_false_iff.mpr c4
  subst c4
  rw [if_neg (show ¬ (false = true) by decide)] at H
  obtain rfl := Option.some.inj H
  go_enter Tryz.func58, Tryz.ntmps58
  go_wp2_with (first | ((with_reducible refine gate_callee (f := 18) rfl ?_); refine zc (some 6) Tryz.func18 #[.int .i64 a1, .int .i64 1, .int .i64 4] ?_; (with_reducible refine (impl_within.calls a1 1 4 false _ A3.out).mono ?_); rintro e w' ⟨rfl, ⟨nd, rfl⟩⟩; refine ⟨_, rfl, ?_⟩))
  first | go_ret | ((try simp only [Exit.inBlock, Exit.then]); apply bodyPost_ret; (exact results_tmp rfl _ _ _); rfl)
  exact ⟨ze _, zb _⟩

end Go.Proofs.YtmiebnpmckjidaaGreatDoor.PFnExactReadInsText
