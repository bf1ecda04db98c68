/- What the Go functions that the law FnExactReadSyms reaches compute, function by function, and that Go comes to just that. -/
import Derived.Test.YtmiebnpmckjidaaDoorPFnExactReadSymsx0
import Derived.Test.YtmiebnpmckjidaaDoorAidZ
import Derived.Test.YtmiebnpmckjidaaDoorPFnExactReadSymsx6
namespace Go.Proofs.YtmiebnpmckjidaaDoor.PFnExactReadSyms
open Go.RowKit Go.Proofs.YtmiebnpmckjidaaDoor.Z Go.Proofs.YtmiebnpmckjidaaDoorW.PrintWords Go.Proofs.YtmiebnpmckjidaaDoorW.PrintLast Go.Proofs.YtmiebnpmckjidaaDoorW.PrintMore
attribute [local go_sem] max2_int min2_int max_two min_two max_three min_three max_four min_four   -- for this text's walks alone
set_option linter.unusedVariables false
set_option linter.unusedSimpArgs false

/-! ### strconv_FormatInt: function 94 -/
open Go.Proofs.YtmiebnpmckjidaaDoor.Aid
def strconv_FormatInt.f (a0 a1 : Int) : Option ByteArray := if a1 = 10 then (if -9223372036854775808 ≤ a0 then (if a0 ≤ 9223372036854775807 then some ⟨(Go.Lib.itoa a0).toArray⟩ else none) else none) else if a1 = 16 then (if 0 ≤ a0 then (if a0 < 65536 then some ⟨(hexLow a0.toNat).toArray⟩ else none) else none) else none
open Go.Lib in
set_option maxRecDepth 100000 in
theorem strconv_FormatInt.tz64 (w : World) (hG : GW w) : Calls Tryd.prog 191 #[.int .u64 16] w fun e w' => e = .returned (.int .i64 4) ∧ Drawn0 w w' := by
  have e15 : IntKind.u64.wrap (bits BinOp.and IntKind.u64 16 (IntKind.u64.wrap (-16)) * 285870213051353865) / 288230376151711744 = 15 := by decide
  have hc : w.cell? ⟨8, (IntKind.u64.wrap (bits BinOp.and IntKind.u64 16 (IntKind.u64.wrap (-16)) * 285870213051353865) / 288230376151711744).toNat, none⟩ = some (.int .u8 4) := by
    rw [e15]
    exact TabIs.cell hG.db64 (g := 8) (by kernel_rfl) 15 (by decide)
  have hb : 0 ≤ IntKind.u64.wrap (bits BinOp.and IntKind.u64 16 (IntKind.u64.wrap (-16)) * 285870213051353865) / 288230376151711744 ∧ IntKind.u64.wrap (bits BinOp.and IntKind.u64 16 (IntKind.u64.wrap (-16)) * 285870213051353865) / 288230376151711744 < 64 := by
    rw [e15]; decide
  clear e15
  go_enter Tryd.func191, Tryd.ntmps191
  go_wp2
  go_ret
  exact ⟨rfl, Drawn0.refl _⟩
set_option maxRecDepth 100000 in
theorem strconv_FormatInt.pow2 (w : World) : Calls Tryd.prog 182 #[.int .i64 16] w fun e w' => e = .returned (.bool true) ∧ Drawn0 w w' := by
  go_enter Tryd.func182, Tryd.ntmps182
  go_wp2
  rw [show bits BinOp.and IntKind.i64 16 15 = 0 from by decide]
  go_ret
  exact ⟨rfl, Drawn0.refl _⟩
set_option maxRecDepth 100000 in
theorem strconv_FormatInt.tz (w : World) (hG : GW w) : Calls Tryd.prog 183 #[.int .u64 16] w fun e w' => e = .returned (.int .i64 4) ∧ Drawn0 w w' := by
  go_enter Tryd.func183, Tryd.ntmps183
  go_wp2_with (go_at_call 191; refine (strconv_FormatInt.tz64 _ hG).mono ?_; rintro e w' ⟨rfl, ⟨m, rfl⟩⟩)
  go_ret
  exact ⟨rfl, ⟨m, rfl⟩⟩
def strconv_FormatInt.hexDigits : ByteArray := ⟨#[48, 49, 50, 51, 52, 53, 54, 55, 56, 57, 97, 98, 99, 100, 101, 102, 103, 104, 105, 106, 107, 108, 109, 110, 111, 112, 113, 114, 115, 116, 117, 118, 119, 120, 121, 122]⟩
theorem strconv_FormatInt.hexDigits_at : ∀ (r : Nat) (h : r < 16), strconv_FormatInt.hexDigits[r]'(Nat.lt_of_lt_of_le h (by decide)) = hexB r := by decide
theorem strconv_FormatInt.hex_at (r : Nat) (h : r < 16) (w : World) : (Instr.index 9 (.string strconv_FormatInt.hexDigits) (.int .u64 (r : Int))).run Tryd.prog w = .ok (.int .u8 ((hexB r).toNat : Int)) w := by
  rw [run_index_string w 9 strconv_FormatInt.hexDigits .u64 _ Tryd.underlying9, dif_pos ⟨by omega, by rw [show strconv_FormatInt.hexDigits.size = 36 from rfl]; omega⟩]
  have e : ((r : Int)).toNat = r := by omega
  simp only [e]
  rw [strconv_FormatInt.hexDigits_at r h]
def strconv_FormatInt.HexInv (n j : Nat) (C : Array Value) : Prop := C.size = 65 ∧ (∀ t, t < j → C[64 - t]? = some (.int .u8 ((hexB (n / 16 ^ t % 16)).toNat : Int))) ∧ (16 ^ j ≤ n ∨ j = 0)
theorem strconv_FormatInt.hexLow_of (n j : Nat) (hn : n < 65536) (hj : j ≤ 3) (h0 : 16 ^ j ≤ n ∨ j = 0) (h1 : n / 16 ^ j < 16) : (List.range (j + 1)).map (fun t => hexB (n / 16 ^ (j - t) % 16)) = hexLow n := by
  unfold hexLow
  have h4 : j = 0 ∨ j = 1 ∨ j = 2 ∨ j = 3 := by omega
  rcases h4 with rfl | rfl | rfl | rfl
  · rw [if_pos (by omega)]
    simp [List.range_succ_eq_map]
    congr 1
    omega
  · rw [if_neg (by omega), if_pos (by omega)]
    simp [List.range_succ_eq_map]
    congr 1
    omega
  · rw [if_neg (by omega), if_neg (by omega), if_pos (by omega)]
    simp [List.range_succ_eq_map]
    congr 1
    omega
  · rw [if_neg (by omega), if_neg (by omega), if_neg (by omega)]
    simp [List.range_succ_eq_map]
    congr 1
    omega
theorem strconv_FormatInt.add_plain_at (g q i : Nat) : (⟨g, q, none⟩ : Addr).add i = ⟨g, q + i, none⟩ := by unfold Addr.add; split <;> simp_all
theorem strconv_FormatInt.below_own {w wr : World} {g : Nat} {v : Value} (h : Below w.heap.size w wr) (hg : w.heap.size ≤ g) (q : Nat) : Below w.heap.size w (wr.setCell ⟨g, q, none⟩ v) := h.setCell hg _
set_option maxRecDepth 100000 in
theorem strconv_FormatInt.hexSlice (g q : Nat) (hq : q ≤ 64) (hq0 : 0 < q) (W : World) : (Instr.sliceAt 174 (.pointer (some ⟨g, 0, none⟩)) (some (.int .i64 (q : Int))) none none).run Tryd.prog W = .ok (.slice (some ⟨g, q, none⟩) (65 - q) (65 - q)) W := by
  rw [run_sliceAt_array_l W 174 ⟨g, 0, none⟩ (by kernel_rfl) .i64 q (by omega) (by rw [show Tryd.prog.arrayLen 174 = 65 by kernel_rfl]; omega), show Tryd.prog.arrayLen 174 = 65 by kernel_rfl, show Tryd.prog.elem 174 = 5 by kernel_rfl]
  have hs : (sizeOf 5).run Tryd.prog W = .ok 1 W := by go_simp
  rw [hs]
  simp only [Result.andThen, slicedAt, Int.toNat_natCast]
  rw [if_neg (by omega), add_plain, Nat.mul_one]
set_option maxRecDepth 100000 in
set_option maxHeartbeats 4000000 in
theorem strconv_FormatInt.fb (n : Nat) (hn : n < 65536) (w : World) (hG : GW w) : Calls Tryd.prog 161 #[.slice none 0 0, .int .u64 n, .int .i64 16, .bool false, .bool false] w fun e w' => e = .returned (.tuple #[.slice none 0 0, .string ⟨(hexLow n).toArray⟩]) ∧ Below w.heap.size w w' := by
  have HG := Aside0.mk hG
  clear hG
  have HN := Aside0.mk hn
  clear hn
  go_enter Tryd.func161, Tryd.ntmps161
  go_wp2_with (first | (go_at_call 182; refine (strconv_FormatInt.pow2 _).mono ?_; rintro e w' ⟨rfl, ⟨m, rfl⟩⟩) | (go_at_call 183; refine (strconv_FormatInt.tz _ ?_).mono ?_; (exact HG.out.alloc _ |>.drewN _); rintro e w' ⟨rfl, ⟨m2, rfl⟩⟩))
  go_loopg [1, 13] 4 (fun gg s1 s13 wr => ∃ (j q : Nat) (C : Array Value), j ≤ 3 ∧ 4 - j ≤ gg ∧ s1 = .int .u64 ((n / 16 ^ j : Nat) : Int) ∧ s13 = .int .i64 ((q : Int) + 1) ∧ Aside0 (q + 1 + j = 65) ∧ Aside0 (strconv_FormatInt.HexInv n j C) ∧ Aside0 (wr.heap[w.heap.size]? = some (.cells C 174 (0, 0))) ∧ Aside0 (Below w.heap.size w wr))
  case atStart =>
    refine ⟨0, 64, Tryd.zeroCells174, by omega, by omega, by simp, rfl, ⟨rfl⟩, ⟨⟨by decide +kernel, fun t ht => by omega, .inr rfl⟩⟩, ⟨?_⟩, ⟨pw_below_drewN (below_alloc (Below.refl _ _) _) _⟩⟩
    show (w.heap.push _)[w.heap.size]? = _
    rw [Array.getElem?_push_size]
  case round =>
    obtain ⟨j, q, C, hj, hg, rfl, rfl, HQ, HI, HC, HB⟩ := hrel
    rename_i wr_
    rename World => wr
    have hq : (q : Int) < 65 := by have := HQ.out; omega
    obtain ⟨v, hv⟩ : ∃ v, v = n / 16 ^ j := ⟨_, rfl⟩
    have hcq : ∃ c0, C[q]? = some c0 := ⟨C[q]'(by rw [HI.out.1]; omega), Array.getElem?_eq_getElem _⟩
    obtain ⟨c0, hc0⟩ := hcq
    have hcell : wr.cell? ⟨w.heap.size, q, none⟩ = some c0 := by
      simp only [World.cell?, HC.out]
      exact hc0
    have hfro : wr.frozen? ⟨w.heap.size, q, none⟩ = false := by
      simp [World.frozen?, HC.out]
    have hr : bits BinOp.and IntKind.u64 (v : Int) 15 = ((v % 16 : Nat) : Int) := by
      have hb : v < 65536 := by rw [hv]; exact Nat.lt_of_le_of_lt (Nat.div_le_self _ _) HN.out
      have h := bits_mask .u64 64 (by decide) (fun n h0 h1 => by rw [IntKind.wrap_u64]; omega) 4 (by decide) (v : Int) (by omega) (by omega)
      rw [show (2 : Int) ^ 4 - 1 = 15 from rfl, show (2 : Int) ^ 4 = 16 from rfl] at h
      rw [h]
      omega
    have hX : ∀ w, (Instr.index 9 (.string ⟨#[48, 49, 50, 51, 52, 53, 54, 55, 56, 57, 97, 98, 99, 100, 101, 102, 103, 104, 105, 106, 107, 108, 109, 110, 111, 112, 113, 114, 115, 116, 117, 118, 119, 120, 121, 122]⟩) (.int .u64 ((v % 16 : Nat) : Int))).run Tryd.prog w = .ok (.int .u8 ((hexB (v % 16)).toNat : Int)) w := strconv_FormatInt.hex_at (v % 16) (by omega)
    rw [← hv]
    have hd : (hexB (v % 16)).toNat = (hexB (n / 16 ^ j % 16)).toNat := by rw [hv]
    have HV := Aside0.mk hv
    have HD := Aside0.mk hd
    clear hv hd hc0
    have hput : (wr.setCell ⟨w.heap.size, q, none⟩ (.int .u8 ((hexB (v % 16)).toNat : Int))).heap[w.heap.size]? = some (.cells (C.setIfInBounds q (.int .u8 ((hexB (v % 16)).toNat : Int))) 174 (0, 0)) := by
      exact heap_setCell_same _ _ _ _ _ _ HC.out
    have HP := Aside0.mk hput
    clear hput
    by_cases h16 : (16 : Int) ≤ (v : Int)
    · generalize hrr : v % 16 = r at hr hX HP HD
      have HRR := Aside0.mk hrr
      clear hrr
      go_wp2
      go_roundg (4 - (j + 1))
      case measure => omega
      case rel =>
        have hv16 : 16 ≤ n / 16 ^ j := by rw [← HV.out]; omega
        have hpow : 16 ^ (j + 1) ≤ n := by
          rw [Nat.pow_succ, Nat.mul_comm]
          exact (Nat.le_div_iff_mul_le (Nat.pow_pos (by decide))).1 hv16
        have hj3 : j + 1 ≤ 3 := by
          rcases Nat.lt_or_ge j 3 with h | h
          · exact h
          · have : j = 3 := by omega
            subst this
            have := HN.out
            omega
        refine ⟨j + 1, q - 1, _, hj3, by omega, ?_, ?_, ⟨by have := HQ.out; omega⟩, ⟨?_⟩, ⟨HP.out⟩, ⟨by repeat (first | exact strconv_FormatInt.below_own HB.out (Nat.le_refl _) _ | apply pw_below_drewN | apply below_drew)⟩⟩
        · show Value.int IntKind.u64 _ = _
          congr 1
          rw [HV.out, Nat.pow_succ, ← Nat.div_div_eq_div_mul]
          omega
        · show Value.int IntKind.i64 _ = _
          congr 1
          have := HQ.out
          omega
        · refine ⟨by rw [Array.size_setIfInBounds]; exact HI.out.1, fun t ht => ?_, .inl hpow⟩
          have hq' := HQ.out
          by_cases e : t = j
          · subst e
            rw [show 64 - t = q by omega, Array.getElem?_setIfInBounds_self_of_lt (by rw [HI.out.1]; omega), HD.out]
          · rw [Array.getElem?_setIfInBounds_ne (by omega)]
            exact HI.out.2.1 t (by omega)
    · have h15 : v < 16 := by omega
      have hX2 : ∀ w, (Instr.index 9 (.string ⟨#[48, 49, 50, 51, 52, 53, 54, 55, 56, 57, 97, 98, 99, 100, 101, 102, 103, 104, 105, 106, 107, 108, 109, 110, 111, 112, 113, 114, 115, 116, 117, 118, 119, 120, 121, 122]⟩) (.int .u64 (v:Int))).run Tryd.prog w = .ok (.int .u8 ((hexB v).toNat : Int)) w := strconv_FormatInt.hex_at v h15
      rw [Nat.mod_eq_of_lt h15] at HP HD
      clear hX hr
      have hSl := strconv_FormatInt.hexSlice w.heap.size q (by have := HQ.out; omega) (by have := HQ.out; omega)
      have hback := run_convert_bytes_back (P := Tryd.prog) (wr.setCell ⟨w.heap.size, q, none⟩ (.int .u8 ((hexB v).toNat : Int))) 93 9 5 ⟨w.heap.size, q, none⟩ (65 - q) ((List.range (j + 1)).map (fun t => hexB (n / 16 ^ (j - t) % 16))) Tryd.underlying93 Tryd.underlying5 Tryd.underlying9 (fun i hi => by
        have hi' : i < j + 1 := by simpa using hi
        have hq' := HQ.out
        rw [strconv_FormatInt.add_plain_at]
        simp only [World.cell?, HP.out]
        by_cases e : i = 0
        · subst e
          rw [Nat.add_zero, Array.getElem?_setIfInBounds_self_of_lt (by rw [HI.out.1]; omega)]
          simp only [List.getElem_map, List.getElem_range, Nat.sub_zero]
          rw [HD.out]
          rfl
        · rw [Array.getElem?_setIfInBounds_ne (by omega), show q + i = 64 - (j - i) by omega, HI.out.2.1 (j - i) (by omega)]
          simp only [List.getElem_map, List.getElem_range]
          rfl)
      rw [show ((List.range (j + 1)).map (fun t => hexB (n / 16 ^ (j - t) % 16))).length = 65 - q by rw [List.length_map, List.length_range]; have := HQ.out; omega, strconv_FormatInt.hexLow_of n j HN.out hj HI.out.2.2 (by rw [← HV.out]; exact h15)] at hback
      clear h15
      go_wp2
      go_ret2
      exact ⟨rfl, by repeat (first | exact strconv_FormatInt.below_own HB.out (Nat.le_refl _) _ | apply pw_below_drewN | apply below_drew)⟩
set_option maxRecDepth 100000 in
set_option maxHeartbeats 4000000 in
theorem strconv_FormatInt.fi (n : Nat) (hn : n < 65536) (w : World) (hG : GW w) : Calls Tryd.prog 132 #[.int .i64 n, .int .i64 16] w fun e w' => e = .returned (.string ⟨(hexLow n).toArray⟩) ∧ Below w.heap.size w w' := by
  have HG := Aside0.mk hG
  clear hG
  have HN := Aside0.mk hn
  have hw : IntKind.u64.wrap (n : Int) = (n : Int) := by rw [IntKind.wrap_u64]; omega
  have hneg : ¬ ((n : Int) < 0) := by omega
  clear hn
  go_enter Tryd.func132, Tryd.ntmps132
  go_wp2_with (go_at_call 161; refine (strconv_FormatInt.fb n HN.out _ ?_).mono ?_; (repeat (first | exact HG.out | apply GW.drewN | apply GW.drew)); rintro e w' ⟨rfl, hb⟩)
  go_ret
  exact ⟨rfl, by repeat (first | exact below_step (by repeat (first | exact Below.refl _ _ | apply pw_below_drewN | apply below_drew)) hb | exact hb | apply pw_below_drewN | apply below_drew)⟩
set_option maxRecDepth 100000 in
theorem strconv_FormatInt.hex (n : Nat) (hn : n < 65536) (w : World) (hG : GW w) :
    Calls Tryd.prog 94 #[.int .i64 n, .int .i64 16] w fun e w' => e = .returned (.string ⟨(hexLow n).toArray⟩) ∧ Below w.heap.size w w' := by
  have HG := Aside0.mk hG
  clear hG
  have HN := Aside0.mk hn
  clear hn
  go_enter Tryd.func94, Tryd.ntmps94
  go_wp2_with (go_at_call 132; refine (strconv_FormatInt.fi n HN.out _ ?_).mono ?_; (repeat (first | exact HG.out | apply GW.drewN | apply GW.drew)); rintro e w' ⟨rfl, hb⟩)
  go_ret
  exact ⟨rfl, by repeat (first | exact below_step (by repeat (first | exact Below.refl _ _ | apply pw_below_drewN | apply below_drew)) hb | exact hb | apply pw_below_drewN | apply below_drew)⟩
theorem strconv_FormatInt.calls (a0 a1 : Int) (r : ByteArray) (w : World) (hG : GW w) (h : strconv_FormatInt.f a0 a1 = some r) :
 Calls Tryd.prog 94 #[.int .i64 a0, .int .i64 a1] w fun e w' => e = .returned (.string r) ∧ Below w.heap.size w w' := by
 unfold strconv_FormatInt.f at h
 by_cases h0 : a1 = 10
 ·by_cases h1 : -9223372036854775808 ≤ a0
  ·by_cases h2 : a0 ≤ 9223372036854775807
   ·rw [if_pos h0, if_pos h1, if_pos h2] at h
    obtain rfl := Option.some.inj h
    subst h0
    refine (Tryd.strconv_FormatInt_10 a0 h1 h2 w hG.pow10).mono ?_
    rintro e w' ⟨rfl, k, os, rfl⟩
    exact ⟨rfl, below_grow w k os⟩
   ·rw [if_pos h0, if_pos h1, if_neg h2] at h
    cases h
  ·rw [if_pos h0, if_neg h1] at h
   cases h
 ·by_cases h3 : a1 = 16
  ·by_cases h1 : 0 ≤ a0
   ·by_cases h2 : a0 < 65536
    ·rw [if_neg h0, if_pos h3, if_pos h1, if_pos h2] at h
     obtain rfl := Option.some.inj h
     subst h3
     obtain ⟨n, rfl⟩ : ∃ n : Nat, a0 = (n : Int) := ⟨a0.toNat, by omega⟩
     exact strconv_FormatInt.hex n (by omega) w hG
    ·rw [if_neg h0, if_pos h3, if_pos h1, if_neg h2] at h
     cases h
   ·rw [if_neg h0, if_pos h3, if_neg h1] at h
    cases h
  ·rw [if_neg h0, if_neg h3] at h
   cases h

/-! ### strings_Repeat: function 95 -/
def strings_Repeat.f (a0 : ByteArray) (a1 : Int) : Option ByteArray := if 0 ≤ a1 then (if a1 ≤ 9223372036854775807 then (if a0.size * a1.toNat ≤ 140737488355328 then some ⟨(Go.Lib.repeatL a0.data.toList a1.toNat).toArray⟩ else none) else none) else none
theorem strings_Repeat.calls (a0 : ByteArray) (a1 : Int) (r : ByteArray) (w : World) (h : strings_Repeat.f a0 a1 = some r) :
 Calls Tryd.prog 95 #[.string a0, .int .i64 a1] w fun e w' => e = .returned (.string r) ∧ Below w.heap.size w w' := by
 unfold strings_Repeat.f at h
 split at h
 ·split at h
  ·split at h
   ·obtain rfl := Option.some.inj h
    obtain ⟨c, rfl⟩ : ∃ c : Nat, a1 = (c : Int) := ⟨a1.toNat, by omega⟩
    exact Tryd.strings_Repeat a0 c w (by omega) (by simpa using ‹a0.size * (c : Int).toNat ≤ 140737488355328›)
   ·cases h
  ·cases h
 ·cases h

/-! ### impl_hexDigits: function 49 -/
def impl_hexDigits.f (a0 : Int) (a1 : Int) : Option (ByteArray) := (strconv_FormatInt.f a0 16).bind fun t149 => ((strings_ToUpper.f t149).bind fun t150 => ((strings_Repeat.f (⟨#[48]⟩ : ByteArray) (mx 0 (wrap64 (a1 - (t150.size : Int))))).bind fun t151 => (if t151.size + t150.size ≤ 9223372036854775807 then (some (t151 ++ t150)) else (none))))
set_option maxHeartbeats 8000000 in
set_option maxRecDepth 100000 in
theorem impl_hexDigits.calls (a0 : Int) (a1 : Int) (r : ByteArray) (w : World) (hG : GW w) (h : impl_hexDigits.f a0 a1 = some r) :
 Calls Tryd.prog 49 #[.int .i64 a0, .int .i64 a1] w fun e w' => e = .returned (.string r) ∧ Below w.heap.size w w' := by
 have HB := Aside0.mk (Below.refl w.heap.size w)
 have HG := Aside0.mk hG
 clear hG
 have H : ((strconv_FormatInt.f a0 16).bind fun t149 => ((strings_ToUpper.f t149).bind fun t150 => ((strings_Repeat.f (⟨#[48]⟩ : ByteArray) (mx 0 (wrap64 (a1 - (t150.size : Int))))).bind fun t151 => (if t151.size + t150.size ≤ 9223372036854775807 then (some (t151 ++ t150)) else (none))))) = some r := h
 clear h
 obtain ⟨t149, A30, H⟩ := Option.bind_eq_some_iff.mp H
 have A3 := Aside0.mk A30
 clear A30
 obtain ⟨t150, A40, H⟩ := Option.bind_eq_some_iff.mp H
 have A4 := Aside0.mk A40
 clear A40
 obtain ⟨ji5, hji5⟩ : ∃ j_ : Int, (mx 0 (wrap64 (a1 - (t150.size : Int)))) = j_ := ⟨_, rfl⟩
 replace H : ((strings_Repeat.f (⟨#[48]⟩ : ByteArray) (ji5)).bind fun t151 => (if t151.size + t150.size ≤ 9223372036854775807 then (some (t151 ++ t150)) else (none))) = some r := by first | (rw [hji5] at H; exact H) | (simp only [hji5] at H ⊢; exact H)
 (try rw [hji5] at A3)
 (try rw [hji5] at A4)
 (try (have hji5l : 0 ≤ ji5 := by (rw [← hji5]; unfold mx; (repeat' split) <;> omega)))
 (try (have hji5m : 0 ≤ ji5 := by omega))
 have hji5_ : (if 0 < (wrap64 (a1 - (t150.size : Int))) then (wrap64 (a1 - (t150.size : Int))) else 0) = ji5 := hji5
 obtain ⟨t151, A60, H⟩ := Option.bind_eq_some_iff.mp H
 have A6 := Aside0.mk A60
 clear A60
 by_cases c7 : t151.size + t150.size ≤ 9223372036854775807
 ·rw [if_pos c7] at H
  have c7b0 := eq_true c7
  have c7b1 : decide (t151.size + t150.size ≤ 9223372036854775807) = true := decide_eq_true c7
  try have c7b2 : (9223372036854775807 < t151.size + t150.size) = False := eq_false (Nat.not_lt.2 c7)
  obtain rfl := Option.some.inj H
  go_enter Tryd.func49, Tryd.ntmps49
  go_wp2_with (first | ((with_reducible refine gate_callee (f := 94) rfl ?_); refine zc (some 7) Tryd.func94 #[.int .i64 a0, .int .i64 16] ?_; (with_reducible refine (strconv_FormatInt.calls a0 16 t149 _ ?side1 A3.out).mono ?_); (case side1 => exact GW.below HG.out (zb _)); rintro e w8 ⟨rfl, hb⟩; refine ⟨_, rfl, ?_⟩; replace HB := zt w hb; (try clear hb); (try clear hb2); (try clear hk); (try clear hi)) | ((with_reducible refine gate_callee (f := 93) rfl ?_); refine zc (some 8) Tryd.func93 #[.string t149] ?_; (with_reducible refine (strings_ToUpper.calls t149 t150 _ A4.out).mono ?_); rintro e w9 ⟨rfl, hb⟩; refine ⟨_, rfl, ?_⟩; replace HB := zt w hb; (try clear hb); (try clear hb2); (try clear hk); (try clear hi)) | ((with_reducible refine gate_callee (f := 95) rfl ?_); refine zc (some 14) Tryd.func95 #[.string (⟨#[48]⟩ : ByteArray), .int .i64 ji5] ?_ (hargs := by (try simp only [List.map_toArray, List.map_cons, List.map_nil]); first | done | (simp only [hji5]; rfl) | rfl | (simp only [List.length_drop, List.length_take]; rfl)); (with_reducible refine (strings_Repeat.calls (⟨#[48]⟩ : ByteArray) ji5 t151 _ A6.out).mono ?_); rintro e w10 ⟨rfl, hb⟩; refine ⟨_, rfl, ?_⟩; replace HB := zt w hb; (try clear hb); (try clear hb2); (try clear hk); (try clear hi)))
  first | go_ret | ((try simp only [Exit.inBlock, Exit.then]); apply bodyPost_ret; (exact results_tmp rfl _ _ _); rfl)
  exact ⟨by first | rfl | (simp [errW_none, errW_some] <;> rfl) | (simp only [← hji5]; first | rfl | (simp [errW_none, errW_some] <;> rfl)) | (simp [*, errW_none, errW_some] <;> rfl), zb _⟩
 ·rw [if_neg c7] at H
  exact absurd H (by simp)

-- NOT PRINTED: function 166 (abi_NoEscape)

-- NOT PRINTED: function 136 (strings_Builder_copyCheck)

-- NOT PRINTED: function 98 (strings_Builder_WriteString)

/-! ### strings_Join: function 123 -/
def strings_Join.f (l0 : List ByteArray) (a1 : ByteArray) : Option ByteArray := if l0.length ≤ 140737488355328 then (if (Go.Lib.join (l0.map (·.data.toList)) a1.data.toList).length ≤ 140737488355328 then some ⟨(Go.Lib.join (l0.map (·.data.toList)) a1.data.toList).toArray⟩ else none) else none
theorem strings_Join.plain {w : World} {ad : Addr} {v : Value} (h : w.cell? ad = some v) : ad = ⟨ad.block, ad.off, none⟩ ∧ ad.block < w.heap.size := by
  unfold World.cell? at h
  split at h
  · rename_i hb
    obtain ⟨b, o, s⟩ := ad
    cases s with
    | none =>
      refine ⟨rfl, ?_⟩
      rcases Nat.lt_or_ge b w.heap.size with hlt | hge
      · exact hlt
      · rw [Array.getElem?_eq_none hge] at hb
        cases hb
    | some q => simp at h
  · cases h
theorem strings_Join.calls (A0 : Option Addr) (c0 : Nat) (l0 : List ByteArray) (a1 : ByteArray) (r : ByteArray) (w : World) (hr0 : Kd.C Kd.string w A0 l0.length l0) (hc0 : l0.length ≤ c0) (h : strings_Join.f l0 a1 = some r) :
 Calls Tryd.prog 123 #[.slice A0 l0.length c0, .string a1] w fun e w' => e = .returned (.string r) ∧ Below w.heap.size w w' := by
 unfold strings_Join.f at h
 by_cases h0 : l0.length ≤ 140737488355328
 ·by_cases h1 : (Go.Lib.join (l0.map (·.data.toList)) a1.data.toList).length ≤ 140737488355328
  ·rw [if_pos h0, if_pos h1] at h
   obtain rfl := Option.some.inj h
   by_cases hz : l0 = []
   ·subst hz
    refine (Tryd.strings_Join_none A0 c0 a1 w).mono ?_
    rintro e w' ⟨rfl, rfl⟩
    exact ⟨rfl, Below.refl _ _⟩
   ·have hlen : 0 < l0.length := List.length_pos_iff.2 hz
    obtain ⟨ad, rfl, hcell⟩ := hr0.2.2 hlen
    have hcells : ∀ (j : Nat) x, l0[j]? = some x → w.cell? (ad.add j) = some (.string x) := by
     intro j x hj
     obtain ⟨c, _, hc, hu⟩ := hcell j x hj
     have hc' : c = [Value.string x] := hc
     have := hu 0 (.string x) (by rw [hc']; rfl)
     rw [show (Kd.string).sz = 1 from rfl, Nat.mul_one, Nat.add_zero] at this
     exact this
    have hz0 := hcells 0 (l0[0]) (List.getElem?_eq_getElem hlen)
    have hz1 : w.cell? ad = some (.string (l0[0])) := by simpa [Addr.add] using hz0
    obtain ⟨had, hblk⟩ := strings_Join.plain hz1
    have hcells' : ∀ (j : Nat) x, l0[j]? = some x → w.cell? ⟨ad.block, ad.off + j, none⟩ = some (.string x) := by
     intro j x hj
     have := hcells j x hj
     unfold Addr.add at this
     split at this
     ·rename_i hj0
      subst hj0
      rw [had] at this
      exact this
     ·exact this
    rw [had]
    exact Tryd.strings_Join ad.block ad.off c0 l0 a1 w hcells' hblk h0 hc0 h1
  ·rw [if_pos h0, if_neg h1] at h
   cases h
 ·rw [if_neg h0] at h
  cases h

/-! ### impl_spaced: function 99 -/
def impl_spaced.f (l0 : List ByteArray) : Option (ByteArray) := (strings_Join.f l0 (⟨#[32]⟩ : ByteArray)).bind fun t152 => (if t152.size + 1 ≤ 9223372036854775807 then (some (t152 ++ (⟨#[10]⟩ : ByteArray))) else (none))
set_option maxHeartbeats 8000000 in
set_option maxRecDepth 100000 in
theorem impl_spaced.calls (A0 : Option Addr) (c0 : Nat) (l0 : List ByteArray) (r : ByteArray) (w : World) (hr0 : Kd.C Kd.string w A0 l0.length l0) (hc0 : l0.length ≤ c0) (h : impl_spaced.f l0 = some r) :
 Calls Tryd.prog 99 #[.slice A0 l0.length c0] w fun e w' => e = .returned (.string r) ∧ Below w.heap.size w w' := by
 have HR0 := Aside0.mk hr0
 have HC0 := Aside0.mk hc0
 clear hr0 hc0
 have HB := Aside0.mk (Below.refl w.heap.size w)
 have H : ((strings_Join.f l0 (⟨#[32]⟩ : ByteArray)).bind fun t152 => (if t152.size + 1 ≤ 9223372036854775807 then (some (t152 ++ (⟨#[10]⟩ : ByteArray))) else (none))) = some r := h
 clear h
 obtain ⟨t152, A20, H⟩ := Option.bind_eq_some_iff.mp H
 have A2 := Aside0.mk A20
 clear A20
 by_cases c3 : t152.size + 1 ≤ 9223372036854775807
 ·rw [if_pos c3] at H
  have c3b0 := eq_true c3
  have c3b1 : decide (t152.size + 1 ≤ 9223372036854775807) = true := decide_eq_true c3
  try have c3b2 : (9223372036854775807 < t152.size + 1) = False := eq_false (Nat.not_lt.2 c3)
  obtain rfl := Option.some.inj H
  go_enter Tryd.func99, Tryd.ntmps99
  go_wp2_with (first | ((with_reducible refine gate_callee (f := 123) rfl ?_); refine zc (some 4) Tryd.func123 #[.slice A0 l0.length c0, .string (⟨#[32]⟩ : ByteArray)] ?_; (with_reducible refine (strings_Join.calls _ _ l0 (⟨#[32]⟩ : ByteArray) t152 _ ?side1 ?side2 A2.out).mono ?_); (case side1 => repeat (first | exact HR0.out | (with_reducible refine Kd.C_alloc ?_ _) | (with_reducible refine Kd.C_drewN ?_ _) | (with_reducible refine Kd.C_drew ?_))); (case side2 => exact HC0.out); rintro e w4 ⟨rfl, hb⟩; refine ⟨_, rfl, ?_⟩; replace HB := zt w hb; (try clear hb); (try clear hb2); (try clear hk); (try clear hi)))
  first | go_ret | ((try simp only [Exit.inBlock, Exit.then]); apply bodyPost_ret; (exact results_tmp rfl _ _ _); rfl)
  exact ⟨ze _, zb _⟩
 ·rw [if_neg c3] at H
  exact absurd H (by simp)

-- NOT PRINTED: function 100 (strings_Builder_String)

/-! ### impl_symText: function 56 -/
theorem impl_symText.bld {T e B b : Nat} {bs : List Value} {W W' : World} (h : Go.Lib.IsBuilder T e B b bs W) (hb : Below W.heap.size W W') : Go.Lib.IsBuilder T e B b bs W' := by
  have at_ : ∀ p, Go.Lib.BuilderAt T e B b p bs W → Go.Lib.BuilderAt T e B b p bs W' := by
    rintro p ⟨h1, v, h2, h3, h4⟩
    have hlt : b < W.heap.size := (Array.getElem?_eq_some_iff.1 h2).1
    exact ⟨h1, v, (hb.block b hlt).trans h2, own_move h3 (fun k hk => hb.block k (own_lt h3 k hk)), h4⟩
  exact h.elim (fun x => .inl (at_ _ x)) (fun x => .inr (at_ _ x))
theorem impl_symText.row2 {e g : Nat} {W : World} {s u : ByteArray} (h : W.heap[g]? = some (.cells #[.string s, .string u] e (0, 0))) : Kd.C Kd.string W (some ⟨g, 0, none⟩) ([s, u] : List ByteArray).length [s, u] := by
  refine ⟨rfl, by show 2 ≤ _; omega, fun _ => ⟨_, rfl, fun j p hj => ⟨[.string p], rfl, rfl, fun i v hv => ?_⟩⟩⟩
  have hi : i = 0 := by
    rcases i with _ | i
    · rfl
    · simp at hv
  subst hi
  obtain rfl : Value.string p = v := by simpa using hv
  rcases j with _ | _ | j
  · obtain rfl : s = p := by simpa using hj
    exact (blk_cell h 0).trans rfl
  · obtain rfl : u = p := by simpa using hj
    exact (blk_cell h 1).trans rfl
  · simp at hj
theorem impl_symText.write (B b : Nat) (acc t : ByteArray) (w : World) (h : Go.Lib.IsBuilder 108 5 B b (Go.Lib.byteCells acc.data.toList) w) (hlen : acc.size + t.size ≤ 140737488355328) (hBw : B ≤ w.heap.size) :
    Calls Tryd.prog 98 #[.pointer (some ⟨b, 0, none⟩), .string t] w fun e w' => e = .returned (.tuple #[.int .i64 t.size, .nilIface]) ∧ Go.Lib.IsBuilder 108 5 B b (Go.Lib.byteCells (acc ++ t).data.toList) w' ∧ Below B w w' := by
  have hl : (Go.Lib.byteCells acc.data.toList).length = acc.size := by
    rw [Go.Lib.byteCells_length, Array.length_toList]
    rfl
  have hc : Go.Lib.byteCells acc.data.toList ++ Go.Lib.strCells t = Go.Lib.byteCells (acc ++ t).data.toList := by
    rw [Go.Lib.strCells_eq, ← Go.Lib.byteCells_append, ByteArray.data_append, Array.toList_append]
  have hw := Any.Builder_WriteString (ρ := Tryd.lays156_ren) { Tryd.lays156 with } Tryd.Builder_Extra_156 B b (Go.Lib.byteCells acc.data.toList) t w h (by rw [hl]; exact hlen) hBw
  refine hw.mono ?_
  rintro e w' ⟨rfl, hb, hB⟩
  rw [hc] at hb
  exact ⟨rfl, .inr hb, hB⟩
theorem impl_symText.spacedC {e : Nat} (g : Nat) (s u t : ByteArray) (w : World) (h : w.heap[g]? = some (.cells #[.string s, .string u] e (0, 0))) (ht : impl_spaced.f [s, u] = some t) :
    Calls Tryd.prog 99 #[.slice (some ⟨g, 0, none⟩) 2 2] w fun e w' => e = .returned (.string t) ∧ Below w.heap.size w w' :=
  impl_spaced.calls (some ⟨g, 0, none⟩) 2 [s, u] t w (impl_symText.row2 h) (Nat.le_refl _) ht
/-- The text of a symbol. -/
def impl_symText.row (y : S61) : Option ByteArray := (impl_hexDigits.f y.f1 2).bind fun h2 => (impl_hexDigits.f y.f2 4).bind fun h4 => if h2.size ≤ 1000 ∧ h4.size ≤ 1000 then impl_spaced.f [(h2 ++ (⟨#[58]⟩ : ByteArray)) ++ h4, y.f0] else none
def impl_symText.go : List S61 → ByteArray → Option ByteArray
  | [], acc => some acc
  | y :: r, acc => (impl_symText.row y).bind fun t => if acc.size + t.size ≤ 140737488355328 then impl_symText.go r (acc ++ t) else none
def impl_symText.f (l0 : List S61) : Option ByteArray := impl_symText.go l0 (⟨#[]⟩ : ByteArray)
set_option maxHeartbeats 8000000 in
set_option maxRecDepth 100000 in
theorem impl_symText.calls (A0 : Option Addr) (c0 : Nat) (l0 : List S61) (r : ByteArray) (w : World) (hr0 : Kd.C k61 w A0 l0.length l0) (hc0 : l0.length ≤ c0) (hG : GW w) (h : impl_symText.f l0 = some r) :
 Calls Tryd.prog 56 #[.slice A0 l0.length c0] w fun e w' => e = .returned (.string r) ∧ Below w.heap.size w w' := by
 have hbig : l0.length ≤ 9223372036854775807 := hr0.2.1
 have HR0 := Aside0.mk hr0
 have HC0 := Aside0.mk hc0
 have HG := Aside0.mk hG
 have HF := Aside0.mk (show impl_symText.go l0 (⟨#[]⟩ : ByteArray) = some r from h)
 clear hr0 hc0 hG h
 go_enter Tryd.func56, Tryd.ntmps56
 go_wp2
 have hfr : Go.Lib.IsBuilder 108 5 w.heap.size w.heap.size (Go.Lib.byteCells (⟨#[]⟩ : ByteArray).data.toList) (w.alloc (.cells #[.pointer none, .slice none 0 0] 108)) := Go.Lib.fresh_isBuilder _ _ w
 have HFR := Aside0.mk hfr
 clear hfr
 go_loopg [8] l0.length (fun gg s8 wr => ∃ (kk : Nat) (acc : ByteArray), kk ≤ l0.length ∧ l0.length - kk ≤ gg ∧ s8 = .int .i64 kk ∧ Aside0 (Below w.heap.size w wr) ∧ Aside0 (Go.Lib.IsBuilder 108 5 w.heap.size w.heap.size (Go.Lib.byteCells acc.data.toList) wr) ∧ Aside0 (impl_symText.go (l0.drop kk) acc = some r))
 case atStart => exact ⟨0, ⟨#[]⟩, Nat.zero_le _, by omega, rfl, ⟨by repeat (first | exact Below.refl _ _ | apply below_alloc | apply pw_below_drewN | apply below_drew)⟩, HFR, HF⟩
 case round =>
  clear HF HFR
  obtain ⟨kk, acc, hkk, hg, rfl, HB, HBL, HA⟩ := hrel
  by_cases hlt : kk < l0.length
  ·have hltz : (kk : Int) < (l0.length : Int) := by omega
   obtain ⟨ad, rfl, hcell, hcell1, hcell2⟩ := at_T61 HR0.out (kk : Int) (by omega) (by omega)
   have hd : l0.drop kk = rd_T61 l0 kk :: l0.drop (kk + 1) := by
    rw [List.drop_eq_getElem_cons hlt, rd_T61, Int.toNat_natCast, List.getD_eq_getElem?_getD, List.getElem?_eq_getElem hlt]
    rfl
   have HA1 := HA.out
   rw [hd, impl_symText.go] at HA1
   rw [Int.toNat_natCast] at hcell hcell1 hcell2
   replace hcell := pw_cell_below HB.out hcell
   replace hcell1 := pw_cell_below HB.out hcell1
   replace hcell2 := pw_cell_below HB.out hcell2
   generalize rd_T61 l0 kk = y at hcell hcell1 hcell2 HA1
   obtain ⟨t, ht, HA2⟩ := Option.bind_eq_some_iff.1 HA1
   unfold impl_symText.row at ht
   obtain ⟨h2, e2, ht⟩ := Option.bind_eq_some_iff.1 ht
   obtain ⟨h4, e4, ht⟩ := Option.bind_eq_some_iff.1 ht
   by_cases hz : h2.size ≤ 1000 ∧ h4.size ≤ 1000
   ·by_cases hs : acc.size + t.size ≤ 140737488355328
    ·rw [if_pos hz] at ht
     rw [if_pos hs] at HA2
     have E2 := Aside0.mk e2
     have E4 := Aside0.mk e4
     have ET := Aside0.mk ht
     have HA3 := Aside0.mk HA2
     have ZS := Aside0.mk hs
     obtain ⟨hz2, hz4⟩ := hz
     clear hd HA HA1 HA2 e2 e4 ht hs
     go_wp2
     have BK := Aside0.mk (blk_new wr (.cells #[.string y.f0, .int .i64 y.f1, .int .i64 y.f2] 61))
     have HBn := Aside0.mk (below_alloc HB.out (.cells #[.string y.f0, .int .i64 y.f1, .int .i64 y.f2] 61))
     have HBLn := Aside0.mk (impl_symText.bld HBL.out (below_alloc (Below.refl _ _) (.cells #[.string y.f0, .int .i64 y.f1, .int .i64 y.f2] 61)))
     clear HB HBL hcell hcell1 hcell2
     have HB := HBn
     have HBL := HBLn
     clear HBn HBLn
     generalize wr.alloc (.cells #[.string y.f0, .int .i64 y.f1, .int .i64 y.f2] 61) = w1 at BK HB HBL ⊢
     generalize wr.heap.size = gs at BK ⊢
     have c0_ := (blk_cell BK.out 0).trans rfl
     have c1_ := (blk_cell BK.out 1).trans rfl
     have c2_ := (blk_cell BK.out 2).trans rfl
     go_wp2
     go_region_with (first | (go_at_call 49; first | ((with_reducible refine (impl_hexDigits.calls y.f1 2 h2 _ ?hg E2.out).mono ?_); (case hg => exact GW.below HG.out (by repeat (first | exact HB.out | apply below_alloc | apply pw_below_drewN | apply below_drew1))); rintro e w' ⟨rfl, hb⟩; have HBn := Aside0.mk (below_step (by repeat (first | exact HB.out | apply below_alloc | apply pw_below_drewN | apply below_drew1)) hb); have BKn := Aside0.mk (blk_below (g := gs) (o := .cells #[.string y.f0, .int .i64 y.f1, .int .i64 y.f2] 61 (0, 0)) (by (with_reducible repeat (first | refine blk_drewN ?_ _ | refine blk_drew ?_ | refine blk_alloc ?_ _)); exact BK.out) hb); have HBLn := Aside0.mk (impl_symText.bld HBL.out (below_step (by repeat (first | exact Below.refl _ _ | apply below_alloc | apply pw_below_drewN | apply below_drew)) hb)); clear HB BK HBL hb; have HB := HBn; have BK := BKn; have HBL := HBLn; clear HBn BKn HBLn; have c0_ := (blk_cell BK.out 0).trans rfl; have c1_ := (blk_cell BK.out 1).trans rfl; have c2_ := (blk_cell BK.out 2).trans rfl) | ((with_reducible refine (impl_hexDigits.calls y.f2 4 h4 _ ?hg E4.out).mono ?_); (case hg => exact GW.below HG.out (by repeat (first | exact HB.out | apply below_alloc | apply pw_below_drewN | apply below_drew1))); rintro e w' ⟨rfl, hb⟩; have HBn := Aside0.mk (below_step (by repeat (first | exact HB.out | apply below_alloc | apply pw_below_drewN | apply below_drew1)) hb); have BKn := Aside0.mk (blk_below (g := gs) (o := .cells #[.string y.f0, .int .i64 y.f1, .int .i64 y.f2] 61 (0, 0)) (by (with_reducible repeat (first | refine blk_drewN ?_ _ | refine blk_drew ?_ | refine blk_alloc ?_ _)); exact BK.out) hb); have HBLn := Aside0.mk (impl_symText.bld HBL.out (below_step (by repeat (first | exact Below.refl _ _ | apply below_alloc | apply pw_below_drewN | apply below_drew)) hb)); clear HB BK HBL hb; have HB := HBn; have BK := BKn; have HBL := HBLn; clear HBn BKn HBLn; have c0_ := (blk_cell BK.out 0).trans rfl; have c1_ := (blk_cell BK.out 1).trans rfl; have c2_ := (blk_cell BK.out 2).trans rfl)) | (go_at_call 99; ((with_reducible refine (impl_symText.spacedC (e := 9) _ ((h2 ++ (⟨#[58]⟩ : ByteArray)) ++ h4) y.f0 t _ ?hr ET.out).mono ?_); (case hr => exact blk_new _ _); rintro e w' ⟨rfl, hb⟩; have HBn := Aside0.mk (below_step (by repeat (first | exact HB.out | apply below_alloc | apply pw_below_drewN | apply below_drew1)) hb); have BKn := Aside0.mk (blk_below (g := gs) (o := .cells #[.string y.f0, .int .i64 y.f1, .int .i64 y.f2] 61 (0, 0)) (by (with_reducible repeat (first | refine blk_drewN ?_ _ | refine blk_drew ?_ | refine blk_alloc ?_ _)); exact BK.out) hb); have HBLn := Aside0.mk (impl_symText.bld HBL.out (below_step (by repeat (first | exact Below.refl _ _ | apply below_alloc | apply pw_below_drewN | apply below_drew)) hb)); clear HB BK HBL hb; have HB := HBn; have BK := BKn; have HBL := HBLn; clear HBn BKn HBLn; have c0_ := (blk_cell BK.out 0).trans rfl; have c1_ := (blk_cell BK.out 1).trans rfl; have c2_ := (blk_cell BK.out 2).trans rfl)) | (go_at_call 98; ((with_reducible refine (impl_symText.write w.heap.size w.heap.size acc t _ ?hb ?hl ?hw).mono ?_); (case hb => exact impl_symText.bld HBL.out (by repeat (first | exact Below.refl _ _ | apply below_alloc | apply pw_below_drewN | apply below_drew))); (case hl => exact ZS.out); (case hw => exact below_size (by repeat (first | exact HB.out | apply below_alloc | apply pw_below_drewN | apply below_drew1))); rintro e w' ⟨rfl, hbl, hb⟩; have HBn := Aside0.mk (Below.trans (by repeat (first | exact HB.out | apply below_alloc | apply pw_below_drewN | apply below_drew1)) hb); clear HB BK HBL hb; have HB := HBn; have HBL := Aside0.mk hbl; clear HBn hbl)))
     all_goals (go_wp2; go_roundg (l0.length - (kk + 1)); (case measure => omega); (case rel => exact ⟨kk + 1, acc ++ t, by omega, by omega, by go_num, ⟨by repeat (first | exact HB.out | apply below_alloc | apply pw_below_drewN | apply below_drew1)⟩, ⟨impl_symText.bld HBL.out (by repeat (first | exact Below.refl _ _ | apply below_alloc | apply pw_below_drewN | apply below_drew))⟩, HA3⟩))
    ·rw [if_neg hs] at HA2
     cases HA2
   ·rw [if_neg hz] at ht
    cases ht
  ·have hltz : ¬ (kk : Int) < (l0.length : Int) := by omega
   have hr_ : acc = r := by
    have := HA.out
    rw [List.drop_eq_nil_of_le (by omega), impl_symText.go] at this
    exact Option.some.inj this
   subst hr_
   clear HA
   go_wp2_with (go_at_call 100; refine (Tryd.Builder_String_any w.heap.size w.heap.size acc.data.toList _ ?hb ?hw).mono ?_; (case hb => exact impl_symText.bld HBL.out (by repeat (first | exact Below.refl _ _ | apply below_alloc | apply pw_below_drewN | apply below_drew))); (case hw => exact below_size (by repeat (first | exact HB.out | apply below_alloc | apply pw_below_drewN | apply below_drew1))); rintro e w' ⟨rfl, hb⟩)
   (first | go_ret | (apply bodyPost_ret; (exact results_tmp rfl _ _ _); rfl))
   exact ⟨rfl, Below.trans (by repeat (first | exact HB.out | apply below_alloc | apply pw_below_drewN | apply below_drew1)) hb⟩

/-! ### strings_Split: function 67 -/
def strings_Split.f (a0 a1 : ByteArray) : Option (List ByteArray) := if a0.size < 4294967281 then (if 1 ≤ a1.size then some (Go.Lib.splitB a1 0 (Go.Lib.countB a0 a1) a0) else none) else none
open Go.Proofs.YtmiebnpmckjidaaDoor.Aid in
theorem strings_Split.calls (a0 a1 : ByteArray) (r : List ByteArray) (w : World) (hG : GW w) (h : strings_Split.f a0 a1 = some r) :
 Calls Tryd.prog 67 #[.string a0, .string a1] w fun e w' => ∃ v0_ : Value, e = .returned (v0_) ∧ Kd.R Kd.string 9 w' w.heap.size (fun _ => True) v0_ r ∧ Below w.heap.size w w' := by
 unfold strings_Split.f at h
 by_cases h0 : a0.size < 4294967281
 ·by_cases h1 : 1 ≤ a1.size
  ·rw [if_pos h0, if_pos h1] at h
   obtain rfl := Option.some.inj h
   obtain ⟨m, hm⟩ := hG.maxlen
   refine (Tryd.strings_Split a0 a1 m w h0 hm h1).mono ?_
   rintro e w' ⟨rfl, rfl⟩
   have hlen := Go.Lib.splitB_all a1 h1 0 _ a0 rfl
   have hle := Go.Lib.countB_le a1 h1 a0.size a0 (Nat.le_refl _)
   refine ⟨_, rfl, ?_, below_alloc (Below.refl _ _) _⟩
   have := R_of_cells (e := 9) (base := w.heap.size) (g := w.heap.size) (cap := Go.Lib.countB a0 a1 + 1) (W := w.alloc (.cells ((Go.Lib.splitB a1 0 (Go.Lib.countB a0 a1) a0).map Value.string).toArray 9)) (ok := fun _ => True) (cur := ((Go.Lib.splitB a1 0 (Go.Lib.countB a0 a1) a0).map Value.string).toArray) (Go.Lib.splitB a1 0 (Go.Lib.countB a0 a1) a0) (Nat.le_refl _) trivial (by show (w.heap.push _)[w.heap.size]? = _; rw [Array.getElem?_push_size]) (by omega) (by unfold maxLen; omega) (by simp [hlen]) (by rw [List.take_of_length_le (by simp)])
   rw [hlen] at this
   exact this
  ·rw [if_pos h0, if_neg h1] at h
   cases h
 ·rw [if_neg h0] at h
  cases h

/-! ### stringslite_HasPrefix: function 140 -/
def stringslite_HasPrefix.f (a0 : ByteArray) (a1 : ByteArray) : Option (Bool) := if (a0.size : Int) ≥ (a1.size : Int) then (if 0 ≤ (a1.size : Int) then (if (a1.size : Int) ≤ (a0.size : Int) then (some ((a0.extract 0 ((a1.size : Int) : Int).toNat).toList == a1.toList)) else (none)) else (none)) else (some false)
set_option maxHeartbeats 8000000 in
set_option maxRecDepth 100000 in
theorem stringslite_HasPrefix.calls (a0 : ByteArray) (a1 : ByteArray) (r : Bool) (w : World) (h : stringslite_HasPrefix.f a0 a1 = some r) :
 Calls Tryd.prog 140 #[.string a0, .string a1] w fun e w' => e = .returned (.bool r) ∧ Drawn0 w w' := by
 have H : (if (a0.size : Int) ≥ (a1.size : Int) then (if 0 ≤ (a1.size : Int) then (if (a1.size : Int) ≤ (a0.size : Int) then (some ((a0.extract 0 ((a1.size : Int) : Int).toNat).toList == a1.toList)) else (none)) else (none)) else (some false)) = some r := h
 clear h
 by_cases c3 : (a0.size : Int) ≥ (a1.size : Int)
 ·rw [if_pos c3] at H
  have c3b0 : decide ((a1.size : Int) ≤ (a0.size : Int)) = true := decide_eq_true c3
  have c3b1 : decide (a1.size ≤ a0.size) = true := decide_eq_true (Int.ofNat_le.mp c3)
  clear c3
  by_cases c4 : 0 ≤ (a1.size : Int)
  ·rw [if_pos c4] at H
   have c4b0 := eq_true c4
   have c4b1 : decide (0 ≤ (a1.size : Int)) = true := decide_eq_true c4
   clear c4
   by_cases c5 : (a1.size : Int) ≤ (a0.size : Int)
   ·rw [if_pos c5] at H
    have c5b0 := eq_true c5
    have c5b1 : decide ((a1.size : Int) ≤ (a0.size : Int)) = true := decide_eq_true c5
    clear c5
    obtain rfl := Option.some.inj H
    go_enter Tryd.func140, Tryd.ntmps140
    go_wp2
    first | go_ret | ((try simp only [Exit.inBlock, Exit.then]); apply bodyPost_ret; (exact results_tmp rfl _ _ _); rfl)
    exact ⟨zE _, zd _⟩
   ·rw [if_neg c5] at H
    exact absurd H (by simp)
  ·rw [if_neg c4] at H
   exact absurd H (by simp)
 ·rw [if_neg c3] at H
  have c3b0 : decide ((a1.size : Int) ≤ (a0.size : Int)) = false := decide_eq_false c3
  have c3b1 : decide (a1.size ≤ a0.size) = false := decide_eq_false (fun h => c3 (Int.ofNat_le.mpr h))
  clear c3
  obtain rfl := Option.some.inj H
  go_enter Tryd.func140, Tryd.ntmps140
  go_wp2
  first | go_ret | ((try simp only [Exit.inBlock, Exit.then]); apply bodyPost_ret; (exact results_tmp rfl _ _ _); rfl)
  exact ⟨zE _, zd _⟩

/-! ### strings_HasPrefix: function 113 -/
def strings_HasPrefix.f (a0 : ByteArray) (a1 : ByteArray) : Option (Bool) := (stringslite_HasPrefix.f a0 a1).bind fun t153 => (some t153)
set_option maxHeartbeats 8000000 in
set_option maxRecDepth 100000 in
theorem strings_HasPrefix.calls (a0 : ByteArray) (a1 : ByteArray) (r : Bool) (w : World) (h : strings_HasPrefix.f a0 a1 = some r) :
 Calls Tryd.prog 113 #[.string a0, .string a1] w fun e w' => e = .returned (.bool r) ∧ Drawn0 w w' := by
 have H : ((stringslite_HasPrefix.f a0 a1).bind fun t153 => (some t153)) = some r := h
 clear h
 obtain ⟨t153, A30, H⟩ := Option.bind_eq_some_iff.mp H
 have A3 := Aside0.mk A30
 clear A30
 obtain rfl := Option.some.inj H
 go_enter Tryd.func113, Tryd.ntmps113
 go_wp2_with (first | ((with_reducible refine gate_callee (f := 140) rfl ?_); refine zc (some 7) Tryd.func140 #[.string a0, .string a1] ?_; (with_reducible refine (stringslite_HasPrefix.calls a0 a1 t153 _ A3.out).mono ?_); rintro e w' ⟨rfl, ⟨nd, rfl⟩⟩; refine ⟨_, rfl, ?_⟩))
 first | go_ret | ((try simp only [Exit.inBlock, Exit.then]); apply bodyPost_ret; (exact results_tmp rfl _ _ _); rfl)
 exact ⟨zE _, zd _⟩

/-! ### strings_IndexByte: function 141 -/
def strings_IndexByte.f (a0 : ByteArray) (a1 : Int) : Option Int := some (Go.Lib.indexByte a0.data.toList a1.toNat.toUInt8)
theorem strings_IndexByte.calls (a0 : ByteArray) (a1 : Int) (r : Int) (w : World) (h : strings_IndexByte.f a0 a1 = some r) :
 Calls Tryd.prog 141 #[.string a0, .int .u8 a1] w fun e w' => e = .returned (.int .i64 r) ∧ Drawn0 w w' := by
 obtain rfl := Option.some.inj h
 refine (Tryd.strings_IndexByte a0 a1 w).mono ?_
 rintro e w' ⟨rfl, rfl⟩
 exact ⟨rfl, Drawn0.refl _⟩

/-! ### impl_valueOf: function 114 -/
def impl_valueOf.l0 : Nat → ByteArray → ByteArray → Int → Int → Int → Option (Int × Bool)
  | 0, _, _, _, _, _ => none
  | k + 1, x0, x1, x6, x10, x11 => if x11 < x10 then (if 0 ≤ x11 then (if x11 < (x0.size : Int) then ((strings_IndexByte.f x1 (bt x0 x11)).bind fun t154 => (if t154 < 0 then (some (0, false)) else (if x6 > 65535 then (some (0, false)) else (impl_valueOf.l0 k x0 x1 (wrap64 ((wrap64 (x6 * (x1.size : Int))) + t154)) x10 (wrap64 (x11 + 1)))))) else (none)) else (none)) else (if x0.toList = ([] : List UInt8) then (some (x6, false)) else (some (x6, decide (x6 ≤ 65535))))
def impl_valueOf.f (k : Nat) (a0 : ByteArray) (a1 : ByteArray) : Option (Int × Bool) := impl_valueOf.l0 k a0 a1 0 (a0.size : Int) 0
theorem impl_valueOf.mono_l : ∀ k, (∀ y0 y1 y2 y3 y4, LeO (impl_valueOf.l0 k y0 y1 y2 y3 y4) (impl_valueOf.l0 (k + 1) y0 y1 y2 y3 y4))
  | 0 => fun _ _ _ _ _ r h => by simp [impl_valueOf.l0] at h
  | k + 1 => by
    have ih0 := impl_valueOf.mono_l k
    · intro y0 y1 y2 y3 y4
      unfold impl_valueOf.l0
      repeat' first
      | (with_reducible exact ih0 _ _ _ _ _)
      | (with_reducible exact LeO.refl _)
      | (with_reducible exact LeO.none _)
      | (with_reducible refine LeO.ite ?_ ?_)
      | (with_reducible refine LeO.bind ?_ (fun _ => ?_))
      | exact ih0 _ _ _ _ _
      | exact LeO.none _
      | refine LeO.ite ?_ ?_
      | refine LeO.bind ?_ (fun _ => ?_)
theorem impl_valueOf.mono : ∀ a0 a1 k, LeO (impl_valueOf.f k a0 a1) (impl_valueOf.f (k + 1) a0 a1) := by
  intro a0 a1 k
  have ih0 := impl_valueOf.mono_l k
  unfold impl_valueOf.f
  repeat' first
      | (with_reducible exact ih0 _ _ _ _ _)
      | (with_reducible exact LeO.refl _)
      | (with_reducible exact LeO.none _)
      | (with_reducible refine LeO.ite ?_ ?_)
      | (with_reducible refine LeO.bind ?_ (fun _ => ?_))
      | exact ih0 _ _ _ _ _
      | exact LeO.none _
      | refine LeO.ite ?_ ?_
      | refine LeO.bind ?_ (fun _ => ?_)
set_option maxHeartbeats 8000000 in
set_option maxRecDepth 100000 in
theorem impl_valueOf.calls (k : Nat) (a0 : ByteArray) (a1 : ByteArray) (r1 : Int) (r2 : Bool) (w : World) (h : impl_valueOf.f k a0 a1 = some (r1, r2)) :
 Calls Tryd.prog 114 #[.string a0, .string a1] w fun e w' => e = .returned (.tuple #[.int .i64 r1, .bool r2]) ∧ Drawn0 w w' := by
 have H : (impl_valueOf.l0 k a0 a1 0 (a0.size : Int) 0) = some (r1, r2) := h
 clear h
 have H' := Aside0.mk H
 clear H
 go_enter Tryd.func114, Tryd.ntmps114
 go_wp2
 go_loopg [6, 11] k (fun kq v6 v11 w' => ∃ (x6_1 : Int) (x11_1 : Int), v6 = .int .i64 x6_1 ∧ v11 = .int .i64 x11_1 ∧ Aside0 (impl_valueOf.l0 kq a0 a1 x6_1 (a0.size : Int) x11_1 = some (r1, r2)) ∧ Aside0 (kq ≤ k) ∧ Drawn0 w w')
 case atStart => exact ⟨(0), (0), (zE _), (zE _), H', ⟨Nat.le_refl _⟩, zd _⟩
 case round =>
  clear H'
  try clear c1
  try clear p2
  obtain ⟨x6_1, x11_1, rfl, rfl, HA, HK1, ⟨m1, rfl⟩⟩ := hrel
  cases gk with
  | zero => exact absurd HA.out (by simp [impl_valueOf.l0])
  | succ k1 =>
   have H := HA.out
   clear HA
   simp only [impl_valueOf.l0] at H
   by_cases c3 : x11_1 < (a0.size : Int)
   ·rw [if_pos c3] at H
    have c3b0 : decide (x11_1 < (a0.size : Int)) = true := decide_eq_true c3
    clear c3
    by_cases c4 : 0 ≤ x11_1
    ·rw [if_pos c4] at H
     have c4b0 : decide (0 ≤ x11_1) = true := decide_eq_true c4
     clear c4
     by_cases c5 : x11_1 < (a0.size : Int)
     ·rw [if_pos c5] at H
      have c5b0 : decide (x11_1 < (a0.size : Int)) = true := decide_eq_true c5
      clear c5
      obtain ⟨t154, A70, H⟩ := Option.bind_eq_some_iff.mp H
      have A7 := Aside0.mk A70
      clear A70
      by_cases c8 : t154 < 0
      ·rw [if_pos c8] at H
       have c8b0 : decide (t154 < 0) = true := decide_eq_true c8
       clear c8
       simp only [Option.some.injEq, Prod.mk.injEq] at H
       obtain ⟨rfl, rfl⟩ := H
       have p6 : 0 ≤ (x11_1 : Int) := of_decide_eq_true (za _)
       have q6 : x11_1 < (a0.size : Int) := of_decide_eq_true (za _)
       have hx6 := bt_at a0 x11_1
       replace p6 := eq_true p6
       replace q6 := eq_true q6
       go_wp2_with (first | ((with_reducible refine gate_callee (f := 141) rfl ?_); refine zc (some 18) Tryd.func141 #[.string a1, .int .u8 (bt a0 x11_1)] ?_; (with_reducible refine (strings_IndexByte.calls a1 (bt a0 x11_1) t154 _ A7.out).mono ?_); rintro e w' ⟨rfl, ⟨nd, rfl⟩⟩; refine ⟨_, rfl, ?_⟩))
       go_ret2
       exact ⟨zE _, zd _⟩
      ·rw [if_neg c8] at H
       have c8b0 : decide (t154 < 0) = false := decide_eq_false c8
       clear c8
       by_cases c9 : x6_1 > 65535
       ·rw [if_pos c9] at H
        have c9b0 : decide (65535 < x6_1) = true := decide_eq_true c9
        clear c9
        simp only [Option.some.injEq, Prod.mk.injEq] at H
        obtain ⟨rfl, rfl⟩ := H
        have p6 : 0 ≤ (x11_1 : Int) := of_decide_eq_true (za _)
        have q6 : x11_1 < (a0.size : Int) := of_decide_eq_true (za _)
        have hx6 := bt_at a0 x11_1
        replace p6 := eq_true p6
        replace q6 := eq_true q6
        go_wp2_with (first | ((with_reducible refine gate_callee (f := 141) rfl ?_); refine zc (some 18) Tryd.func141 #[.string a1, .int .u8 (bt a0 x11_1)] ?_; (with_reducible refine (strings_IndexByte.calls a1 (bt a0 x11_1) t154 _ A7.out).mono ?_); rintro e w' ⟨rfl, ⟨nd, rfl⟩⟩; refine ⟨_, rfl, ?_⟩))
        go_ret2
        exact ⟨zE _, zd _⟩
       ·rw [if_neg c9] at H
        have c9b0 : decide (65535 < x6_1) = false := decide_eq_false c9
        clear c9
        have H' := Aside0.mk H
        clear H
        have p6 : 0 ≤ (x11_1 : Int) := of_decide_eq_true (za _)
        have q6 : x11_1 < (a0.size : Int) := of_decide_eq_true (za _)
        have hx6 := bt_at a0 x11_1
        replace p6 := eq_true p6
        replace q6 := eq_true q6
        go_wp2_with (first | ((with_reducible refine gate_callee (f := 141) rfl ?_); refine zc (some 18) Tryd.func141 #[.string a1, .int .u8 (bt a0 x11_1)] ?_; (with_reducible refine (strings_IndexByte.calls a1 (bt a0 x11_1) t154 _ A7.out).mono ?_); rintro e w' ⟨rfl, ⟨nd, rfl⟩⟩; refine ⟨_, rfl, ?_⟩))
        go_roundg k1
        case measure => have := HK1.out; omega
        case rel => exact ⟨(wrap64 ((wrap64 (x6_1 * (a1.size : Int))) + t154)), (wrap64 (x11_1 + 1)), (zE _), (zE _), H', ⟨by have := HK1.out; omega⟩, zd _⟩
     ·rw [if_neg c5] at H
      exact absurd H (by simp)
    ·rw [if_neg c4] at H
     exact absurd H (by simp)
   ·rw [if_neg c3] at H
    have c3b0 : decide (x11_1 < (a0.size : Int)) = false := decide_eq_false c3
    clear c3
    by_cases c10 : a0.toList = ([] : List UInt8)
    ·rw [if_pos c10] at H
     have c10b0 : (a0.toList == ([] : List UInt8)) = true := beq_iff_eq.mpr c10
     have c10b1 : (a0.toList != ([] : List UInt8)) = false := bne_eq_false_iff_eq.mpr c10
     clear c10
     simp only [Option.some.injEq, Prod.mk.injEq] at H
     obtain ⟨rfl, rfl⟩ := H
     go_wp2
     go_ret2
     exact ⟨zE _, zd _⟩
    ·rw [if_neg c10] at H
     have c10b0 : (a0.toList == ([] : List UInt8)) = false := beq_eq_false_iff_ne.mpr c10
     have c10b1 : (a0.toList != ([] : List UInt8)) = true := bne_iff_ne.mpr c10
     simp only [Option.some.injEq, Prod.mk.injEq] at H
     obtain ⟨rfl, rfl⟩ := H
     go_wp2
     go_ret2
     exact ⟨zE _, zd _⟩

/-! ### impl_ReadNum: function 68 -/
def impl_ReadNum.f (k : Nat) (a0 : ByteArray) : Option (Int × Bool) := if (a0.size : Int) > 18 then (some (0, false)) else ((strings_HasPrefix.f a0 (⟨#[36]⟩ : ByteArray)).bind fun t155 => (if t155 = true then (if 1 ≤ (a0.size : Int) then ((impl_valueOf.f k (a0.extract 1 a0.size) (⟨#[48, 49, 50, 51, 52, 53, 54, 55, 56, 57, 65, 66, 67, 68, 69, 70]⟩ : ByteArray)).bind fun bt156 => (if bt156.2 = true then (some (bt156.1, true)) else (some (0, false)))) else (none)) else ((strings_HasPrefix.f a0 (⟨#[37]⟩ : ByteArray)).bind fun t158 => (if t158 = true then (if 1 ≤ (a0.size : Int) then ((impl_valueOf.f k (a0.extract 1 a0.size) (⟨#[48, 49]⟩ : ByteArray)).bind fun bt159 => (if bt159.2 = true then (some (bt159.1, true)) else (some (0, false)))) else (none)) else ((impl_valueOf.f k a0 (⟨#[48, 49, 50, 51, 52, 53, 54, 55, 56, 57]⟩ : ByteArray)).bind fun bt161 => (if bt161.2 = true then (some (bt161.1, true)) else (some (0, false))))))))
theorem impl_ReadNum.mono : ∀ a0 k, LeO (impl_ReadNum.f k a0) (impl_ReadNum.f (k + 1) a0) := by
  intro a0 k
  unfold impl_ReadNum.f
  repeat' first
      | (with_reducible exact impl_valueOf.mono _ _ _)
      | (with_reducible exact LeO.refl _)
      | (with_reducible exact LeO.none _)
      | (with_reducible refine LeO.ite ?_ ?_)
      | (with_reducible refine LeO.bind ?_ (fun _ => ?_))
      | exact impl_valueOf.mono _ _ _
      | exact LeO.none _
      | refine LeO.ite ?_ ?_
      | refine LeO.bind ?_ (fun _ => ?_)
set_option maxHeartbeats 8000000 in
set_option maxRecDepth 100000 in
theorem impl_ReadNum.calls (k : Nat) (a0 : ByteArray) (r1 : Int) (r2 : Bool) (w : World) (h : impl_ReadNum.f k a0 = some (r1, r2)) :
 Calls Tryd.prog 68 #[.string a0] w fun e w' => e = .returned (.tuple #[.int .i64 r1, .bool r2]) ∧ Drawn0 w w' := by
 have H : (if (a0.size : Int) > 18 then (some (0, false)) else ((strings_HasPrefix.f a0 (⟨#[36]⟩ : ByteArray)).bind fun t155 => (if t155 = true then (if 1 ≤ (a0.size : Int) then ((impl_valueOf.f k (a0.extract 1 a0.size) (⟨#[48, 49, 50, 51, 52, 53, 54, 55, 56, 57, 65, 66, 67, 68, 69, 70]⟩ : ByteArray)).bind fun bt156 => (if bt156.2 = true then (some (bt156.1, true)) else (some (0, false)))) else (none)) else ((strings_HasPrefix.f a0 (⟨#[37]⟩ : ByteArray)).bind fun t158 => (if t158 = true then (if 1 ≤ (a0.size : Int) then ((impl_valueOf.f k (a0.extract 1 a0.size) (⟨#[48, 49]⟩ : ByteArray)).bind fun bt159 => (if bt159.2 = true then (some (bt159.1, true)) else (some (0, false)))) else (none)) else ((impl_valueOf.f k a0 (⟨#[48, 49, 50, 51, 52, 53, 54, 55, 56, 57]⟩ : ByteArray)).bind fun bt161 => (if bt161.2 = true then (some (bt161.1, true)) else (some (0, false))))))))) = some (r1, r2) := h
 clear h
 by_cases c2 : (a0.size : Int) > 18
 ·rw [if_pos c2] at H
  have c2b0 : decide (18 < (a0.size : Int)) = true := decide_eq_true c2
  have c2b1 : decide (18 < a0.size) = true := decide_eq_true (by omega)
  clear c2
  simp only [Option.some.injEq, Prod.mk.injEq] at H
  obtain ⟨rfl, rfl⟩ := H
  go_enter Tryd.func68, Tryd.ntmps68
  go_wp2
  go_ret2
  exact ⟨zE _, zd _⟩
 ·rw [if_neg c2] at H
  have c2b0 : decide (18 < (a0.size : Int)) = false := decide_eq_false c2
  have c2b1 : decide (18 < a0.size) = false := decide_eq_false (by omega)
  clear c2
  obtain ⟨t155, A30, H⟩ := Option.bind_eq_some_iff.mp H
  have A3 := Aside0.mk A30
  clear A30
  by_cases c4 : t155 = true
  ·subst c4
   rw [if_pos rfl] at H
   by_cases c5 : 1 ≤ (a0.size : Int)
   ·rw [if_pos c5] at H
    have c5b0 := eq_true c5
    have c5b1 : decide (1 ≤ (a0.size : Int)) = true := decide_eq_true c5
    clear c5
    replace H := Option.bind_eq_some_iff.mp H
    obtain ⟨⟨t156, t157⟩, A60, H⟩ := H
    replace H : (if t157 = true then (some (t156, true)) else (some (0, false))) = some (r1, r2) := H
    have A6 := Aside0.mk A60
    clear A60
    by_cases c7 : t157 = true
    ·subst c7
     rw [if_pos rfl] at H
     simp only [Option.some.injEq, Prod.mk.injEq] at H
     obtain ⟨rfl, rfl⟩ := H
     go_enter Tryd.func68, Tryd.ntmps68
     go_wp2_with (first | ((with_reducible refine gate_callee (f := 113) rfl ?_); refine zc (some 17) Tryd.func113 #[.string a0, .string (⟨#[36]⟩ : ByteArray)] ?_; (with_reducible refine (strings_HasPrefix.calls a0 (⟨#[36]⟩ : ByteArray) true _ A3.out).mono ?_); rintro e w' ⟨rfl, ⟨nd, rfl⟩⟩; refine ⟨_, rfl, ?_⟩) | ((with_reducible refine gate_callee (f := 114) rfl ?_); refine zc (some 21) Tryd.func114 #[.string (a0.extract 1 a0.size), .string (⟨#[48, 49, 50, 51, 52, 53, 54, 55, 56, 57, 65, 66, 67, 68, 69, 70]⟩ : ByteArray)] ?_; (with_reducible refine (impl_valueOf.calls k (a0.extract 1 a0.size) (⟨#[48, 49, 50, 51, 52, 53, 54, 55, 56, 57, 65, 66, 67, 68, 69, 70]⟩ : ByteArray) t156 true _ A6.out).mono ?_); rintro e w' ⟨rfl, ⟨nd, rfl⟩⟩; refine ⟨_, rfl, ?_⟩))
     go_ret2
     exact ⟨zE _, zd _⟩
    ·replace c7 := Bool.eq_false_iff.mpr c7
     subst c7
     rw [if_neg (show ¬ (false = true) by decide)] at H
     simp only [Option.some.injEq, Prod.mk.injEq] at H
     obtain ⟨rfl, rfl⟩ := H
     go_enter Tryd.func68, Tryd.ntmps68
     go_wp2_with (first | ((with_reducible refine gate_callee (f := 113) rfl ?_); refine zc (some 17) Tryd.func113 #[.string a0, .string (⟨#[36]⟩ : ByteArray)] ?_; (with_reducible refine (strings_HasPrefix.calls a0 (⟨#[36]⟩ : ByteArray) true _ A3.out).mono ?_); rintro e w' ⟨rfl, ⟨nd, rfl⟩⟩; refine ⟨_, rfl, ?_⟩) | ((with_reducible refine gate_callee (f := 114) rfl ?_); refine zc (some 21) Tryd.func114 #[.string (a0.extract 1 a0.size), .string (⟨#[48, 49, 50, 51, 52, 53, 54, 55, 56, 57, 65, 66, 67, 68, 69, 70]⟩ : ByteArray)] ?_; (with_reducible refine (impl_valueOf.calls k (a0.extract 1 a0.size) (⟨#[48, 49, 50, 51, 52, 53, 54, 55, 56, 57, 65, 66, 67, 68, 69, 70]⟩ : ByteArray) t156 false _ A6.out).mono ?_); rintro e w' ⟨rfl, ⟨nd, rfl⟩⟩; refine ⟨_, rfl, ?_⟩))
     go_ret2
     exact ⟨zE _, zd _⟩
   ·rw [if_neg c5] at H
    exact absurd H (by simp)
  ·replace c4 := Bool.eq_false_iff.mpr c4
   subst c4
   rw [if_neg (show ¬ (false = true) by decide)] at H
   obtain ⟨t158, A80, H⟩ := Option.bind_eq_some_iff.mp H
   have A8 := Aside0.mk A80
   clear A80
   by_cases c9 : t158 = true
   ·subst c9
    rw [if_pos rfl] at H
    by_cases c10 : 1 ≤ (a0.size : Int)
    ·rw [if_pos c10] at H
     have c10b0 := eq_true c10
     have c10b1 : decide (1 ≤ (a0.size : Int)) = true := decide_eq_true c10
     clear c10
     replace H := Option.bind_eq_some_iff.mp H
     obtain ⟨⟨t159, t160⟩, A110, H⟩ := H
     replace H : (if t160 = true then (some (t159, true)) else (some (0, false))) = some (r1, r2) := H
     have A11 := Aside0.mk A110
     clear A110
     by_cases c12 : t160 = true
     ·subst c12
      rw [if_pos rfl] at H
      simp only [Option.some.injEq, Prod.mk.injEq] at H
      obtain ⟨rfl, rfl⟩ := H
      go_enter Tryd.func68, Tryd.ntmps68
      go_wp2_with (first | ((with_reducible refine gate_callee (f := 113) rfl ?_); refine zc (some 17) Tryd.func113 #[.string a0, .string (⟨#[36]⟩ : ByteArray)] ?_; (with_reducible refine (strings_HasPrefix.calls a0 (⟨#[36]⟩ : ByteArray) false _ A3.out).mono ?_); rintro e w' ⟨rfl, ⟨nd, rfl⟩⟩; refine ⟨_, rfl, ?_⟩) | ((with_reducible refine gate_callee (f := 113) rfl ?_); refine zc (some 26) Tryd.func113 #[.string a0, .string (⟨#[37]⟩ : ByteArray)] ?_; (with_reducible refine (strings_HasPrefix.calls a0 (⟨#[37]⟩ : ByteArray) true _ A8.out).mono ?_); rintro e w' ⟨rfl, ⟨nd, rfl⟩⟩; refine ⟨_, rfl, ?_⟩) | ((with_reducible refine gate_callee (f := 114) rfl ?_); refine zc (some 30) Tryd.func114 #[.string (a0.extract 1 a0.size), .string (⟨#[48, 49]⟩ : ByteArray)] ?_; (with_reducible refine (impl_valueOf.calls k (a0.extract 1 a0.size) (⟨#[48, 49]⟩ : ByteArray) t159 true _ A11.out).mono ?_); rintro e w' ⟨rfl, ⟨nd, rfl⟩⟩; refine ⟨_, rfl, ?_⟩))
      go_ret2
      exact ⟨zE _, zd _⟩
     ·replace c12 := Bool.eq_false_iff.mpr c12
      subst c12
      rw [if_neg (show ¬ (false = true) by decide)] at H
      simp only [Option.some.injEq, Prod.mk.injEq] at H
      obtain ⟨rfl, rfl⟩ := H
      go_enter Tryd.func68, Tryd.ntmps68
      go_wp2_with (first | ((with_reducible refine gate_callee (f := 113) rfl ?_); refine zc (some 17) Tryd.func113 #[.string a0, .string (⟨#[36]⟩ : ByteArray)] ?_; (with_reducible refine (strings_HasPrefix.calls a0 (⟨#[36]⟩ : ByteArray) false _ A3.out).mono ?_); rintro e w' ⟨rfl, ⟨nd, rfl⟩⟩; refine ⟨_, rfl, ?_⟩) | ((with_reducible refine gate_callee (f := 113) rfl ?_); refine zc (some 26) Tryd.func113 #[.string a0, .string (⟨#[37]⟩ : ByteArray)] ?_; (with_reducible refine (strings_HasPrefix.calls a0 (⟨#[37]⟩ : ByteArray) true _ A8.out).mono ?_); rintro e w' ⟨rfl, ⟨nd, rfl⟩⟩; refine ⟨_, rfl, ?_⟩) | ((with_reducible refine gate_callee (f := 114) rfl ?_); refine zc (some 30) Tryd.func114 #[.string (a0.extract 1 a0.size), .string (⟨#[48, 49]⟩ : ByteArray)] ?_; (with_reducible refine (impl_valueOf.calls k (a0.extract 1 a0.size) (⟨#[48, 49]⟩ : ByteArray) t159 false _ A11.out).mono ?_); rintro e w' ⟨rfl, ⟨nd, rfl⟩⟩; refine ⟨_, rfl, ?_⟩))
      go_ret2
      exact ⟨zE _, zd _⟩
    ·rw [if_neg c10] at H
     exact absurd H (by simp)
   ·replace c9 := Bool.eq_false_iff.mpr c9
    subst c9
    rw [if_neg (show ¬ (false = true) by decide)] at H
    replace H := Option.bind_eq_some_iff.mp H
    obtain ⟨⟨t161, t162⟩, A130, H⟩ := H
    replace H : (if t162 = true then (some (t161, true)) else (some (0, false))) = some (r1, r2) := H
    have A13 := Aside0.mk A130
    clear A130
    by_cases c14 : t162 = true
    ·subst c14
     rw [if_pos rfl] at H
     simp only [Option.some.injEq, Prod.mk.injEq] at H
     obtain ⟨rfl, rfl⟩ := H
     go_enter Tryd.func68, Tryd.ntmps68
     go_wp2_with (first | ((with_reducible refine gate_callee (f := 113) rfl ?_); refine zc (some 17) Tryd.func113 #[.string a0, .string (⟨#[36]⟩ : ByteArray)] ?_; (with_reducible refine (strings_HasPrefix.calls a0 (⟨#[36]⟩ : ByteArray) false _ A3.out).mono ?_); rintro e w' ⟨rfl, ⟨nd, rfl⟩⟩; refine ⟨_, rfl, ?_⟩) | ((with_reducible refine gate_callee (f := 113) rfl ?_); refine zc (some 26) Tryd.func113 #[.string a0, .string (⟨#[37]⟩ : ByteArray)] ?_; (with_reducible refine (strings_HasPrefix.calls a0 (⟨#[37]⟩ : ByteArray) false _ A8.out).mono ?_); rintro e w' ⟨rfl, ⟨nd, rfl⟩⟩; refine ⟨_, rfl, ?_⟩) | ((with_reducible refine gate_callee (f := 114) rfl ?_); refine zc (some 8) Tryd.func114 #[.string a0, .string (⟨#[48, 49, 50, 51, 52, 53, 54, 55, 56, 57]⟩ : ByteArray)] ?_; (with_reducible refine (impl_valueOf.calls k a0 (⟨#[48, 49, 50, 51, 52, 53, 54, 55, 56, 57]⟩ : ByteArray) t161 true _ A13.out).mono ?_); rintro e w' ⟨rfl, ⟨nd, rfl⟩⟩; refine ⟨_, rfl, ?_⟩))
     go_ret2
     exact ⟨zE _, zd _⟩
    ·replace c14 := Bool.eq_false_iff.mpr c14
     subst c14
     rw [if_neg (show ¬ (false = true) by decide)] at H
     simp only [Option.some.injEq, Prod.mk.injEq] at H
     obtain ⟨rfl, rfl⟩ := H
     go_enter Tryd.func68, Tryd.ntmps68
     go_wp2_with (first | ((with_reducible refine gate_callee (f := 113) rfl ?_); refine zc (some 17) Tryd.func113 #[.string a0, .string (⟨#[36]⟩ : ByteArray)] ?_; (with_reducible refine (strings_HasPrefix.calls a0 (⟨#[36]⟩ : ByteArray) false _ A3.out).mono ?_); rintro e w' ⟨rfl, ⟨nd, rfl⟩⟩; refine ⟨_, rfl, ?_⟩) | ((with_reducible refine gate_callee (f := 113) rfl ?_); refine zc (some 26) Tryd.func113 #[.string a0, .string (⟨#[37]⟩ : ByteArray)] ?_; (with_reducible refine (strings_HasPrefix.calls a0 (⟨#[37]⟩ : ByteArray) false _ A8.out).mono ?_); rintro e w' ⟨rfl, ⟨nd, rfl⟩⟩; refine ⟨_, rfl, ?_⟩) | ((with_reducible refine gate_callee (f := 114) rfl ?_); refine zc (some 8) Tryd.func114 #[.string a0, .string (⟨#[48, 49, 50, 51, 52, 53, 54, 55, 56, 57]⟩ : ByteArray)] ?_; (with_reducible refine (impl_valueOf.calls k a0 (⟨#[48, 49, 50, 51, 52, 53, 54, 55, 56, 57]⟩ : ByteArray) t161 false _ A13.out).mono ?_); rintro e w' ⟨rfl, ⟨nd, rfl⟩⟩; refine ⟨_, rfl, ?_⟩))
     go_ret2
     exact ⟨zE _, zd _⟩

end Go.Proofs.YtmiebnpmckjidaaDoor.PFnExactReadSyms
