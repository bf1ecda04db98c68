/- What the Go functions that the law FnExactBusWrite reaches compute, function by function, and that Go comes to just that. -/
import Derived.Test.YtmgbdbamfljjnaaPFnExactBusWritex0
import Derived.Test.YtmgbdbamfljjnaaAidZ
namespace Go.Proofs.Ytmgbdbamfljjnaa.PFnExactBusWrite
open Go.RowKit Go.Proofs.Ytmgbdbamfljjnaa.Z Go.Proofs.YtmgbdbamfljjnaaW.PrintWords Go.Proofs.YtmgbdbamfljjnaaW.PrintLast Go.Proofs.YtmgbdbamfljjnaaW.PrintMore
attribute [local go_sem] max2_int min2_int max_two min_two max_three min_three max_four min_four   -- for this text's walks alone
set_option linter.unusedVariables false
set_option linter.unusedSimpArgs false

/-! ### spec_l5Put: function 53 -/
set_option maxRecDepth 100000 in
theorem spec_l5Put.walk (s r : ByteArray) (i : Nat) (v : Int) (cap : Nat) (C : Array Value) (w : World) (hpos : (i : Int) < (s.size : Int)) (hp0 : 0 ≤ (i : Int))
    (hconv : (convert 9 63 (.string s)).run Try.prog w = .ok (.slice (some ⟨w.heap.size, 0, none⟩) s.size cap) (w.drew.alloc (.cells C 5 (C.size, C.size + 1))))
    (c0 : Value) (hc0 : (w.alloc (.cells C 5 (C.size, C.size + 1))).cell? ⟨w.heap.size, i, none⟩ = some c0) (hz0 : (w.alloc (.cells C 5 (C.size, C.size + 1))).frozen? ⟨w.heap.size, i, none⟩ = false)
    (hback : (convert 63 9 (.slice (some ⟨w.heap.size, 0, none⟩) s.size cap)).run Try.prog ((w.alloc (.cells C 5 (C.size, C.size + 1))).setCell ⟨w.heap.size, i, none⟩ (.int .u8 (v % 256))).drew = .ok (.string r) ((w.alloc (.cells C 5 (C.size, C.size + 1))).setCell ⟨w.heap.size, i, none⟩ (.int .u8 (v % 256))).drew) :
    Calls Try.prog 53 #[.string s, .int .i64 i, .int .i64 v] w fun e w' => e = .returned (.string r) ∧ w' = ((w.alloc (.cells C 5 (C.size, C.size + 1))).setCell ⟨w.heap.size, i, none⟩ (.int .u8 (v % 256))).drew := by
  go_enter Try.func53, Try.ntmps53
  go_wp2
  go_ret
  exact ⟨rfl, rfl⟩
def spec_l5Put.f (a0 : ByteArray) (a1 : Int) (a2 : Int) : Option ByteArray := if 0 ≤ a1 then (if a1 < (a0.size : Int) then some ⟨(a0.data.toList.set a1.toNat (UInt8.ofNat (a2 % 256).toNat)).toArray⟩ else none) else none
theorem spec_l5Put.calls (a0 : ByteArray) (a1 : Int) (a2 : Int) (r : ByteArray) (w : World) (h : spec_l5Put.f a0 a1 a2 = some r) :
 Calls Try.prog 53 #[.string a0, .int .i64 a1, .int .i64 a2] w fun e w' => e = .returned (.string r) ∧ Below w.heap.size w w' := by
 unfold spec_l5Put.f at h
 by_cases h0 : 0 ≤ a1
 ·by_cases h1 : a1 < (a0.size : Int)
  ·rw [if_pos h0, if_pos h1] at h
   obtain rfl := Option.some.inj h
   obtain ⟨i, rfl⟩ : ∃ i : Nat, a1 = (i : Int) := ⟨a1.toNat, by omega⟩
   have hconv := run_bytes_of_string (P := Try.prog) w 9 63 5 a0 Try.underlying9 Try.underlying63 Try.underlying5
   generalize grownCap w a0.size 0 5 = cap at hconv
   have hi : i < a0.data.size := by
    have : a0.data.size = a0.size := rfl
    omega
   have hC : ∀ j (hj : j < a0.data.size), (bytesRow a0 cap)[j]? = some (.int .u8 (a0.data[j].toNat : Int)) := fun j hj => bytesRow_at a0 cap j hj
   have hlen : a0.data.size ≤ (bytesRow a0 cap).size := by simp [bytesRow]
   generalize bytesRow a0 cap = C at hconv hC hlen
   have hc0 : (w.alloc (.cells C 5 (C.size, C.size + 1))).cell? ⟨w.heap.size, i, none⟩ = some (.int .u8 (a0.data[i].toNat : Int)) := by rw [World.cell?_alloc_mark, hC i hi]
   have hz0 : (w.alloc (.cells C 5 (C.size, C.size + 1))).frozen? ⟨w.heap.size, i, none⟩ = false := by
    rw [World.frozen?_alloc_mark]
    simp
    omega
   have hsz : (a0.data.toList.set i (UInt8.ofNat (a2 % 256).toNat)).length = a0.size := by
    rw [List.length_set]
    rfl
   have hval : ((UInt8.ofNat (a2 % 256).toNat).toNat : Int) = a2 % 256 := by
    rw [UInt8.toNat_ofNat']
    omega
   have hback := run_convert_bytes_back (P := Try.prog) ((w.alloc (.cells C 5 (C.size, C.size + 1))).setCell ⟨w.heap.size, i, none⟩ (.int .u8 (a2 % 256))).drew 63 9 5 ⟨w.heap.size, 0, none⟩ cap (a0.data.toList.set i (UInt8.ofNat (a2 % 256).toNat)) Try.underlying63 Try.underlying5 Try.underlying9 (fun j hj => by
    show ((w.alloc (.cells C 5 (C.size, C.size + 1))).setCell ⟨w.heap.size, i, none⟩ (.int .u8 (a2 % 256))).cell? ((⟨w.heap.size, 0, none⟩ : Addr).add j) = _
    rw [add_plain]
    have hj' : j < a0.data.size := by simpa using hj
    by_cases e : j = i
    ·subst e
     rw [List.getElem_set_self, hval]
     exact World.cell?_setCell_same _ _ _ hc0
    ·rw [World.cell?_setCell_other _ _ _ _ (by first | (simp; done) | (simp; omega)), World.cell?_alloc_mark, hC j hj', List.getElem_set_ne (by omega)]
     simp)
   rw [hsz] at hback
   refine (spec_l5Put.walk a0 _ i a2 cap C w h1 h0 hconv _ hc0 hz0 hback).mono ?_
   rintro e w' ⟨rfl, rfl⟩
   exact ⟨rfl, (((Below.refl _ _).alloc (Nat.le_refl _) _).setCell (Nat.le_refl _) _).drew⟩
  ·rw [if_pos h0, if_neg h1] at h
   cases h
 ·rw [if_neg h0] at h
  cases h

/-! ### spec_l5RamBank: function 59 -/
def spec_l5RamBank.f (a0_0 : ByteArray) (a0_1 : Int) (a0_2 : Int) (a0_3 : ByteArray) (a0_4 : Int) (a0_5 : Bool) (a0_6 : Int) : Option (Int) := if a0_1 = 1 then (if a0_6 = 0 then (some 0) else (some a0_4)) else (some a0_4)
open Go.Proofs.Ytmgbdbamfljjnaa.Aid in
set_option maxHeartbeats 8000000 in
set_option maxRecDepth 100000 in
theorem spec_l5RamBank.calls (a0_0 : ByteArray) (a0_1 : Int) (a0_2 : Int) (a0_3 : ByteArray) (a0_4 : Int) (a0_5 : Bool) (a0_6 : Int) (r : Int) (w : World) (h : spec_l5RamBank.f a0_0 a0_1 a0_2 a0_3 a0_4 a0_5 a0_6 = some r) :
 Calls Try.prog 59 #[.agg #[.string a0_0, .int .i64 a0_1, .int .i64 a0_2, .string a0_3, .int .i64 a0_4, .bool a0_5, .int .i64 a0_6]] w fun e w' => e = .returned (.int .i64 r) ∧ Below w.heap.size w w' := by
 have hu32 := Try.underlying32
 have HB := Aside0.mk (Below.refl w.heap.size w)
 have H : (if a0_1 = 1 then (if a0_6 = 0 then (some 0) else (some a0_4)) else (some a0_4)) = some r := h
 clear h
 by_cases c2 : a0_1 = 1
 ·rw [if_pos c2] at H
  have c2b0 : (a0_1 == 1) = true := beq_iff_eq.mpr c2
  have c2b1 : (a0_1 != 1) = false := bne_eq_false_iff_eq.mpr c2
  clear c2
  by_cases c3 : a0_6 = 0
  ·rw [if_pos c3] at H
   have c3b0 : (a0_6 == 0) = true := beq_iff_eq.mpr c3
   have c3b1 : (a0_6 != 0) = false := bne_eq_false_iff_eq.mpr c3
   clear c3
   obtain rfl := Option.some.inj H
   go_enter Try.func59, Try.ntmps59
   go_wp2_with (first | ((with_reducible refine gate_dst (N := 1) rfl ?_); refine zbx 1 #[.string a0_0, .int .i64 a0_1, .int .i64 a0_2, .string a0_3, .int .i64 a0_4, .bool a0_5, .int .i64 a0_6] 32 ?_; intro gb175 hg w4 hbox hb; have BK175 := Aside0.mk (hbox); have GW175 := zs w hg; have GE175 := GW175; replace HB := zt w hb; clear hb hbox hg; have hZ5_ := cells_all BK175.out; simp only [allCells, Nat.zero_add, Nat.reduceAdd] at hZ5_; obtain ⟨hcz5_0, hfz5_0, hcz5_1, hfz5_1, hcz5_2, hfz5_2, hcz5_3, hfz5_3, hcz5_4, hfz5_4, hcz5_5, hfz5_5, hcz5_6, hfz5_6, _⟩ := hZ5_))
   go_ret
   exact ⟨ze _, zb _⟩
  ·rw [if_neg c3] at H
   have c3b0 : (a0_6 == 0) = false := beq_eq_false_iff_ne.mpr c3
   have c3b1 : (a0_6 != 0) = true := bne_iff_ne.mpr c3
   obtain rfl := Option.some.inj H
   go_enter Try.func59, Try.ntmps59
   go_wp2_with (first | ((with_reducible refine gate_dst (N := 1) rfl ?_); refine zbx 1 #[.string a0_0, .int .i64 a0_1, .int .i64 a0_2, .string a0_3, .int .i64 a0_4, .bool a0_5, .int .i64 a0_6] 32 ?_; intro gb175 hg w6 hbox hb; have BK175 := Aside0.mk (hbox); have GW175 := zs w hg; have GE175 := GW175; replace HB := zt w hb; clear hb hbox hg; have hZ7_ := cells_all BK175.out; simp only [allCells, Nat.zero_add, Nat.reduceAdd] at hZ7_; obtain ⟨hcz7_0, hfz7_0, hcz7_1, hfz7_1, hcz7_2, hfz7_2, hcz7_3, hfz7_3, hcz7_4, hfz7_4, hcz7_5, hfz7_5, hcz7_6, hfz7_6, _⟩ := hZ7_))
   go_ret
   exact ⟨ze _, zb _⟩
 ·rw [if_neg c2] at H
  have c2b0 : (a0_1 == 1) = false := beq_eq_false_iff_ne.mpr c2
  have c2b1 : (a0_1 != 1) = true := bne_iff_ne.mpr c2
  obtain rfl := Option.some.inj H
  go_enter Try.func59, Try.ntmps59
  go_wp2_with (first | ((with_reducible refine gate_dst (N := 1) rfl ?_); refine zbx 1 #[.string a0_0, .int .i64 a0_1, .int .i64 a0_2, .string a0_3, .int .i64 a0_4, .bool a0_5, .int .i64 a0_6] 32 ?_; intro gb175 hg w8 hbox hb; have BK175 := Aside0.mk (hbox); have GW175 := zs w hg; have GE175 := GW175; replace HB := zt w hb; clear hb hbox hg; have hZ9_ := cells_all BK175.out; simp only [allCells, Nat.zero_add, Nat.reduceAdd] at hZ9_; obtain ⟨hcz9_0, hfz9_0, hcz9_1, hfz9_1, hcz9_2, hfz9_2, hcz9_3, hfz9_3, hcz9_4, hfz9_4, hcz9_5, hfz9_5, hcz9_6, hfz9_6, _⟩ := hZ9_))
  go_ret
  exact ⟨ze _, zb _⟩

end Go.Proofs.Ytmgbdbamfljjnaa.PFnExactBusWrite
