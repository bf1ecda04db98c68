/- What the Go functions that the law FnExactBusWrite reaches compute, function by function, and that Go comes to just that. -/
import Derived.Test.YtmgbdbamfljjnaaPFnExactBusWritex0
import Derived.Test.YtmgbdbamfljjnaaAidZ
import Derived.Test.YtmgbdbamfljjnaaPFnExactBusWritex2
namespace Go.Proofs.Ytmgbdbamfljjnaa.PFnExactBusWrite
open Go.RowKit Go.Proofs.Ytmgbdbamfljjnaa.Z Go.Proofs.YtmgbdbamfljjnaaW.PrintWords Go.Proofs.YtmgbdbamfljjnaaW.PrintLast Go.Proofs.YtmgbdbamfljjnaaW.PrintMore
attribute [local go_sem] max2_int min2_int max_two min_two max_three min_three max_four min_four   -- for this text's walks alone
set_option linter.unusedVariables false
set_option linter.unusedSimpArgs false

/-! ### spec_MachineOk: function 8 -/
mutual
def spec_MachineOk.l0 : Nat → List Int → Int → Int → Int → Int → Int → Int → Int → Int → Int → Int → Int → Bool → Bool → ByteArray → Int → Int → ByteArray → Int → Bool → Int → ByteArray → ByteArray → List Int → Int → Int → Int → Int → Int → Int → Int → Int → Int → Int → Int → Bool → Bool → Option (Bool)
  | 0, _, _, _, _, _, _, _, _, _, _, _, _, _, _, _, _, _, _, _, _, _, _, _, _, _, _, _, _, _, _, _, _, _, _, _, _, _ => none
  | k + 1, x4, x5, x163000, x163001, x163002, x163003, x163004, x163005, x163006, x163007, x163008, x163009, x163010, x163011, x163012, x163013, x163014, x163015, x163016, x163017, x163018, x163019, x163020, x163021, x163022, x164000, x164001, x164002, x164003, x164004, x164005, x164006, x164007, x164008, x164009, x164010, x164011 => if x5 < (x4.length : Int) then (if 0 ≤ x5 then ((spec_l4Byte.f (rd x4 x5)).bind fun t168 => (if t168 = true then (spec_MachineOk.l0 k x4 (wrap64 (x5 + 1)) x163000 x163001 x163002 x163003 x163004 x163005 x163006 x163007 x163008 x163009 x163010 x163011 x163012 x163013 x163014 x163015 x163016 x163017 x163018 x163019 x163020 x163021 x163022 x164000 x164001 x164002 x164003 x164004 x164005 x164006 x164007 x164008 x164009 x164010 x164011) else (some false))) else (none)) else (spec_MachineOk.l1 k 0 x163000 x163001 x163002 x163003 x163004 x163005 x163006 x163007 x163008 x163009 x163010 x163011 x163012 x163013 x163014 x163015 x163016 x163017 x163018 x163019 x163020 x163021 x163022 x164000 x164001 x164002 x164003 x164004 x164005 x164006 x164007 x164008 x164009 x164010 x164011)
def spec_MachineOk.l1 : Nat → Int → Int → Int → Int → Int → Int → Int → Int → Int → Int → Int → Bool → Bool → ByteArray → Int → Int → ByteArray → Int → Bool → Int → ByteArray → ByteArray → List Int → Int → Int → Int → Int → Int → Int → Int → Int → Int → Int → Int → Bool → Bool → Option (Bool)
  | 0, _, _, _, _, _, _, _, _, _, _, _, _, _, _, _, _, _, _, _, _, _, _, _, _, _, _, _, _, _, _, _, _, _, _, _, _ => none
  | k + 1, x6, x163000, x163001, x163002, x163003, x163004, x163005, x163006, x163007, x163008, x163009, x163010, x163011, x163012, x163013, x163014, x163015, x163016, x163017, x163018, x163019, x163020, x163021, x163022, x164000, x164001, x164002, x164003, x164004, x164005, x164006, x164007, x164008, x164009, x164010, x164011 => if x6 < (x163021.length : Int) then (if 0 ≤ x6 then ((spec_l4Byte.f (rd x163021 x6)).bind fun t170 => (if t170 = true then (spec_MachineOk.l1 k (wrap64 (x6 + 1)) x163000 x163001 x163002 x163003 x163004 x163005 x163006 x163007 x163008 x163009 x163010 x163011 x163012 x163013 x163014 x163015 x163016 x163017 x163018 x163019 x163020 x163021 x163022 x164000 x164001 x164002 x164003 x164004 x164005 x164006 x164007 x164008 x164009 x164010 x164011) else (some false))) else (none)) else (if (Int.tmod x164001 16) = 0 then ((spec_l4Word.f x164008).bind fun t171 => (if t171 = true then ((spec_l4Word.f x164009).bind fun t172 => (if t172 = true then ((spec_CartOk.f k x163012 x163013 x163014 x163015 x163016 x163017 x163018).bind fun t173 => (if t173 = true then (if (x163019.size : Int) = 256 then (if (x163020.size : Int) = 127 then (if (x163021.length : Int) ≤ 100 then ((spec_l1In.f x163022 0 1000000000).bind fun t174 => (some t174)) else (some false)) else (some false)) else (some false)) else (some false))) else (some false))) else (some false))) else (some false))
end
def spec_MachineOk.f (k : Nat) (a0_0 : Int) (a0_1 : Int) (a0_2 : Int) (a0_3 : Int) (a0_4 : Int) (a0_5 : Int) (a0_6 : Int) (a0_7 : Int) (a0_8 : Int) (a0_9 : Int) (a0_10 : Bool) (a0_11 : Bool) (a0_12 : ByteArray) (a0_13 : Int) (a0_14 : Int) (a0_15 : ByteArray) (a0_16 : Int) (a0_17 : Bool) (a0_18 : Int) (a0_19 : ByteArray) (a0_20 : ByteArray) (l0_21 : List Int) (a0_22 : Int) : Option (Bool) := spec_MachineOk.l0 k (([a0_0, a0_1, a0_2, a0_3, a0_4, a0_5, a0_6, a0_7] : List Int)) 0 a0_0 a0_1 a0_2 a0_3 a0_4 a0_5 a0_6 a0_7 a0_8 a0_9 a0_10 a0_11 a0_12 a0_13 a0_14 a0_15 a0_16 a0_17 a0_18 a0_19 a0_20 l0_21 a0_22 a0_0 a0_1 a0_2 a0_3 a0_4 a0_5 a0_6 a0_7 a0_8 a0_9 a0_10 a0_11
theorem spec_MachineOk.mono_l : ∀ k, (∀ y0 y1 y2 y3 y4 y5 y6 y7 y8 y9 y10 y11 y12 y13 y14 y15 y16 y17 y18 y19 y20 y21 y22 y23 y24 y25 y26 y27 y28 y29 y30 y31 y32 y33 y34 y35 y36, LeO (spec_MachineOk.l0 k y0 y1 y2 y3 y4 y5 y6 y7 y8 y9 y10 y11 y12 y13 y14 y15 y16 y17 y18 y19 y20 y21 y22 y23 y24 y25 y26 y27 y28 y29 y30 y31 y32 y33 y34 y35 y36) (spec_MachineOk.l0 (k + 1) y0 y1 y2 y3 y4 y5 y6 y7 y8 y9 y10 y11 y12 y13 y14 y15 y16 y17 y18 y19 y20 y21 y22 y23 y24 y25 y26 y27 y28 y29 y30 y31 y32 y33 y34 y35 y36)) ∧ (∀ y0 y1 y2 y3 y4 y5 y6 y7 y8 y9 y10 y11 y12 y13 y14 y15 y16 y17 y18 y19 y20 y21 y22 y23 y24 y25 y26 y27 y28 y29 y30 y31 y32 y33 y34 y35, LeO (spec_MachineOk.l1 k y0 y1 y2 y3 y4 y5 y6 y7 y8 y9 y10 y11 y12 y13 y14 y15 y16 y17 y18 y19 y20 y21 y22 y23 y24 y25 y26 y27 y28 y29 y30 y31 y32 y33 y34 y35) (spec_MachineOk.l1 (k + 1) y0 y1 y2 y3 y4 y5 y6 y7 y8 y9 y10 y11 y12 y13 y14 y15 y16 y17 y18 y19 y20 y21 y22 y23 y24 y25 y26 y27 y28 y29 y30 y31 y32 y33 y34 y35))
  | 0 => ⟨fun _ _ _ _ _ _ _ _ _ _ _ _ _ _ _ _ _ _ _ _ _ _ _ _ _ _ _ _ _ _ _ _ _ _ _ _ _ r h => by simp [spec_MachineOk.l0] at h, fun _ _ _ _ _ _ _ _ _ _ _ _ _ _ _ _ _ _ _ _ _ _ _ _ _ _ _ _ _ _ _ _ _ _ _ _ r h => by simp [spec_MachineOk.l1] at h⟩
  | k + 1 => by
    obtain ⟨ih0, ih1⟩ := spec_MachineOk.mono_l k
    refine ⟨?_, ?_⟩
    · intro y0 y1 y2 y3 y4 y5 y6 y7 y8 y9 y10 y11 y12 y13 y14 y15 y16 y17 y18 y19 y20 y21 y22 y23 y24 y25 y26 y27 y28 y29 y30 y31 y32 y33 y34 y35 y36
      unfold spec_MachineOk.l0
      repeat' first
      | (with_reducible exact ih0 _ _ _ _ _ _ _ _ _ _ _ _ _ _ _ _ _ _ _ _ _ _ _ _ _ _ _ _ _ _ _ _ _ _ _ _ _)
      | (with_reducible exact ih1 _ _ _ _ _ _ _ _ _ _ _ _ _ _ _ _ _ _ _ _ _ _ _ _ _ _ _ _ _ _ _ _ _ _ _ _)
      | (with_reducible exact spec_CartOk.mono _ _ _ _ _ _ _ _)
      | (with_reducible exact LeO.refl _)
      | (with_reducible exact LeO.none _)
      | (with_reducible refine LeO.ite ?_ ?_)
      | (with_reducible refine LeO.bind ?_ (fun _ => ?_))
      | exact ih0 _ _ _ _ _ _ _ _ _ _ _ _ _ _ _ _ _ _ _ _ _ _ _ _ _ _ _ _ _ _ _ _ _ _ _ _ _
      | exact ih1 _ _ _ _ _ _ _ _ _ _ _ _ _ _ _ _ _ _ _ _ _ _ _ _ _ _ _ _ _ _ _ _ _ _ _ _
      | exact spec_CartOk.mono _ _ _ _ _ _ _ _
      | exact LeO.none _
      | refine LeO.ite ?_ ?_
      | refine LeO.bind ?_ (fun _ => ?_)
    · intro y0 y1 y2 y3 y4 y5 y6 y7 y8 y9 y10 y11 y12 y13 y14 y15 y16 y17 y18 y19 y20 y21 y22 y23 y24 y25 y26 y27 y28 y29 y30 y31 y32 y33 y34 y35
      unfold spec_MachineOk.l1
      repeat' first
      | (with_reducible exact ih0 _ _ _ _ _ _ _ _ _ _ _ _ _ _ _ _ _ _ _ _ _ _ _ _ _ _ _ _ _ _ _ _ _ _ _ _ _)
      | (with_reducible exact ih1 _ _ _ _ _ _ _ _ _ _ _ _ _ _ _ _ _ _ _ _ _ _ _ _ _ _ _ _ _ _ _ _ _ _ _ _)
      | (with_reducible exact spec_CartOk.mono _ _ _ _ _ _ _ _)
      | (with_reducible exact LeO.refl _)
      | (with_reducible exact LeO.none _)
      | (with_reducible refine LeO.ite ?_ ?_)
      | (with_reducible refine LeO.bind ?_ (fun _ => ?_))
      | exact ih0 _ _ _ _ _ _ _ _ _ _ _ _ _ _ _ _ _ _ _ _ _ _ _ _ _ _ _ _ _ _ _ _ _ _ _ _ _
      | exact ih1 _ _ _ _ _ _ _ _ _ _ _ _ _ _ _ _ _ _ _ _ _ _ _ _ _ _ _ _ _ _ _ _ _ _ _ _
      | exact spec_CartOk.mono _ _ _ _ _ _ _ _
      | exact LeO.none _
      | refine LeO.ite ?_ ?_
      | refine LeO.bind ?_ (fun _ => ?_)
theorem spec_MachineOk.mono : ∀ a0 a1 a2 a3 a4 a5 a6 a7 a8 a9 a10 a11 a12 a13 a14 a15 a16 a17 a18 a19 a20 a21 a22 k, LeO (spec_MachineOk.f k a0 a1 a2 a3 a4 a5 a6 a7 a8 a9 a10 a11 a12 a13 a14 a15 a16 a17 a18 a19 a20 a21 a22) (spec_MachineOk.f (k + 1) a0 a1 a2 a3 a4 a5 a6 a7 a8 a9 a10 a11 a12 a13 a14 a15 a16 a17 a18 a19 a20 a21 a22) := by
  intro a0 a1 a2 a3 a4 a5 a6 a7 a8 a9 a10 a11 a12 a13 a14 a15 a16 a17 a18 a19 a20 a21 a22 k
  obtain ⟨ih0, ih1⟩ := spec_MachineOk.mono_l k
  unfold spec_MachineOk.f
  repeat' first
      | (with_reducible exact ih0 _ _ _ _ _ _ _ _ _ _ _ _ _ _ _ _ _ _ _ _ _ _ _ _ _ _ _ _ _ _ _ _ _ _ _ _ _)
      | (with_reducible exact ih1 _ _ _ _ _ _ _ _ _ _ _ _ _ _ _ _ _ _ _ _ _ _ _ _ _ _ _ _ _ _ _ _ _ _ _ _)
      | (with_reducible exact spec_CartOk.mono _ _ _ _ _ _ _ _)
      | (with_reducible exact LeO.refl _)
      | (with_reducible exact LeO.none _)
      | (with_reducible refine LeO.ite ?_ ?_)
      | (with_reducible refine LeO.bind ?_ (fun _ => ?_))
      | exact ih0 _ _ _ _ _ _ _ _ _ _ _ _ _ _ _ _ _ _ _ _ _ _ _ _ _ _ _ _ _ _ _ _ _ _ _ _ _
      | exact ih1 _ _ _ _ _ _ _ _ _ _ _ _ _ _ _ _ _ _ _ _ _ _ _ _ _ _ _ _ _ _ _ _ _ _ _ _
      | exact spec_CartOk.mono _ _ _ _ _ _ _ _
      | exact LeO.none _
      | refine LeO.ite ?_ ?_
      | refine LeO.bind ?_ (fun _ => ?_)
open Go.Proofs.Ytmgbdbamfljjnaa.Aid in
set_option maxHeartbeats 8000000 in
set_option maxRecDepth 100000 in
theorem spec_MachineOk.calls (k : Nat) (a0_0 : Int) (a0_1 : Int) (a0_2 : Int) (a0_3 : Int) (a0_4 : Int) (a0_5 : Int) (a0_6 : Int) (a0_7 : Int) (a0_8 : Int) (a0_9 : Int) (a0_10 : Bool) (a0_11 : Bool) (a0_12 : ByteArray) (a0_13 : Int) (a0_14 : Int) (a0_15 : ByteArray) (a0_16 : Int) (a0_17 : Bool) (a0_18 : Int) (a0_19 : ByteArray) (a0_20 : ByteArray) (A0_21 : Option Addr) (c0_21 : Nat) (l0_21 : List Int) (a0_22 : Int) (r : Bool) (w : World) (hr0_21 : Kd.C (Kd.int .i64) w A0_21 l0_21.length l0_21) (hc0_21 : l0_21.length ≤ c0_21) (h : spec_MachineOk.f k a0_0 a0_1 a0_2 a0_3 a0_4 a0_5 a0_6 a0_7 a0_8 a0_9 a0_10 a0_11 a0_12 a0_13 a0_14 a0_15 a0_16 a0_17 a0_18 a0_19 a0_20 l0_21 a0_22 = some r) :
 Calls Try.prog 8 #[.agg #[.int .i64 a0_0, .int .i64 a0_1, .int .i64 a0_2, .int .i64 a0_3, .int .i64 a0_4, .int .i64 a0_5, .int .i64 a0_6, .int .i64 a0_7, .int .i64 a0_8, .int .i64 a0_9, .bool a0_10, .bool a0_11, .string a0_12, .int .i64 a0_13, .int .i64 a0_14, .string a0_15, .int .i64 a0_16, .bool a0_17, .int .i64 a0_18, .string a0_19, .string a0_20, .slice A0_21 l0_21.length c0_21, .int .i64 a0_22]] w fun e w' => e = .returned (.bool r) ∧ Below w.heap.size w w' := by
 have hu34 := Try.underlying34
 have hu31 := Try.underlying31
 have hu32 := Try.underlying32
 have HR0_21 := Aside0.mk hr0_21
 have HC0_21 := Aside0.mk hc0_21
 clear hr0_21 hc0_21
 have HB := Aside0.mk (Below.refl w.heap.size w)
 have H : (spec_MachineOk.l0 k (([a0_0, a0_1, a0_2, a0_3, a0_4, a0_5, a0_6, a0_7] : List Int)) 0 a0_0 a0_1 a0_2 a0_3 a0_4 a0_5 a0_6 a0_7 a0_8 a0_9 a0_10 a0_11 a0_12 a0_13 a0_14 a0_15 a0_16 a0_17 a0_18 a0_19 a0_20 l0_21 a0_22 a0_0 a0_1 a0_2 a0_3 a0_4 a0_5 a0_6 a0_7 a0_8 a0_9 a0_10 a0_11) = some r := h
 clear h
 obtain ⟨y164, hy164⟩ : ∃ y_ : List Int, y_ = (([a0_0, a0_1, a0_2, a0_3, a0_4, a0_5, a0_6, a0_7] : List Int)) := ⟨_, rfl⟩
 replace H : (spec_MachineOk.l0 k y164 0 a0_0 a0_1 a0_2 a0_3 a0_4 a0_5 a0_6 a0_7 a0_8 a0_9 a0_10 a0_11 a0_12 a0_13 a0_14 a0_15 a0_16 a0_17 a0_18 a0_19 a0_20 l0_21 a0_22 a0_0 a0_1 a0_2 a0_3 a0_4 a0_5 a0_6 a0_7 a0_8 a0_9 a0_10 a0_11) = some r := by first | (rw [hy164]; with_reducible exact H) | (have H2_ := (Option.bind_some _ _).symm.trans H; rw [hy164]; with_reducible exact H2_) | (have H2_ := (Option.bind_some _ _).symm.trans H; with_reducible exact H2_) | with_reducible exact H | (rw [hy164]; exact H) | exact H
 have Ny164 := Aside0.mk hy164
 clear hy164
 have H' := Aside0.mk H
 clear H
 go_enter Try.func8, Try.ntmps8
 go_wp2_with (first | ((with_reducible refine gate_dst (N := 1) rfl ?_); (try (refine gate_guard (by rfl) ?_; dsimp only)); refine box_event ?hg (N := 1) ?hd (cs := #[.int .i64 a0_0, .int .i64 a0_1, .int .i64 a0_2, .int .i64 a0_3, .int .i64 a0_4, .int .i64 a0_5, .int .i64 a0_6, .int .i64 a0_7, .int .i64 a0_8, .int .i64 a0_9, .bool a0_10, .bool a0_11, .string a0_12, .int .i64 a0_13, .int .i64 a0_14, .string a0_15, .int .i64 a0_16, .bool a0_17, .int .i64 a0_18, .string a0_19, .string a0_20, .slice A0_21 l0_21.length c0_21, .int .i64 a0_22]) (t := 34) ?hr ?_; (case hd => rfl); (case hg => rfl); (case hr => first | (go_simp; done) | (go_simp; rfl)); intro gb162 hg w2 hbox hb; have BK162 := Aside0.mk (hbox); have GW162 := zs w hg; have GE162 := GW162; replace HB := zt w hb; clear hb hbox hg; have hZ3_ := cells_all BK162.out; simp only [allCells, Nat.zero_add, Nat.reduceAdd] at hZ3_; obtain ⟨hcz3_0, hfz3_0, hcz3_1, hfz3_1, hcz3_2, hfz3_2, hcz3_3, hfz3_3, hcz3_4, hfz3_4, hcz3_5, hfz3_5, hcz3_6, hfz3_6, hcz3_7, hfz3_7, hcz3_8, hfz3_8, hcz3_9, hfz3_9, hcz3_10, hfz3_10, hcz3_11, hfz3_11, hcz3_12, hfz3_12, hcz3_13, hfz3_13, hcz3_14, hfz3_14, hcz3_15, hfz3_15, hcz3_16, hfz3_16, hcz3_17, hfz3_17, hcz3_18, hfz3_18, hcz3_19, hfz3_19, hcz3_20, hfz3_20, hcz3_21, hfz3_21, hcz3_22, hfz3_22, _⟩ := hZ3_) | ((with_reducible refine gate_dst (N := 3) rfl ?_); (try (refine gate_guard (by rfl) ?_; dsimp only)); refine box_event ?hg (N := 3) ?hd (cs := #[.int .i64 0, .int .i64 0, .int .i64 0, .int .i64 0, .int .i64 0, .int .i64 0, .int .i64 0, .int .i64 0, .int .i64 0, .int .i64 0, .bool false, .bool false]) (t := 31) ?hr ?_; (case hd => rfl); (case hg => rfl); (case hr => first | (go_simp; done) | (go_simp; rfl)); intro gb163 hg w4 hbox hb; have BK163 := Aside0.mk (hbox); have GW163 := zs w hg; have GE163 := GW163; have NB162_163 := zlt BK162 hg; have NB163_162 := zgt (zlt BK162 hg); replace BK162 := zk BK162 hb; replace HB := zt w hb; clear hb hbox hg; have hnb5 := NB163_162.out; have hnc5 := NB162_163.out; have hZ6_ := cells_all BK163.out; simp only [allCells, Nat.zero_add, Nat.reduceAdd] at hZ6_; obtain ⟨hcz6_0, hfz6_0, hcz6_1, hfz6_1, hcz6_2, hfz6_2, hcz6_3, hfz6_3, hcz6_4, hfz6_4, hcz6_5, hfz6_5, hcz6_6, hfz6_6, hcz6_7, hfz6_7, hcz6_8, hfz6_8, hcz6_9, hfz6_9, hcz6_10, hfz6_10, hcz6_11, hfz6_11, _⟩ := hZ6_) | ((with_reducible refine gate_dst (N := 25) rfl ?_); (try (refine gate_guard (by rfl) ?_; dsimp only)); refine Kd.R_lit (Kd.int .i64) _ 2 ?hg (N := 25) ?hd (xs := ([a0_0, a0_1, a0_2, a0_3, a0_4, a0_5, a0_6, a0_7] : List Int)) (inner := [.int .i64 a0_0, .int .i64 a0_1, .int .i64 a0_2, .int .i64 a0_3, .int .i64 a0_4, .int .i64 a0_5, .int .i64 a0_6, .int .i64 a0_7]) (ok := fun _ => True) (okp := fun _ => True) ?hr ?hp (fun _ hk => hk) trivial (Below.refl _ _) (Nat.le_refl _) (by simp) ?_; (case hd => rfl); (case hg => rfl); (case hr => first | (go_simp; done) | (go_simp; rfl)); (case hp => exact (Reps.one (show Kd.M (Kd.int .i64) _ _ _ a0_0 [.int .i64 a0_0] from rfl) (Reps.one (show Kd.M (Kd.int .i64) _ _ _ a0_1 [.int .i64 a0_1] from rfl) (Reps.one (show Kd.M (Kd.int .i64) _ _ _ a0_2 [.int .i64 a0_2] from rfl) (Reps.one (show Kd.M (Kd.int .i64) _ _ _ a0_3 [.int .i64 a0_3] from rfl) (Reps.one (show Kd.M (Kd.int .i64) _ _ _ a0_4 [.int .i64 a0_4] from rfl) (Reps.one (show Kd.M (Kd.int .i64) _ _ _ a0_5 [.int .i64 a0_5] from rfl) (Reps.one (show Kd.M (Kd.int .i64) _ _ _ a0_6 [.int .i64 a0_6] from rfl) (Reps.one (show Kd.M (Kd.int .i64) _ _ _ a0_7 [.int .i64 a0_7] from rfl) (Reps.none _ _)))))))))); intro v165 w7 ho8 hb hg_ hnew_; clear hg_ hnew_; (first | rw [← Ny164.out] at ho8 | (simp only [Int.reduceToNat] at ho8; rw [← Ny164.out] at ho8)); have HO166 := Aside0.mk (Kd.R_lower ho8 (below_size (zb _))); replace BK162 := zkw (g := gb162) (o := .cells #[.int .i64 a0_0, .int .i64 a0_1, .int .i64 a0_2, .int .i64 a0_3, .int .i64 a0_4, .int .i64 a0_5, .int .i64 a0_6, .int .i64 a0_7, .int .i64 a0_8, .int .i64 a0_9, .bool a0_10, .bool a0_11, .string a0_12, .int .i64 a0_13, .int .i64 a0_14, .string a0_15, .int .i64 a0_16, .bool a0_17, .int .i64 a0_18, .string a0_19, .string a0_20, .slice A0_21 l0_21.length c0_21, .int .i64 a0_22] 34 (0, 0)) hb; replace BK163 := zkw (g := gb163) (o := .cells #[.int .i64 a0_0, .int .i64 a0_1, .int .i64 a0_2, .int .i64 a0_3, .int .i64 a0_4, .int .i64 a0_5, .int .i64 a0_6, .int .i64 a0_7, .int .i64 a0_8, .int .i64 a0_9, .bool a0_10, .bool a0_11] 31 (0, 0)) hb; replace HB := zt w hb; clear hb ho8))
 go_loopg [5] k (fun kq v5 w' => ∃ (x5_1 : Int), v5 = .int .i64 x5_1 ∧ Aside0 (spec_MachineOk.l0 kq y164 x5_1 a0_0 a0_1 a0_2 a0_3 a0_4 a0_5 a0_6 a0_7 a0_8 a0_9 a0_10 a0_11 a0_12 a0_13 a0_14 a0_15 a0_16 a0_17 a0_18 a0_19 a0_20 l0_21 a0_22 a0_0 a0_1 a0_2 a0_3 a0_4 a0_5 a0_6 a0_7 a0_8 a0_9 a0_10 a0_11 = some r) ∧ Aside0 (kq ≤ k) ∧ Aside0 (Kd.R (Kd.int .i64) 2 w' w.heap.size (fun _ => True) v165 y164) ∧ Aside0 (w'.heap[gb162]? = some (.cells #[.int .i64 a0_0, .int .i64 a0_1, .int .i64 a0_2, .int .i64 a0_3, .int .i64 a0_4, .int .i64 a0_5, .int .i64 a0_6, .int .i64 a0_7, .int .i64 a0_8, .int .i64 a0_9, .bool a0_10, .bool a0_11, .string a0_12, .int .i64 a0_13, .int .i64 a0_14, .string a0_15, .int .i64 a0_16, .bool a0_17, .int .i64 a0_18, .string a0_19, .string a0_20, (.slice A0_21 l0_21.length c0_21), .int .i64 a0_22] 34 (0, 0))) ∧ Aside0 (w'.heap[gb163]? = some (.cells #[.int .i64 a0_0, .int .i64 a0_1, .int .i64 a0_2, .int .i64 a0_3, .int .i64 a0_4, .int .i64 a0_5, .int .i64 a0_6, .int .i64 a0_7, .int .i64 a0_8, .int .i64 a0_9, .bool a0_10, .bool a0_11] 31 (0, 0))) ∧ Aside0 (Below w.heap.size w w'))
 case atStart => exact ⟨(0), (zE _), H', ⟨Nat.le_refl _⟩, ⟨by (with_reducible repeat (first | apply Kd.R_alloc | apply Kd.R_drewN | apply Kd.R_drew)); exact HO166.out⟩, ⟨by (with_reducible repeat (first | refine blk_drewN ?_ _ | refine blk_drew ?_ | refine blk_alloc ?_ _)); exact BK162.out⟩, ⟨by (with_reducible repeat (first | refine blk_drewN ?_ _ | refine blk_drew ?_ | refine blk_alloc ?_ _)); exact BK163.out⟩, ⟨zb _⟩⟩
 case round =>
  clear H'
  try clear p2
  try clear c5
  try clear c8
  try clear hcz3_0
  try clear hcz3_1
  try clear hcz3_10
  try clear hcz3_11
  try clear hcz3_12
  try clear hcz3_13
  try clear hcz3_14
  try clear hcz3_15
  try clear hcz3_16
  try clear hcz3_17
  try clear hcz3_18
  try clear hcz3_19
  try clear hcz3_2
  try clear hcz3_20
  try clear hcz3_21
  try clear hcz3_22
  try clear hcz3_3
  try clear hcz3_4
  try clear hcz3_5
  try clear hcz3_6
  try clear hcz3_7
  try clear hcz3_8
  try clear hcz3_9
  try clear hcz6_0
  try clear hcz6_1
  try clear hcz6_10
  try clear hcz6_11
  try clear hcz6_2
  try clear hcz6_3
  try clear hcz6_4
  try clear hcz6_5
  try clear hcz6_6
  try clear hcz6_7
  try clear hcz6_8
  try clear hcz6_9
  try clear hfz3_0
  try clear hfz3_1
  try clear hfz3_10
  try clear hfz3_11
  try clear hfz3_12
  try clear hfz3_13
  try clear hfz3_14
  try clear hfz3_15
  try clear hfz3_16
  try clear hfz3_17
  try clear hfz3_18
  try clear hfz3_19
  try clear hfz3_2
  try clear hfz3_20
  try clear hfz3_21
  try clear hfz3_22
  try clear hfz3_3
  try clear hfz3_4
  try clear hfz3_5
  try clear hfz3_6
  try clear hfz3_7
  try clear hfz3_8
  try clear hfz3_9
  try clear hfz6_0
  try clear hfz6_1
  try clear hfz6_10
  try clear hfz6_11
  try clear hfz6_2
  try clear hfz6_3
  try clear hfz6_4
  try clear hfz6_5
  try clear hfz6_6
  try clear hfz6_7
  try clear hfz6_8
  try clear hfz6_9
  obtain ⟨x5_1, rfl, HA, HK1, HO_4, BK162, BK163, HB⟩ := hrel
  cases gk with
  | zero => exact absurd HA.out (by simp [spec_MachineOk.l0])
  | succ k1 =>
   have H := HA.out
   clear HA
   simp only [spec_MachineOk.l0] at H
   by_cases c9 : x5_1 < (y164.length : Int)
   ·rw [if_pos c9] at H
    have c9b0 : decide (x5_1 < (y164.length : Int)) = true := decide_eq_true c9
    clear c9
    by_cases c10 : 0 ≤ x5_1
    ·rw [if_pos c10] at H
     have c10b0 : decide (0 ≤ x5_1) = true := decide_eq_true c10
     clear c10
     obtain ⟨t168, A110, H⟩ := Option.bind_eq_some_iff.mp H
     have A11 := Aside0.mk A110
     clear A110
     by_cases c12 : t168 = true
     ·subst c12
      rw [if_pos rfl] at H
      have H' := Aside0.mk H
      clear H
      obtain ⟨Ao13, co13, eo13⟩ := Kd.R_slice HO_4.out
      subst eo13
      have p167 : 0 ≤ (x5_1 : Int) := of_decide_eq_true (za _)
      have q167 : x5_1 < (y164.length : Int) := of_decide_eq_true (za _)
      obtain ⟨ad167, e167, hx167_0⟩ := Kd.at_int (Kd.R_reads' HO_4.out).2.2 x5_1 p167 q167
      cases e167
      replace p167 := eq_true p167
      replace q167 := eq_true q167
      go_wp2_with (first | ((with_reducible refine gate_callee (f := 22) rfl ?_); refine zc (some 36) Try.func22 #[.int .i64 (rd y164 x5_1)] ?_; (with_reducible refine (spec_l4Byte.calls (rd y164 x5_1) true _ A11.out).mono ?_); rintro e w' ⟨rfl, ⟨nd, rfl⟩⟩; refine ⟨_, rfl, ?_⟩))
      go_roundg k1
      case measure => have := HK1.out; omega
      case rel => exact ⟨(wrap64 (x5_1 + 1)), (zE _), H', ⟨by have := HK1.out; omega⟩, ⟨by (with_reducible repeat (first | apply Kd.R_alloc | apply Kd.R_drewN | apply Kd.R_drew)); exact HO_4.out⟩, ⟨by (with_reducible repeat (first | refine blk_drewN ?_ _ | refine blk_drew ?_ | refine blk_alloc ?_ _)); exact BK162.out⟩, ⟨by (with_reducible repeat (first | refine blk_drewN ?_ _ | refine blk_drew ?_ | refine blk_alloc ?_ _)); exact BK163.out⟩, ⟨zb _⟩⟩
     ·replace c12 := Bool.eq_false_iff.mpr c12
      subst c12
      rw [if_neg (show ¬ (false = true) by decide)] at H
      obtain rfl := Option.some.inj H
      obtain ⟨Ao14, co14, eo14⟩ := Kd.R_slice HO_4.out
      subst eo14
      have p167 : 0 ≤ (x5_1 : Int) := of_decide_eq_true (za _)
      have q167 : x5_1 < (y164.length : Int) := of_decide_eq_true (za _)
      obtain ⟨ad167, e167, hx167_0⟩ := Kd.at_int (Kd.R_reads' HO_4.out).2.2 x5_1 p167 q167
      cases e167
      replace p167 := eq_true p167
      replace q167 := eq_true q167
      go_wp2_with (first | ((with_reducible refine gate_callee (f := 22) rfl ?_); refine zc (some 36) Try.func22 #[.int .i64 (rd y164 x5_1)] ?_; (with_reducible refine (spec_l4Byte.calls (rd y164 x5_1) false _ A11.out).mono ?_); rintro e w' ⟨rfl, ⟨nd, rfl⟩⟩; refine ⟨_, rfl, ?_⟩))
      go_ret
      exact ⟨ze _, zb _⟩
    ·rw [if_neg c10] at H
     exact absurd H (by simp)
   ·rw [if_neg c9] at H
    have c9b0 : decide (x5_1 < (y164.length : Int)) = false := decide_eq_false c9
    clear c9
    have H' := Aside0.mk H
    clear H
    obtain ⟨Ao15, co15, eo15⟩ := Kd.R_slice HO_4.out
    subst eo15
    go_wp2
    go_loopg [6] k1 (fun kq v6 w' => ∃ (x6_2 : Int), v6 = .int .i64 x6_2 ∧ Aside0 (spec_MachineOk.l1 kq x6_2 a0_0 a0_1 a0_2 a0_3 a0_4 a0_5 a0_6 a0_7 a0_8 a0_9 a0_10 a0_11 a0_12 a0_13 a0_14 a0_15 a0_16 a0_17 a0_18 a0_19 a0_20 l0_21 a0_22 a0_0 a0_1 a0_2 a0_3 a0_4 a0_5 a0_6 a0_7 a0_8 a0_9 a0_10 a0_11 = some r) ∧ Aside0 (kq ≤ k1) ∧ Aside0 (w'.heap[gb162]? = some (.cells #[.int .i64 a0_0, .int .i64 a0_1, .int .i64 a0_2, .int .i64 a0_3, .int .i64 a0_4, .int .i64 a0_5, .int .i64 a0_6, .int .i64 a0_7, .int .i64 a0_8, .int .i64 a0_9, .bool a0_10, .bool a0_11, .string a0_12, .int .i64 a0_13, .int .i64 a0_14, .string a0_15, .int .i64 a0_16, .bool a0_17, .int .i64 a0_18, .string a0_19, .string a0_20, (.slice A0_21 l0_21.length c0_21), .int .i64 a0_22] 34 (0, 0))) ∧ Aside0 (w'.heap[gb163]? = some (.cells #[.int .i64 a0_0, .int .i64 a0_1, .int .i64 a0_2, .int .i64 a0_3, .int .i64 a0_4, .int .i64 a0_5, .int .i64 a0_6, .int .i64 a0_7, .int .i64 a0_8, .int .i64 a0_9, .bool a0_10, .bool a0_11] 31 (0, 0))) ∧ Aside0 (Below w.heap.size w w'))
    case atStart => exact ⟨(0), (zE _), H', ⟨Nat.le_refl _⟩, ⟨by (with_reducible repeat (first | refine blk_drewN ?_ _ | refine blk_drew ?_ | refine blk_alloc ?_ _)); exact BK162.out⟩, ⟨by (with_reducible repeat (first | refine blk_drewN ?_ _ | refine blk_drew ?_ | refine blk_alloc ?_ _)); exact BK163.out⟩, ⟨zb _⟩⟩
    case round =>
     clear H'
     try clear c1
     try clear p1
     try clear q1
     try clear hx1
     try clear c2
     try clear p2
     try clear c5
     try clear p6
     try clear c8
     try clear c9
     try clear c9b0
     try clear c10
     try clear c10b0
     try clear c12
     try clear hcz3_0
     try clear hcz3_1
     try clear hcz3_10
     try clear hcz3_11
     try clear hcz3_12
     try clear hcz3_13
     try clear hcz3_14
     try clear hcz3_15
     try clear hcz3_16
     try clear hcz3_17
     try clear hcz3_18
     try clear hcz3_19
     try clear hcz3_2
     try clear hcz3_20
     try clear hcz3_21
     try clear hcz3_22
     try clear hcz3_3
     try clear hcz3_4
     try clear hcz3_5
     try clear hcz3_6
     try clear hcz3_7
     try clear hcz3_8
     try clear hcz3_9
     try clear hcz6_0
     try clear hcz6_1
     try clear hcz6_10
     try clear hcz6_11
     try clear hcz6_2
     try clear hcz6_3
     try clear hcz6_4
     try clear hcz6_5
     try clear hcz6_6
     try clear hcz6_7
     try clear hcz6_8
     try clear hcz6_9
     try clear hfz3_0
     try clear hfz3_1
     try clear hfz3_10
     try clear hfz3_11
     try clear hfz3_12
     try clear hfz3_13
     try clear hfz3_14
     try clear hfz3_15
     try clear hfz3_16
     try clear hfz3_17
     try clear hfz3_18
     try clear hfz3_19
     try clear hfz3_2
     try clear hfz3_20
     try clear hfz3_21
     try clear hfz3_22
     try clear hfz3_3
     try clear hfz3_4
     try clear hfz3_5
     try clear hfz3_6
     try clear hfz3_7
     try clear hfz3_8
     try clear hfz3_9
     try clear hfz6_0
     try clear hfz6_1
     try clear hfz6_10
     try clear hfz6_11
     try clear hfz6_2
     try clear hfz6_3
     try clear hfz6_4
     try clear hfz6_5
     try clear hfz6_6
     try clear hfz6_7
     try clear hfz6_8
     try clear hfz6_9
     try clear hx167_0
     try clear p167
     try clear p2
     try clear q167
     obtain ⟨x6_2, rfl, HA, HK2, BK162, BK163, HB⟩ := hrel
     cases gk with
     | zero => exact absurd HA.out (by simp [spec_MachineOk.l1])
     | succ k2 =>
      have H := HA.out
      clear HA
      simp only [spec_MachineOk.l1] at H
      by_cases c16 : x6_2 < (l0_21.length : Int)
      ·rw [if_pos c16] at H
       have c16b0 : decide (x6_2 < (l0_21.length : Int)) = true := decide_eq_true c16
       clear c16
       by_cases c17 : 0 ≤ x6_2
       ·rw [if_pos c17] at H
        have c17b0 : decide (0 ≤ x6_2) = true := decide_eq_true c17
        clear c17
        obtain ⟨t170, A180, H⟩ := Option.bind_eq_some_iff.mp H
        have A18 := Aside0.mk A180
        clear A180
        by_cases c19 : t170 = true
        ·subst c19
         rw [if_pos rfl] at H
         have H' := Aside0.mk H
         clear H
         have hnb20 := NB162_163.out
         have hnc20 := NB163_162.out
         have hcz21_0 := zc0 BK162
         have hcz21_1 := zc1 BK162
         have hcz21_2 := zc2 BK162
         have hcz21_3 := zc3 BK162
         have hcz21_4 := zc4 BK162
         have hcz21_5 := zc5 BK162
         have hcz21_6 := zc6 BK162
         have hcz21_7 := zc7 BK162
         have hcz21_8 := zc8 BK162
         have hcz21_9 := zc9 BK162
         have hcz21_10 := zc10 BK162
         have hcz21_11 := zc11 BK162
         have hcz21_12 := zc12 BK162
         have hcz21_13 := zc13 BK162
         have hcz21_14 := zc14 BK162
         have hcz21_15 := zc15 BK162
         have hcz21_16 := zc16 BK162
         have hcz21_17 := zc17 BK162
         have hcz21_18 := zc18 BK162
         have hcz21_19 := zc19 BK162
         have hcz21_20 := zc20 BK162
         have hcz21_21 := zc21 BK162
         have hcz21_22 := zc22 BK162
         have hfz21_0 := blk_frozen BK162.out 0
         have hfz21_1 := blk_frozen BK162.out 1
         have hfz21_2 := blk_frozen BK162.out 2
         have hfz21_3 := blk_frozen BK162.out 3
         have hfz21_4 := blk_frozen BK162.out 4
         have hfz21_5 := blk_frozen BK162.out 5
         have hfz21_6 := blk_frozen BK162.out 6
         have hfz21_7 := blk_frozen BK162.out 7
         have hfz21_8 := blk_frozen BK162.out 8
         have hfz21_9 := blk_frozen BK162.out 9
         have hfz21_10 := blk_frozen BK162.out 10
         have hfz21_11 := blk_frozen BK162.out 11
         have hfz21_12 := blk_frozen BK162.out 12
         have hfz21_13 := blk_frozen BK162.out 13
         have hfz21_14 := blk_frozen BK162.out 14
         have hfz21_15 := blk_frozen BK162.out 15
         have hfz21_16 := blk_frozen BK162.out 16
         have hfz21_17 := blk_frozen BK162.out 17
         have hfz21_18 := blk_frozen BK162.out 18
         have hfz21_19 := blk_frozen BK162.out 19
         have hfz21_20 := blk_frozen BK162.out 20
         have hfz21_21 := blk_frozen BK162.out 21
         have hfz21_22 := blk_frozen BK162.out 22
         have p169 : 0 ≤ (x6_2 : Int) := of_decide_eq_true (za _)
         have q169 : x6_2 < (l0_21.length : Int) := of_decide_eq_true (za _)
         obtain ⟨ad169, e169, hx169_0⟩ := Kd.at_int HR0_21.out x6_2 p169 q169
         cases e169
         replace hx169_0 := (HB.out.cell (World.block_lt_of_cell? w _ hx169_0)).trans hx169_0
         replace p169 := eq_true p169
         replace q169 := eq_true q169
         go_wp2_with (first | ((with_reducible refine gate_callee (f := 22) rfl ?_); refine zc (some 50) Try.func22 #[.int .i64 (rd l0_21 x6_2)] ?_; (with_reducible refine (spec_l4Byte.calls (rd l0_21 x6_2) true _ A18.out).mono ?_); rintro e w' ⟨rfl, ⟨nd, rfl⟩⟩; refine ⟨_, rfl, ?_⟩))
         go_roundg k2
         case measure => have := HK1.out; have := HK2.out; omega
         case rel => exact ⟨(wrap64 (x6_2 + 1)), (zE _), H', ⟨by have := HK1.out; have := HK2.out; omega⟩, ⟨by (with_reducible repeat (first | refine blk_drewN ?_ _ | refine blk_drew ?_ | refine blk_alloc ?_ _)); exact BK162.out⟩, ⟨by (with_reducible repeat (first | refine blk_drewN ?_ _ | refine blk_drew ?_ | refine blk_alloc ?_ _)); exact BK163.out⟩, ⟨zb _⟩⟩
        ·replace c19 := Bool.eq_false_iff.mpr c19
         subst c19
         rw [if_neg (show ¬ (false = true) by decide)] at H
         obtain rfl := Option.some.inj H
         have hnb22 := NB162_163.out
         have hnc22 := NB163_162.out
         have hcz23_0 := zc0 BK162
         have hcz23_1 := zc1 BK162
         have hcz23_2 := zc2 BK162
         have hcz23_3 := zc3 BK162
         have hcz23_4 := zc4 BK162
         have hcz23_5 := zc5 BK162
         have hcz23_6 := zc6 BK162
         have hcz23_7 := zc7 BK162
         have hcz23_8 := zc8 BK162
         have hcz23_9 := zc9 BK162
         have hcz23_10 := zc10 BK162
         have hcz23_11 := zc11 BK162
         have hcz23_12 := zc12 BK162
         have hcz23_13 := zc13 BK162
         have hcz23_14 := zc14 BK162
         have hcz23_15 := zc15 BK162
         have hcz23_16 := zc16 BK162
         have hcz23_17 := zc17 BK162
         have hcz23_18 := zc18 BK162
         have hcz23_19 := zc19 BK162
         have hcz23_20 := zc20 BK162
         have hcz23_21 := zc21 BK162
         have hcz23_22 := zc22 BK162
         have hfz23_0 := blk_frozen BK162.out 0
         have hfz23_1 := blk_frozen BK162.out 1
         have hfz23_2 := blk_frozen BK162.out 2
         have hfz23_3 := blk_frozen BK162.out 3
         have hfz23_4 := blk_frozen BK162.out 4
         have hfz23_5 := blk_frozen BK162.out 5
         have hfz23_6 := blk_frozen BK162.out 6
         have hfz23_7 := blk_frozen BK162.out 7
         have hfz23_8 := blk_frozen BK162.out 8
         have hfz23_9 := blk_frozen BK162.out 9
         have hfz23_10 := blk_frozen BK162.out 10
         have hfz23_11 := blk_frozen BK162.out 11
         have hfz23_12 := blk_frozen BK162.out 12
         have hfz23_13 := blk_frozen BK162.out 13
         have hfz23_14 := blk_frozen BK162.out 14
         have hfz23_15 := blk_frozen BK162.out 15
         have hfz23_16 := blk_frozen BK162.out 16
         have hfz23_17 := blk_frozen BK162.out 17
         have hfz23_18 := blk_frozen BK162.out 18
         have hfz23_19 := blk_frozen BK162.out 19
         have hfz23_20 := blk_frozen BK162.out 20
         have hfz23_21 := blk_frozen BK162.out 21
         have hfz23_22 := blk_frozen BK162.out 22
         have p169 : 0 ≤ (x6_2 : Int) := of_decide_eq_true (za _)
         have q169 : x6_2 < (l0_21.length : Int) := of_decide_eq_true (za _)
         obtain ⟨ad169, e169, hx169_0⟩ := Kd.at_int HR0_21.out x6_2 p169 q169
         cases e169
         replace hx169_0 := (HB.out.cell (World.block_lt_of_cell? w _ hx169_0)).trans hx169_0
         replace p169 := eq_true p169
         replace q169 := eq_true q169
         go_wp2_with (first | ((with_reducible refine gate_callee (f := 22) rfl ?_); refine zc (some 50) Try.func22 #[.int .i64 (rd l0_21 x6_2)] ?_; (with_reducible refine (spec_l4Byte.calls (rd l0_21 x6_2) false _ A18.out).mono ?_); rintro e w' ⟨rfl, ⟨nd, rfl⟩⟩; refine ⟨_, rfl, ?_⟩))
         go_ret
         exact ⟨ze _, zb _⟩
       ·rw [if_neg c17] at H
        exact absurd H (by simp)
      ·rw [if_neg c16] at H
       have c16b0 : decide (x6_2 < (l0_21.length : Int)) = false := decide_eq_false c16
       clear c16
       by_cases c24 : (Int.tmod a0_1 16) = 0
       ·rw [if_pos c24] at H
        have c24b0 : ((Int.tmod a0_1 16) == 0) = true := beq_iff_eq.mpr c24
        have c24b1 : ((Int.tmod a0_1 16) != 0) = false := bne_eq_false_iff_eq.mpr c24
        clear c24
        obtain ⟨t171, A250, H⟩ := Option.bind_eq_some_iff.mp H
        have A25 := Aside0.mk A250
        clear A250
        by_cases c26 : t171 = true
        ·subst c26
         rw [if_pos rfl] at H
         obtain ⟨t172, A270, H⟩ := Option.bind_eq_some_iff.mp H
         have A27 := Aside0.mk A270
         clear A270
         by_cases c28 : t172 = true
         ·subst c28
          rw [if_pos rfl] at H
          obtain ⟨t173, A290, H⟩ := Option.bind_eq_some_iff.mp H
          have A29 := Aside0.mk A290
          clear A290
          by_cases c30 : t173 = true
          ·subst c30
           rw [if_pos rfl] at H
           by_cases c31 : (a0_19.size : Int) = 256
           ·rw [if_pos c31] at H
            have c31b0 : ((a0_19.size : Int) == 256) = true := beq_iff_eq.mpr c31
            have c31b1 : ((a0_19.size : Int) != 256) = false := bne_eq_false_iff_eq.mpr c31
            clear c31
            by_cases c32 : (a0_20.size : Int) = 127
            ·rw [if_pos c32] at H
             have c32b0 : ((a0_20.size : Int) == 127) = true := beq_iff_eq.mpr c32
             have c32b1 : ((a0_20.size : Int) != 127) = false := bne_eq_false_iff_eq.mpr c32
             clear c32
             by_cases c33 : (l0_21.length : Int) ≤ 100
             ·rw [if_pos c33] at H
              have c33b0 : decide ((l0_21.length : Int) ≤ 100) = true := decide_eq_true c33
              have c33b1 : decide (l0_21.length ≤ 100) = true := decide_eq_true (by omega)
              clear c33
              obtain ⟨t174, A340, H⟩ := Option.bind_eq_some_iff.mp H
              have A34 := Aside0.mk A340
              clear A340
              obtain rfl := Option.some.inj H
              have hnb35 := NB162_163.out
              have hnc35 := NB163_162.out
              have hcz36_0 := zc0 BK162
              have hcz36_1 := zc1 BK162
              have hcz36_2 := zc2 BK162
              have hcz36_3 := zc3 BK162
              have hcz36_4 := zc4 BK162
              have hcz36_5 := zc5 BK162
              have hcz36_6 := zc6 BK162
              have hcz36_7 := zc7 BK162
              have hcz36_8 := zc8 BK162
              have hcz36_9 := zc9 BK162
              have hcz36_10 := zc10 BK162
              have hcz36_11 := zc11 BK162
              have hcz36_12 := zc12 BK162
              have hcz36_13 := zc13 BK162
              have hcz36_14 := zc14 BK162
              have hcz36_15 := zc15 BK162
              have hcz36_16 := zc16 BK162
              have hcz36_17 := zc17 BK162
              have hcz36_18 := zc18 BK162
              have hcz36_19 := zc19 BK162
              have hcz36_20 := zc20 BK162
              have hcz36_21 := zc21 BK162
              have hcz36_22 := zc22 BK162
              have hfz36_0 := blk_frozen BK162.out 0
              have hfz36_1 := blk_frozen BK162.out 1
              have hfz36_2 := blk_frozen BK162.out 2
              have hfz36_3 := blk_frozen BK162.out 3
              have hfz36_4 := blk_frozen BK162.out 4
              have hfz36_5 := blk_frozen BK162.out 5
              have hfz36_6 := blk_frozen BK162.out 6
              have hfz36_7 := blk_frozen BK162.out 7
              have hfz36_8 := blk_frozen BK162.out 8
              have hfz36_9 := blk_frozen BK162.out 9
              have hfz36_10 := blk_frozen BK162.out 10
              have hfz36_11 := blk_frozen BK162.out 11
              have hfz36_12 := blk_frozen BK162.out 12
              have hfz36_13 := blk_frozen BK162.out 13
              have hfz36_14 := blk_frozen BK162.out 14
              have hfz36_15 := blk_frozen BK162.out 15
              have hfz36_16 := blk_frozen BK162.out 16
              have hfz36_17 := blk_frozen BK162.out 17
              have hfz36_18 := blk_frozen BK162.out 18
              have hfz36_19 := blk_frozen BK162.out 19
              have hfz36_20 := blk_frozen BK162.out 20
              have hfz36_21 := blk_frozen BK162.out 21
              have hfz36_22 := blk_frozen BK162.out 22
              have hcz37_0 := zc0 BK163
              have hcz37_1 := zc1 BK163
              have hcz37_2 := zc2 BK163
              have hcz37_3 := zc3 BK163
              have hcz37_4 := zc4 BK163
              have hcz37_5 := zc5 BK163
              have hcz37_6 := zc6 BK163
              have hcz37_7 := zc7 BK163
              have hcz37_8 := zc8 BK163
              have hcz37_9 := zc9 BK163
              have hcz37_10 := zc10 BK163
              have hcz37_11 := zc11 BK163
              have hfz37_0 := blk_frozen BK163.out 0
              have hfz37_1 := blk_frozen BK163.out 1
              have hfz37_2 := blk_frozen BK163.out 2
              have hfz37_3 := blk_frozen BK163.out 3
              have hfz37_4 := blk_frozen BK163.out 4
              have hfz37_5 := blk_frozen BK163.out 5
              have hfz37_6 := blk_frozen BK163.out 6
              have hfz37_7 := blk_frozen BK163.out 7
              have hfz37_8 := blk_frozen BK163.out 8
              have hfz37_9 := blk_frozen BK163.out 9
              have hfz37_10 := blk_frozen BK163.out 10
              have hfz37_11 := blk_frozen BK163.out 11
              go_wp2_with (first | (go_at_call 23; (with_reducible refine (spec_l4Word.calls a0_8 true _ A25.out).mono ?_); rintro e w' ⟨rfl, ⟨nd, rfl⟩⟩) | (go_at_call 23; (with_reducible refine (spec_l4Word.calls a0_9 true _ A27.out).mono ?_); rintro e w' ⟨rfl, ⟨nd, rfl⟩⟩) | (go_at_call 24; (with_reducible refine (spec_CartOk.calls k2 a0_12 a0_13 a0_14 a0_15 a0_16 a0_17 a0_18 true _ A29.out).mono ?_); rintro e w38 ⟨rfl, hb⟩; replace BK162 := zk BK162 hb; replace BK163 := zk BK163 hb; replace HB := zt w hb; (try clear hb); (try clear hb2); (try clear hk); (try clear hi); have hZ39_ := cells_all BK162.out; simp only [allCells, Nat.zero_add, Nat.reduceAdd] at hZ39_; obtain ⟨hcz39_0, hfz39_0, hcz39_1, hfz39_1, hcz39_2, hfz39_2, hcz39_3, hfz39_3, hcz39_4, hfz39_4, hcz39_5, hfz39_5, hcz39_6, hfz39_6, hcz39_7, hfz39_7, hcz39_8, hfz39_8, hcz39_9, hfz39_9, hcz39_10, hfz39_10, hcz39_11, hfz39_11, hcz39_12, hfz39_12, hcz39_13, hfz39_13, hcz39_14, hfz39_14, hcz39_15, hfz39_15, hcz39_16, hfz39_16, hcz39_17, hfz39_17, hcz39_18, hfz39_18, hcz39_19, hfz39_19, hcz39_20, hfz39_20, hcz39_21, hfz39_21, hcz39_22, hfz39_22, _⟩ := hZ39_) | (go_at_call 25; (with_reducible refine (spec_l1In.calls a0_22 0 1000000000 t174 _ A34.out).mono ?_); rintro e w' ⟨rfl, ⟨nd, rfl⟩⟩))
              go_ret
              exact ⟨ze _, zb _⟩
             ·rw [if_neg c33] at H
              have c33b0 : decide ((l0_21.length : Int) ≤ 100) = false := decide_eq_false c33
              have c33b1 : decide (l0_21.length ≤ 100) = false := decide_eq_false (by omega)
              clear c33
              obtain rfl := Option.some.inj H
              have hnb40 := NB162_163.out
              have hnc40 := NB163_162.out
              have hcz41_0 := zc0 BK162
              have hcz41_1 := zc1 BK162
              have hcz41_2 := zc2 BK162
              have hcz41_3 := zc3 BK162
              have hcz41_4 := zc4 BK162
              have hcz41_5 := zc5 BK162
              have hcz41_6 := zc6 BK162
              have hcz41_7 := zc7 BK162
              have hcz41_8 := zc8 BK162
              have hcz41_9 := zc9 BK162
              have hcz41_10 := zc10 BK162
              have hcz41_11 := zc11 BK162
              have hcz41_12 := zc12 BK162
              have hcz41_13 := zc13 BK162
              have hcz41_14 := zc14 BK162
              have hcz41_15 := zc15 BK162
              have hcz41_16 := zc16 BK162
              have hcz41_17 := zc17 BK162
              have hcz41_18 := zc18 BK162
              have hcz41_19 := zc19 BK162
              have hcz41_20 := zc20 BK162
              have hcz41_21 := zc21 BK162
              have hcz41_22 := zc22 BK162
              have hfz41_0 := blk_frozen BK162.out 0
              have hfz41_1 := blk_frozen BK162.out 1
              have hfz41_2 := blk_frozen BK162.out 2
              have hfz41_3 := blk_frozen BK162.out 3
              have hfz41_4 := blk_frozen BK162.out 4
              have hfz41_5 := blk_frozen BK162.out 5
              have hfz41_6 := blk_frozen BK162.out 6
              have hfz41_7 := blk_frozen BK162.out 7
              have hfz41_8 := blk_frozen BK162.out 8
              have hfz41_9 := blk_frozen BK162.out 9
              have hfz41_10 := blk_frozen BK162.out 10
              have hfz41_11 := blk_frozen BK162.out 11
              have hfz41_12 := blk_frozen BK162.out 12
              have hfz41_13 := blk_frozen BK162.out 13
              have hfz41_14 := blk_frozen BK162.out 14
              have hfz41_15 := blk_frozen BK162.out 15
              have hfz41_16 := blk_frozen BK162.out 16
              have hfz41_17 := blk_frozen BK162.out 17
              have hfz41_18 := blk_frozen BK162.out 18
              have hfz41_19 := blk_frozen BK162.out 19
              have hfz41_20 := blk_frozen BK162.out 20
              have hfz41_21 := blk_frozen BK162.out 21
              have hfz41_22 := blk_frozen BK162.out 22
              have hcz42_0 := zc0 BK163
              have hcz42_1 := zc1 BK163
              have hcz42_2 := zc2 BK163
              have hcz42_3 := zc3 BK163
              have hcz42_4 := zc4 BK163
              have hcz42_5 := zc5 BK163
              have hcz42_6 := zc6 BK163
              have hcz42_7 := zc7 BK163
              have hcz42_8 := zc8 BK163
              have hcz42_9 := zc9 BK163
              have hcz42_10 := zc10 BK163
              have hcz42_11 := zc11 BK163
              have hfz42_0 := blk_frozen BK163.out 0
              have hfz42_1 := blk_frozen BK163.out 1
              have hfz42_2 := blk_frozen BK163.out 2
              have hfz42_3 := blk_frozen BK163.out 3
              have hfz42_4 := blk_frozen BK163.out 4
              have hfz42_5 := blk_frozen BK163.out 5
              have hfz42_6 := blk_frozen BK163.out 6
              have hfz42_7 := blk_frozen BK163.out 7
              have hfz42_8 := blk_frozen BK163.out 8
              have hfz42_9 := blk_frozen BK163.out 9
              have hfz42_10 := blk_frozen BK163.out 10
              have hfz42_11 := blk_frozen BK163.out 11
              go_wp2_with (first | (go_at_call 23; (with_reducible refine (spec_l4Word.calls a0_8 true _ A25.out).mono ?_); rintro e w' ⟨rfl, ⟨nd, rfl⟩⟩) | (go_at_call 23; (with_reducible refine (spec_l4Word.calls a0_9 true _ A27.out).mono ?_); rintro e w' ⟨rfl, ⟨nd, rfl⟩⟩) | (go_at_call 24; (with_reducible refine (spec_CartOk.calls k2 a0_12 a0_13 a0_14 a0_15 a0_16 a0_17 a0_18 true _ A29.out).mono ?_); rintro e w43 ⟨rfl, hb⟩; replace BK162 := zk BK162 hb; replace BK163 := zk BK163 hb; replace HB := zt w hb; (try clear hb); (try clear hb2); (try clear hk); (try clear hi); have hZ44_ := cells_all BK162.out; simp only [allCells, Nat.zero_add, Nat.reduceAdd] at hZ44_; obtain ⟨hcz44_0, hfz44_0, hcz44_1, hfz44_1, hcz44_2, hfz44_2, hcz44_3, hfz44_3, hcz44_4, hfz44_4, hcz44_5, hfz44_5, hcz44_6, hfz44_6, hcz44_7, hfz44_7, hcz44_8, hfz44_8, hcz44_9, hfz44_9, hcz44_10, hfz44_10, hcz44_11, hfz44_11, hcz44_12, hfz44_12, hcz44_13, hfz44_13, hcz44_14, hfz44_14, hcz44_15, hfz44_15, hcz44_16, hfz44_16, hcz44_17, hfz44_17, hcz44_18, hfz44_18, hcz44_19, hfz44_19, hcz44_20, hfz44_20, hcz44_21, hfz44_21, hcz44_22, hfz44_22, _⟩ := hZ44_))
              go_ret
              exact ⟨ze _, zb _⟩
            ·rw [if_neg c32] at H
             have c32b0 : ((a0_20.size : Int) == 127) = false := beq_eq_false_iff_ne.mpr c32
             have c32b1 : ((a0_20.size : Int) != 127) = true := bne_iff_ne.mpr c32
             obtain rfl := Option.some.inj H
             have hnb45 := NB162_163.out
             have hnc45 := NB163_162.out
             have hcz46_0 := zc0 BK162
             have hcz46_1 := zc1 BK162
             have hcz46_2 := zc2 BK162
             have hcz46_3 := zc3 BK162
             have hcz46_4 := zc4 BK162
             have hcz46_5 := zc5 BK162
             have hcz46_6 := zc6 BK162
             have hcz46_7 := zc7 BK162
             have hcz46_8 := zc8 BK162
             have hcz46_9 := zc9 BK162
             have hcz46_10 := zc10 BK162
             have hcz46_11 := zc11 BK162
             have hcz46_12 := zc12 BK162
             have hcz46_13 := zc13 BK162
             have hcz46_14 := zc14 BK162
             have hcz46_15 := zc15 BK162
             have hcz46_16 := zc16 BK162
             have hcz46_17 := zc17 BK162
             have hcz46_18 := zc18 BK162
             have hcz46_19 := zc19 BK162
             have hcz46_20 := zc20 BK162
             have hcz46_21 := zc21 BK162
             have hcz46_22 := zc22 BK162
             have hfz46_0 := blk_frozen BK162.out 0
             have hfz46_1 := blk_frozen BK162.out 1
             have hfz46_2 := blk_frozen BK162.out 2
             have hfz46_3 := blk_frozen BK162.out 3
             have hfz46_4 := blk_frozen BK162.out 4
             have hfz46_5 := blk_frozen BK162.out 5
             have hfz46_6 := blk_frozen BK162.out 6
             have hfz46_7 := blk_frozen BK162.out 7
             have hfz46_8 := blk_frozen BK162.out 8
             have hfz46_9 := blk_frozen BK162.out 9
             have hfz46_10 := blk_frozen BK162.out 10
             have hfz46_11 := blk_frozen BK162.out 11
             have hfz46_12 := blk_frozen BK162.out 12
             have hfz46_13 := blk_frozen BK162.out 13
             have hfz46_14 := blk_frozen BK162.out 14
             have hfz46_15 := blk_frozen BK162.out 15
             have hfz46_16 := blk_frozen BK162.out 16
             have hfz46_17 := blk_frozen BK162.out 17
             have hfz46_18 := blk_frozen BK162.out 18
             have hfz46_19 := blk_frozen BK162.out 19
             have hfz46_20 := blk_frozen BK162.out 20
             have hfz46_21 := blk_frozen BK162.out 21
             have hfz46_22 := blk_frozen BK162.out 22
             have hcz47_0 := zc0 BK163
             have hcz47_1 := zc1 BK163
             have hcz47_2 := zc2 BK163
             have hcz47_3 := zc3 BK163
             have hcz47_4 := zc4 BK163
             have hcz47_5 := zc5 BK163
             have hcz47_6 := zc6 BK163
             have hcz47_7 := zc7 BK163
             have hcz47_8 := zc8 BK163
             have hcz47_9 := zc9 BK163
             have hcz47_10 := zc10 BK163
             have hcz47_11 := zc11 BK163
             have hfz47_0 := blk_frozen BK163.out 0
             have hfz47_1 := blk_frozen BK163.out 1
             have hfz47_2 := blk_frozen BK163.out 2
             have hfz47_3 := blk_frozen BK163.out 3
             have hfz47_4 := blk_frozen BK163.out 4
             have hfz47_5 := blk_frozen BK163.out 5
             have hfz47_6 := blk_frozen BK163.out 6
             have hfz47_7 := blk_frozen BK163.out 7
             have hfz47_8 := blk_frozen BK163.out 8
             have hfz47_9 := blk_frozen BK163.out 9
             have hfz47_10 := blk_frozen BK163.out 10
             have hfz47_11 := blk_frozen BK163.out 11
             go_wp2_with (first | (go_at_call 23; (with_reducible refine (spec_l4Word.calls a0_8 true _ A25.out).mono ?_); rintro e w' ⟨rfl, ⟨nd, rfl⟩⟩) | (go_at_call 23; (with_reducible refine (spec_l4Word.calls a0_9 true _ A27.out).mono ?_); rintro e w' ⟨rfl, ⟨nd, rfl⟩⟩) | (go_at_call 24; (with_reducible refine (spec_CartOk.calls k2 a0_12 a0_13 a0_14 a0_15 a0_16 a0_17 a0_18 true _ A29.out).mono ?_); rintro e w48 ⟨rfl, hb⟩; replace BK162 := zk BK162 hb; replace BK163 := zk BK163 hb; replace HB := zt w hb; (try clear hb); (try clear hb2); (try clear hk); (try clear hi); have hZ49_ := cells_all BK162.out; simp only [allCells, Nat.zero_add, Nat.reduceAdd] at hZ49_; obtain ⟨hcz49_0, hfz49_0, hcz49_1, hfz49_1, hcz49_2, hfz49_2, hcz49_3, hfz49_3, hcz49_4, hfz49_4, hcz49_5, hfz49_5, hcz49_6, hfz49_6, hcz49_7, hfz49_7, hcz49_8, hfz49_8, hcz49_9, hfz49_9, hcz49_10, hfz49_10, hcz49_11, hfz49_11, hcz49_12, hfz49_12, hcz49_13, hfz49_13, hcz49_14, hfz49_14, hcz49_15, hfz49_15, hcz49_16, hfz49_16, hcz49_17, hfz49_17, hcz49_18, hfz49_18, hcz49_19, hfz49_19, hcz49_20, hfz49_20, hcz49_21, hfz49_21, hcz49_22, hfz49_22, _⟩ := hZ49_))
             go_ret
             exact ⟨ze _, zb _⟩
           ·rw [if_neg c31] at H
            have c31b0 : ((a0_19.size : Int) == 256) = false := beq_eq_false_iff_ne.mpr c31
            have c31b1 : ((a0_19.size : Int) != 256) = true := bne_iff_ne.mpr c31
            obtain rfl := Option.some.inj H
            have hnb50 := NB162_163.out
            have hnc50 := NB163_162.out
            have hcz51_0 := zc0 BK162
            have hcz51_1 := zc1 BK162
            have hcz51_2 := zc2 BK162
            have hcz51_3 := zc3 BK162
            have hcz51_4 := zc4 BK162
            have hcz51_5 := zc5 BK162
            have hcz51_6 := zc6 BK162
            have hcz51_7 := zc7 BK162
            have hcz51_8 := zc8 BK162
            have hcz51_9 := zc9 BK162
            have hcz51_10 := zc10 BK162
            have hcz51_11 := zc11 BK162
            have hcz51_12 := zc12 BK162
            have hcz51_13 := zc13 BK162
            have hcz51_14 := zc14 BK162
            have hcz51_15 := zc15 BK162
            have hcz51_16 := zc16 BK162
            have hcz51_17 := zc17 BK162
            have hcz51_18 := zc18 BK162
            have hcz51_19 := zc19 BK162
            have hcz51_20 := zc20 BK162
            have hcz51_21 := zc21 BK162
            have hcz51_22 := zc22 BK162
            have hfz51_0 := blk_frozen BK162.out 0
            have hfz51_1 := blk_frozen BK162.out 1
            have hfz51_2 := blk_frozen BK162.out 2
            have hfz51_3 := blk_frozen BK162.out 3
            have hfz51_4 := blk_frozen BK162.out 4
            have hfz51_5 := blk_frozen BK162.out 5
            have hfz51_6 := blk_frozen BK162.out 6
            have hfz51_7 := blk_frozen BK162.out 7
            have hfz51_8 := blk_frozen BK162.out 8
            have hfz51_9 := blk_frozen BK162.out 9
            have hfz51_10 := blk_frozen BK162.out 10
            have hfz51_11 := blk_frozen BK162.out 11
            have hfz51_12 := blk_frozen BK162.out 12
            have hfz51_13 := blk_frozen BK162.out 13
            have hfz51_14 := blk_frozen BK162.out 14
            have hfz51_15 := blk_frozen BK162.out 15
            have hfz51_16 := blk_frozen BK162.out 16
            have hfz51_17 := blk_frozen BK162.out 17
            have hfz51_18 := blk_frozen BK162.out 18
            have hfz51_19 := blk_frozen BK162.out 19
            have hfz51_20 := blk_frozen BK162.out 20
            have hfz51_21 := blk_frozen BK162.out 21
            have hfz51_22 := blk_frozen BK162.out 22
            have hcz52_0 := zc0 BK163
            have hcz52_1 := zc1 BK163
            have hcz52_2 := zc2 BK163
            have hcz52_3 := zc3 BK163
            have hcz52_4 := zc4 BK163
            have hcz52_5 := zc5 BK163
            have hcz52_6 := zc6 BK163
            have hcz52_7 := zc7 BK163
            have hcz52_8 := zc8 BK163
            have hcz52_9 := zc9 BK163
            have hcz52_10 := zc10 BK163
            have hcz52_11 := zc11 BK163
            have hfz52_0 := blk_frozen BK163.out 0
            have hfz52_1 := blk_frozen BK163.out 1
            have hfz52_2 := blk_frozen BK163.out 2
            have hfz52_3 := blk_frozen BK163.out 3
            have hfz52_4 := blk_frozen BK163.out 4
            have hfz52_5 := blk_frozen BK163.out 5
            have hfz52_6 := blk_frozen BK163.out 6
            have hfz52_7 := blk_frozen BK163.out 7
            have hfz52_8 := blk_frozen BK163.out 8
            have hfz52_9 := blk_frozen BK163.out 9
            have hfz52_10 := blk_frozen BK163.out 10
            have hfz52_11 := blk_frozen BK163.out 11
            go_wp2_with (first | (go_at_call 23; (with_reducible refine (spec_l4Word.calls a0_8 true _ A25.out).mono ?_); rintro e w' ⟨rfl, ⟨nd, rfl⟩⟩) | (go_at_call 23; (with_reducible refine (spec_l4Word.calls a0_9 true _ A27.out).mono ?_); rintro e w' ⟨rfl, ⟨nd, rfl⟩⟩) | (go_at_call 24; (with_reducible refine (spec_CartOk.calls k2 a0_12 a0_13 a0_14 a0_15 a0_16 a0_17 a0_18 true _ A29.out).mono ?_); rintro e w53 ⟨rfl, hb⟩; replace BK162 := zk BK162 hb; replace BK163 := zk BK163 hb; replace HB := zt w hb; (try clear hb); (try clear hb2); (try clear hk); (try clear hi); have hZ54_ := cells_all BK162.out; simp only [allCells, Nat.zero_add, Nat.reduceAdd] at hZ54_; obtain ⟨hcz54_0, hfz54_0, hcz54_1, hfz54_1, hcz54_2, hfz54_2, hcz54_3, hfz54_3, hcz54_4, hfz54_4, hcz54_5, hfz54_5, hcz54_6, hfz54_6, hcz54_7, hfz54_7, hcz54_8, hfz54_8, hcz54_9, hfz54_9, hcz54_10, hfz54_10, hcz54_11, hfz54_11, hcz54_12, hfz54_12, hcz54_13, hfz54_13, hcz54_14, hfz54_14, hcz54_15, hfz54_15, hcz54_16, hfz54_16, hcz54_17, hfz54_17, hcz54_18, hfz54_18, hcz54_19, hfz54_19, hcz54_20, hfz54_20, hcz54_21, hfz54_21, hcz54_22, hfz54_22, _⟩ := hZ54_))
            go_ret
            exact ⟨ze _, zb _⟩
          ·replace c30 := Bool.eq_false_iff.mpr c30
           subst c30
           rw [if_neg (show ¬ (false = true) by decide)] at H
           obtain rfl := Option.some.inj H
           have hnb55 := NB162_163.out
           have hnc55 := NB163_162.out
           have hcz56_0 := zc0 BK162
           have hcz56_1 := zc1 BK162
           have hcz56_2 := zc2 BK162
           have hcz56_3 := zc3 BK162
           have hcz56_4 := zc4 BK162
           have hcz56_5 := zc5 BK162
           have hcz56_6 := zc6 BK162
           have hcz56_7 := zc7 BK162
           have hcz56_8 := zc8 BK162
           have hcz56_9 := zc9 BK162
           have hcz56_10 := zc10 BK162
           have hcz56_11 := zc11 BK162
           have hcz56_12 := zc12 BK162
           have hcz56_13 := zc13 BK162
           have hcz56_14 := zc14 BK162
           have hcz56_15 := zc15 BK162
           have hcz56_16 := zc16 BK162
           have hcz56_17 := zc17 BK162
           have hcz56_18 := zc18 BK162
           have hcz56_19 := zc19 BK162
           have hcz56_20 := zc20 BK162
           have hcz56_21 := zc21 BK162
           have hcz56_22 := zc22 BK162
           have hfz56_0 := blk_frozen BK162.out 0
           have hfz56_1 := blk_frozen BK162.out 1
           have hfz56_2 := blk_frozen BK162.out 2
           have hfz56_3 := blk_frozen BK162.out 3
           have hfz56_4 := blk_frozen BK162.out 4
           have hfz56_5 := blk_frozen BK162.out 5
           have hfz56_6 := blk_frozen BK162.out 6
           have hfz56_7 := blk_frozen BK162.out 7
           have hfz56_8 := blk_frozen BK162.out 8
           have hfz56_9 := blk_frozen BK162.out 9
           have hfz56_10 := blk_frozen BK162.out 10
           have hfz56_11 := blk_frozen BK162.out 11
           have hfz56_12 := blk_frozen BK162.out 12
           have hfz56_13 := blk_frozen BK162.out 13
           have hfz56_14 := blk_frozen BK162.out 14
           have hfz56_15 := blk_frozen BK162.out 15
           have hfz56_16 := blk_frozen BK162.out 16
           have hfz56_17 := blk_frozen BK162.out 17
           have hfz56_18 := blk_frozen BK162.out 18
           have hfz56_19 := blk_frozen BK162.out 19
           have hfz56_20 := blk_frozen BK162.out 20
           have hfz56_21 := blk_frozen BK162.out 21
           have hfz56_22 := blk_frozen BK162.out 22
           have hcz57_0 := zc0 BK163
           have hcz57_1 := zc1 BK163
           have hcz57_2 := zc2 BK163
           have hcz57_3 := zc3 BK163
           have hcz57_4 := zc4 BK163
           have hcz57_5 := zc5 BK163
           have hcz57_6 := zc6 BK163
           have hcz57_7 := zc7 BK163
           have hcz57_8 := zc8 BK163
           have hcz57_9 := zc9 BK163
           have hcz57_10 := zc10 BK163
           have hcz57_11 := zc11 BK163
           have hfz57_0 := blk_frozen BK163.out 0
           have hfz57_1 := blk_frozen BK163.out 1
           have hfz57_2 := blk_frozen BK163.out 2
           have hfz57_3 := blk_frozen BK163.out 3
           have hfz57_4 := blk_frozen BK163.out 4
           have hfz57_5 := blk_frozen BK163.out 5
           have hfz57_6 := blk_frozen BK163.out 6
           have hfz57_7 := blk_frozen BK163.out 7
           have hfz57_8 := blk_frozen BK163.out 8
           have hfz57_9 := blk_frozen BK163.out 9
           have hfz57_10 := blk_frozen BK163.out 10
           have hfz57_11 := blk_frozen BK163.out 11
           go_wp2_with (first | (go_at_call 23; (with_reducible refine (spec_l4Word.calls a0_8 true _ A25.out).mono ?_); rintro e w' ⟨rfl, ⟨nd, rfl⟩⟩) | (go_at_call 23; (with_reducible refine (spec_l4Word.calls a0_9 true _ A27.out).mono ?_); rintro e w' ⟨rfl, ⟨nd, rfl⟩⟩) | (go_at_call 24; (with_reducible refine (spec_CartOk.calls k2 a0_12 a0_13 a0_14 a0_15 a0_16 a0_17 a0_18 false _ A29.out).mono ?_); rintro e w58 ⟨rfl, hb⟩; replace BK162 := zk BK162 hb; replace BK163 := zk BK163 hb; replace HB := zt w hb; (try clear hb); (try clear hb2); (try clear hk); (try clear hi)))
           go_ret
           exact ⟨ze _, zb _⟩
         ·replace c28 := Bool.eq_false_iff.mpr c28
          subst c28
          rw [if_neg (show ¬ (false = true) by decide)] at H
          obtain rfl := Option.some.inj H
          have hnb59 := NB162_163.out
          have hnc59 := NB163_162.out
          have hcz60_0 := zc0 BK162
          have hcz60_1 := zc1 BK162
          have hcz60_2 := zc2 BK162
          have hcz60_3 := zc3 BK162
          have hcz60_4 := zc4 BK162
          have hcz60_5 := zc5 BK162
          have hcz60_6 := zc6 BK162
          have hcz60_7 := zc7 BK162
          have hcz60_8 := zc8 BK162
          have hcz60_9 := zc9 BK162
          have hcz60_10 := zc10 BK162
          have hcz60_11 := zc11 BK162
          have hcz60_12 := zc12 BK162
          have hcz60_13 := zc13 BK162
          have hcz60_14 := zc14 BK162
          have hcz60_15 := zc15 BK162
          have hcz60_16 := zc16 BK162
          have hcz60_17 := zc17 BK162
          have hcz60_18 := zc18 BK162
          have hcz60_19 := zc19 BK162
          have hcz60_20 := zc20 BK162
          have hcz60_21 := zc21 BK162
          have hcz60_22 := zc22 BK162
          have hfz60_0 := blk_frozen BK162.out 0
          have hfz60_1 := blk_frozen BK162.out 1
          have hfz60_2 := blk_frozen BK162.out 2
          have hfz60_3 := blk_frozen BK162.out 3
          have hfz60_4 := blk_frozen BK162.out 4
          have hfz60_5 := blk_frozen BK162.out 5
          have hfz60_6 := blk_frozen BK162.out 6
          have hfz60_7 := blk_frozen BK162.out 7
          have hfz60_8 := blk_frozen BK162.out 8
          have hfz60_9 := blk_frozen BK162.out 9
          have hfz60_10 := blk_frozen BK162.out 10
          have hfz60_11 := blk_frozen BK162.out 11
          have hfz60_12 := blk_frozen BK162.out 12
          have hfz60_13 := blk_frozen BK162.out 13
          have hfz60_14 := blk_frozen BK162.out 14
          have hfz60_15 := blk_frozen BK162.out 15
          have hfz60_16 := blk_frozen BK162.out 16
          have hfz60_17 := blk_frozen BK162.out 17
          have hfz60_18 := blk_frozen BK162.out 18
          have hfz60_19 := blk_frozen BK162.out 19
          have hfz60_20 := blk_frozen BK162.out 20
          have hfz60_21 := blk_frozen BK162.out 21
          have hfz60_22 := blk_frozen BK162.out 22
          have hcz61_0 := zc0 BK163
          have hcz61_1 := zc1 BK163
          have hcz61_2 := zc2 BK163
          have hcz61_3 := zc3 BK163
          have hcz61_4 := zc4 BK163
          have hcz61_5 := zc5 BK163
          have hcz61_6 := zc6 BK163
          have hcz61_7 := zc7 BK163
          have hcz61_8 := zc8 BK163
          have hcz61_9 := zc9 BK163
          have hcz61_10 := zc10 BK163
          have hcz61_11 := zc11 BK163
          have hfz61_0 := blk_frozen BK163.out 0
          have hfz61_1 := blk_frozen BK163.out 1
          have hfz61_2 := blk_frozen BK163.out 2
          have hfz61_3 := blk_frozen BK163.out 3
          have hfz61_4 := blk_frozen BK163.out 4
          have hfz61_5 := blk_frozen BK163.out 5
          have hfz61_6 := blk_frozen BK163.out 6
          have hfz61_7 := blk_frozen BK163.out 7
          have hfz61_8 := blk_frozen BK163.out 8
          have hfz61_9 := blk_frozen BK163.out 9
          have hfz61_10 := blk_frozen BK163.out 10
          have hfz61_11 := blk_frozen BK163.out 11
          go_wp2_with (first | (go_at_call 23; (with_reducible refine (spec_l4Word.calls a0_8 true _ A25.out).mono ?_); rintro e w' ⟨rfl, ⟨nd, rfl⟩⟩) | (go_at_call 23; (with_reducible refine (spec_l4Word.calls a0_9 false _ A27.out).mono ?_); rintro e w' ⟨rfl, ⟨nd, rfl⟩⟩))
          go_ret
          exact ⟨ze _, zb _⟩
        ·replace c26 := Bool.eq_false_iff.mpr c26
         subst c26
         rw [if_neg (show ¬ (false = true) by decide)] at H
         obtain rfl := Option.some.inj H
         have hnb62 := NB162_163.out
         have hnc62 := NB163_162.out
         have hcz63_0 := zc0 BK162
         have hcz63_1 := zc1 BK162
         have hcz63_2 := zc2 BK162
         have hcz63_3 := zc3 BK162
         have hcz63_4 := zc4 BK162
         have hcz63_5 := zc5 BK162
         have hcz63_6 := zc6 BK162
         have hcz63_7 := zc7 BK162
         have hcz63_8 := zc8 BK162
         have hcz63_9 := zc9 BK162
         have hcz63_10 := zc10 BK162
         have hcz63_11 := zc11 BK162
         have hcz63_12 := zc12 BK162
         have hcz63_13 := zc13 BK162
         have hcz63_14 := zc14 BK162
         have hcz63_15 := zc15 BK162
         have hcz63_16 := zc16 BK162
         have hcz63_17 := zc17 BK162
         have hcz63_18 := zc18 BK162
         have hcz63_19 := zc19 BK162
         have hcz63_20 := zc20 BK162
         have hcz63_21 := zc21 BK162
         have hcz63_22 := zc22 BK162
         have hfz63_0 := blk_frozen BK162.out 0
         have hfz63_1 := blk_frozen BK162.out 1
         have hfz63_2 := blk_frozen BK162.out 2
         have hfz63_3 := blk_frozen BK162.out 3
         have hfz63_4 := blk_frozen BK162.out 4
         have hfz63_5 := blk_frozen BK162.out 5
         have hfz63_6 := blk_frozen BK162.out 6
         have hfz63_7 := blk_frozen BK162.out 7
         have hfz63_8 := blk_frozen BK162.out 8
         have hfz63_9 := blk_frozen BK162.out 9
         have hfz63_10 := blk_frozen BK162.out 10
         have hfz63_11 := blk_frozen BK162.out 11
         have hfz63_12 := blk_frozen BK162.out 12
         have hfz63_13 := blk_frozen BK162.out 13
         have hfz63_14 := blk_frozen BK162.out 14
         have hfz63_15 := blk_frozen BK162.out 15
         have hfz63_16 := blk_frozen BK162.out 16
         have hfz63_17 := blk_frozen BK162.out 17
         have hfz63_18 := blk_frozen BK162.out 18
         have hfz63_19 := blk_frozen BK162.out 19
         have hfz63_20 := blk_frozen BK162.out 20
         have hfz63_21 := blk_frozen BK162.out 21
         have hfz63_22 := blk_frozen BK162.out 22
         have hcz64_0 := zc0 BK163
         have hcz64_1 := zc1 BK163
         have hcz64_2 := zc2 BK163
         have hcz64_3 := zc3 BK163
         have hcz64_4 := zc4 BK163
         have hcz64_5 := zc5 BK163
         have hcz64_6 := zc6 BK163
         have hcz64_7 := zc7 BK163
         have hcz64_8 := zc8 BK163
         have hcz64_9 := zc9 BK163
         have hcz64_10 := zc10 BK163
         have hcz64_11 := zc11 BK163
         have hfz64_0 := blk_frozen BK163.out 0
         have hfz64_1 := blk_frozen BK163.out 1
         have hfz64_2 := blk_frozen BK163.out 2
         have hfz64_3 := blk_frozen BK163.out 3
         have hfz64_4 := blk_frozen BK163.out 4
         have hfz64_5 := blk_frozen BK163.out 5
         have hfz64_6 := blk_frozen BK163.out 6
         have hfz64_7 := blk_frozen BK163.out 7
         have hfz64_8 := blk_frozen BK163.out 8
         have hfz64_9 := blk_frozen BK163.out 9
         have hfz64_10 := blk_frozen BK163.out 10
         have hfz64_11 := blk_frozen BK163.out 11
         go_wp2_with (first | (go_at_call 23; (with_reducible refine (spec_l4Word.calls a0_8 false _ A25.out).mono ?_); rintro e w' ⟨rfl, ⟨nd, rfl⟩⟩))
         go_ret
         exact ⟨ze _, zb _⟩
       ·rw [if_neg c24] at H
        have c24b0 : ((Int.tmod a0_1 16) == 0) = false := beq_eq_false_iff_ne.mpr c24
        have c24b1 : ((Int.tmod a0_1 16) != 0) = true := bne_iff_ne.mpr c24
        obtain rfl := Option.some.inj H
        have hnb65 := NB162_163.out
        have hnc65 := NB163_162.out
        have hcz66_0 := zc0 BK162
        have hcz66_1 := zc1 BK162
        have hcz66_2 := zc2 BK162
        have hcz66_3 := zc3 BK162
        have hcz66_4 := zc4 BK162
        have hcz66_5 := zc5 BK162
        have hcz66_6 := zc6 BK162
        have hcz66_7 := zc7 BK162
        have hcz66_8 := zc8 BK162
        have hcz66_9 := zc9 BK162
        have hcz66_10 := zc10 BK162
        have hcz66_11 := zc11 BK162
        have hcz66_12 := zc12 BK162
        have hcz66_13 := zc13 BK162
        have hcz66_14 := zc14 BK162
        have hcz66_15 := zc15 BK162
        have hcz66_16 := zc16 BK162
        have hcz66_17 := zc17 BK162
        have hcz66_18 := zc18 BK162
        have hcz66_19 := zc19 BK162
        have hcz66_20 := zc20 BK162
        have hcz66_21 := zc21 BK162
        have hcz66_22 := zc22 BK162
        have hfz66_0 := blk_frozen BK162.out 0
        have hfz66_1 := blk_frozen BK162.out 1
        have hfz66_2 := blk_frozen BK162.out 2
        have hfz66_3 := blk_frozen BK162.out 3
        have hfz66_4 := blk_frozen BK162.out 4
        have hfz66_5 := blk_frozen BK162.out 5
        have hfz66_6 := blk_frozen BK162.out 6
        have hfz66_7 := blk_frozen BK162.out 7
        have hfz66_8 := blk_frozen BK162.out 8
        have hfz66_9 := blk_frozen BK162.out 9
        have hfz66_10 := blk_frozen BK162.out 10
        have hfz66_11 := blk_frozen BK162.out 11
        have hfz66_12 := blk_frozen BK162.out 12
        have hfz66_13 := blk_frozen BK162.out 13
        have hfz66_14 := blk_frozen BK162.out 14
        have hfz66_15 := blk_frozen BK162.out 15
        have hfz66_16 := blk_frozen BK162.out 16
        have hfz66_17 := blk_frozen BK162.out 17
        have hfz66_18 := blk_frozen BK162.out 18
        have hfz66_19 := blk_frozen BK162.out 19
        have hfz66_20 := blk_frozen BK162.out 20
        have hfz66_21 := blk_frozen BK162.out 21
        have hfz66_22 := blk_frozen BK162.out 22
        have hcz67_0 := zc0 BK163
        have hcz67_1 := zc1 BK163
        have hcz67_2 := zc2 BK163
        have hcz67_3 := zc3 BK163
        have hcz67_4 := zc4 BK163
        have hcz67_5 := zc5 BK163
        have hcz67_6 := zc6 BK163
        have hcz67_7 := zc7 BK163
        have hcz67_8 := zc8 BK163
        have hcz67_9 := zc9 BK163
        have hcz67_10 := zc10 BK163
        have hcz67_11 := zc11 BK163
        have hfz67_0 := blk_frozen BK163.out 0
        have hfz67_1 := blk_frozen BK163.out 1
        have hfz67_2 := blk_frozen BK163.out 2
        have hfz67_3 := blk_frozen BK163.out 3
        have hfz67_4 := blk_frozen BK163.out 4
        have hfz67_5 := blk_frozen BK163.out 5
        have hfz67_6 := blk_frozen BK163.out 6
        have hfz67_7 := blk_frozen BK163.out 7
        have hfz67_8 := blk_frozen BK163.out 8
        have hfz67_9 := blk_frozen BK163.out 9
        have hfz67_10 := blk_frozen BK163.out 10
        have hfz67_11 := blk_frozen BK163.out 11
        go_wp2
        go_ret
        exact ⟨ze _, zb _⟩

end Go.Proofs.Ytmgbdbamfljjnaa.PFnExactBusWrite
