/- What the Go functions that the law FnExactObjectOk reaches compute, function by function, and that Go comes to just that. -/
import Derived.Test.YtbbngeooodcbcaaPFnExactObjectOkx0
import Derived.Test.YtbbngeooodcbcaaAidZ
import Derived.Test.YtbbngeooodcbcaaPFnExactObjectOkx8
import Derived.Test.YtbbngeooodcbcaaPFnExactObjectOkx9
namespace Go.Proofs.Ytbbngeooodcbcaa.PFnExactObjectOk
open Go.RowKit Go.Proofs.Ytbbngeooodcbcaa.Z Go.Proofs.YtbbngeooodcbcaaW.PrintWords Go.Proofs.YtbbngeooodcbcaaW.PrintLast Go.Proofs.YtbbngeooodcbcaaW.PrintMore
attribute [local go_sem] max2_int min2_int max_two min_two max_three min_three max_four min_four   -- for this text's walks alone
set_option linter.unusedVariables false
set_option linter.unusedSimpArgs false

/-! ### impl_Section: function 20 -/
set_option maxHeartbeats 2000000 in
theorem impl_Section.pred (k : Nat) (y : S43) (A2 : Option Addr) (c2 : Nat) (b : Bool) (w : World) (hr2 : Kd.C k70 w A2 y.f5.length y.f5) (hc2 : y.f5.length ≤ c2) (h : impl_SectionOk.f k y.f0 y.f1 y.f2 y.f3 y.f4 y.f5 = some b) :
    Calls Try.prog 21 #[.agg #[.string y.f0, .int .i64 y.f1, .int .i64 y.f2, .int .i64 y.f3, .string y.f4, .slice A2 y.f5.length c2]] w fun e w' => e = .returned (.bool (!b)) ∧ Below w.heap.size w w' := by
  have hu_0 := Try.underlying43
  have HR2 := Aside0.mk hr2
  have HC2 := Aside0.mk hc2
  have H := Aside0.mk h
  clear hr2 hc2 h
  go_enter Try.func21, Try.ntmps21
  go_wp2_with (go_at_call 22; refine (impl_SectionOk.calls k y.f0 y.f1 y.f2 y.f3 y.f4 A2 c2 y.f5 b _ ?h3 HC2.out H.out).mono ?_; (case h3 => exact Kd.C_below HR2.out (by repeat (first | exact Below.refl _ _ | apply below_alloc | apply pw_below_drewN | apply below_drew))); rintro e w9 ⟨rfl, hb9⟩; have HB := Aside0.mk (below_step (show Below w.heap.size w _ from by repeat (first | exact Below.refl _ _ | apply below_alloc | apply pw_below_drewN | apply below_drew)) hb9); clear hb9)
  try go_wp2
  go_ret
  exact ⟨rfl, by repeat (first | exact HB.out | apply below_alloc | apply pw_below_drewN | apply below_drew1)⟩
def impl_Section.go (k : Nat) : List S43 → Int → Option Int
  | [], _ => some (-1)
  | y :: r, i => (impl_SectionOk.f k y.f0 y.f1 y.f2 y.f3 y.f4 y.f5).bind fun b => if b = true then impl_Section.go k r (i + 1) else some i
def impl_Section.f (k : Nat) (l0 : List S43) (_ : Unit) : Option Bool := (impl_Section.go k l0 0).bind fun i => some (decide (0 ≤ i))
theorem impl_Section.go_mono (k : Nat) : ∀ (y : List S43) (i : Int), LeO (impl_Section.go k y i) (impl_Section.go (k + 1) y i)
  | [], _ => LeO.refl _
  | x :: r, i => LeO.bind (impl_SectionOk.mono _ _ _ _ _ _  _) (fun _ => LeO.ite (impl_Section.go_mono k r (i + 1)) (LeO.refl _))
theorem impl_Section.mono : ∀ a0 a1 k, LeO (impl_Section.f k a0 a1) (impl_Section.f (k + 1) a0 a1) := by
  intro a0 a1 k
  unfold impl_Section.f
  exact LeO.bind (impl_Section.go_mono k a0 0) (fun _ => LeO.refl _)
open Go.Shelf in
set_option maxHeartbeats 4000000 in
set_option maxRecDepth 100000 in
theorem impl_Section.walk (k : Nat) (A0 : Option Addr) (c0 : Nat) (l0 : List S43) (r : Int) (w : World) (hr0 : Kd.C k43 w A0 l0.length l0) (hc0 : l0.length ≤ c0) (h : impl_Section.go k l0 0 = some r) :
    Calls Try.prog 42 #[.slice A0 l0.length c0, .func (.func 21) #[] #[]] w fun e w' => e = .returned (.int .i64 r) ∧ Below w.heap.size w w' := by
  have hu_0 := Try.underlying43
  have eg := enters_of Try.func21 (by kernel_rfl) rfl
  have hbig : l0.length ≤ 9223372036854775807 := hr0.2.1
  have HR := Aside0.mk hr0
  have HF := Aside0.mk h
  clear hr0 h hc0
  go_enter Try.func42, Try.ntmps42
  go_wp2
  go_loopg [5, 8] l0.length (fun gg _ s8 wr => ∃ kk : Nat, kk ≤ l0.length ∧ l0.length - kk ≤ gg ∧ s8 = .int .i64 kk ∧ Aside0 (Below w.heap.size w wr) ∧ Aside0 (impl_Section.go k (l0.drop kk) kk = some r))
  case atStart => exact ⟨0, Nat.zero_le _, by omega, rfl, ⟨by repeat (first | exact Below.refl _ _ | apply pw_below_drewN | apply below_drew)⟩, HF⟩
  case round =>
    clear HF
    obtain ⟨kk, hkk, hg, rfl, HW, HA⟩ := hrel
    by_cases hlt : kk < l0.length
    · have hltz : (kk : Int) < (l0.length : Int) := by omega
      obtain ⟨ad, A2, c2, eA, hcell, hcell1, hcell2, hcell3, hcell4, hcell5, hl2, hi2⟩ := at_T43 HR.out (kk : Int) (by omega) (by omega)
      have hd : l0.drop kk = rd_T43 l0 kk :: l0.drop (kk + 1) := by
        rw [List.drop_eq_getElem_cons hlt, rd_T43, Int.toNat_natCast, List.getD_eq_getElem?_getD, List.getElem?_eq_getElem hlt]
        rfl
      have HA1 := HA.out
      rw [hd, impl_Section.go] at HA1
      rw [Int.toNat_natCast] at hcell hcell1 hcell2 hcell3 hcell4 hcell5
      replace hcell := pw_cell_below HW.out hcell
      replace hcell1 := pw_cell_below HW.out hcell1
      replace hcell2 := pw_cell_below HW.out hcell2
      replace hcell3 := pw_cell_below HW.out hcell3
      replace hcell4 := pw_cell_below HW.out hcell4
      replace hcell5 := pw_cell_below HW.out hcell5
      have HI2 := Aside0.mk hi2
      have HL2 := Aside0.mk hl2
      generalize rd_T43 l0 kk = y at hcell hcell1 hcell2 hcell3 hcell4 hcell5 HA1 HI2 HL2
      clear hd HA hi2 hl2
      obtain ⟨b, hp, HA2⟩ := Option.bind_eq_some_iff.1 HA1
      have HP := Aside0.mk hp
      clear HA1 hp
      subst eA
      cases b with
      | true =>
        rw [if_pos rfl] at HA2
        have HA3 := Aside0.mk HA2
        clear HA2
        go_wp2_with (go_at_call 21; refine (impl_Section.pred k y A2 c2 true _ ?hr2 HL2.out HP.out).mono ?_; (case hr2 => exact Kd.C_below HI2.out (by repeat (first | exact HW.out | apply below_alloc | apply pw_below_drewN | apply below_drew1))); rintro e w9 ⟨rfl, hb9⟩; have HWn := Aside0.mk (below_step (by repeat (first | exact HW.out | apply below_alloc | apply pw_below_drewN | apply below_drew1)) hb9); clear HW hb9; have HW := HWn; clear HWn)
        go_wp2
        go_roundg (l0.length - (kk + 1))
        case measure => omega
        case rel => exact ⟨kk + 1, by omega, by omega, by go_num, ⟨by repeat (first | exact HW.out | apply below_alloc | apply pw_below_drewN | apply below_drew1)⟩, ⟨by have := HA3.out; rw [show ((kk : Int) + 1) = ((kk + 1 : Nat) : Int) by omega] at this; exact this⟩⟩
      | false =>
        rw [if_neg (by decide)] at HA2
        obtain rfl := Option.some.inj HA2
        clear HA2
        go_wp2_with (go_at_call 21; refine (impl_Section.pred k y A2 c2 false _ ?hr2 HL2.out HP.out).mono ?_; (case hr2 => exact Kd.C_below HI2.out (by repeat (first | exact HW.out | apply below_alloc | apply pw_below_drewN | apply below_drew1))); rintro e w9 ⟨rfl, hb9⟩; have HWn := Aside0.mk (below_step (by repeat (first | exact HW.out | apply below_alloc | apply pw_below_drewN | apply below_drew1)) hb9); clear HW hb9; have HW := HWn; clear HWn)
        go_wp2
        go_ret
        exact ⟨rfl, by repeat (first | exact HW.out | apply below_alloc | apply pw_below_drewN | apply below_drew1)⟩
    · have hltz : ¬ (kk : Int) < (l0.length : Int) := by omega
      have HA1 := HA.out
      rw [List.drop_eq_nil_of_le (by omega), impl_Section.go] at HA1
      obtain rfl := Option.some.inj HA1
      clear HA HA1
      go_wp2
      go_ret
      exact ⟨rfl, by repeat (first | exact HW.out | apply below_alloc | apply pw_below_drewN | apply below_drew1)⟩
set_option maxHeartbeats 4000000 in
theorem impl_Section.calls (k : Nat) (A0 : Option Addr) (c0 : Nat) (l0 : List S43) (a1 : Unit) (r : Bool) (w : World) (hr0 : Kd.C k43 w A0 l0.length l0) (hc0 : l0.length ≤ c0) (h : impl_Section.f k l0 a1 = some r) :
 Calls Try.prog 20 #[.slice A0 l0.length c0, .func (.func 21) #[] #[]] w fun e w' => e = .returned (.bool r) ∧ Below w.heap.size w w' := by
 unfold impl_Section.f at h
 obtain ⟨i, hi, h⟩ := Option.bind_eq_some_iff.1 h
 obtain rfl := Option.some.inj h
 have HR := Aside0.mk hr0
 have HF := Aside0.mk hi
 have HC := Aside0.mk hc0
 clear hr0 hi h hc0
 go_enter Try.func20, Try.ntmps20
 go_wp2_with (go_at_call 42; refine (impl_Section.walk k A0 c0 l0 i _ ?hr HC.out HF.out).mono ?_; (case hr => exact Kd.C_below HR.out (by repeat (first | exact Below.refl _ _ | apply below_alloc | apply pw_below_drewN | apply below_drew))); rintro e w9 ⟨rfl, hb9⟩; have HW := Aside0.mk (below_step (show Below w.heap.size w _ from by repeat (first | exact Below.refl _ _ | apply below_alloc | apply pw_below_drewN | apply below_drew)) hb9); clear hb9)
 go_wp2
 go_ret
 exact ⟨rfl, by repeat (first | exact HW.out | apply below_alloc | apply pw_below_drewN | apply below_drew1)⟩

/-! ### impl_ENode: function 23 -/
set_option maxHeartbeats 2000000 in
theorem impl_ENode.pred (k : Nat) (y : (List S74)) (A2 : Option Addr) (c2 : Nat) (b : Bool) (w : World) (hr2 : Kd.C k74 w A2 y.length y) (hc2 : y.length ≤ c2) (h : impl_ExprOk.f k y = some b) :
    Calls Try.prog 24 #[.slice A2 y.length c2] w fun e w' => e = .returned (.bool (!b)) ∧ Below w.heap.size w w' := by
  have hu_0 := Try.underlying49
  have HR2 := Aside0.mk hr2
  have HC2 := Aside0.mk hc2
  have H := Aside0.mk h
  clear hr2 hc2 h
  go_enter Try.func24, Try.ntmps24
  go_wp2_with (go_at_call 25; refine (impl_ExprOk.calls k A2 c2 y b _ ?h3 HC2.out H.out).mono ?_; (case h3 => exact Kd.C_below HR2.out (by repeat (first | exact Below.refl _ _ | apply below_alloc | apply pw_below_drewN | apply below_drew))); rintro e w9 ⟨rfl, hb9⟩; have HB := Aside0.mk (below_step (show Below w.heap.size w _ from by repeat (first | exact Below.refl _ _ | apply below_alloc | apply pw_below_drewN | apply below_drew)) hb9); clear hb9)
  first | go_ret | (go_wp2; go_ret)
  exact ⟨rfl, by repeat (first | exact HB.out | apply below_alloc | apply pw_below_drewN | apply below_drew1)⟩
def impl_ENode.go (k : Nat) : List (List S74) → Int → Option Int
  | [], _ => some (-1)
  | y :: r, i => (impl_ExprOk.f k y).bind fun b => if b = true then impl_ENode.go k r (i + 1) else some i
def impl_ENode.f (k : Nat) (l0 : List (List S74)) (_ : Unit) : Option Bool := (impl_ENode.go k l0 0).bind fun i => some (decide (0 ≤ i))
theorem impl_ENode.go_mono (k : Nat) : ∀ (y : List (List S74)) (i : Int), LeO (impl_ENode.go k y i) (impl_ENode.go (k + 1) y i)
  | [], _ => LeO.refl _
  | x :: r, i => LeO.bind (impl_ExprOk.mono _  _) (fun _ => LeO.ite (impl_ENode.go_mono k r (i + 1)) (LeO.refl _))
theorem impl_ENode.mono : ∀ a0 a1 k, LeO (impl_ENode.f k a0 a1) (impl_ENode.f (k + 1) a0 a1) := by
  intro a0 a1 k
  unfold impl_ENode.f
  exact LeO.bind (impl_ENode.go_mono k a0 0) (fun _ => LeO.refl _)
def impl_ENode.rd_ (xs : List (List S74)) (i : Int) : List S74 := xs.getD i.toNat []
theorem impl_ENode.at_ {w : World} {A : Option Addr} {n : Nat} {xs : List (List S74)} (h : Kd.C (Kd.slice 74 k74) w A n xs) (i : Int) (h0 : 0 ≤ i) (h1 : i < n) : ∃ ad A0 c0, A = some ad ∧ w.cell? (ad.add i.toNat) = some (.slice A0 (impl_ENode.rd_ xs i).length c0) ∧ (impl_ENode.rd_ xs i).length ≤ c0 ∧ Kd.C k74 w A0 (impl_ENode.rd_ xs i).length (impl_ENode.rd_ xs i) := by
  obtain ⟨ad, c, e, _, hK, hc0⟩ := Kd.C_get h ([] : List S74) i h0 h1
  have hc : ∀ j u, c[j]? = some u → w.cell? (ad.add (i.toNat * 1 + j)) = some u := hc0
  obtain ⟨A0, c0, rfl, l0, g0⟩ := hK
  exact ⟨ad, A0, c0, e, by have hq := hc 0 _ rfl; rwa [Nat.mul_one, Nat.add_zero] at hq, l0, g0⟩
open Go.Shelf in
set_option maxHeartbeats 4000000 in
set_option maxRecDepth 100000 in
theorem impl_ENode.walk (k : Nat) (A0 : Option Addr) (c0 : Nat) (l0 : List (List S74)) (r : Int) (w : World) (hr0 : Kd.C (Kd.slice 74 k74) w A0 l0.length l0) (hc0 : l0.length ≤ c0) (h : impl_ENode.go k l0 0 = some r) :
    Calls Try.prog 48 #[.slice A0 l0.length c0, .func (.func 24) #[] #[]] w fun e w' => e = .returned (.int .i64 r) ∧ Below w.heap.size w w' := by
  have hu_0 := Try.underlying49
  have eg := enters_of Try.func24 (by kernel_rfl) rfl
  have hbig : l0.length ≤ 9223372036854775807 := hr0.2.1
  have HR := Aside0.mk hr0
  have HF := Aside0.mk h
  clear hr0 h hc0
  go_enter Try.func48, Try.ntmps48
  go_wp2
  go_loopg [5, 8] l0.length (fun gg _ s8 wr => ∃ kk : Nat, kk ≤ l0.length ∧ l0.length - kk ≤ gg ∧ s8 = .int .i64 kk ∧ Aside0 (Below w.heap.size w wr) ∧ Aside0 (impl_ENode.go k (l0.drop kk) kk = some r))
  case atStart => exact ⟨0, Nat.zero_le _, by omega, rfl, ⟨by repeat (first | exact Below.refl _ _ | apply pw_below_drewN | apply below_drew)⟩, HF⟩
  case round =>
    clear HF
    obtain ⟨kk, hkk, hg, rfl, HW, HA⟩ := hrel
    by_cases hlt : kk < l0.length
    · have hltz : (kk : Int) < (l0.length : Int) := by omega
      obtain ⟨ad, A2, c2, eA, hcell, hl2, hi2⟩ := impl_ENode.at_ HR.out (kk : Int) (by omega) (by omega)
      have hd : l0.drop kk = impl_ENode.rd_ l0 kk :: l0.drop (kk + 1) := by
        rw [List.drop_eq_getElem_cons hlt, impl_ENode.rd_, Int.toNat_natCast, List.getD_eq_getElem?_getD, List.getElem?_eq_getElem hlt]
        rfl
      have HA1 := HA.out
      rw [hd, impl_ENode.go] at HA1
      rw [Int.toNat_natCast] at hcell
      replace hcell := pw_cell_below HW.out hcell
      have HI2 := Aside0.mk hi2
      have HL2 := Aside0.mk hl2
      generalize impl_ENode.rd_ l0 kk = y at hcell HA1 HI2 HL2
      clear hd HA hi2 hl2
      obtain ⟨b, hp, HA2⟩ := Option.bind_eq_some_iff.1 HA1
      have HP := Aside0.mk hp
      clear HA1 hp
      subst eA
      cases b with
      | true =>
        rw [if_pos rfl] at HA2
        have HA3 := Aside0.mk HA2
        clear HA2
        go_wp2_with (go_at_call 24; refine (impl_ENode.pred k y A2 c2 true _ ?hr2 HL2.out HP.out).mono ?_; (case hr2 => exact Kd.C_below HI2.out (by repeat (first | exact HW.out | apply below_alloc | apply pw_below_drewN | apply below_drew1))); rintro e w9 ⟨rfl, hb9⟩; have HWn := Aside0.mk (below_step (by repeat (first | exact HW.out | apply below_alloc | apply pw_below_drewN | apply below_drew1)) hb9); clear HW hb9; have HW := HWn; clear HWn)
        go_wp2
        go_roundg (l0.length - (kk + 1))
        case measure => omega
        case rel => exact ⟨kk + 1, by omega, by omega, by go_num, ⟨by repeat (first | exact HW.out | apply below_alloc | apply pw_below_drewN | apply below_drew1)⟩, ⟨by have := HA3.out; rw [show ((kk : Int) + 1) = ((kk + 1 : Nat) : Int) by omega] at this; exact this⟩⟩
      | false =>
        rw [if_neg (by decide)] at HA2
        obtain rfl := Option.some.inj HA2
        clear HA2
        go_wp2_with (go_at_call 24; refine (impl_ENode.pred k y A2 c2 false _ ?hr2 HL2.out HP.out).mono ?_; (case hr2 => exact Kd.C_below HI2.out (by repeat (first | exact HW.out | apply below_alloc | apply pw_below_drewN | apply below_drew1))); rintro e w9 ⟨rfl, hb9⟩; have HWn := Aside0.mk (below_step (by repeat (first | exact HW.out | apply below_alloc | apply pw_below_drewN | apply below_drew1)) hb9); clear HW hb9; have HW := HWn; clear HWn)
        go_wp2
        go_ret
        exact ⟨rfl, by repeat (first | exact HW.out | apply below_alloc | apply pw_below_drewN | apply below_drew1)⟩
    · have hltz : ¬ (kk : Int) < (l0.length : Int) := by omega
      have HA1 := HA.out
      rw [List.drop_eq_nil_of_le (by omega), impl_ENode.go] at HA1
      obtain rfl := Option.some.inj HA1
      clear HA HA1
      go_wp2
      go_ret
      exact ⟨rfl, by repeat (first | exact HW.out | apply below_alloc | apply pw_below_drewN | apply below_drew1)⟩
set_option maxHeartbeats 4000000 in
theorem impl_ENode.calls (k : Nat) (A0 : Option Addr) (c0 : Nat) (l0 : List (List S74)) (a1 : Unit) (r : Bool) (w : World) (hr0 : Kd.C (Kd.slice 74 k74) w A0 l0.length l0) (hc0 : l0.length ≤ c0) (h : impl_ENode.f k l0 a1 = some r) :
 Calls Try.prog 23 #[.slice A0 l0.length c0, .func (.func 24) #[] #[]] w fun e w' => e = .returned (.bool r) ∧ Below w.heap.size w w' := by
 unfold impl_ENode.f at h
 obtain ⟨i, hi, h⟩ := Option.bind_eq_some_iff.1 h
 obtain rfl := Option.some.inj h
 have HR := Aside0.mk hr0
 have HF := Aside0.mk hi
 have HC := Aside0.mk hc0
 clear hr0 hi h hc0
 go_enter Try.func23, Try.ntmps23
 go_wp2_with (go_at_call 48; refine (impl_ENode.walk k A0 c0 l0 i _ ?hr HC.out HF.out).mono ?_; (case hr => exact Kd.C_below HR.out (by repeat (first | exact Below.refl _ _ | apply below_alloc | apply pw_below_drewN | apply below_drew))); rintro e w9 ⟨rfl, hb9⟩; have HW := Aside0.mk (below_step (show Below w.heap.size w _ from by repeat (first | exact Below.refl _ _ | apply below_alloc | apply pw_below_drewN | apply below_drew)) hb9); clear hb9)
 go_wp2
 go_ret
 exact ⟨rfl, by repeat (first | exact HW.out | apply below_alloc | apply pw_below_drewN | apply below_drew1)⟩

end Go.Proofs.Ytbbngeooodcbcaa.PFnExactObjectOk
