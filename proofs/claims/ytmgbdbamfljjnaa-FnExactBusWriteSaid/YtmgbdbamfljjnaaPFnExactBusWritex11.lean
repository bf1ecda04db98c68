/- What the Go functions that the law FnExactBusWrite reaches compute, function by function, and that Go comes to just that. -/
import Derived.Test.YtmgbdbamfljjnaaPFnExactBusWritex0
import Derived.Test.YtmgbdbamfljjnaaAidZ
import Derived.Test.YtmgbdbamfljjnaaPFnExactBusWritex6
import Derived.Test.YtmgbdbamfljjnaaPFnExactBusWritex8
import Derived.Test.YtmgbdbamfljjnaaPFnExactBusWritex10
namespace Go.Proofs.Ytmgbdbamfljjnaa.PFnExactBusWrite
open Go.RowKit Go.Proofs.Ytmgbdbamfljjnaa.Z Go.Proofs.YtmgbdbamfljjnaaW.PrintWords Go.Proofs.YtmgbdbamfljjnaaW.PrintLast Go.Proofs.YtmgbdbamfljjnaaW.PrintMore
attribute [local go_sem] max2_int min2_int max_two min_two max_three min_three max_four min_four   -- for this text's walks alone
set_option linter.unusedVariables false
set_option linter.unusedSimpArgs false

/-! ### impl_BusWrite: function 15 -/
def impl_BusWrite.writeF (k : Nat) (x0 x1 x2 x3 x4 x5 x6 x7 sp pc : Int) (ime hlt : Bool) (rom : ByteArray) (kind bank : Int) (ram : ByteArray) (rb : Int) (on : Bool) (mode : Int) (wk hi : ByteArray) (out : List Int) (ad v : Int) : Option (Bool × ByteArray × Int × Int × ByteArray × Int × Bool × Int × ByteArray × ByteArray × List Int) := (impl_within.f (Go.bits .and .i64 ad 65535) 49152 49407).bind fun t => if t = true then ((impl_replaced.f wk (wrap64 ((Go.bits .and .i64 ad 65535) - 49152)) v).bind fun s => some (true, rom, kind, bank, ram, rb, on, mode, s, hi, out)) else ((impl_within.f (Go.bits .and .i64 ad 65535) 65408 65534).bind fun t => if t = true then ((impl_replaced.f hi (wrap64 ((Go.bits .and .i64 ad 65535) - 65408)) v).bind fun s => some (true, rom, kind, bank, ram, rb, on, mode, wk, s, out)) else (if (Go.bits .and .i64 ad 65535) = 65281 then (if (out.length : Int) = 100 then some (false, rom, kind, bank, ram, rb, on, mode, wk, hi, out) else ((slices_Clone_int64_int64.f out).bind fun q => if q.length < 17592186044416 then some (true, rom, kind, bank, ram, rb, on, mode, wk, hi, (q ++ [v])) else none)) else ((impl_Cart_written.f k rom kind bank ram rb on mode (Go.bits .and .i64 ad 65535) v).bind fun c => some (true, c.1, c.2.1, c.2.2.1, c.2.2.2.1, c.2.2.2.2.1, c.2.2.2.2.2.1, c.2.2.2.2.2.2, wk, hi, out))))
theorem impl_BusWrite.writeF_mono : ∀ x0 x1 x2 x3 x4 x5 x6 x7 sp pc ime hlt rom kind bank ram rb on mode wk hi out ad v k, LeO (impl_BusWrite.writeF k x0 x1 x2 x3 x4 x5 x6 x7 sp pc ime hlt rom kind bank ram rb on mode wk hi out ad v) (impl_BusWrite.writeF (k + 1) x0 x1 x2 x3 x4 x5 x6 x7 sp pc ime hlt rom kind bank ram rb on mode wk hi out ad v) := by
  intro x0 x1 x2 x3 x4 x5 x6 x7 sp pc ime hlt rom kind bank ram rb on mode wk hi out ad v k
  unfold impl_BusWrite.writeF
  exact LeO.bind (LeO.refl _) (fun _ => LeO.ite (LeO.refl _) (LeO.bind (LeO.refl _) (fun _ => LeO.ite (LeO.refl _) (LeO.ite (LeO.refl _) (LeO.bind (impl_Cart_written.mono _ _ _ _ _ _ _ _ _ _) (fun _ => LeO.refl _))))))
open Go.Proofs.Ytmgbdbamfljjnaa.Aid in
set_option maxHeartbeats 4000000 in
set_option maxRecDepth 100000 in
theorem impl_BusWrite.write (k : Nat) (g : Nat) (x0 x1 x2 x3 x4 x5 x6 x7 sp pc : Int) (ime hlt : Bool) (rom : ByteArray) (kind bank : Int) (ram : ByteArray) (rb : Int) (on : Bool) (mode : Int) (wk hi : ByteArray) (A0 : Option Addr) (c0 : Nat) (out : List Int) (cyc : Int) (ad v : Int) (ok : Bool) (rom2 : ByteArray) (kind2 bank2 : Int) (ram2 : ByteArray) (rb2 : Int) (on2 : Bool) (mode2 : Int) (wk2 hi2 : ByteArray) (out2 : List Int) (w0 w : World) (hblk : w.heap[g]? = some (.cells #[.int .i64 x0, .int .i64 x1, .int .i64 x2, .int .i64 x3, .int .i64 x4, .int .i64 x5, .int .i64 x6, .int .i64 x7, .int .i64 sp, .int .i64 pc, .bool ime, .bool hlt, .string rom, .int .i64 kind, .int .i64 bank, .string ram, .int .i64 rb, .bool on, .int .i64 mode, .string wk, .string hi, .slice A0 out.length c0, .int .i64 cyc] 34 (0, 0))) (g2 : Nat) (cs2 : Array Value) (hblk2 : w.heap[g2]? = some (.cells cs2 34 (0, 0))) (hne : g2 ≠ g) (hg0 : w0.heap.size ≤ g) (hr : Kd.C (Kd.int .i64) w0 A0 out.length out) (hc : out.length ≤ c0) (hB : Below w0.heap.size w0 w) (h : impl_BusWrite.writeF k x0 x1 x2 x3 x4 x5 x6 x7 sp pc ime hlt rom kind bank ram rb on mode wk hi out ad v = some (ok, rom2, kind2, bank2, ram2, rb2, on2, mode2, wk2, hi2, out2)) :
    Calls Try.prog 42 #[.pointer (some ⟨g, 0, none⟩), .int .i64 ad, .int .i64 v] w fun e w' => e = .returned (.bool ok) ∧ (∃ (A2 : Option Addr) (c2 : Nat), w'.heap[g]? = some (.cells #[.int .i64 x0, .int .i64 x1, .int .i64 x2, .int .i64 x3, .int .i64 x4, .int .i64 x5, .int .i64 x6, .int .i64 x7, .int .i64 sp, .int .i64 pc, .bool ime, .bool hlt, .string rom2, .int .i64 kind2, .int .i64 bank2, .string ram2, .int .i64 rb2, .bool on2, .int .i64 mode2, .string wk2, .string hi2, .slice A2 out2.length c2, .int .i64 cyc] 34 (0, 0)) ∧ w'.heap[g2]? = some (.cells cs2 34 (0, 0)) ∧ Kd.C (Kd.int .i64) w' A2 out2.length out2 ∧ out2.length ≤ c2) ∧ Below w0.heap.size w0 w' := by
  have BK := Aside0.mk hblk
  have BK2 := Aside0.mk hblk2
  have NE := Aside0.mk hne
  clear hblk2 hne
  have HG := Aside0.mk hg0
  have HR := Aside0.mk hr
  have HC := Aside0.mk hc
  have HB := Aside0.mk hB
  clear hblk hg0 hr hc hB
  unfold impl_BusWrite.writeF at h
  obtain ⟨t, A10, h⟩ := Option.bind_eq_some_iff.mp h
  have A1 := Aside0.mk A10
  clear A10
  by_cases ct : t = true
  · subst ct
    rw [if_pos rfl] at h
    obtain ⟨s_, A30, h⟩ := Option.bind_eq_some_iff.mp h
    have A3 := Aside0.mk A30
    clear A30
    simp only [Option.some.injEq, Prod.mk.injEq] at h
    obtain ⟨rfl, rfl, rfl, rfl, rfl, rfl, rfl, rfl, rfl, rfl, rfl⟩ := h
    have hjw : IntKind.i64.wrap ((Go.bits .and .i64 ad 65535) - 49152) = wrap64 ((Go.bits .and .i64 ad 65535) - 49152) := i64_w _
    go_enter Try.func42, Try.ntmps42
    go_wp2_with (first | ((with_reducible refine gate_callee (f := 34) rfl ?_); refine goesL_ (some 21) rfl rfl Try.func34 (by kernel_rfl) rfl #[.int .i64 (Go.bits .and .i64 ad 65535), .int .i64 49152, .int .i64 49407] rfl (by (try simp only [List.map_toArray, List.map_cons, List.map_nil]); first | done | rfl) ?_; (with_reducible refine (impl_within.calls (Go.bits .and .i64 ad 65535) 49152 49407 true _ A1.out).mono ?_); rintro e_ w_ ⟨rfl, ⟨nd, rfl⟩⟩; refine ⟨_, rfl, ?_⟩) | ((with_reducible refine gate_dst (N := 26) rfl ?_); refine load_one rfl (ty := 9) (p := 25) rfl BK.out 19 rfl rfl Try.underlying9 rfl ?_; simp only [List.drop_succ_cons, List.drop_zero, List.take_succ_cons, List.take_zero, Act.put, List.setIfInBounds_toArray, List.set_cons_zero, List.set_cons_succ, Option.elim]) | ((with_reducible refine gate_callee (f := 55) rfl ?_); refine goesL_ (some 30) rfl rfl Try.func55 (by kernel_rfl) rfl #[.string wk, .int .i64 (wrap64 ((Go.bits .and .i64 ad 65535) - 49152)), .int .i64 v] rfl (by (try simp only [List.map_toArray, List.map_cons, List.map_nil]); first | done | rfl) ?_; (with_reducible refine (impl_replaced.calls wk (wrap64 ((Go.bits .and .i64 ad 65535) - 49152)) v _ _ A3.out).mono ?_); rintro e_ w_ ⟨rfl, hb_⟩; refine ⟨_, rfl, ?_⟩; have BN := Aside0.mk (blk_below (g := g) (o := .cells #[.int .i64 x0, .int .i64 x1, .int .i64 x2, .int .i64 x3, .int .i64 x4, .int .i64 x5, .int .i64 x6, .int .i64 x7, .int .i64 sp, .int .i64 pc, .bool ime, .bool hlt, .string rom, .int .i64 kind, .int .i64 bank, .string ram, .int .i64 rb, .bool on, .int .i64 mode, .string wk, .string hi, .slice A0 out.length c0, .int .i64 cyc] 34 (0, 0)) (by (with_reducible repeat (first | refine blk_drewN ?_ _ | refine blk_drew ?_ | refine blk_alloc ?_ _)); exact BK.out) hb_); clear BK; have BK := BN; clear BN; have BN := Aside0.mk (blk_below (g := g2) (o := .cells cs2 34 (0, 0)) (by (with_reducible repeat (first | refine blk_drewN ?_ _ | refine blk_drew ?_ | refine blk_alloc ?_ _)); exact BK2.out) hb_); clear BK2; have BK2 := BN; clear BN; have HN := Aside0.mk (below_step (by repeat (first | exact HB.out | apply below_alloc | apply pw_below_drewN | apply below_drew1)) hb_); clear HB; have HB := HN; clear HN hb_) | ((with_reducible refine gate_store (t := 9) (p := 32) rfl ?_); refine store_one rfl (ty := 9) (p := 32) (u := .string s_) rfl rfl BK.out 19 rfl rfl rfl (Nat.le_of_ble_eq_true rfl) (by kernel_rfl) rfl ?_; intro w_ hbk hgr; simp only [List.set_cons_zero, List.set_cons_succ] at hbk; have N_ := Aside0.mk (blk_other BK2.out hgr NE.out); clear BK2; have BK2 := N_; clear N_; have N_ := Aside0.mk (below_grown (by repeat (first | exact HB.out | apply below_alloc | apply pw_below_drewN | apply below_drew1)) hgr HG.out); clear HB; have HB := N_; clear N_; clear BK; have BK := Aside0.mk hbk; clear hbk hgr))
    go_ret
    exact ⟨rfl, ⟨A0, c0, BK.out, BK2.out, Kd.C_below HR.out (by repeat (first | exact HB.out | apply below_alloc | apply pw_below_drewN | apply below_drew1)), HC.out⟩, by repeat (first | exact HB.out | apply below_alloc | apply pw_below_drewN | apply below_drew1)⟩
  · obtain rfl : t = false := by simpa using ct
    rw [if_neg (by decide)] at h
    clear ct
    obtain ⟨u, A20, h⟩ := Option.bind_eq_some_iff.mp h
    have A2 := Aside0.mk A20
    clear A20
    by_cases ct : u = true
    · subst ct
      rw [if_pos rfl] at h
      obtain ⟨s_, A30, h⟩ := Option.bind_eq_some_iff.mp h
      have A3 := Aside0.mk A30
      clear A30
      simp only [Option.some.injEq, Prod.mk.injEq] at h
      obtain ⟨rfl, rfl, rfl, rfl, rfl, rfl, rfl, rfl, rfl, rfl, rfl⟩ := h
      have hjw : IntKind.i64.wrap ((Go.bits .and .i64 ad 65535) - 65408) = wrap64 ((Go.bits .and .i64 ad 65535) - 65408) := i64_w _
      go_enter Try.func42, Try.ntmps42
      go_wp2_with (first | ((with_reducible refine gate_callee (f := 34) rfl ?_); refine goesL_ (some 21) rfl rfl Try.func34 (by kernel_rfl) rfl #[.int .i64 (Go.bits .and .i64 ad 65535), .int .i64 49152, .int .i64 49407] rfl (by (try simp only [List.map_toArray, List.map_cons, List.map_nil]); first | done | rfl) ?_; (with_reducible refine (impl_within.calls (Go.bits .and .i64 ad 65535) 49152 49407 false _ A1.out).mono ?_); rintro e_ w_ ⟨rfl, ⟨nd, rfl⟩⟩; refine ⟨_, rfl, ?_⟩) | ((with_reducible refine gate_callee (f := 34) rfl ?_); refine goesL_ (some 35) rfl rfl Try.func34 (by kernel_rfl) rfl #[.int .i64 (Go.bits .and .i64 ad 65535), .int .i64 65408, .int .i64 65534] rfl (by (try simp only [List.map_toArray, List.map_cons, List.map_nil]); first | done | rfl) ?_; (with_reducible refine (impl_within.calls (Go.bits .and .i64 ad 65535) 65408 65534 true _ A2.out).mono ?_); rintro e_ w_ ⟨rfl, ⟨nd, rfl⟩⟩; refine ⟨_, rfl, ?_⟩) | ((with_reducible refine gate_dst (N := 40) rfl ?_); refine load_one rfl (ty := 9) (p := 39) rfl BK.out 20 rfl rfl Try.underlying9 rfl ?_; simp only [List.drop_succ_cons, List.drop_zero, List.take_succ_cons, List.take_zero, Act.put, List.setIfInBounds_toArray, List.set_cons_zero, List.set_cons_succ, Option.elim]) | ((with_reducible refine gate_callee (f := 55) rfl ?_); refine goesL_ (some 44) rfl rfl Try.func55 (by kernel_rfl) rfl #[.string hi, .int .i64 (wrap64 ((Go.bits .and .i64 ad 65535) - 65408)), .int .i64 v] rfl (by (try simp only [List.map_toArray, List.map_cons, List.map_nil]); first | done | rfl) ?_; (with_reducible refine (impl_replaced.calls hi (wrap64 ((Go.bits .and .i64 ad 65535) - 65408)) v _ _ A3.out).mono ?_); rintro e_ w_ ⟨rfl, hb_⟩; refine ⟨_, rfl, ?_⟩; have BN := Aside0.mk (blk_below (g := g) (o := .cells #[.int .i64 x0, .int .i64 x1, .int .i64 x2, .int .i64 x3, .int .i64 x4, .int .i64 x5, .int .i64 x6, .int .i64 x7, .int .i64 sp, .int .i64 pc, .bool ime, .bool hlt, .string rom, .int .i64 kind, .int .i64 bank, .string ram, .int .i64 rb, .bool on, .int .i64 mode, .string wk, .string hi, .slice A0 out.length c0, .int .i64 cyc] 34 (0, 0)) (by (with_reducible repeat (first | refine blk_drewN ?_ _ | refine blk_drew ?_ | refine blk_alloc ?_ _)); exact BK.out) hb_); clear BK; have BK := BN; clear BN; have BN := Aside0.mk (blk_below (g := g2) (o := .cells cs2 34 (0, 0)) (by (with_reducible repeat (first | refine blk_drewN ?_ _ | refine blk_drew ?_ | refine blk_alloc ?_ _)); exact BK2.out) hb_); clear BK2; have BK2 := BN; clear BN; have HN := Aside0.mk (below_step (by repeat (first | exact HB.out | apply below_alloc | apply pw_below_drewN | apply below_drew1)) hb_); clear HB; have HB := HN; clear HN hb_) | ((with_reducible refine gate_store (t := 9) (p := 46) rfl ?_); refine store_one rfl (ty := 9) (p := 46) (u := .string s_) rfl rfl BK.out 20 rfl rfl rfl (Nat.le_of_ble_eq_true rfl) (by kernel_rfl) rfl ?_; intro w_ hbk hgr; simp only [List.set_cons_zero, List.set_cons_succ] at hbk; have N_ := Aside0.mk (blk_other BK2.out hgr NE.out); clear BK2; have BK2 := N_; clear N_; have N_ := Aside0.mk (below_grown (by repeat (first | exact HB.out | apply below_alloc | apply pw_below_drewN | apply below_drew1)) hgr HG.out); clear HB; have HB := N_; clear N_; clear BK; have BK := Aside0.mk hbk; clear hbk hgr))
      go_ret
      exact ⟨rfl, ⟨A0, c0, BK.out, BK2.out, Kd.C_below HR.out (by repeat (first | exact HB.out | apply below_alloc | apply pw_below_drewN | apply below_drew1)), HC.out⟩, by repeat (first | exact HB.out | apply below_alloc | apply pw_below_drewN | apply below_drew1)⟩
    · obtain rfl : u = false := by simpa using ct
      rw [if_neg (by decide)] at h
      clear ct
      by_cases ca : (Go.bits .and .i64 ad 65535) = 65281
      · rw [if_pos ca] at h
        have cab0 : ((Go.bits .and .i64 ad 65535) == 65281) = true := beq_iff_eq.mpr ca
        have cab1 : decide ((Go.bits .and .i64 ad 65535) = 65281) = true := decide_eq_true ca
        by_cases cl : (out.length : Int) = 100
        · rw [if_pos cl] at h
          simp only [Option.some.injEq, Prod.mk.injEq] at h
          obtain ⟨rfl, rfl, rfl, rfl, rfl, rfl, rfl, rfl, rfl, rfl, rfl⟩ := h
          have clb0 : ((out.length : Int) == 100) = true := beq_iff_eq.mpr cl
          have clb1 : decide ((out.length : Int) = 100) = true := decide_eq_true cl
          have clb2 : (out.length == 100) = true := beq_iff_eq.mpr (by omega)
          clear ca cl
          go_enter Try.func42, Try.ntmps42
          go_wp2_with (first | ((with_reducible refine gate_callee (f := 34) rfl ?_); refine goesL_ (some 21) rfl rfl Try.func34 (by kernel_rfl) rfl #[.int .i64 (Go.bits .and .i64 ad 65535), .int .i64 49152, .int .i64 49407] rfl (by (try simp only [List.map_toArray, List.map_cons, List.map_nil]); first | done | rfl) ?_; (with_reducible refine (impl_within.calls (Go.bits .and .i64 ad 65535) 49152 49407 false _ A1.out).mono ?_); rintro e_ w_ ⟨rfl, ⟨nd, rfl⟩⟩; refine ⟨_, rfl, ?_⟩) | ((with_reducible refine gate_callee (f := 34) rfl ?_); refine goesL_ (some 35) rfl rfl Try.func34 (by kernel_rfl) rfl #[.int .i64 (Go.bits .and .i64 ad 65535), .int .i64 65408, .int .i64 65534] rfl (by (try simp only [List.map_toArray, List.map_cons, List.map_nil]); first | done | rfl) ?_; (with_reducible refine (impl_within.calls (Go.bits .and .i64 ad 65535) 65408 65534 false _ A2.out).mono ?_); rintro e_ w_ ⟨rfl, ⟨nd, rfl⟩⟩; refine ⟨_, rfl, ?_⟩) | ((with_reducible refine gate_dst (N := 53) rfl ?_); refine load_one rfl (ty := 26) (p := 52) rfl BK.out 21 rfl rfl Try.underlying26 rfl ?_; simp only [List.drop_succ_cons, List.drop_zero, List.take_succ_cons, List.take_zero, Act.put, List.setIfInBounds_toArray, List.set_cons_zero, List.set_cons_succ, Option.elim]))
          go_ret
          exact ⟨rfl, ⟨A0, c0, BK.out, BK2.out, Kd.C_below HR.out (by repeat (first | exact HB.out | apply below_alloc | apply pw_below_drewN | apply below_drew1)), HC.out⟩, by repeat (first | exact HB.out | apply below_alloc | apply pw_below_drewN | apply below_drew1)⟩
        · rw [if_neg cl] at h
          obtain ⟨q, A30, h⟩ := Option.bind_eq_some_iff.mp h
          have A3 := Aside0.mk A30
          clear A30
          by_cases cq : q.length < 17592186044416
          · rw [if_pos cq] at h
            simp only [Option.some.injEq, Prod.mk.injEq] at h
            obtain ⟨rfl, rfl, rfl, rfl, rfl, rfl, rfl, rfl, rfl, rfl, rfl⟩ := h
            have clb0 : ((out.length : Int) == 100) = false := beq_eq_false_iff_ne.mpr cl
            have clb1 : decide ((out.length : Int) = 100) = false := decide_eq_false cl
            have clb2 : (out.length == 100) = false := beq_eq_false_iff_ne.mpr (by omega)
            clear ca cl
            go_enter Try.func42, Try.ntmps42
            go_wp2_with (first | ((with_reducible refine gate_callee (f := 34) rfl ?_); refine goesL_ (some 21) rfl rfl Try.func34 (by kernel_rfl) rfl #[.int .i64 (Go.bits .and .i64 ad 65535), .int .i64 49152, .int .i64 49407] rfl (by (try simp only [List.map_toArray, List.map_cons, List.map_nil]); first | done | rfl) ?_; (with_reducible refine (impl_within.calls (Go.bits .and .i64 ad 65535) 49152 49407 false _ A1.out).mono ?_); rintro e_ w_ ⟨rfl, ⟨nd, rfl⟩⟩; refine ⟨_, rfl, ?_⟩) | ((with_reducible refine gate_callee (f := 34) rfl ?_); refine goesL_ (some 35) rfl rfl Try.func34 (by kernel_rfl) rfl #[.int .i64 (Go.bits .and .i64 ad 65535), .int .i64 65408, .int .i64 65534] rfl (by (try simp only [List.map_toArray, List.map_cons, List.map_nil]); first | done | rfl) ?_; (with_reducible refine (impl_within.calls (Go.bits .and .i64 ad 65535) 65408 65534 false _ A2.out).mono ?_); rintro e_ w_ ⟨rfl, ⟨nd, rfl⟩⟩; refine ⟨_, rfl, ?_⟩) | ((with_reducible refine gate_dst (N := 53) rfl ?_); refine load_one rfl (ty := 26) (p := 52) rfl BK.out 21 rfl rfl Try.underlying26 rfl ?_; simp only [List.drop_succ_cons, List.drop_zero, List.take_succ_cons, List.take_zero, Act.put, List.setIfInBounds_toArray, List.set_cons_zero, List.set_cons_succ, Option.elim]) | ((with_reducible refine gate_dst (N := 60) rfl ?_); refine load_one rfl (ty := 26) (p := 59) rfl BK.out 21 rfl rfl Try.underlying26 rfl ?_; simp only [List.drop_succ_cons, List.drop_zero, List.take_succ_cons, List.take_zero, Act.put, List.setIfInBounds_toArray, List.set_cons_zero, List.set_cons_succ, Option.elim]) | ((with_reducible refine gate_callee (f := 56) rfl ?_); refine goesL_ (some 61) rfl rfl Try.func56 (by kernel_rfl) rfl #[.slice A0 out.length c0] rfl (by (try simp only [List.map_toArray, List.map_cons, List.map_nil]); first | done | rfl) ?_; (with_reducible refine (slices_Clone_int64_int64.calls A0 c0 out q _ (Kd.C_below HR.out (by repeat (first | exact HB.out | apply below_alloc | apply pw_below_drewN | apply below_drew1))) HC.out A3.out).mono ?_); rintro e_ w_ ⟨v0_, rfl, ho_, hb_⟩; refine ⟨_, rfl, ?_⟩; have HO := Aside0.mk (Kd.R_types (Kd.R_types (Kd.R_lower ho_ (below_size (by repeat (first | exact HB.out | apply below_alloc | apply pw_below_drewN | apply below_drew1)))) (blk_below (g := g) (o := .cells #[.int .i64 x0, .int .i64 x1, .int .i64 x2, .int .i64 x3, .int .i64 x4, .int .i64 x5, .int .i64 x6, .int .i64 x7, .int .i64 sp, .int .i64 pc, .bool ime, .bool hlt, .string rom, .int .i64 kind, .int .i64 bank, .string ram, .int .i64 rb, .bool on, .int .i64 mode, .string wk, .string hi, .slice A0 out.length c0, .int .i64 cyc] 34 (0, 0)) (by (with_reducible repeat (first | refine blk_drewN ?_ _ | refine blk_drew ?_ | refine blk_alloc ?_ _)); exact BK.out) hb_) (by decide)) (blk_below (g := g2) (o := .cells cs2 34 (0, 0)) (by (with_reducible repeat (first | refine blk_drewN ?_ _ | refine blk_drew ?_ | refine blk_alloc ?_ _)); exact BK2.out) hb_) (by decide)); have BN := Aside0.mk (blk_below (g := g) (o := .cells #[.int .i64 x0, .int .i64 x1, .int .i64 x2, .int .i64 x3, .int .i64 x4, .int .i64 x5, .int .i64 x6, .int .i64 x7, .int .i64 sp, .int .i64 pc, .bool ime, .bool hlt, .string rom, .int .i64 kind, .int .i64 bank, .string ram, .int .i64 rb, .bool on, .int .i64 mode, .string wk, .string hi, .slice A0 out.length c0, .int .i64 cyc] 34 (0, 0)) (by (with_reducible repeat (first | refine blk_drewN ?_ _ | refine blk_drew ?_ | refine blk_alloc ?_ _)); exact BK.out) hb_); clear BK; have BK := BN; clear BN; have BN := Aside0.mk (blk_below (g := g2) (o := .cells cs2 34 (0, 0)) (by (with_reducible repeat (first | refine blk_drewN ?_ _ | refine blk_drew ?_ | refine blk_alloc ?_ _)); exact BK2.out) hb_); clear BK2; have BK2 := BN; clear BN; have HN := Aside0.mk (below_step (by repeat (first | exact HB.out | apply below_alloc | apply pw_below_drewN | apply below_drew1)) hb_); clear HB; have HB := HN; clear HN hb_ ho_; obtain ⟨Aq, cq_, eq_⟩ := Kd.R_slice HO.out; subst eq_) | ((with_reducible refine gate_builtin (b := .append) (xs := #[.tmp 61, .tmp 63]) rfl ?_); at_builtin; refine Kd.R_append (Kd.int .i64) (w0 := w0) w0.heap.size rfl (.tmp 61) (.tmp 63) 26 2 (.int .i64 0) 8 rfl Try.underlying26 info2 rfl (by decide) (by omega) _ q v [.int .i64 v] (fun k_ => (True ∧ k_ ≠ g) ∧ k_ ≠ g2) (fun _ => False) rfl rfl ?aP (fun _ hk => hk.elim) ?aF ?aO ?aB ?aS ?aL ?_; (case aP => exact rfl); (case aB => exact (by repeat (first | exact HB.out | apply below_alloc | apply pw_below_drewN | apply below_drew1))); (case aF => exact (fun k_ hk => ⟨⟨trivial, fun e_ => by have := blk_lt BK.out; omega⟩, fun e_ => by have := blk_lt BK2.out; omega⟩)); (case aO => exact (by (with_reducible repeat (first | apply Kd.R_alloc | apply Kd.R_drewN | apply Kd.R_drew)); exact HO.out)); (case aS => exact (below_size (by repeat (first | exact HB.out | apply below_alloc | apply pw_below_drewN | apply below_drew1)))); (case aL => omega); intro v9 w9 ho hb9 hg hat; have BN := Aside0.mk (blk_grown (by (with_reducible repeat (first | refine blk_drewN ?_ _ | refine blk_drew ?_ | refine blk_alloc ?_ _)); exact BK.out) hg (fun e_ => (HO.out.1 g e_.symm).1.2 rfl)); clear BK; have BK := BN; clear BN; have BN := Aside0.mk (blk_grown (by (with_reducible repeat (first | refine blk_drewN ?_ _ | refine blk_drew ?_ | refine blk_alloc ?_ _)); exact BK2.out) hg (fun e_ => (HO.out.1 g2 e_.symm).2 rfl)); clear BK2; have BK2 := BN; clear BN; have HO9 := Aside0.mk ho; clear HO; have HN := Aside0.mk hb9; clear HB; have HB := HN; clear HN ho hb9 hg hat; obtain ⟨A9, c9, e9⟩ := Kd.R_slice HO9.out; subst e9) | ((with_reducible refine gate_store (t := 26) (p := 66) rfl ?_); refine store_one rfl (ty := 26) (p := 66) (u := .slice A9 (q.length + 1) c9) rfl rfl BK.out 21 rfl rfl rfl (Nat.le_of_ble_eq_true rfl) (by kernel_rfl) rfl ?_; intro w_ hbk hgr; simp only [List.set_cons_zero, List.set_cons_succ] at hbk; have N_ := Aside0.mk (blk_other BK2.out hgr NE.out); clear BK2; have BK2 := N_; clear N_; have N_ := Aside0.mk (Kd.R_grown HO9.out hgr (fun _ hk_ e_ => hk_.1.2 (by injection e_))); clear HO9; have HO9 := N_; clear N_; have N_ := Aside0.mk (below_grown (by repeat (first | exact HB.out | apply below_alloc | apply pw_below_drewN | apply below_drew1)) hgr HG.out); clear HB; have HB := N_; clear N_; clear BK; have BK := Aside0.mk hbk; clear hbk hgr))
            go_ret
            exact ⟨rfl, ⟨A9, c9, by rw [List.length_append, List.length_singleton]; exact BK.out, BK2.out, (Kd.R_reads' HO9.out).2.2, (Kd.R_reads' HO9.out).2.1⟩, by repeat (first | exact HB.out | apply below_alloc | apply pw_below_drewN | apply below_drew1)⟩
          · rw [if_neg cq] at h
            cases h
      · rw [if_neg ca] at h
        have cab0 : ((Go.bits .and .i64 ad 65535) == 65281) = false := beq_eq_false_iff_ne.mpr ca
        have cab1 : decide ((Go.bits .and .i64 ad 65535) = 65281) = false := decide_eq_false ca
        clear ca
        obtain ⟨⟨b0, b1, b2, b3, b4, b5, b6⟩, A30, h⟩ := Option.bind_eq_some_iff.mp h
        have A3 := Aside0.mk A30
        clear A30
        simp only [Option.some.injEq, Prod.mk.injEq] at h
        obtain ⟨rfl, rfl, rfl, rfl, rfl, rfl, rfl, rfl, rfl, rfl, rfl⟩ := h
        go_enter Try.func42, Try.ntmps42
        go_wp2_with (first | ((with_reducible refine gate_callee (f := 34) rfl ?_); refine goesL_ (some 21) rfl rfl Try.func34 (by kernel_rfl) rfl #[.int .i64 (Go.bits .and .i64 ad 65535), .int .i64 49152, .int .i64 49407] rfl (by (try simp only [List.map_toArray, List.map_cons, List.map_nil]); first | done | rfl) ?_; (with_reducible refine (impl_within.calls (Go.bits .and .i64 ad 65535) 49152 49407 false _ A1.out).mono ?_); rintro e_ w_ ⟨rfl, ⟨nd, rfl⟩⟩; refine ⟨_, rfl, ?_⟩) | ((with_reducible refine gate_callee (f := 34) rfl ?_); refine goesL_ (some 35) rfl rfl Try.func34 (by kernel_rfl) rfl #[.int .i64 (Go.bits .and .i64 ad 65535), .int .i64 65408, .int .i64 65534] rfl (by (try simp only [List.map_toArray, List.map_cons, List.map_nil]); first | done | rfl) ?_; (with_reducible refine (impl_within.calls (Go.bits .and .i64 ad 65535) 65408 65534 false _ A2.out).mono ?_); rintro e_ w_ ⟨rfl, ⟨nd, rfl⟩⟩; refine ⟨_, rfl, ?_⟩) | ((with_reducible refine gate_dst (N := 13) rfl ?_); refine load_blkg rfl (ty := 32) (p := 12) rfl BK.out 12 7 rfl rfl Try.underlying32 rfl (by kernel_rfl) ?_; simp only [List.drop_succ_cons, List.drop_zero, List.take_succ_cons, List.take_zero, Act.put, List.setIfInBounds_toArray, List.set_cons_zero, List.set_cons_succ, Option.elim]) | ((with_reducible refine gate_callee (f := 57) rfl ?_); refine goesL_ (some 16) rfl rfl Try.func57 (by kernel_rfl) rfl #[.agg #[.string rom, .int .i64 kind, .int .i64 bank, .string ram, .int .i64 rb, .bool on, .int .i64 mode], .int .i64 (Go.bits .and .i64 ad 65535), .int .i64 v] rfl (by (try simp only [List.map_toArray, List.map_cons, List.map_nil]); first | done | rfl) ?_; (with_reducible refine (impl_Cart_written.calls k rom kind bank ram rb on mode (Go.bits .and .i64 ad 65535) v b0 b1 b2 b3 b4 b5 b6 _ A3.out).mono ?_); rintro e_ w_ ⟨rfl, hb_⟩; refine ⟨_, rfl, ?_⟩; have BN := Aside0.mk (blk_below (g := g) (o := .cells #[.int .i64 x0, .int .i64 x1, .int .i64 x2, .int .i64 x3, .int .i64 x4, .int .i64 x5, .int .i64 x6, .int .i64 x7, .int .i64 sp, .int .i64 pc, .bool ime, .bool hlt, .string rom, .int .i64 kind, .int .i64 bank, .string ram, .int .i64 rb, .bool on, .int .i64 mode, .string wk, .string hi, .slice A0 out.length c0, .int .i64 cyc] 34 (0, 0)) (by (with_reducible repeat (first | refine blk_drewN ?_ _ | refine blk_drew ?_ | refine blk_alloc ?_ _)); exact BK.out) hb_); clear BK; have BK := BN; clear BN; have BN := Aside0.mk (blk_below (g := g2) (o := .cells cs2 34 (0, 0)) (by (with_reducible repeat (first | refine blk_drewN ?_ _ | refine blk_drew ?_ | refine blk_alloc ?_ _)); exact BK2.out) hb_); clear BK2; have BK2 := BN; clear BN; have HN := Aside0.mk (below_step (by repeat (first | exact HB.out | apply below_alloc | apply pw_below_drewN | apply below_drew1)) hb_); clear HB; have HB := HN; clear HN hb_) | ((with_reducible refine gate_store (t := 32) (p := 18) rfl ?_); refine store_blkg rfl (ty := 32) (p := 18) rfl rfl BK.out 12 rfl rfl (Nat.le_of_ble_eq_true rfl) (by kernel_rfl) (by simp [Value.oneCell']) ?_; intro w_ hbk hgr; simp only [putAt, List.setIfInBounds_toArray, List.set_cons_zero, List.set_cons_succ, Nat.zero_add, Nat.reduceAdd] at hbk; have N_ := Aside0.mk (blk_other BK2.out hgr NE.out); clear BK2; have BK2 := N_; clear N_; have N_ := Aside0.mk (below_grown (by repeat (first | exact HB.out | apply below_alloc | apply pw_below_drewN | apply below_drew1)) hgr HG.out); clear HB; have HB := N_; clear N_; clear BK; have BK := Aside0.mk hbk; clear hbk hgr))
        go_ret
        exact ⟨rfl, ⟨A0, c0, BK.out, BK2.out, Kd.C_below HR.out (by repeat (first | exact HB.out | apply below_alloc | apply pw_below_drewN | apply below_drew1)), HC.out⟩, by repeat (first | exact HB.out | apply below_alloc | apply pw_below_drewN | apply below_drew1)⟩
open Go.Proofs.Ytmgbdbamfljjnaa.Aid in
set_option maxHeartbeats 4000000 in
set_option maxRecDepth 100000 in
theorem impl_BusWrite.own (x0 x1 x2 x3 x4 x5 x6 x7 sp pc : Int) (ime hlt : Bool) (rom : ByteArray) (kind bank : Int) (ram : ByteArray) (rb : Int) (on : Bool) (mode : Int) (wk hi : ByteArray) (A0 : Option Addr) (c0 : Nat) (out : List Int) (cyc : Int) (q : List Int) (w : World) (hr : Kd.C (Kd.int .i64) w A0 out.length out) (hc : out.length ≤ c0) (h : slices_Clone_int64_int64.f out = some q) :
    Calls Try.prog 43 #[.agg #[.int .i64 x0, .int .i64 x1, .int .i64 x2, .int .i64 x3, .int .i64 x4, .int .i64 x5, .int .i64 x6, .int .i64 x7, .int .i64 sp, .int .i64 pc, .bool ime, .bool hlt, .string rom, .int .i64 kind, .int .i64 bank, .string ram, .int .i64 rb, .bool on, .int .i64 mode, .string wk, .string hi, .slice A0 out.length c0, .int .i64 cyc]] w fun e w' => ∃ v0_ : Value, e = .returned (.agg #[.int .i64 x0, .int .i64 x1, .int .i64 x2, .int .i64 x3, .int .i64 x4, .int .i64 x5, .int .i64 x6, .int .i64 x7, .int .i64 sp, .int .i64 pc, .bool ime, .bool hlt, .string rom, .int .i64 kind, .int .i64 bank, .string ram, .int .i64 rb, .bool on, .int .i64 mode, .string wk, .string hi, v0_, .int .i64 cyc]) ∧ Kd.R (Kd.int .i64) 2 w' w.heap.size (fun _ => True) v0_ q ∧ Below w.heap.size w w' := by
  have hum := Try.underlying34
  have HR := Aside0.mk hr
  have HC := Aside0.mk hc
  have H := Aside0.mk h
  have HB := Aside0.mk (Below.refl w.heap.size w)
  clear hr hc h
  go_enter Try.func43, Try.ntmps43
  go_wp2_with (first | ((with_reducible refine gate_dst (N := 1) rfl ?_); refine box_event ?hg (N := 1) ?hd (cs := #[.int .i64 x0, .int .i64 x1, .int .i64 x2, .int .i64 x3, .int .i64 x4, .int .i64 x5, .int .i64 x6, .int .i64 x7, .int .i64 sp, .int .i64 pc, .bool ime, .bool hlt, .string rom, .int .i64 kind, .int .i64 bank, .string ram, .int .i64 rb, .bool on, .int .i64 mode, .string wk, .string hi, .slice A0 out.length c0, .int .i64 cyc]) (t := 34) ?hr ?_; (case hd => rfl); (case hg => rfl); (case hr => first | (go_simp; done) | (go_simp; rfl)); intro g1 hg w1_ hbox hb_; have HGg1 := Aside0.mk ((by rw [hg]; exact below_size (by repeat (first | exact HB.out | apply below_alloc | apply pw_below_drewN | apply below_drew1))) : w.heap.size ≤ g1); have HN := Aside0.mk (below_step (by repeat (first | exact HB.out | apply below_alloc | apply pw_below_drewN | apply below_drew1)) hb_); clear HB; have HB := HN; clear HN; have BKg1 := Aside0.mk hbox; clear hb_ hbox hg) | ((with_reducible refine gate_dst (N := 2) rfl ?_); refine box_event ?hg (N := 2) ?hd (cs := #[.int .i64 0, .int .i64 0, .int .i64 0, .int .i64 0, .int .i64 0, .int .i64 0, .int .i64 0, .int .i64 0, .int .i64 0, .int .i64 0, .bool false, .bool false, .string (⟨#[]⟩ : ByteArray), .int .i64 0, .int .i64 0, .string (⟨#[]⟩ : ByteArray), .int .i64 0, .bool false, .int .i64 0, .string (⟨#[]⟩ : ByteArray), .string (⟨#[]⟩ : ByteArray), .slice none 0 0, .int .i64 0]) (t := 34) ?hr ?_; (case hd => rfl); (case hg => rfl); (case hr => first | (go_simp; done) | (go_simp; rfl)); intro g2 hg w2_ hbox hb_; have HGg2 := Aside0.mk ((by rw [hg]; exact below_size (by repeat (first | exact HB.out | apply below_alloc | apply pw_below_drewN | apply below_drew1))) : w.heap.size ≤ g2); have NE_g1_g2 := Aside0.mk ((by rw [hg]; exact Nat.ne_of_lt (blk_lt (o := .cells #[.int .i64 x0, .int .i64 x1, .int .i64 x2, .int .i64 x3, .int .i64 x4, .int .i64 x5, .int .i64 x6, .int .i64 x7, .int .i64 sp, .int .i64 pc, .bool ime, .bool hlt, .string rom, .int .i64 kind, .int .i64 bank, .string ram, .int .i64 rb, .bool on, .int .i64 mode, .string wk, .string hi, .slice A0 out.length c0, .int .i64 cyc] 34 (0, 0)) (by (with_reducible repeat (first | refine blk_drewN ?_ _ | refine blk_drew ?_ | refine blk_alloc ?_ _)); exact BKg1.out))) : g1 ≠ g2); have BN := Aside0.mk (blk_below (g := g1) (o := .cells #[.int .i64 x0, .int .i64 x1, .int .i64 x2, .int .i64 x3, .int .i64 x4, .int .i64 x5, .int .i64 x6, .int .i64 x7, .int .i64 sp, .int .i64 pc, .bool ime, .bool hlt, .string rom, .int .i64 kind, .int .i64 bank, .string ram, .int .i64 rb, .bool on, .int .i64 mode, .string wk, .string hi, .slice A0 out.length c0, .int .i64 cyc] 34 (0, 0)) (by (with_reducible repeat (first | refine blk_drewN ?_ _ | refine blk_drew ?_ | refine blk_alloc ?_ _)); exact BKg1.out) hb_); clear BKg1; have BKg1 := BN; clear BN; have HN := Aside0.mk (below_step (by repeat (first | exact HB.out | apply below_alloc | apply pw_below_drewN | apply below_drew1)) hb_); clear HB; have HB := HN; clear HN; have BKg2 := Aside0.mk hbox; clear hb_ hbox hg) | ((with_reducible refine gate_dst (N := 4) rfl ?_); refine load_one rfl (ty := 26) (p := 3) rfl BKg1.out 21 rfl rfl Try.underlying26 rfl ?_; simp only [List.drop_succ_cons, List.drop_zero, List.take_succ_cons, List.take_zero, Act.put, List.setIfInBounds_toArray, List.set_cons_zero, List.set_cons_succ, Option.elim]) | ((with_reducible refine gate_callee (f := 56) rfl ?_); refine goesL_ (some 5) rfl rfl Try.func56 (by kernel_rfl) rfl #[.slice A0 out.length c0] rfl (by (try simp only [List.map_toArray, List.map_cons, List.map_nil]); first | done | rfl) ?_; (with_reducible refine (slices_Clone_int64_int64.calls A0 c0 out q _ (Kd.C_below HR.out (by repeat (first | exact HB.out | apply below_alloc | apply pw_below_drewN | apply below_drew1))) HC.out H.out).mono ?_); rintro e_ w_ ⟨v0_, rfl, ho_, hb_⟩; refine ⟨_, rfl, ?_⟩; have HO := Aside0.mk (Kd.R_types (Kd.R_types (Kd.R_lower ho_ (below_size (by repeat (first | exact HB.out | apply below_alloc | apply pw_below_drewN | apply below_drew1)))) (blk_below (g := g1) (o := .cells #[.int .i64 x0, .int .i64 x1, .int .i64 x2, .int .i64 x3, .int .i64 x4, .int .i64 x5, .int .i64 x6, .int .i64 x7, .int .i64 sp, .int .i64 pc, .bool ime, .bool hlt, .string rom, .int .i64 kind, .int .i64 bank, .string ram, .int .i64 rb, .bool on, .int .i64 mode, .string wk, .string hi, .slice A0 out.length c0, .int .i64 cyc] 34 (0, 0)) (by (with_reducible repeat (first | refine blk_drewN ?_ _ | refine blk_drew ?_ | refine blk_alloc ?_ _)); exact BKg1.out) hb_) (by decide)) (blk_below (g := g2) (o := .cells #[.int .i64 0, .int .i64 0, .int .i64 0, .int .i64 0, .int .i64 0, .int .i64 0, .int .i64 0, .int .i64 0, .int .i64 0, .int .i64 0, .bool false, .bool false, .string (⟨#[]⟩ : ByteArray), .int .i64 0, .int .i64 0, .string (⟨#[]⟩ : ByteArray), .int .i64 0, .bool false, .int .i64 0, .string (⟨#[]⟩ : ByteArray), .string (⟨#[]⟩ : ByteArray), .slice none 0 0, .int .i64 0] 34 (0, 0)) (by (with_reducible repeat (first | refine blk_drewN ?_ _ | refine blk_drew ?_ | refine blk_alloc ?_ _)); exact BKg2.out) hb_) (by decide)); have BN := Aside0.mk (blk_below (g := g1) (o := .cells #[.int .i64 x0, .int .i64 x1, .int .i64 x2, .int .i64 x3, .int .i64 x4, .int .i64 x5, .int .i64 x6, .int .i64 x7, .int .i64 sp, .int .i64 pc, .bool ime, .bool hlt, .string rom, .int .i64 kind, .int .i64 bank, .string ram, .int .i64 rb, .bool on, .int .i64 mode, .string wk, .string hi, .slice A0 out.length c0, .int .i64 cyc] 34 (0, 0)) (by (with_reducible repeat (first | refine blk_drewN ?_ _ | refine blk_drew ?_ | refine blk_alloc ?_ _)); exact BKg1.out) hb_); clear BKg1; have BKg1 := BN; clear BN; have BN := Aside0.mk (blk_below (g := g2) (o := .cells #[.int .i64 0, .int .i64 0, .int .i64 0, .int .i64 0, .int .i64 0, .int .i64 0, .int .i64 0, .int .i64 0, .int .i64 0, .int .i64 0, .bool false, .bool false, .string (⟨#[]⟩ : ByteArray), .int .i64 0, .int .i64 0, .string (⟨#[]⟩ : ByteArray), .int .i64 0, .bool false, .int .i64 0, .string (⟨#[]⟩ : ByteArray), .string (⟨#[]⟩ : ByteArray), .slice none 0 0, .int .i64 0] 34 (0, 0)) (by (with_reducible repeat (first | refine blk_drewN ?_ _ | refine blk_drew ?_ | refine blk_alloc ?_ _)); exact BKg2.out) hb_); clear BKg2; have BKg2 := BN; clear BN; have HN := Aside0.mk (below_step (by repeat (first | exact HB.out | apply below_alloc | apply pw_below_drewN | apply below_drew1)) hb_); clear HB; have HB := HN; clear HN hb_ ho_; obtain ⟨Aq, cq_, eq_⟩ := Kd.R_slice HO.out; subst eq_) | ((with_reducible refine gate_store (t := 26) (p := 6) rfl ?_); refine store_one rfl (ty := 26) (p := 6) (u := .slice Aq q.length cq_) rfl rfl BKg1.out 21 rfl rfl rfl (Nat.le_of_ble_eq_true rfl) (by kernel_rfl) rfl ?_; intro w_ hbk hgr; simp only [List.set_cons_zero, List.set_cons_succ] at hbk; have N_ := Aside0.mk (blk_other BKg2.out hgr (fun e_ => NE_g1_g2.out e_.symm)); clear BKg2; have BKg2 := N_; clear N_; have N_ := Aside0.mk (Kd.R_grown HO.out hgr (fun _ hk_ e_ => hk_.1.2 (by injection e_))); clear HO; have HO := N_; clear N_; have N_ := Aside0.mk (below_grown (by repeat (first | exact HB.out | apply below_alloc | apply pw_below_drewN | apply below_drew1)) hgr HGg1.out); clear HB; have HB := N_; clear N_; clear BKg1; have BKg1 := Aside0.mk hbk; clear hbk hgr) | ((with_reducible refine gate_dst (N := 7) rfl ?_); refine load_blkg rfl (ty := 34) (p := 1) rfl BKg1.out 0 23 rfl rfl Try.underlying34 rfl (by kernel_rfl) ?_; simp only [List.drop_succ_cons, List.drop_zero, List.take_succ_cons, List.take_zero, Act.put, List.setIfInBounds_toArray, List.set_cons_zero, List.set_cons_succ, Option.elim]) | ((with_reducible refine gate_store (t := 34) (p := 2) rfl ?_); refine store_blkg rfl (ty := 34) (p := 2) rfl rfl BKg2.out 0 rfl rfl (Nat.le_of_ble_eq_true rfl) (by kernel_rfl) (by simp [Value.oneCell']) ?_; intro w_ hbk hgr; simp only [putAt, List.setIfInBounds_toArray, List.set_cons_zero, List.set_cons_succ, Nat.zero_add, Nat.reduceAdd] at hbk; have N_ := Aside0.mk (blk_other BKg1.out hgr NE_g1_g2.out); clear BKg1; have BKg1 := N_; clear N_; have N_ := Aside0.mk (Kd.R_grown HO.out hgr (fun _ hk_ e_ => hk_.2 (by injection e_))); clear HO; have HO := N_; clear N_; have N_ := Aside0.mk (below_grown (by repeat (first | exact HB.out | apply below_alloc | apply pw_below_drewN | apply below_drew1)) hgr HGg2.out); clear HB; have HB := N_; clear N_; clear BKg2; have BKg2 := Aside0.mk hbk; clear hbk hgr))
  refine bodyPost_ret (results_cell_row rfl _ _ g2 34 #[.int .i64 x0, .int .i64 x1, .int .i64 x2, .int .i64 x3, .int .i64 x4, .int .i64 x5, .int .i64 x6, .int .i64 x7, .int .i64 sp, .int .i64 pc, .bool ime, .bool hlt, .string rom, .int .i64 kind, .int .i64 bank, .string ram, .int .i64 rb, .bool on, .int .i64 mode, .string wk, .string hi, .slice Aq q.length cq_, .int .i64 cyc] (0, 0) _ rfl BKg2.out hum rfl (by kernel_rfl)) rfl ?_
  exact ⟨_, rfl, Kd.R_mono HO.out (fun _ _ => trivial), by repeat (first | exact HB.out | apply below_alloc | apply pw_below_drewN | apply below_drew1)⟩
def impl_BusWrite.f (k : Nat) (x0 x1 x2 x3 x4 x5 x6 x7 sp pc : Int) (ime hlt : Bool) (rom : ByteArray) (kind bank : Int) (ram : ByteArray) (rb : Int) (on : Bool) (mode : Int) (wk hi : ByteArray) (out : List Int) (cyc : Int) (ad v : Int) : Option (Int × Int × Int × Int × Int × Int × Int × Int × Int × Int × Bool × Bool × ByteArray × Int × Int × ByteArray × Int × Bool × Int × ByteArray × ByteArray × List Int × Int × Bool) := (impl_MachineOk.f k x0 x1 x2 x3 x4 x5 x6 x7 sp pc ime hlt rom kind bank ram rb on mode wk hi out cyc).bind fun t => if t = true then ((impl_isWord.f ad).bind fun t => if t = true then ((impl_isByte.f v).bind fun t => if t = true then ((impl_BusWrite.writeF k x0 x1 x2 x3 x4 x5 x6 x7 sp pc ime hlt rom kind bank ram rb on mode wk hi out ad v).bind fun x => if x.1 = true then ((slices_Clone_int64_int64.f x.2.2.2.2.2.2.2.2.2.2).bind fun q => some (x0, x1, x2, x3, x4, x5, x6, x7, sp, pc, ime, hlt, x.2.1, x.2.2.1, x.2.2.2.1, x.2.2.2.2.1, x.2.2.2.2.2.1, x.2.2.2.2.2.2.1, x.2.2.2.2.2.2.2.1, x.2.2.2.2.2.2.2.2.1, x.2.2.2.2.2.2.2.2.2.1, q, cyc, true)) else some (0, 0, 0, 0, 0, 0, 0, 0, 0, 0, false, false, (⟨#[]⟩ : ByteArray), 0, 0, (⟨#[]⟩ : ByteArray), 0, false, 0, (⟨#[]⟩ : ByteArray), (⟨#[]⟩ : ByteArray), [], 0, false)) else some (0, 0, 0, 0, 0, 0, 0, 0, 0, 0, false, false, (⟨#[]⟩ : ByteArray), 0, 0, (⟨#[]⟩ : ByteArray), 0, false, 0, (⟨#[]⟩ : ByteArray), (⟨#[]⟩ : ByteArray), [], 0, false)) else some (0, 0, 0, 0, 0, 0, 0, 0, 0, 0, false, false, (⟨#[]⟩ : ByteArray), 0, 0, (⟨#[]⟩ : ByteArray), 0, false, 0, (⟨#[]⟩ : ByteArray), (⟨#[]⟩ : ByteArray), [], 0, false)) else some (0, 0, 0, 0, 0, 0, 0, 0, 0, 0, false, false, (⟨#[]⟩ : ByteArray), 0, 0, (⟨#[]⟩ : ByteArray), 0, false, 0, (⟨#[]⟩ : ByteArray), (⟨#[]⟩ : ByteArray), [], 0, false)
theorem impl_BusWrite.mono : ∀ x0 x1 x2 x3 x4 x5 x6 x7 sp pc ime hlt rom kind bank ram rb on mode wk hi out cyc ad v k, LeO (impl_BusWrite.f k x0 x1 x2 x3 x4 x5 x6 x7 sp pc ime hlt rom kind bank ram rb on mode wk hi out cyc ad v) (impl_BusWrite.f (k + 1) x0 x1 x2 x3 x4 x5 x6 x7 sp pc ime hlt rom kind bank ram rb on mode wk hi out cyc ad v) := by
  intro x0 x1 x2 x3 x4 x5 x6 x7 sp pc ime hlt rom kind bank ram rb on mode wk hi out cyc ad v k
  unfold impl_BusWrite.f
  exact LeO.bind (impl_MachineOk.mono _ _ _ _ _ _ _ _ _ _ _ _ _ _ _ _ _ _ _ _ _ _ _  _) (fun _ => LeO.ite (LeO.bind (LeO.refl _) (fun _ => LeO.ite (LeO.bind (LeO.refl _) (fun _ => LeO.ite (LeO.bind (impl_BusWrite.writeF_mono x0 x1 x2 x3 x4 x5 x6 x7 sp pc ime hlt rom kind bank ram rb on mode wk hi out ad v k) (fun _ => LeO.refl _)) (LeO.refl _))) (LeO.refl _))) (LeO.refl _))
open Go.Proofs.Ytmgbdbamfljjnaa.Aid in
set_option maxHeartbeats 8000000 in
set_option maxRecDepth 100000 in
theorem impl_BusWrite.calls (k : Nat) (x0 x1 x2 x3 x4 x5 x6 x7 sp pc : Int) (ime hlt : Bool) (rom : ByteArray) (kind bank : Int) (ram : ByteArray) (rb : Int) (on : Bool) (mode : Int) (wk hi : ByteArray) (A0 : Option Addr) (c0 : Nat) (out : List Int) (cyc : Int) (ad v : Int) (r1 : Int) (r2 : Int) (r3 : Int) (r4 : Int) (r5 : Int) (r6 : Int) (r7 : Int) (r8 : Int) (r9 : Int) (r10 : Int) (r11 : Bool) (r12 : Bool) (r13 : ByteArray) (r14 : Int) (r15 : Int) (r16 : ByteArray) (r17 : Int) (r18 : Bool) (r19 : Int) (r20 : ByteArray) (r21 : ByteArray) (r22 : List Int) (r23 : Int) (r24 : Bool) (w : World) (hr : Kd.C (Kd.int .i64) w A0 out.length out) (hc : out.length ≤ c0) (h : impl_BusWrite.f k x0 x1 x2 x3 x4 x5 x6 x7 sp pc ime hlt rom kind bank ram rb on mode wk hi out cyc ad v = some (r1, r2, r3, r4, r5, r6, r7, r8, r9, r10, r11, r12, r13, r14, r15, r16, r17, r18, r19, r20, r21, r22, r23, r24)) :
 Calls Try.prog 15 #[.agg #[.int .i64 x0, .int .i64 x1, .int .i64 x2, .int .i64 x3, .int .i64 x4, .int .i64 x5, .int .i64 x6, .int .i64 x7, .int .i64 sp, .int .i64 pc, .bool ime, .bool hlt, .string rom, .int .i64 kind, .int .i64 bank, .string ram, .int .i64 rb, .bool on, .int .i64 mode, .string wk, .string hi, .slice A0 out.length c0, .int .i64 cyc], .int .i64 ad, .int .i64 v] w fun e w' => ∃ v21_ : Value, e = .returned (.tuple #[.agg #[.int .i64 r1, .int .i64 r2, .int .i64 r3, .int .i64 r4, .int .i64 r5, .int .i64 r6, .int .i64 r7, .int .i64 r8, .int .i64 r9, .int .i64 r10, .bool r11, .bool r12, .string r13, .int .i64 r14, .int .i64 r15, .string r16, .int .i64 r17, .bool r18, .int .i64 r19, .string r20, .string r21, v21_, .int .i64 r23], .bool r24]) ∧ Kd.R (Kd.int .i64) 2 w' w.heap.size (fun _ => True) v21_ r22 ∧ Below w.heap.size w w' := by
 have hum := Try.underlying34
 have HR := Aside0.mk hr
 have HC := Aside0.mk hc
 have HB := Aside0.mk (Below.refl w.heap.size w)
 clear hr hc
 unfold impl_BusWrite.f at h
 obtain ⟨t0, A10, h⟩ := Option.bind_eq_some_iff.mp h
 have A1 := Aside0.mk A10
 clear A10
 by_cases c0 : t0 = true
 rotate_left
 ·obtain rfl : t0 = false := by simpa using c0
  rw [if_neg (by decide)] at h
  clear c0
  simp only [Option.some.injEq, Prod.mk.injEq] at h
  obtain ⟨rfl, rfl, rfl, rfl, rfl, rfl, rfl, rfl, rfl, rfl, rfl, rfl, rfl, rfl, rfl, rfl, rfl, rfl, rfl, rfl, rfl, rfl, rfl, rfl⟩ := h
  go_enter Try.func15, Try.ntmps15
  go_wp2_with (first | ((with_reducible refine gate_dst (N := 3) rfl ?_); refine zbx 3 #[.int .i64 x0, .int .i64 x1, .int .i64 x2, .int .i64 x3, .int .i64 x4, .int .i64 x5, .int .i64 x6, .int .i64 x7, .int .i64 sp, .int .i64 pc, .bool ime, .bool hlt, .string rom, .int .i64 kind, .int .i64 bank, .string ram, .int .i64 rb, .bool on, .int .i64 mode, .string wk, .string hi, .slice A0 out.length c0, .int .i64 cyc] 34 ?_; intro g1 hg w3_ hbox hb_; have HGg1 := Aside0.mk ((by rw [hg]; exact below_size (by repeat (first | exact HB.out | apply below_alloc | apply pw_below_drewN | apply below_drew1))) : w.heap.size ≤ g1); have HN := Aside0.mk (below_step (by repeat (first | exact HB.out | apply below_alloc | apply pw_below_drewN | apply below_drew1)) hb_); clear HB; have HB := HN; clear HN; have BKg1 := Aside0.mk hbox; clear hb_ hbox hg) | ((with_reducible refine gate_dst (N := 6) rfl ?_); refine zbx 6 #[.int .i64 0, .int .i64 0, .int .i64 0, .int .i64 0, .int .i64 0, .int .i64 0, .int .i64 0, .int .i64 0, .int .i64 0, .int .i64 0, .bool false, .bool false, .string (⟨#[]⟩ : ByteArray), .int .i64 0, .int .i64 0, .string (⟨#[]⟩ : ByteArray), .int .i64 0, .bool false, .int .i64 0, .string (⟨#[]⟩ : ByteArray), .string (⟨#[]⟩ : ByteArray), .slice none 0 0, .int .i64 0] 34 ?_; intro g2 hg w6_ hbox hb_; have HGg2 := Aside0.mk ((by rw [hg]; exact below_size (by repeat (first | exact HB.out | apply below_alloc | apply pw_below_drewN | apply below_drew1))) : w.heap.size ≤ g2); have NE_g1_g2 := Aside0.mk ((by rw [hg]; exact Nat.ne_of_lt (blk_lt (o := .cells #[.int .i64 x0, .int .i64 x1, .int .i64 x2, .int .i64 x3, .int .i64 x4, .int .i64 x5, .int .i64 x6, .int .i64 x7, .int .i64 sp, .int .i64 pc, .bool ime, .bool hlt, .string rom, .int .i64 kind, .int .i64 bank, .string ram, .int .i64 rb, .bool on, .int .i64 mode, .string wk, .string hi, .slice A0 out.length c0, .int .i64 cyc] 34 (0, 0)) (zr BKg1))) : g1 ≠ g2); have BN := Aside0.mk (blk_below (g := g1) (o := .cells #[.int .i64 x0, .int .i64 x1, .int .i64 x2, .int .i64 x3, .int .i64 x4, .int .i64 x5, .int .i64 x6, .int .i64 x7, .int .i64 sp, .int .i64 pc, .bool ime, .bool hlt, .string rom, .int .i64 kind, .int .i64 bank, .string ram, .int .i64 rb, .bool on, .int .i64 mode, .string wk, .string hi, .slice A0 out.length c0, .int .i64 cyc] 34 (0, 0)) (zr BKg1) hb_); clear BKg1; have BKg1 := BN; clear BN; have HN := Aside0.mk (below_step (by repeat (first | exact HB.out | apply below_alloc | apply pw_below_drewN | apply below_drew1)) hb_); clear HB; have HB := HN; clear HN; have BKg2 := Aside0.mk hbox; clear hb_ hbox hg) | ((with_reducible refine gate_dst (N := 8) rfl ?_); refine load_blkg rfl (ty := 34) (p := 3) rfl BKg1.out 0 23 rfl rfl Try.underlying34 rfl (by kernel_rfl) ?_; simp only [List.drop_succ_cons, List.drop_zero, List.take_succ_cons, List.take_zero, Act.put, List.setIfInBounds_toArray, List.set_cons_zero, List.set_cons_succ, Option.elim]) | ((with_reducible refine gate_callee (f := 10) rfl ?_); refine zc (some 9) Try.func10 #[.agg #[.int .i64 x0, .int .i64 x1, .int .i64 x2, .int .i64 x3, .int .i64 x4, .int .i64 x5, .int .i64 x6, .int .i64 x7, .int .i64 sp, .int .i64 pc, .bool ime, .bool hlt, .string rom, .int .i64 kind, .int .i64 bank, .string ram, .int .i64 rb, .bool on, .int .i64 mode, .string wk, .string hi, .slice A0 out.length c0, .int .i64 cyc]] ?_ (hargs := by (try simp only [List.map_toArray, List.map_cons, List.map_nil]); first | done | rfl); (with_reducible refine (impl_MachineOk.calls k x0 x1 x2 x3 x4 x5 x6 x7 sp pc ime hlt rom kind bank ram rb on mode wk hi A0 c0 out cyc false _ (Kd.C_below HR.out (by repeat (first | exact HB.out | apply below_alloc | apply pw_below_drewN | apply below_drew1))) HC.out A1.out).mono ?_); rintro e_ w_ ⟨rfl, hb_⟩; refine ⟨_, rfl, ?_⟩; have BN := Aside0.mk (blk_below (g := g1) (o := .cells #[.int .i64 x0, .int .i64 x1, .int .i64 x2, .int .i64 x3, .int .i64 x4, .int .i64 x5, .int .i64 x6, .int .i64 x7, .int .i64 sp, .int .i64 pc, .bool ime, .bool hlt, .string rom, .int .i64 kind, .int .i64 bank, .string ram, .int .i64 rb, .bool on, .int .i64 mode, .string wk, .string hi, .slice A0 out.length c0, .int .i64 cyc] 34 (0, 0)) (zr BKg1) hb_); clear BKg1; have BKg1 := BN; clear BN; have BN := Aside0.mk (blk_below (g := g2) (o := .cells #[.int .i64 0, .int .i64 0, .int .i64 0, .int .i64 0, .int .i64 0, .int .i64 0, .int .i64 0, .int .i64 0, .int .i64 0, .int .i64 0, .bool false, .bool false, .string (⟨#[]⟩ : ByteArray), .int .i64 0, .int .i64 0, .string (⟨#[]⟩ : ByteArray), .int .i64 0, .bool false, .int .i64 0, .string (⟨#[]⟩ : ByteArray), .string (⟨#[]⟩ : ByteArray), .slice none 0 0, .int .i64 0] 34 (0, 0)) (zr BKg2) hb_); clear BKg2; have BKg2 := BN; clear BN; have HN := Aside0.mk (below_step (by repeat (first | exact HB.out | apply below_alloc | apply pw_below_drewN | apply below_drew1)) hb_); clear HB; have HB := HN; clear HN hb_) | ((with_reducible refine gate_store (t := 34) (p := 6) rfl ?_); refine store_blkg rfl (ty := 34) (p := 6) rfl rfl BKg2.out 0 rfl rfl (Nat.le_of_ble_eq_true rfl) (by kernel_rfl) (by simp [Value.oneCell']) ?_; intro w_ hbk hgr; simp only [putAt, List.setIfInBounds_toArray, List.set_cons_zero, List.set_cons_succ, Nat.zero_add, Nat.reduceAdd] at hbk; have N_ := Aside0.mk (below_grown (by repeat (first | exact HB.out | apply below_alloc | apply pw_below_drewN | apply below_drew1)) hgr HGg2.out); clear HB; have HB := N_; clear N_; clear BKg2; have BKg2 := Aside0.mk hbk; clear hbk hgr))
  refine bodyPost_ret (results_ct rfl _ _ g2 34 #[.int .i64 0, .int .i64 0, .int .i64 0, .int .i64 0, .int .i64 0, .int .i64 0, .int .i64 0, .int .i64 0, .int .i64 0, .int .i64 0, .bool false, .bool false, .string (⟨#[]⟩ : ByteArray), .int .i64 0, .int .i64 0, .string (⟨#[]⟩ : ByteArray), .int .i64 0, .bool false, .int .i64 0, .string (⟨#[]⟩ : ByteArray), .string (⟨#[]⟩ : ByteArray), .slice none 0 0, .int .i64 0] (0, 0) _ rfl (zr BKg2) hum rfl (by kernel_rfl)) rfl ?_
  exact ⟨_, rfl, Kd.R_nil _ _ _ _ _, by repeat (first | exact HB.out | apply below_alloc | apply pw_below_drewN | apply below_drew1)⟩
 subst c0
 rw [if_pos rfl] at h
 obtain ⟨t1, A20, h⟩ := Option.bind_eq_some_iff.mp h
 have A2 := Aside0.mk A20
 clear A20
 by_cases c1 : t1 = true
 rotate_left
 ·obtain rfl : t1 = false := by simpa using c1
  rw [if_neg (by decide)] at h
  clear c1
  simp only [Option.some.injEq, Prod.mk.injEq] at h
  obtain ⟨rfl, rfl, rfl, rfl, rfl, rfl, rfl, rfl, rfl, rfl, rfl, rfl, rfl, rfl, rfl, rfl, rfl, rfl, rfl, rfl, rfl, rfl, rfl, rfl⟩ := h
  go_enter Try.func15, Try.ntmps15
  go_wp2_with (first | ((with_reducible refine gate_dst (N := 3) rfl ?_); refine zbx 3 #[.int .i64 x0, .int .i64 x1, .int .i64 x2, .int .i64 x3, .int .i64 x4, .int .i64 x5, .int .i64 x6, .int .i64 x7, .int .i64 sp, .int .i64 pc, .bool ime, .bool hlt, .string rom, .int .i64 kind, .int .i64 bank, .string ram, .int .i64 rb, .bool on, .int .i64 mode, .string wk, .string hi, .slice A0 out.length c0, .int .i64 cyc] 34 ?_; intro g1 hg w3_ hbox hb_; have HGg1 := Aside0.mk ((by rw [hg]; exact below_size (by repeat (first | exact HB.out | apply below_alloc | apply pw_below_drewN | apply below_drew1))) : w.heap.size ≤ g1); have HN := Aside0.mk (below_step (by repeat (first | exact HB.out | apply below_alloc | apply pw_below_drewN | apply below_drew1)) hb_); clear HB; have HB := HN; clear HN; have BKg1 := Aside0.mk hbox; clear hb_ hbox hg) | ((with_reducible refine gate_dst (N := 6) rfl ?_); refine zbx 6 #[.int .i64 0, .int .i64 0, .int .i64 0, .int .i64 0, .int .i64 0, .int .i64 0, .int .i64 0, .int .i64 0, .int .i64 0, .int .i64 0, .bool false, .bool false, .string (⟨#[]⟩ : ByteArray), .int .i64 0, .int .i64 0, .string (⟨#[]⟩ : ByteArray), .int .i64 0, .bool false, .int .i64 0, .string (⟨#[]⟩ : ByteArray), .string (⟨#[]⟩ : ByteArray), .slice none 0 0, .int .i64 0] 34 ?_; intro g2 hg w6_ hbox hb_; have HGg2 := Aside0.mk ((by rw [hg]; exact below_size (by repeat (first | exact HB.out | apply below_alloc | apply pw_below_drewN | apply below_drew1))) : w.heap.size ≤ g2); have NE_g1_g2 := Aside0.mk ((by rw [hg]; exact Nat.ne_of_lt (blk_lt (o := .cells #[.int .i64 x0, .int .i64 x1, .int .i64 x2, .int .i64 x3, .int .i64 x4, .int .i64 x5, .int .i64 x6, .int .i64 x7, .int .i64 sp, .int .i64 pc, .bool ime, .bool hlt, .string rom, .int .i64 kind, .int .i64 bank, .string ram, .int .i64 rb, .bool on, .int .i64 mode, .string wk, .string hi, .slice A0 out.length c0, .int .i64 cyc] 34 (0, 0)) (zr BKg1))) : g1 ≠ g2); have BN := Aside0.mk (blk_below (g := g1) (o := .cells #[.int .i64 x0, .int .i64 x1, .int .i64 x2, .int .i64 x3, .int .i64 x4, .int .i64 x5, .int .i64 x6, .int .i64 x7, .int .i64 sp, .int .i64 pc, .bool ime, .bool hlt, .string rom, .int .i64 kind, .int .i64 bank, .string ram, .int .i64 rb, .bool on, .int .i64 mode, .string wk, .string hi, .slice A0 out.length c0, .int .i64 cyc] 34 (0, 0)) (zr BKg1) hb_); clear BKg1; have BKg1 := BN; clear BN; have HN := Aside0.mk (below_step (by repeat (first | exact HB.out | apply below_alloc | apply pw_below_drewN | apply below_drew1)) hb_); clear HB; have HB := HN; clear HN; have BKg2 := Aside0.mk hbox; clear hb_ hbox hg) | ((with_reducible refine gate_dst (N := 8) rfl ?_); refine load_blkg rfl (ty := 34) (p := 3) rfl BKg1.out 0 23 rfl rfl Try.underlying34 rfl (by kernel_rfl) ?_; simp only [List.drop_succ_cons, List.drop_zero, List.take_succ_cons, List.take_zero, Act.put, List.setIfInBounds_toArray, List.set_cons_zero, List.set_cons_succ, Option.elim]) | ((with_reducible refine gate_callee (f := 10) rfl ?_); refine zc (some 9) Try.func10 #[.agg #[.int .i64 x0, .int .i64 x1, .int .i64 x2, .int .i64 x3, .int .i64 x4, .int .i64 x5, .int .i64 x6, .int .i64 x7, .int .i64 sp, .int .i64 pc, .bool ime, .bool hlt, .string rom, .int .i64 kind, .int .i64 bank, .string ram, .int .i64 rb, .bool on, .int .i64 mode, .string wk, .string hi, .slice A0 out.length c0, .int .i64 cyc]] ?_ (hargs := by (try simp only [List.map_toArray, List.map_cons, List.map_nil]); first | done | rfl); (with_reducible refine (impl_MachineOk.calls k x0 x1 x2 x3 x4 x5 x6 x7 sp pc ime hlt rom kind bank ram rb on mode wk hi A0 c0 out cyc true _ (Kd.C_below HR.out (by repeat (first | exact HB.out | apply below_alloc | apply pw_below_drewN | apply below_drew1))) HC.out A1.out).mono ?_); rintro e_ w_ ⟨rfl, hb_⟩; refine ⟨_, rfl, ?_⟩; have BN := Aside0.mk (blk_below (g := g1) (o := .cells #[.int .i64 x0, .int .i64 x1, .int .i64 x2, .int .i64 x3, .int .i64 x4, .int .i64 x5, .int .i64 x6, .int .i64 x7, .int .i64 sp, .int .i64 pc, .bool ime, .bool hlt, .string rom, .int .i64 kind, .int .i64 bank, .string ram, .int .i64 rb, .bool on, .int .i64 mode, .string wk, .string hi, .slice A0 out.length c0, .int .i64 cyc] 34 (0, 0)) (zr BKg1) hb_); clear BKg1; have BKg1 := BN; clear BN; have BN := Aside0.mk (blk_below (g := g2) (o := .cells #[.int .i64 0, .int .i64 0, .int .i64 0, .int .i64 0, .int .i64 0, .int .i64 0, .int .i64 0, .int .i64 0, .int .i64 0, .int .i64 0, .bool false, .bool false, .string (⟨#[]⟩ : ByteArray), .int .i64 0, .int .i64 0, .string (⟨#[]⟩ : ByteArray), .int .i64 0, .bool false, .int .i64 0, .string (⟨#[]⟩ : ByteArray), .string (⟨#[]⟩ : ByteArray), .slice none 0 0, .int .i64 0] 34 (0, 0)) (zr BKg2) hb_); clear BKg2; have BKg2 := BN; clear BN; have HN := Aside0.mk (below_step (by repeat (first | exact HB.out | apply below_alloc | apply pw_below_drewN | apply below_drew1)) hb_); clear HB; have HB := HN; clear HN hb_) | (go_at_call 32; (with_reducible refine (impl_isWord.calls ad false _ A2.out).mono ?_); rintro e_ w_ ⟨rfl, ⟨nd, rfl⟩⟩) | ((with_reducible refine gate_store (t := 34) (p := 6) rfl ?_); refine store_blkg rfl (ty := 34) (p := 6) rfl rfl BKg2.out 0 rfl rfl (Nat.le_of_ble_eq_true rfl) (by kernel_rfl) (by simp [Value.oneCell']) ?_; intro w_ hbk hgr; simp only [putAt, List.setIfInBounds_toArray, List.set_cons_zero, List.set_cons_succ, Nat.zero_add, Nat.reduceAdd] at hbk; have N_ := Aside0.mk (below_grown (by repeat (first | exact HB.out | apply below_alloc | apply pw_below_drewN | apply below_drew1)) hgr HGg2.out); clear HB; have HB := N_; clear N_; clear BKg2; have BKg2 := Aside0.mk hbk; clear hbk hgr))
  refine bodyPost_ret (results_ct rfl _ _ g2 34 #[.int .i64 0, .int .i64 0, .int .i64 0, .int .i64 0, .int .i64 0, .int .i64 0, .int .i64 0, .int .i64 0, .int .i64 0, .int .i64 0, .bool false, .bool false, .string (⟨#[]⟩ : ByteArray), .int .i64 0, .int .i64 0, .string (⟨#[]⟩ : ByteArray), .int .i64 0, .bool false, .int .i64 0, .string (⟨#[]⟩ : ByteArray), .string (⟨#[]⟩ : ByteArray), .slice none 0 0, .int .i64 0] (0, 0) _ rfl (zr BKg2) hum rfl (by kernel_rfl)) rfl ?_
  exact ⟨_, rfl, Kd.R_nil _ _ _ _ _, by repeat (first | exact HB.out | apply below_alloc | apply pw_below_drewN | apply below_drew1)⟩
 subst c1
 rw [if_pos rfl] at h
 obtain ⟨t2, A30, h⟩ := Option.bind_eq_some_iff.mp h
 have A3 := Aside0.mk A30
 clear A30
 by_cases c2 : t2 = true
 rotate_left
 ·obtain rfl : t2 = false := by simpa using c2
  rw [if_neg (by decide)] at h
  clear c2
  simp only [Option.some.injEq, Prod.mk.injEq] at h
  obtain ⟨rfl, rfl, rfl, rfl, rfl, rfl, rfl, rfl, rfl, rfl, rfl, rfl, rfl, rfl, rfl, rfl, rfl, rfl, rfl, rfl, rfl, rfl, rfl, rfl⟩ := h
  go_enter Try.func15, Try.ntmps15
  go_wp2_with (first | ((with_reducible refine gate_dst (N := 3) rfl ?_); refine zbx 3 #[.int .i64 x0, .int .i64 x1, .int .i64 x2, .int .i64 x3, .int .i64 x4, .int .i64 x5, .int .i64 x6, .int .i64 x7, .int .i64 sp, .int .i64 pc, .bool ime, .bool hlt, .string rom, .int .i64 kind, .int .i64 bank, .string ram, .int .i64 rb, .bool on, .int .i64 mode, .string wk, .string hi, .slice A0 out.length c0, .int .i64 cyc] 34 ?_; intro g1 hg w3_ hbox hb_; have HGg1 := Aside0.mk ((by rw [hg]; exact below_size (by repeat (first | exact HB.out | apply below_alloc | apply pw_below_drewN | apply below_drew1))) : w.heap.size ≤ g1); have HN := Aside0.mk (below_step (by repeat (first | exact HB.out | apply below_alloc | apply pw_below_drewN | apply below_drew1)) hb_); clear HB; have HB := HN; clear HN; have BKg1 := Aside0.mk hbox; clear hb_ hbox hg) | ((with_reducible refine gate_dst (N := 6) rfl ?_); refine zbx 6 #[.int .i64 0, .int .i64 0, .int .i64 0, .int .i64 0, .int .i64 0, .int .i64 0, .int .i64 0, .int .i64 0, .int .i64 0, .int .i64 0, .bool false, .bool false, .string (⟨#[]⟩ : ByteArray), .int .i64 0, .int .i64 0, .string (⟨#[]⟩ : ByteArray), .int .i64 0, .bool false, .int .i64 0, .string (⟨#[]⟩ : ByteArray), .string (⟨#[]⟩ : ByteArray), .slice none 0 0, .int .i64 0] 34 ?_; intro g2 hg w6_ hbox hb_; have HGg2 := Aside0.mk ((by rw [hg]; exact below_size (by repeat (first | exact HB.out | apply below_alloc | apply pw_below_drewN | apply below_drew1))) : w.heap.size ≤ g2); have NE_g1_g2 := Aside0.mk ((by rw [hg]; exact Nat.ne_of_lt (blk_lt (o := .cells #[.int .i64 x0, .int .i64 x1, .int .i64 x2, .int .i64 x3, .int .i64 x4, .int .i64 x5, .int .i64 x6, .int .i64 x7, .int .i64 sp, .int .i64 pc, .bool ime, .bool hlt, .string rom, .int .i64 kind, .int .i64 bank, .string ram, .int .i64 rb, .bool on, .int .i64 mode, .string wk, .string hi, .slice A0 out.length c0, .int .i64 cyc] 34 (0, 0)) (zr BKg1))) : g1 ≠ g2); have BN := Aside0.mk (blk_below (g := g1) (o := .cells #[.int .i64 x0, .int .i64 x1, .int .i64 x2, .int .i64 x3, .int .i64 x4, .int .i64 x5, .int .i64 x6, .int .i64 x7, .int .i64 sp, .int .i64 pc, .bool ime, .bool hlt, .string rom, .int .i64 kind, .int .i64 bank, .string ram, .int .i64 rb, .bool on, .int .i64 mode, .string wk, .string hi, .slice A0 out.length c0, .int .i64 cyc] 34 (0, 0)) (zr BKg1) hb_); clear BKg1; have BKg1 := BN; clear BN; have HN := Aside0.mk (below_step (by repeat (first | exact HB.out | apply below_alloc | apply pw_below_drewN | apply below_drew1)) hb_); clear HB; have HB := HN; clear HN; have BKg2 := Aside0.mk hbox; clear hb_ hbox hg) | ((with_reducible refine gate_dst (N := 8) rfl ?_); refine load_blkg rfl (ty := 34) (p := 3) rfl BKg1.out 0 23 rfl rfl Try.underlying34 rfl (by kernel_rfl) ?_; simp only [List.drop_succ_cons, List.drop_zero, List.take_succ_cons, List.take_zero, Act.put, List.setIfInBounds_toArray, List.set_cons_zero, List.set_cons_succ, Option.elim]) | ((with_reducible refine gate_callee (f := 10) rfl ?_); refine zc (some 9) Try.func10 #[.agg #[.int .i64 x0, .int .i64 x1, .int .i64 x2, .int .i64 x3, .int .i64 x4, .int .i64 x5, .int .i64 x6, .int .i64 x7, .int .i64 sp, .int .i64 pc, .bool ime, .bool hlt, .string rom, .int .i64 kind, .int .i64 bank, .string ram, .int .i64 rb, .bool on, .int .i64 mode, .string wk, .string hi, .slice A0 out.length c0, .int .i64 cyc]] ?_ (hargs := by (try simp only [List.map_toArray, List.map_cons, List.map_nil]); first | done | rfl); (with_reducible refine (impl_MachineOk.calls k x0 x1 x2 x3 x4 x5 x6 x7 sp pc ime hlt rom kind bank ram rb on mode wk hi A0 c0 out cyc true _ (Kd.C_below HR.out (by repeat (first | exact HB.out | apply below_alloc | apply pw_below_drewN | apply below_drew1))) HC.out A1.out).mono ?_); rintro e_ w_ ⟨rfl, hb_⟩; refine ⟨_, rfl, ?_⟩; have BN := Aside0.mk (blk_below (g := g1) (o := .cells #[.int .i64 x0, .int .i64 x1, .int .i64 x2, .int .i64 x3, .int .i64 x4, .int .i64 x5, .int .i64 x6, .int .i64 x7, .int .i64 sp, .int .i64 pc, .bool ime, .bool hlt, .string rom, .int .i64 kind, .int .i64 bank, .string ram, .int .i64 rb, .bool on, .int .i64 mode, .string wk, .string hi, .slice A0 out.length c0, .int .i64 cyc] 34 (0, 0)) (zr BKg1) hb_); clear BKg1; have BKg1 := BN; clear BN; have BN := Aside0.mk (blk_below (g := g2) (o := .cells #[.int .i64 0, .int .i64 0, .int .i64 0, .int .i64 0, .int .i64 0, .int .i64 0, .int .i64 0, .int .i64 0, .int .i64 0, .int .i64 0, .bool false, .bool false, .string (⟨#[]⟩ : ByteArray), .int .i64 0, .int .i64 0, .string (⟨#[]⟩ : ByteArray), .int .i64 0, .bool false, .int .i64 0, .string (⟨#[]⟩ : ByteArray), .string (⟨#[]⟩ : ByteArray), .slice none 0 0, .int .i64 0] 34 (0, 0)) (zr BKg2) hb_); clear BKg2; have BKg2 := BN; clear BN; have HN := Aside0.mk (below_step (by repeat (first | exact HB.out | apply below_alloc | apply pw_below_drewN | apply below_drew1)) hb_); clear HB; have HB := HN; clear HN hb_) | (go_at_call 32; (with_reducible refine (impl_isWord.calls ad true _ A2.out).mono ?_); rintro e_ w_ ⟨rfl, ⟨nd, rfl⟩⟩) | (go_at_call 29; (with_reducible refine (impl_isByte.calls v false _ A3.out).mono ?_); rintro e_ w_ ⟨rfl, ⟨nd, rfl⟩⟩) | ((with_reducible refine gate_store (t := 34) (p := 6) rfl ?_); refine store_blkg rfl (ty := 34) (p := 6) rfl rfl BKg2.out 0 rfl rfl (Nat.le_of_ble_eq_true rfl) (by kernel_rfl) (by simp [Value.oneCell']) ?_; intro w_ hbk hgr; simp only [putAt, List.setIfInBounds_toArray, List.set_cons_zero, List.set_cons_succ, Nat.zero_add, Nat.reduceAdd] at hbk; have N_ := Aside0.mk (below_grown (by repeat (first | exact HB.out | apply below_alloc | apply pw_below_drewN | apply below_drew1)) hgr HGg2.out); clear HB; have HB := N_; clear N_; clear BKg2; have BKg2 := Aside0.mk hbk; clear hbk hgr))
  refine bodyPost_ret (results_ct rfl _ _ g2 34 #[.int .i64 0, .int .i64 0, .int .i64 0, .int .i64 0, .int .i64 0, .int .i64 0, .int .i64 0, .int .i64 0, .int .i64 0, .int .i64 0, .bool false, .bool false, .string (⟨#[]⟩ : ByteArray), .int .i64 0, .int .i64 0, .string (⟨#[]⟩ : ByteArray), .int .i64 0, .bool false, .int .i64 0, .string (⟨#[]⟩ : ByteArray), .string (⟨#[]⟩ : ByteArray), .slice none 0 0, .int .i64 0] (0, 0) _ rfl (zr BKg2) hum rfl (by kernel_rfl)) rfl ?_
  exact ⟨_, rfl, Kd.R_nil _ _ _ _ _, by repeat (first | exact HB.out | apply below_alloc | apply pw_below_drewN | apply below_drew1)⟩
 subst c2
 rw [if_pos rfl] at h
 obtain ⟨⟨ok, rom2, kind2, bank2, ram2, rb2, on2, mode2, wk2, hi2, out2⟩, A40, h⟩ := Option.bind_eq_some_iff.mp h
 have A4 := Aside0.mk A40
 clear A40
 by_cases c3 : ok = true
 rotate_left
 ·obtain rfl : ok = false := by simpa using c3
  simp only [Bool.false_eq_true, if_false] at h
  clear c3
  simp only [Option.some.injEq, Prod.mk.injEq] at h
  obtain ⟨rfl, rfl, rfl, rfl, rfl, rfl, rfl, rfl, rfl, rfl, rfl, rfl, rfl, rfl, rfl, rfl, rfl, rfl, rfl, rfl, rfl, rfl, rfl, rfl⟩ := h
  go_enter Try.func15, Try.ntmps15
  go_wp2_with (first | ((with_reducible refine gate_dst (N := 3) rfl ?_); refine zbx 3 #[.int .i64 x0, .int .i64 x1, .int .i64 x2, .int .i64 x3, .int .i64 x4, .int .i64 x5, .int .i64 x6, .int .i64 x7, .int .i64 sp, .int .i64 pc, .bool ime, .bool hlt, .string rom, .int .i64 kind, .int .i64 bank, .string ram, .int .i64 rb, .bool on, .int .i64 mode, .string wk, .string hi, .slice A0 out.length c0, .int .i64 cyc] 34 ?_; intro g1 hg w3_ hbox hb_; have HGg1 := Aside0.mk ((by rw [hg]; exact below_size (by repeat (first | exact HB.out | apply below_alloc | apply pw_below_drewN | apply below_drew1))) : w.heap.size ≤ g1); have HN := Aside0.mk (below_step (by repeat (first | exact HB.out | apply below_alloc | apply pw_below_drewN | apply below_drew1)) hb_); clear HB; have HB := HN; clear HN; have BKg1 := Aside0.mk hbox; clear hb_ hbox hg) | ((with_reducible refine gate_dst (N := 6) rfl ?_); refine zbx 6 #[.int .i64 0, .int .i64 0, .int .i64 0, .int .i64 0, .int .i64 0, .int .i64 0, .int .i64 0, .int .i64 0, .int .i64 0, .int .i64 0, .bool false, .bool false, .string (⟨#[]⟩ : ByteArray), .int .i64 0, .int .i64 0, .string (⟨#[]⟩ : ByteArray), .int .i64 0, .bool false, .int .i64 0, .string (⟨#[]⟩ : ByteArray), .string (⟨#[]⟩ : ByteArray), .slice none 0 0, .int .i64 0] 34 ?_; intro g2 hg w6_ hbox hb_; have HGg2 := Aside0.mk ((by rw [hg]; exact below_size (by repeat (first | exact HB.out | apply below_alloc | apply pw_below_drewN | apply below_drew1))) : w.heap.size ≤ g2); have NE_g1_g2 := Aside0.mk ((by rw [hg]; exact Nat.ne_of_lt (blk_lt (o := .cells #[.int .i64 x0, .int .i64 x1, .int .i64 x2, .int .i64 x3, .int .i64 x4, .int .i64 x5, .int .i64 x6, .int .i64 x7, .int .i64 sp, .int .i64 pc, .bool ime, .bool hlt, .string rom, .int .i64 kind, .int .i64 bank, .string ram, .int .i64 rb, .bool on, .int .i64 mode, .string wk, .string hi, .slice A0 out.length c0, .int .i64 cyc] 34 (0, 0)) (zr BKg1))) : g1 ≠ g2); have BN := Aside0.mk (blk_below (g := g1) (o := .cells #[.int .i64 x0, .int .i64 x1, .int .i64 x2, .int .i64 x3, .int .i64 x4, .int .i64 x5, .int .i64 x6, .int .i64 x7, .int .i64 sp, .int .i64 pc, .bool ime, .bool hlt, .string rom, .int .i64 kind, .int .i64 bank, .string ram, .int .i64 rb, .bool on, .int .i64 mode, .string wk, .string hi, .slice A0 out.length c0, .int .i64 cyc] 34 (0, 0)) (zr BKg1) hb_); clear BKg1; have BKg1 := BN; clear BN; have HN := Aside0.mk (below_step (by repeat (first | exact HB.out | apply below_alloc | apply pw_below_drewN | apply below_drew1)) hb_); clear HB; have HB := HN; clear HN; have BKg2 := Aside0.mk hbox; clear hb_ hbox hg) | ((with_reducible refine gate_dst (N := 8) rfl ?_); refine load_blkg rfl (ty := 34) (p := 3) rfl BKg1.out 0 23 rfl rfl Try.underlying34 rfl (by kernel_rfl) ?_; simp only [List.drop_succ_cons, List.drop_zero, List.take_succ_cons, List.take_zero, Act.put, List.setIfInBounds_toArray, List.set_cons_zero, List.set_cons_succ, Option.elim]) | ((with_reducible refine gate_callee (f := 10) rfl ?_); refine zc (some 9) Try.func10 #[.agg #[.int .i64 x0, .int .i64 x1, .int .i64 x2, .int .i64 x3, .int .i64 x4, .int .i64 x5, .int .i64 x6, .int .i64 x7, .int .i64 sp, .int .i64 pc, .bool ime, .bool hlt, .string rom, .int .i64 kind, .int .i64 bank, .string ram, .int .i64 rb, .bool on, .int .i64 mode, .string wk, .string hi, .slice A0 out.length c0, .int .i64 cyc]] ?_ (hargs := by (try simp only [List.map_toArray, List.map_cons, List.map_nil]); first | done | rfl); (with_reducible refine (impl_MachineOk.calls k x0 x1 x2 x3 x4 x5 x6 x7 sp pc ime hlt rom kind bank ram rb on mode wk hi A0 c0 out cyc true _ (Kd.C_below HR.out (by repeat (first | exact HB.out | apply below_alloc | apply pw_below_drewN | apply below_drew1))) HC.out A1.out).mono ?_); rintro e_ w_ ⟨rfl, hb_⟩; refine ⟨_, rfl, ?_⟩; have BN := Aside0.mk (blk_below (g := g1) (o := .cells #[.int .i64 x0, .int .i64 x1, .int .i64 x2, .int .i64 x3, .int .i64 x4, .int .i64 x5, .int .i64 x6, .int .i64 x7, .int .i64 sp, .int .i64 pc, .bool ime, .bool hlt, .string rom, .int .i64 kind, .int .i64 bank, .string ram, .int .i64 rb, .bool on, .int .i64 mode, .string wk, .string hi, .slice A0 out.length c0, .int .i64 cyc] 34 (0, 0)) (zr BKg1) hb_); clear BKg1; have BKg1 := BN; clear BN; have BN := Aside0.mk (blk_below (g := g2) (o := .cells #[.int .i64 0, .int .i64 0, .int .i64 0, .int .i64 0, .int .i64 0, .int .i64 0, .int .i64 0, .int .i64 0, .int .i64 0, .int .i64 0, .bool false, .bool false, .string (⟨#[]⟩ : ByteArray), .int .i64 0, .int .i64 0, .string (⟨#[]⟩ : ByteArray), .int .i64 0, .bool false, .int .i64 0, .string (⟨#[]⟩ : ByteArray), .string (⟨#[]⟩ : ByteArray), .slice none 0 0, .int .i64 0] 34 (0, 0)) (zr BKg2) hb_); clear BKg2; have BKg2 := BN; clear BN; have HN := Aside0.mk (below_step (by repeat (first | exact HB.out | apply below_alloc | apply pw_below_drewN | apply below_drew1)) hb_); clear HB; have HB := HN; clear HN hb_) | (go_at_call 32; (with_reducible refine (impl_isWord.calls ad true _ A2.out).mono ?_); rintro e_ w_ ⟨rfl, ⟨nd, rfl⟩⟩) | (go_at_call 29; (with_reducible refine (impl_isByte.calls v true _ A3.out).mono ?_); rintro e_ w_ ⟨rfl, ⟨nd, rfl⟩⟩) | (go_at_call 42; (with_reducible refine (impl_BusWrite.write k g1 x0 x1 x2 x3 x4 x5 x6 x7 sp pc ime hlt rom kind bank ram rb on mode wk hi A0 c0 out cyc ad v false rom2 kind2 bank2 ram2 rb2 on2 mode2 wk2 hi2 out2 w _ (zr BKg1) g2 _ (zr BKg2) (Ne.symm NE_g1_g2.out) HGg1.out HR.out HC.out (by repeat (first | exact HB.out | apply below_alloc | apply pw_below_drewN | apply below_drew1)) A4.out).mono ?_); rintro e_ w_ ⟨rfl, ⟨A2, c2, hb1_, hb2_, hC2_, hc2_⟩, hB_⟩; clear BKg1 BKg2 HB; have BKg1 := Aside0.mk hb1_; have BKg2 := Aside0.mk hb2_; have HB := Aside0.mk hB_; have HC2 := Aside0.mk hC2_; have HL2 := Aside0.mk hc2_; clear hb1_ hb2_ hB_ hC2_ hc2_) | ((with_reducible refine gate_store (t := 34) (p := 6) rfl ?_); refine store_blkg rfl (ty := 34) (p := 6) rfl rfl BKg2.out 0 rfl rfl (Nat.le_of_ble_eq_true rfl) (by kernel_rfl) (by simp [Value.oneCell']) ?_; intro w_ hbk hgr; simp only [putAt, List.setIfInBounds_toArray, List.set_cons_zero, List.set_cons_succ, Nat.zero_add, Nat.reduceAdd] at hbk; have N_ := Aside0.mk (below_grown (by repeat (first | exact HB.out | apply below_alloc | apply pw_below_drewN | apply below_drew1)) hgr HGg2.out); clear HB; have HB := N_; clear N_; clear BKg2; have BKg2 := Aside0.mk hbk; clear hbk hgr))
  refine bodyPost_ret (results_ct rfl _ _ g2 34 #[.int .i64 0, .int .i64 0, .int .i64 0, .int .i64 0, .int .i64 0, .int .i64 0, .int .i64 0, .int .i64 0, .int .i64 0, .int .i64 0, .bool false, .bool false, .string (⟨#[]⟩ : ByteArray), .int .i64 0, .int .i64 0, .string (⟨#[]⟩ : ByteArray), .int .i64 0, .bool false, .int .i64 0, .string (⟨#[]⟩ : ByteArray), .string (⟨#[]⟩ : ByteArray), .slice none 0 0, .int .i64 0] (0, 0) _ rfl (zr BKg2) hum rfl (by kernel_rfl)) rfl ?_
  exact ⟨_, rfl, Kd.R_nil _ _ _ _ _, by repeat (first | exact HB.out | apply below_alloc | apply pw_below_drewN | apply below_drew1)⟩
 subst c3
 rw [if_pos rfl] at h
 obtain ⟨q, A50, h⟩ := Option.bind_eq_some_iff.mp h
 have A5 := Aside0.mk A50
 clear A50
 simp only [Option.some.injEq, Prod.mk.injEq] at h
 obtain ⟨rfl, rfl, rfl, rfl, rfl, rfl, rfl, rfl, rfl, rfl, rfl, rfl, rfl, rfl, rfl, rfl, rfl, rfl, rfl, rfl, rfl, rfl, rfl, rfl⟩ := h
 go_enter Try.func15, Try.ntmps15
 go_wp2_with (first | ((with_reducible refine gate_dst (N := 3) rfl ?_); refine zbx 3 #[.int .i64 x0, .int .i64 x1, .int .i64 x2, .int .i64 x3, .int .i64 x4, .int .i64 x5, .int .i64 x6, .int .i64 x7, .int .i64 sp, .int .i64 pc, .bool ime, .bool hlt, .string rom, .int .i64 kind, .int .i64 bank, .string ram, .int .i64 rb, .bool on, .int .i64 mode, .string wk, .string hi, .slice A0 out.length c0, .int .i64 cyc] 34 ?_; intro g1 hg w3_ hbox hb_; have HGg1 := Aside0.mk ((by rw [hg]; exact below_size (by repeat (first | exact HB.out | apply below_alloc | apply pw_below_drewN | apply below_drew1))) : w.heap.size ≤ g1); have HN := Aside0.mk (below_step (by repeat (first | exact HB.out | apply below_alloc | apply pw_below_drewN | apply below_drew1)) hb_); clear HB; have HB := HN; clear HN; have BKg1 := Aside0.mk hbox; clear hb_ hbox hg) | ((with_reducible refine gate_dst (N := 6) rfl ?_); refine zbx 6 #[.int .i64 0, .int .i64 0, .int .i64 0, .int .i64 0, .int .i64 0, .int .i64 0, .int .i64 0, .int .i64 0, .int .i64 0, .int .i64 0, .bool false, .bool false, .string (⟨#[]⟩ : ByteArray), .int .i64 0, .int .i64 0, .string (⟨#[]⟩ : ByteArray), .int .i64 0, .bool false, .int .i64 0, .string (⟨#[]⟩ : ByteArray), .string (⟨#[]⟩ : ByteArray), .slice none 0 0, .int .i64 0] 34 ?_; intro g2 hg w6_ hbox hb_; have HGg2 := Aside0.mk ((by rw [hg]; exact below_size (by repeat (first | exact HB.out | apply below_alloc | apply pw_below_drewN | apply below_drew1))) : w.heap.size ≤ g2); have NE_g1_g2 := Aside0.mk ((by rw [hg]; exact Nat.ne_of_lt (blk_lt (o := .cells #[.int .i64 x0, .int .i64 x1, .int .i64 x2, .int .i64 x3, .int .i64 x4, .int .i64 x5, .int .i64 x6, .int .i64 x7, .int .i64 sp, .int .i64 pc, .bool ime, .bool hlt, .string rom, .int .i64 kind, .int .i64 bank, .string ram, .int .i64 rb, .bool on, .int .i64 mode, .string wk, .string hi, .slice A0 out.length c0, .int .i64 cyc] 34 (0, 0)) (zr BKg1))) : g1 ≠ g2); have BN := Aside0.mk (blk_below (g := g1) (o := .cells #[.int .i64 x0, .int .i64 x1, .int .i64 x2, .int .i64 x3, .int .i64 x4, .int .i64 x5, .int .i64 x6, .int .i64 x7, .int .i64 sp, .int .i64 pc, .bool ime, .bool hlt, .string rom, .int .i64 kind, .int .i64 bank, .string ram, .int .i64 rb, .bool on, .int .i64 mode, .string wk, .string hi, .slice A0 out.length c0, .int .i64 cyc] 34 (0, 0)) (zr BKg1) hb_); clear BKg1; have BKg1 := BN; clear BN; have HN := Aside0.mk (below_step (by repeat (first | exact HB.out | apply below_alloc | apply pw_below_drewN | apply below_drew1)) hb_); clear HB; have HB := HN; clear HN; have BKg2 := Aside0.mk hbox; clear hb_ hbox hg) | ((with_reducible refine gate_dst (N := 8) rfl ?_); refine load_blkg rfl (ty := 34) (p := 3) rfl BKg1.out 0 23 rfl rfl Try.underlying34 rfl (by kernel_rfl) ?_; simp only [List.drop_succ_cons, List.drop_zero, List.take_succ_cons, List.take_zero, Act.put, List.setIfInBounds_toArray, List.set_cons_zero, List.set_cons_succ, Option.elim]) | ((with_reducible refine gate_callee (f := 10) rfl ?_); refine zc (some 9) Try.func10 #[.agg #[.int .i64 x0, .int .i64 x1, .int .i64 x2, .int .i64 x3, .int .i64 x4, .int .i64 x5, .int .i64 x6, .int .i64 x7, .int .i64 sp, .int .i64 pc, .bool ime, .bool hlt, .string rom, .int .i64 kind, .int .i64 bank, .string ram, .int .i64 rb, .bool on, .int .i64 mode, .string wk, .string hi, .slice A0 out.length c0, .int .i64 cyc]] ?_ (hargs := by (try simp only [List.map_toArray, List.map_cons, List.map_nil]); first | done | rfl); (with_reducible refine (impl_MachineOk.calls k x0 x1 x2 x3 x4 x5 x6 x7 sp pc ime hlt rom kind bank ram rb on mode wk hi A0 c0 out cyc true _ (Kd.C_below HR.out (by repeat (first | exact HB.out | apply below_alloc | apply pw_below_drewN | apply below_drew1))) HC.out A1.out).mono ?_); rintro e_ w_ ⟨rfl, hb_⟩; refine ⟨_, rfl, ?_⟩; have BN := Aside0.mk (blk_below (g := g1) (o := .cells #[.int .i64 x0, .int .i64 x1, .int .i64 x2, .int .i64 x3, .int .i64 x4, .int .i64 x5, .int .i64 x6, .int .i64 x7, .int .i64 sp, .int .i64 pc, .bool ime, .bool hlt, .string rom, .int .i64 kind, .int .i64 bank, .string ram, .int .i64 rb, .bool on, .int .i64 mode, .string wk, .string hi, .slice A0 out.length c0, .int .i64 cyc] 34 (0, 0)) (zr BKg1) hb_); clear BKg1; have BKg1 := BN; clear BN; have BN := Aside0.mk (blk_below (g := g2) (o := .cells #[.int .i64 0, .int .i64 0, .int .i64 0, .int .i64 0, .int .i64 0, .int .i64 0, .int .i64 0, .int .i64 0, .int .i64 0, .int .i64 0, .bool false, .bool false, .string (⟨#[]⟩ : ByteArray), .int .i64 0, .int .i64 0, .string (⟨#[]⟩ : ByteArray), .int .i64 0, .bool false, .int .i64 0, .string (⟨#[]⟩ : ByteArray), .string (⟨#[]⟩ : ByteArray), .slice none 0 0, .int .i64 0] 34 (0, 0)) (zr BKg2) hb_); clear BKg2; have BKg2 := BN; clear BN; have HN := Aside0.mk (below_step (by repeat (first | exact HB.out | apply below_alloc | apply pw_below_drewN | apply below_drew1)) hb_); clear HB; have HB := HN; clear HN hb_) | (go_at_call 32; (with_reducible refine (impl_isWord.calls ad true _ A2.out).mono ?_); rintro e_ w_ ⟨rfl, ⟨nd, rfl⟩⟩) | (go_at_call 29; (with_reducible refine (impl_isByte.calls v true _ A3.out).mono ?_); rintro e_ w_ ⟨rfl, ⟨nd, rfl⟩⟩) | (go_at_call 42; (with_reducible refine (impl_BusWrite.write k g1 x0 x1 x2 x3 x4 x5 x6 x7 sp pc ime hlt rom kind bank ram rb on mode wk hi A0 c0 out cyc ad v true rom2 kind2 bank2 ram2 rb2 on2 mode2 wk2 hi2 out2 w _ (zr BKg1) g2 _ (zr BKg2) (Ne.symm NE_g1_g2.out) HGg1.out HR.out HC.out (by repeat (first | exact HB.out | apply below_alloc | apply pw_below_drewN | apply below_drew1)) A4.out).mono ?_); rintro e_ w_ ⟨rfl, ⟨A2, c2, hb1_, hb2_, hC2_, hc2_⟩, hB_⟩; clear BKg1 BKg2 HB; have BKg1 := Aside0.mk hb1_; have BKg2 := Aside0.mk hb2_; have HB := Aside0.mk hB_; have HC2 := Aside0.mk hC2_; have HL2 := Aside0.mk hc2_; clear hb1_ hb2_ hB_ hC2_ hc2_) | ((with_reducible refine gate_dst (N := 28) rfl ?_); refine load_blkg rfl (ty := 34) (p := 3) rfl BKg1.out 0 23 rfl rfl Try.underlying34 rfl (by kernel_rfl) ?_; simp only [List.drop_succ_cons, List.drop_zero, List.take_succ_cons, List.take_zero, Act.put, List.setIfInBounds_toArray, List.set_cons_zero, List.set_cons_succ, Option.elim]) | ((with_reducible refine gate_callee (f := 43) rfl ?_); refine zc (some 29) Try.func43 #[.agg #[.int .i64 x0, .int .i64 x1, .int .i64 x2, .int .i64 x3, .int .i64 x4, .int .i64 x5, .int .i64 x6, .int .i64 x7, .int .i64 sp, .int .i64 pc, .bool ime, .bool hlt, .string rom2, .int .i64 kind2, .int .i64 bank2, .string ram2, .int .i64 rb2, .bool on2, .int .i64 mode2, .string wk2, .string hi2, .slice A2 out2.length c2, .int .i64 cyc]] ?_ (hargs := by (try simp only [List.map_toArray, List.map_cons, List.map_nil]); first | done | rfl); (with_reducible refine (impl_BusWrite.own x0 x1 x2 x3 x4 x5 x6 x7 sp pc ime hlt rom2 kind2 bank2 ram2 rb2 on2 mode2 wk2 hi2 A2 c2 out2 cyc q _ HC2.out HL2.out A5.out).mono ?_); rintro e_ w_ ⟨v0_, rfl, ho_, hb_⟩; refine ⟨_, rfl, ?_⟩; have HO := Aside0.mk (Kd.R_types (Kd.R_lower ho_ (below_size (by repeat (first | exact HB.out | apply below_alloc | apply pw_below_drewN | apply below_drew1)))) (blk_below (g := g2) (o := .cells #[.int .i64 0, .int .i64 0, .int .i64 0, .int .i64 0, .int .i64 0, .int .i64 0, .int .i64 0, .int .i64 0, .int .i64 0, .int .i64 0, .bool false, .bool false, .string (⟨#[]⟩ : ByteArray), .int .i64 0, .int .i64 0, .string (⟨#[]⟩ : ByteArray), .int .i64 0, .bool false, .int .i64 0, .string (⟨#[]⟩ : ByteArray), .string (⟨#[]⟩ : ByteArray), .slice none 0 0, .int .i64 0] 34 (0, 0)) (zr BKg2) hb_) (by decide)); have BN := Aside0.mk (blk_below (g := g2) (o := .cells #[.int .i64 0, .int .i64 0, .int .i64 0, .int .i64 0, .int .i64 0, .int .i64 0, .int .i64 0, .int .i64 0, .int .i64 0, .int .i64 0, .bool false, .bool false, .string (⟨#[]⟩ : ByteArray), .int .i64 0, .int .i64 0, .string (⟨#[]⟩ : ByteArray), .int .i64 0, .bool false, .int .i64 0, .string (⟨#[]⟩ : ByteArray), .string (⟨#[]⟩ : ByteArray), .slice none 0 0, .int .i64 0] 34 (0, 0)) (zr BKg2) hb_); clear BKg2; have BKg2 := BN; clear BN; have HN := Aside0.mk (below_step (by repeat (first | exact HB.out | apply below_alloc | apply pw_below_drewN | apply below_drew1)) hb_); clear HB; have HB := HN; clear HN hb_ ho_; obtain ⟨Aq, cq_, eq_⟩ := Kd.R_slice HO.out; subst eq_) | ((with_reducible refine gate_store (t := 34) (p := 6) rfl ?_); refine store_blkg rfl (ty := 34) (p := 6) rfl rfl BKg2.out 0 rfl rfl (Nat.le_of_ble_eq_true rfl) (by kernel_rfl) (by simp [Value.oneCell']) ?_; intro w_ hbk hgr; simp only [putAt, List.setIfInBounds_toArray, List.set_cons_zero, List.set_cons_succ, Nat.zero_add, Nat.reduceAdd] at hbk; have N_ := Aside0.mk (Kd.R_grown HO.out hgr (fun _ hk_ e_ => hk_.2 (by injection e_))); clear HO; have HO := N_; clear N_; have N_ := Aside0.mk (below_grown (by repeat (first | exact HB.out | apply below_alloc | apply pw_below_drewN | apply below_drew1)) hgr HGg2.out); clear HB; have HB := N_; clear N_; clear BKg2; have BKg2 := Aside0.mk hbk; clear hbk hgr))
 refine bodyPost_ret (results_ct rfl _ _ g2 34 #[.int .i64 x0, .int .i64 x1, .int .i64 x2, .int .i64 x3, .int .i64 x4, .int .i64 x5, .int .i64 x6, .int .i64 x7, .int .i64 sp, .int .i64 pc, .bool ime, .bool hlt, .string rom2, .int .i64 kind2, .int .i64 bank2, .string ram2, .int .i64 rb2, .bool on2, .int .i64 mode2, .string wk2, .string hi2, .slice Aq q.length cq_, .int .i64 cyc] (0, 0) _ rfl (zr BKg2) hum rfl (by kernel_rfl)) rfl ?_
 exact ⟨_, rfl, Kd.R_mono HO.out (fun _ _ => trivial), by repeat (first | exact HB.out | apply below_alloc | apply pw_below_drewN | apply below_drew1)⟩

/-! ### laws_markInt64S: function 44 -/
def laws_markInt64S.l0 : Nat → List Int → Int → Int → Option (Int × List Int)
  | 0, _, _, _ => none
  | k + 1, x0, x1, x5 => if x5 < (x0.length : Int) then (if 0 ≤ x5 then (laws_markInt64S.l0 k (x0.set (x5 : Int).toNat x1) (wrap64 (x1 + 1)) (wrap64 (x5 + 1))) else (none)) else (some (x1, x0))
def laws_markInt64S.f (k : Nat) (l0 : List Int) (a1 : Int) : Option (Int × List Int) := laws_markInt64S.l0 k l0 a1 0
theorem laws_markInt64S.mono_l : ∀ k, (∀ y0 y1 y2, LeO (laws_markInt64S.l0 k y0 y1 y2) (laws_markInt64S.l0 (k + 1) y0 y1 y2))
  | 0 => fun _ _ _ r h => by simp [laws_markInt64S.l0] at h
  | k + 1 => by
    have ih0 := laws_markInt64S.mono_l k
    · intro y0 y1 y2
      unfold laws_markInt64S.l0
      repeat' first
      | (with_reducible exact ih0 _ _ _)
      | (with_reducible exact LeO.refl _)
      | (with_reducible exact LeO.none _)
      | (with_reducible refine LeO.ite ?_ ?_)
      | (with_reducible refine LeO.bind ?_ (fun _ => ?_))
      | exact ih0 _ _ _
      | exact LeO.none _
      | refine LeO.ite ?_ ?_
      | refine LeO.bind ?_ (fun _ => ?_)
theorem laws_markInt64S.mono : ∀ a0 a1 k, LeO (laws_markInt64S.f k a0 a1) (laws_markInt64S.f (k + 1) a0 a1) := by
  intro a0 a1 k
  have ih0 := laws_markInt64S.mono_l k
  unfold laws_markInt64S.f
  repeat' first
      | (with_reducible exact ih0 _ _ _)
      | (with_reducible exact LeO.refl _)
      | (with_reducible exact LeO.none _)
      | (with_reducible refine LeO.ite ?_ ?_)
      | (with_reducible refine LeO.bind ?_ (fun _ => ?_))
      | exact ih0 _ _ _
      | exact LeO.none _
      | refine LeO.ite ?_ ?_
      | refine LeO.bind ?_ (fun _ => ?_)
set_option maxHeartbeats 8000000 in
set_option maxRecDepth 100000 in
theorem laws_markInt64S.calls (k : Nat) (P0_ : Nat → Prop) (u9000_ : Value) (l0 : List Int) (a1 : Int) (r1 : Int) (r2 : List Int) (w0 w : World) (hB : Below w0.heap.size w0 w) (ho0 : Kd.R (Kd.int .i64) 2 w w0.heap.size P0_ u9000_ l0) (h : laws_markInt64S.f k l0 a1 = some (r1, r2)) :
 Calls Try.prog 44 #[u9000_, .int .i64 a1] w fun e w' => e = .returned (.int .i64 r1) ∧ Kd.R (Kd.int .i64) 2 w' w0.heap.size (fun k_ => (P0_ k_ ∨ w.heap.size ≤ k_)) u9000_ r2 ∧ Below w0.heap.size w0 w' ∧ Kept w w' (fun k_ => P0_ k_) := by
 have HO0 := Aside0.mk (show Kd.R (Kd.int .i64) 2 w w0.heap.size (fun k_ => (P0_ k_ ∨ w.heap.size ≤ k_)) u9000_ l0 from Kd.R_mono ho0 (fun k_ hk => (.inl hk)))
 have HK := Aside0.mk (Kept.refl w (fun k_ => P0_ k_))
 have HW0 := Aside0.mk hB.size
 have HB := Aside0.mk hB
 clear hB
 have H : (laws_markInt64S.l0 k l0 a1 0) = some (r1, r2) := h
 clear h
 have H' := Aside0.mk H
 clear H
 go_enter Try.func44, Try.ntmps44
 go_wp2
 go_loopg [1, 5] k (fun kq v1 v5 w' => ∃ (x0_1 : List Int) (x1_1 : Int) (x5_1 : Int), v1 = .int .i64 x1_1 ∧ v5 = .int .i64 x5_1 ∧ Aside0 (laws_markInt64S.l0 kq x0_1 x1_1 x5_1 = some (r1, r2)) ∧ Aside0 (kq ≤ k) ∧ Aside0 (Kd.R (Kd.int .i64) 2 w' w0.heap.size (fun k_ => (P0_ k_ ∨ w.heap.size ≤ k_)) u9000_ x0_1) ∧ Aside0 (Kept w w' (fun k_ => P0_ k_)) ∧ Aside0 (Below w0.heap.size w0 w'))
 case atStart => exact ⟨(l0), (a1), (0), (zE _), (zE _), H', ⟨Nat.le_refl _⟩, ⟨by (with_reducible repeat (first | apply Kd.R_alloc | apply Kd.R_drewN | apply Kd.R_drew)); exact HO0.out⟩, ⟨by repeat (first | (with_reducible first | exact HK.out | apply Kept.alloc | apply Kept.drewN | apply Kept.drew) | exact HK.out)⟩, ⟨zb _⟩⟩
 case round =>
  clear H'
  try clear p2
  obtain ⟨x0_1, x1_1, x5_1, rfl, rfl, HA, HK1, HO_0, HK, HB⟩ := hrel
  cases gk with
  | zero => exact absurd HA.out (by simp [laws_markInt64S.l0])
  | succ k1 =>
   have H := HA.out
   clear HA
   simp only [laws_markInt64S.l0] at H
   by_cases c3 : x5_1 < (x0_1.length : Int)
   ·rw [if_pos c3] at H
    have c3b0 : decide (x5_1 < (x0_1.length : Int)) = true := decide_eq_true c3
    clear c3
    by_cases c4 : 0 ≤ x5_1
    ·rw [if_pos c4] at H
     have c4b0 : decide (0 ≤ x5_1) = true := decide_eq_true c4
     clear c4
     obtain ⟨y295, hy295⟩ : ∃ y_ : List Int, y_ = (x0_1.set (x5_1 : Int).toNat x1_1) := ⟨_, rfl⟩
     replace H : (laws_markInt64S.l0 k1 y295 (wrap64 (x1_1 + 1)) (wrap64 (x5_1 + 1))) = some (r1, r2) := by first | (rw [hy295]; with_reducible exact H) | (have H2_ := (Option.bind_some _ _).symm.trans H; rw [hy295]; with_reducible exact H2_) | (have H2_ := (Option.bind_some _ _).symm.trans H; with_reducible exact H2_) | with_reducible exact H | (rw [hy295]; exact H) | exact H
     have Ny295 := Aside0.mk hy295
     clear hy295
     have H' := Aside0.mk H
     clear H
     obtain ⟨Ao6, co6, eo6⟩ := Kd.R_slice HO_0.out
     subst eo6
     have p5 : 0 ≤ (x5_1 : Int) := of_decide_eq_true (za _)
     have q5 : (x5_1 : Int) < ((x0_1.length : Int) : Int) := of_decide_eq_true (za _)
     obtain ⟨go5, co5, eo5, gb5, gl5, cl5, HG5⟩ := Kd.R_form HO_0.out (by omega)
     (first | cases eo5 | (injection eo5 with ea_ en_ ec_; (first | subst ea_ | (injection ea_ with ea_; subst ea_)); subst ec_; clear en_))
     have GB5 := Aside0.mk gb5
     have GG5 := Aside0.mk HG5
     clear gb5 gl5 HG5
     have HMgo5 := Aside0.mk (show (P0_ go5 ∨ w.heap.size ≤ go5) from (HO_0.out.1 _ rfl))
     obtain ⟨hx5_0, hf5_0⟩ := Kd.R_celln 0 HO_0.out (x5_1 : Int) p5 q5
     replace p5 := eq_true p5
     replace q5 := eq_true q5
     have HP7 := Kd.R_putg HO_0.out (x5_1 : Int) x1_1
     go_wp2_with (first | ((with_reducible refine gate_store (t := 2) (p := 15) rfl ?_); refine store_event (t := 2) (p := 15) (v := ?vo_w8) (w1 := (wr.setCell ⟨go5, (x5_1 : Int).toNat, none⟩ (.int .i64 x1_1))) ?hg ?ho ?hn ?hr ?_; (case ho => rfl); (case hg => rfl); (case hn => rfl); (case hr => first | (go_simp; done) | (go_simp; rfl)); intro w8 hw; have hg : wr.grownBy w8 (some go5) := (by rw [hw]; exact HP7.2); have hp_ : Kd.R (Kd.int .i64) 2 w8 w0.heap.size (fun k_ => (P0_ k_ ∨ w.heap.size ≤ k_)) (.slice (some ⟨go5, 0, none⟩) x0_1.length co6) y295 := (by rw [hw, Ny295.out]; exact HP7.1); clear HP7; have n0_ := Aside0.mk (hp_); have n1_ := Aside0.mk ((by rw [hw]; exact below_set (HB.out) GB5.out : Below w0.heap.size w0 w8)); have n2_ := Aside0.mk (Kept.of_grown (S := (fun k_ => P0_ k_)) hg (by repeat (first | (with_reducible first | exact HK.out | apply Kept.alloc | apply Kept.drewN | apply Kept.drew) | exact HK.out)) (fun k_ e_ => (HO_0.out.1 k_ e_))); clear HO_0; clear HB; clear HK; have HO_0 := n0_; have HB := n1_; have HK := n2_; clear n0_ n1_ n2_; clear hg hw hp_))
     go_roundg k1
     case measure => have := HK1.out; omega
     case rel => exact ⟨(y295), (wrap64 (x1_1 + 1)), (wrap64 (x5_1 + 1)), (zE _), (zE _), H', ⟨by have := HK1.out; omega⟩, ⟨by (with_reducible repeat (first | apply Kd.R_alloc | apply Kd.R_drewN | apply Kd.R_drew)); exact HO_0.out⟩, ⟨by repeat (first | (with_reducible first | exact HK.out | apply Kept.alloc | apply Kept.drewN | apply Kept.drew) | exact HK.out)⟩, ⟨zb _⟩⟩
    ·rw [if_neg c4] at H
     exact absurd H (by simp)
   ·rw [if_neg c3] at H
    have c3b0 : decide (x5_1 < (x0_1.length : Int)) = false := decide_eq_false c3
    clear c3
    simp only [Option.some.injEq, Prod.mk.injEq] at H
    obtain ⟨rfl, rfl⟩ := H
    obtain ⟨Ao9, co9, eo9⟩ := Kd.R_slice HO_0.out
    subst eo9
    go_wp2
    go_ret
    exact ⟨ze _, by (with_reducible repeat (first | apply Kd.R_alloc | apply Kd.R_drewN | apply Kd.R_drew)); exact HO_0.out, by repeat (first | (with_reducible first | exact HB.out | apply below_alloc | apply pw_below_drewN | apply below_drew1) | exact HB.out), by repeat (first | (with_reducible first | exact HK.out | apply Kept.alloc | apply Kept.drewN | apply Kept.drew) | exact HK.out)⟩

/-! ### laws_markMachine: function 16 -/
def laws_markMachine.f (k : Nat) (a0_0 : Int) (a0_1 : Int) (a0_2 : Int) (a0_3 : Int) (a0_4 : Int) (a0_5 : Int) (a0_6 : Int) (a0_7 : Int) (a0_8 : Int) (a0_9 : Int) (a0_10 : Bool) (a0_11 : Bool) (a0_12 : ByteArray) (a0_13 : Int) (a0_14 : Int) (a0_15 : ByteArray) (a0_16 : Int) (a0_17 : Bool) (a0_18 : Int) (a0_19 : ByteArray) (a0_20 : ByteArray) (l0_21 : List Int) (a0_22 : Int) (a1 : Int) : Option (Int × List Int) := (laws_markInt64S.f k l0_21 a1).bind fun bt297 => (some (bt297.1, bt297.2))
theorem laws_markMachine.mono : ∀ a0 a1 a2 a3 a4 a5 a6 a7 a8 a9 a10 a11 a12 a13 a14 a15 a16 a17 a18 a19 a20 a21 a22 a23 k, LeO (laws_markMachine.f k a0 a1 a2 a3 a4 a5 a6 a7 a8 a9 a10 a11 a12 a13 a14 a15 a16 a17 a18 a19 a20 a21 a22 a23) (laws_markMachine.f (k + 1) a0 a1 a2 a3 a4 a5 a6 a7 a8 a9 a10 a11 a12 a13 a14 a15 a16 a17 a18 a19 a20 a21 a22 a23) := by
  intro a0 a1 a2 a3 a4 a5 a6 a7 a8 a9 a10 a11 a12 a13 a14 a15 a16 a17 a18 a19 a20 a21 a22 a23 k
  unfold laws_markMachine.f
  repeat' first
      | (with_reducible exact laws_markInt64S.mono _ _ _)
      | (with_reducible exact LeO.refl _)
      | (with_reducible exact LeO.none _)
      | (with_reducible refine LeO.ite ?_ ?_)
      | (with_reducible refine LeO.bind ?_ (fun _ => ?_))
      | exact laws_markInt64S.mono _ _ _
      | exact LeO.none _
      | refine LeO.ite ?_ ?_
      | refine LeO.bind ?_ (fun _ => ?_)
open Go.Proofs.Ytmgbdbamfljjnaa.Aid in
set_option maxHeartbeats 8000000 in
set_option maxRecDepth 100000 in
theorem laws_markMachine.calls (k : Nat) (a0_0 : Int) (a0_1 : Int) (a0_2 : Int) (a0_3 : Int) (a0_4 : Int) (a0_5 : Int) (a0_6 : Int) (a0_7 : Int) (a0_8 : Int) (a0_9 : Int) (a0_10 : Bool) (a0_11 : Bool) (a0_12 : ByteArray) (a0_13 : Int) (a0_14 : Int) (a0_15 : ByteArray) (a0_16 : Int) (a0_17 : Bool) (a0_18 : Int) (a0_19 : ByteArray) (a0_20 : ByteArray) (P0_21_ : Nat → Prop) (u9000_ : Value) (l0_21 : List Int) (a0_22 : Int) (a1 : Int) (r1 : Int) (r2 : List Int) (w0 w : World) (hB : Below w0.heap.size w0 w) (ho0_21 : Kd.R (Kd.int .i64) 2 w w0.heap.size P0_21_ u9000_ l0_21) (h : laws_markMachine.f k a0_0 a0_1 a0_2 a0_3 a0_4 a0_5 a0_6 a0_7 a0_8 a0_9 a0_10 a0_11 a0_12 a0_13 a0_14 a0_15 a0_16 a0_17 a0_18 a0_19 a0_20 l0_21 a0_22 a1 = some (r1, r2)) :
 Calls Try.prog 16 #[.agg #[.int .i64 a0_0, .int .i64 a0_1, .int .i64 a0_2, .int .i64 a0_3, .int .i64 a0_4, .int .i64 a0_5, .int .i64 a0_6, .int .i64 a0_7, .int .i64 a0_8, .int .i64 a0_9, .bool a0_10, .bool a0_11, .string a0_12, .int .i64 a0_13, .int .i64 a0_14, .string a0_15, .int .i64 a0_16, .bool a0_17, .int .i64 a0_18, .string a0_19, .string a0_20, u9000_, .int .i64 a0_22], .int .i64 a1] w fun e w' => e = .returned (.int .i64 r1) ∧ Kd.R (Kd.int .i64) 2 w' w0.heap.size (fun k_ => (P0_21_ k_ ∨ w.heap.size ≤ k_)) u9000_ r2 ∧ Below w0.heap.size w0 w' ∧ Kept w w' (fun k_ => P0_21_ k_) := by
 have hu34 := Try.underlying34
 have HO0_21 := Aside0.mk (show Kd.R (Kd.int .i64) 2 w w0.heap.size (fun k_ => (P0_21_ k_ ∨ w.heap.size ≤ k_)) u9000_ l0_21 from Kd.R_mono ho0_21 (fun k_ hk => (.inl hk)))
 have HK := Aside0.mk (Kept.refl w (fun k_ => P0_21_ k_))
 have HW0 := Aside0.mk hB.size
 have HB := Aside0.mk hB
 clear hB
 have H : ((laws_markInt64S.f k l0_21 a1).bind fun bt297 => (some (bt297.1, bt297.2))) = some (r1, r2) := h
 clear h
 replace H := Option.bind_eq_some_iff.mp H
 obtain ⟨⟨t297, t298⟩, A30, H⟩ := H
 replace H : (some (t297, t298)) = some (r1, r2) := H
 have A3 := Aside0.mk A30
 clear A30
 simp only [Option.some.injEq, Prod.mk.injEq] at H
 obtain ⟨rfl, rfl⟩ := H
 obtain ⟨Ao4, co4, eo4⟩ := Kd.R_slice HO0_21.out
 subst eo4
 go_enter Try.func16, Try.ntmps16
 go_wp2_with (first | ((with_reducible refine gate_dst (N := 6) rfl ?_); refine load_one rfl (ty := 26) (p := 5) rfl BK296.out 21 rfl rfl Try.underlying26 rfl ?_; simp only [List.drop_succ_cons, List.drop_zero, List.take_succ_cons, List.take_zero, Act.put, List.setIfInBounds_toArray, List.set_cons_zero, List.set_cons_succ, Option.elim]) | ((with_reducible refine gate_dst (N := 2) rfl ?_); refine zbx 2 #[.int .i64 a0_0, .int .i64 a0_1, .int .i64 a0_2, .int .i64 a0_3, .int .i64 a0_4, .int .i64 a0_5, .int .i64 a0_6, .int .i64 a0_7, .int .i64 a0_8, .int .i64 a0_9, .bool a0_10, .bool a0_11, .string a0_12, .int .i64 a0_13, .int .i64 a0_14, .string a0_15, .int .i64 a0_16, .bool a0_17, .int .i64 a0_18, .string a0_19, .string a0_20, .slice Ao4 l0_21.length co4, .int .i64 a0_22] 34 ?_; intro gb296 hg w5 hbox hb; have BK296 := Aside0.mk (hbox); have GW296 := Aside0.mk ((by rw [hg]; exact (by first | exact HK.out.1 | exact (show Kept w _ (fun k_ => P0_21_ k_) from by repeat (first | (with_reducible first | exact HK.out | apply Kept.alloc | apply Kept.drewN | apply Kept.drew) | exact HK.out)).1) : w.heap.size ≤ gb296)); have GE296 := zs w0 hg; replace HO0_21 := Aside0.mk (Kd.R_below (by (with_reducible repeat (first | apply Kd.R_alloc | apply Kd.R_drewN | apply Kd.R_drew)); exact HO0_21.out) hb); replace HK := Aside0.mk (Kept.below (S := (fun k_ => P0_21_ k_)) (by repeat (first | (with_reducible first | exact HK.out | apply Kept.alloc | apply Kept.drewN | apply Kept.drew) | exact HK.out)) hb); replace HB := zt w0 hb; clear hb hbox hg) | ((with_reducible refine gate_callee (f := 44) rfl ?_); refine zc (some 8) Try.func44 #[.slice Ao4 l0_21.length co4, .int .i64 a1] ?_; (with_reducible refine (laws_markInt64S.calls k (fun k_ => some k_ = (.slice Ao4 l0_21.length co4 : Value).ownBlock) (.slice Ao4 l0_21.length co4) l0_21 a1 t297 t298 w0 _ ?side1 ?side2 A3.out).mono ?_); (case side1 => repeat (first | (with_reducible first | exact HB.out | apply below_alloc | apply pw_below_drewN | apply below_drew1 | refine below_set ?_ GE296.out) | exact HB.out)); (case side2 => exact Kd.R_tight rfl HO0_21.out); rintro e w7 ⟨rfl, hy0, hb, hkp⟩; refine ⟨_, rfl, ?_⟩; have n0_ := Aside0.mk (Kd.R_reok rfl hy0 (fun k_ e_ => HO0_21.out.1 k_ e_)); have n1_ := Aside0.mk (blk_kept (zr BK296) hkp (fun hs_ => (fun e_ => (Kd.R_ne HO0_21.out BK296.out (by decide)) e_) hs_)); have n2_ := Aside0.mk (Kept.then_ (S := (fun k_ => P0_21_ k_)) (by repeat (first | (with_reducible first | exact HK.out | apply Kept.alloc | apply Kept.drewN | apply Kept.drew | refine Kept.setCell ?_ (.inr GW296.out) _) | exact HK.out)) hkp (fun k_ hs_ => (fun e_ => (HO0_21.out.1 k_ e_.symm)) hs_)); have n3_ := Aside0.mk (hb); clear HO0_21; clear BK296; clear HK; clear HB; have HO0_21 := n0_; have BK296 := n1_; have HK := n2_; have HB := n3_; clear n0_ n1_ n2_ n3_; (try clear hb); (try clear hkp); (try clear hy0)))
 go_ret
 exact ⟨ze _, by (with_reducible repeat (first | apply Kd.R_alloc | apply Kd.R_drewN | apply Kd.R_drew)); exact HO0_21.out, by repeat (first | (with_reducible first | exact HB.out | apply below_alloc | apply pw_below_drewN | apply below_drew1 | refine below_set ?_ GE296.out) | exact HB.out), by repeat (first | (with_reducible first | exact HK.out | apply Kept.alloc | apply Kept.drewN | apply Kept.drew | refine Kept.setCell ?_ (.inr GW296.out) _) | exact HK.out)⟩

/-! ### laws_heldInt64S: function 45 -/
def laws_heldInt64S.l0 : Nat → List Int → Int → Int → Option (Int)
  | 0, _, _, _ => none
  | k + 1, x0, x1, x5 => if x5 < (x0.length : Int) then (if 0 ≤ x5 then (if (rd x0 x5) = x1 then (laws_heldInt64S.l0 k x0 (wrap64 (x1 + 1)) (wrap64 (x5 + 1))) else (some (-1))) else (none)) else (some x1)
def laws_heldInt64S.f (k : Nat) (l0 : List Int) (a1 : Int) : Option (Int) := laws_heldInt64S.l0 k l0 a1 0
theorem laws_heldInt64S.mono_l : ∀ k, (∀ y0 y1 y2, LeO (laws_heldInt64S.l0 k y0 y1 y2) (laws_heldInt64S.l0 (k + 1) y0 y1 y2))
  | 0 => fun _ _ _ r h => by simp [laws_heldInt64S.l0] at h
  | k + 1 => by
    have ih0 := laws_heldInt64S.mono_l k
    · intro y0 y1 y2
      unfold laws_heldInt64S.l0
      repeat' first
      | (with_reducible exact ih0 _ _ _)
      | (with_reducible exact LeO.refl _)
      | (with_reducible exact LeO.none _)
      | (with_reducible refine LeO.ite ?_ ?_)
      | (with_reducible refine LeO.bind ?_ (fun _ => ?_))
      | exact ih0 _ _ _
      | exact LeO.none _
      | refine LeO.ite ?_ ?_
      | refine LeO.bind ?_ (fun _ => ?_)
theorem laws_heldInt64S.mono : ∀ a0 a1 k, LeO (laws_heldInt64S.f k a0 a1) (laws_heldInt64S.f (k + 1) a0 a1) := by
  intro a0 a1 k
  have ih0 := laws_heldInt64S.mono_l k
  unfold laws_heldInt64S.f
  repeat' first
      | (with_reducible exact ih0 _ _ _)
      | (with_reducible exact LeO.refl _)
      | (with_reducible exact LeO.none _)
      | (with_reducible refine LeO.ite ?_ ?_)
      | (with_reducible refine LeO.bind ?_ (fun _ => ?_))
      | exact ih0 _ _ _
      | exact LeO.none _
      | refine LeO.ite ?_ ?_
      | refine LeO.bind ?_ (fun _ => ?_)
set_option maxHeartbeats 8000000 in
set_option maxRecDepth 100000 in
theorem laws_heldInt64S.calls (k : Nat) (A0 : Option Addr) (c0 : Nat) (l0 : List Int) (a1 : Int) (r : Int) (w : World) (hr0 : Kd.C (Kd.int .i64) w A0 l0.length l0) (hc0 : l0.length ≤ c0) (h : laws_heldInt64S.f k l0 a1 = some r) :
 Calls Try.prog 45 #[.slice A0 l0.length c0, .int .i64 a1] w fun e w' => e = .returned (.int .i64 r) ∧ Drawn0 w w' := by
 have HR0 := Aside0.mk hr0
 have HC0 := Aside0.mk hc0
 clear hr0 hc0
 have H : (laws_heldInt64S.l0 k l0 a1 0) = some r := h
 clear h
 have H' := Aside0.mk H
 clear H
 go_enter Try.func45, Try.ntmps45
 go_wp2
 go_loopg [1, 5] k (fun kq v1 v5 w' => ∃ (x1_1 : Int) (x5_1 : Int), v1 = .int .i64 x1_1 ∧ v5 = .int .i64 x5_1 ∧ Aside0 (laws_heldInt64S.l0 kq l0 x1_1 x5_1 = some r) ∧ Aside0 (kq ≤ k) ∧ Drawn0 w w')
 case atStart => exact ⟨(a1), (0), (zE _), (zE _), H', ⟨Nat.le_refl _⟩, zd _⟩
 case round =>
  clear H'
  try clear p2
  obtain ⟨x1_1, x5_1, rfl, rfl, HA, HK1, ⟨m1, rfl⟩⟩ := hrel
  cases gk with
  | zero => exact absurd HA.out (by simp [laws_heldInt64S.l0])
  | succ k1 =>
   have H := HA.out
   clear HA
   simp only [laws_heldInt64S.l0] at H
   by_cases c3 : x5_1 < (l0.length : Int)
   ·rw [if_pos c3] at H
    have c3b0 : decide (x5_1 < (l0.length : Int)) = true := decide_eq_true c3
    clear c3
    by_cases c4 : 0 ≤ x5_1
    ·rw [if_pos c4] at H
     have c4b0 : decide (0 ≤ x5_1) = true := decide_eq_true c4
     clear c4
     by_cases c5 : (rd l0 x5_1) = x1_1
     ·rw [if_pos c5] at H
      have c5b0 : ((rd l0 x5_1) == x1_1) = true := beq_iff_eq.mpr c5
      have c5b1 : ((rd l0 x5_1) != x1_1) = false := bne_eq_false_iff_eq.mpr c5
      clear c5
      have H' := Aside0.mk H
      clear H
      have p299 : 0 ≤ (x5_1 : Int) := of_decide_eq_true (za _)
      have q299 : x5_1 < (l0.length : Int) := of_decide_eq_true (za _)
      obtain ⟨ad299, e299, hx299_0⟩ := Kd.at_int HR0.out x5_1 p299 q299
      cases e299
      replace p299 := eq_true p299
      replace q299 := eq_true q299
      go_wp2
      go_roundg k1
      case measure => have := HK1.out; omega
      case rel => exact ⟨(wrap64 (x1_1 + 1)), (wrap64 (x5_1 + 1)), (zE _), (zE _), H', ⟨by have := HK1.out; omega⟩, zd _⟩
     ·rw [if_neg c5] at H
      have c5b0 : ((rd l0 x5_1) == x1_1) = false := beq_eq_false_iff_ne.mpr c5
      have c5b1 : ((rd l0 x5_1) != x1_1) = true := bne_iff_ne.mpr c5
      obtain rfl := Option.some.inj H
      have p299 : 0 ≤ (x5_1 : Int) := of_decide_eq_true (za _)
      have q299 : x5_1 < (l0.length : Int) := of_decide_eq_true (za _)
      obtain ⟨ad299, e299, hx299_0⟩ := Kd.at_int HR0.out x5_1 p299 q299
      cases e299
      replace p299 := eq_true p299
      replace q299 := eq_true q299
      go_wp2
      go_ret
      exact ⟨zE _, zd _⟩
    ·rw [if_neg c4] at H
     exact absurd H (by simp)
   ·rw [if_neg c3] at H
    have c3b0 : decide (x5_1 < (l0.length : Int)) = false := decide_eq_false c3
    clear c3
    obtain rfl := Option.some.inj H
    go_wp2
    go_ret
    exact ⟨zE _, zd _⟩

/-! ### laws_heldMachine: function 17 -/
def laws_heldMachine.f (k : Nat) (a0_0 : Int) (a0_1 : Int) (a0_2 : Int) (a0_3 : Int) (a0_4 : Int) (a0_5 : Int) (a0_6 : Int) (a0_7 : Int) (a0_8 : Int) (a0_9 : Int) (a0_10 : Bool) (a0_11 : Bool) (a0_12 : ByteArray) (a0_13 : Int) (a0_14 : Int) (a0_15 : ByteArray) (a0_16 : Int) (a0_17 : Bool) (a0_18 : Int) (a0_19 : ByteArray) (a0_20 : ByteArray) (l0_21 : List Int) (a0_22 : Int) (a1 : Int) : Option (Int) := (laws_heldInt64S.f k l0_21 a1).bind fun t301 => (if t301 < 0 then (some (-1)) else (some t301))
theorem laws_heldMachine.mono : ∀ a0 a1 a2 a3 a4 a5 a6 a7 a8 a9 a10 a11 a12 a13 a14 a15 a16 a17 a18 a19 a20 a21 a22 a23 k, LeO (laws_heldMachine.f k a0 a1 a2 a3 a4 a5 a6 a7 a8 a9 a10 a11 a12 a13 a14 a15 a16 a17 a18 a19 a20 a21 a22 a23) (laws_heldMachine.f (k + 1) a0 a1 a2 a3 a4 a5 a6 a7 a8 a9 a10 a11 a12 a13 a14 a15 a16 a17 a18 a19 a20 a21 a22 a23) := by
  intro a0 a1 a2 a3 a4 a5 a6 a7 a8 a9 a10 a11 a12 a13 a14 a15 a16 a17 a18 a19 a20 a21 a22 a23 k
  unfold laws_heldMachine.f
  repeat' first
      | (with_reducible exact laws_heldInt64S.mono _ _ _)
      | (with_reducible exact LeO.refl _)
      | (with_reducible exact LeO.none _)
      | (with_reducible refine LeO.ite ?_ ?_)
      | (with_reducible refine LeO.bind ?_ (fun _ => ?_))
      | exact laws_heldInt64S.mono _ _ _
      | exact LeO.none _
      | refine LeO.ite ?_ ?_
      | refine LeO.bind ?_ (fun _ => ?_)
open Go.Proofs.Ytmgbdbamfljjnaa.Aid in
set_option maxHeartbeats 8000000 in
set_option maxRecDepth 100000 in
theorem laws_heldMachine.calls (k : Nat) (a0_0 : Int) (a0_1 : Int) (a0_2 : Int) (a0_3 : Int) (a0_4 : Int) (a0_5 : Int) (a0_6 : Int) (a0_7 : Int) (a0_8 : Int) (a0_9 : Int) (a0_10 : Bool) (a0_11 : Bool) (a0_12 : ByteArray) (a0_13 : Int) (a0_14 : Int) (a0_15 : ByteArray) (a0_16 : Int) (a0_17 : Bool) (a0_18 : Int) (a0_19 : ByteArray) (a0_20 : ByteArray) (A0_21 : Option Addr) (c0_21 : Nat) (l0_21 : List Int) (a0_22 : Int) (a1 : Int) (r : Int) (w : World) (hr0_21 : Kd.C (Kd.int .i64) w A0_21 l0_21.length l0_21) (hc0_21 : l0_21.length ≤ c0_21) (h : laws_heldMachine.f k a0_0 a0_1 a0_2 a0_3 a0_4 a0_5 a0_6 a0_7 a0_8 a0_9 a0_10 a0_11 a0_12 a0_13 a0_14 a0_15 a0_16 a0_17 a0_18 a0_19 a0_20 l0_21 a0_22 a1 = some r) :
 Calls Try.prog 17 #[.agg #[.int .i64 a0_0, .int .i64 a0_1, .int .i64 a0_2, .int .i64 a0_3, .int .i64 a0_4, .int .i64 a0_5, .int .i64 a0_6, .int .i64 a0_7, .int .i64 a0_8, .int .i64 a0_9, .bool a0_10, .bool a0_11, .string a0_12, .int .i64 a0_13, .int .i64 a0_14, .string a0_15, .int .i64 a0_16, .bool a0_17, .int .i64 a0_18, .string a0_19, .string a0_20, .slice A0_21 l0_21.length c0_21, .int .i64 a0_22], .int .i64 a1] w fun e w' => e = .returned (.int .i64 r) ∧ Below w.heap.size w w' := by
 have hu34 := Try.underlying34
 have HR0_21 := Aside0.mk hr0_21
 have HC0_21 := Aside0.mk hc0_21
 clear hr0_21 hc0_21
 have HB := Aside0.mk (Below.refl w.heap.size w)
 have H : ((laws_heldInt64S.f k l0_21 a1).bind fun t301 => (if t301 < 0 then (some (-1)) else (some t301))) = some r := h
 clear h
 obtain ⟨t301, A30, H⟩ := Option.bind_eq_some_iff.mp H
 have A3 := Aside0.mk A30
 clear A30
 by_cases c4 : t301 < 0
 ·rw [if_pos c4] at H
  have c4b0 : decide (t301 < 0) = true := decide_eq_true c4
  clear c4
  obtain rfl := Option.some.inj H
  go_enter Try.func17, Try.ntmps17
  go_wp2_with (first | ((with_reducible refine gate_dst (N := 6) rfl ?_); refine load_one rfl (ty := 26) (p := 5) rfl BK300.out 21 rfl rfl Try.underlying26 rfl ?_; simp only [List.drop_succ_cons, List.drop_zero, List.take_succ_cons, List.take_zero, Act.put, List.setIfInBounds_toArray, List.set_cons_zero, List.set_cons_succ, Option.elim]) | ((with_reducible refine gate_dst (N := 2) rfl ?_); refine zbx 2 #[.int .i64 a0_0, .int .i64 a0_1, .int .i64 a0_2, .int .i64 a0_3, .int .i64 a0_4, .int .i64 a0_5, .int .i64 a0_6, .int .i64 a0_7, .int .i64 a0_8, .int .i64 a0_9, .bool a0_10, .bool a0_11, .string a0_12, .int .i64 a0_13, .int .i64 a0_14, .string a0_15, .int .i64 a0_16, .bool a0_17, .int .i64 a0_18, .string a0_19, .string a0_20, .slice A0_21 l0_21.length c0_21, .int .i64 a0_22] 34 ?_; intro gb300 hg w5 hbox hb; have BK300 := Aside0.mk (hbox); have GW300 := zs w hg; have GE300 := GW300; replace HB := zt w hb; clear hb hbox hg) | ((with_reducible refine gate_callee (f := 45) rfl ?_); refine zc (some 8) Try.func45 #[.slice A0_21 l0_21.length c0_21, .int .i64 a1] ?_; (with_reducible refine (laws_heldInt64S.calls k _ _ l0_21 a1 t301 _ ?side1 ?side2 A3.out).mono ?_); (case side1 => repeat (first | exact (Kd.C_below HR0_21.out HB.out) | (with_reducible refine Kd.C_alloc ?_ _) | (with_reducible refine Kd.C_drewN ?_ _) | (with_reducible refine Kd.C_drew ?_))); (case side2 => exact HC0_21.out); rintro e w' ⟨rfl, ⟨nd, rfl⟩⟩; refine ⟨_, rfl, ?_⟩))
  go_ret
  exact ⟨ze _, zb _⟩
 ·rw [if_neg c4] at H
  have c4b0 : decide (t301 < 0) = false := decide_eq_false c4
  clear c4
  obtain rfl := Option.some.inj H
  go_enter Try.func17, Try.ntmps17
  go_wp2_with (first | ((with_reducible refine gate_dst (N := 6) rfl ?_); refine load_one rfl (ty := 26) (p := 5) rfl BK300.out 21 rfl rfl Try.underlying26 rfl ?_; simp only [List.drop_succ_cons, List.drop_zero, List.take_succ_cons, List.take_zero, Act.put, List.setIfInBounds_toArray, List.set_cons_zero, List.set_cons_succ, Option.elim]) | ((with_reducible refine gate_dst (N := 2) rfl ?_); refine zbx 2 #[.int .i64 a0_0, .int .i64 a0_1, .int .i64 a0_2, .int .i64 a0_3, .int .i64 a0_4, .int .i64 a0_5, .int .i64 a0_6, .int .i64 a0_7, .int .i64 a0_8, .int .i64 a0_9, .bool a0_10, .bool a0_11, .string a0_12, .int .i64 a0_13, .int .i64 a0_14, .string a0_15, .int .i64 a0_16, .bool a0_17, .int .i64 a0_18, .string a0_19, .string a0_20, .slice A0_21 l0_21.length c0_21, .int .i64 a0_22] 34 ?_; intro gb300 hg w7 hbox hb; have BK300 := Aside0.mk (hbox); have GW300 := zs w hg; have GE300 := GW300; replace HB := zt w hb; clear hb hbox hg) | ((with_reducible refine gate_callee (f := 45) rfl ?_); refine zc (some 8) Try.func45 #[.slice A0_21 l0_21.length c0_21, .int .i64 a1] ?_; (with_reducible refine (laws_heldInt64S.calls k _ _ l0_21 a1 t301 _ ?side1 ?side2 A3.out).mono ?_); (case side1 => repeat (first | exact (Kd.C_below HR0_21.out HB.out) | (with_reducible refine Kd.C_alloc ?_ _) | (with_reducible refine Kd.C_drewN ?_ _) | (with_reducible refine Kd.C_drew ?_))); (case side2 => exact HC0_21.out); rintro e w' ⟨rfl, ⟨nd, rfl⟩⟩; refine ⟨_, rfl, ?_⟩))
  go_ret
  exact ⟨ze _, zb _⟩

end Go.Proofs.Ytmgbdbamfljjnaa.PFnExactBusWrite
