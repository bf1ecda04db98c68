/-
The law FnExactBusWrite of the given program returns true for every input and leaves its arguments as they were; no condition.
-/
import Derived.Test.YtmgbdbamfljjnaaRows
import Derived.Test.YtmgbdbamfljjnaaPFnExactBusWritex12
import Derived.Test.YtmgbdbamfljjnaaKinFnExactBusWrite
import Derived.Test.YtmgbdbamfljjnaaPureFnExactBusWrite
import Derived.WalkKit
import Derived.ProofKit
import Derived.OpenShut
import Derived.ShutString
import Derived.ChangeOld
import Derived.Below
import Derived.SizedLaws
import Derived.Test.YtmgbdbamfljjnaaWSized
namespace Go.Proofs.Ytmgbdbamfljjnaa.fnExactBusWrite
open Go.ChangeShapes Go.WideShapes Go.ChangeAt Go.RowKit Go.Proofs.Ytmgbdbamfljjnaa.Aid Go.Proofs.Ytmgbdbamfljjnaa.Kin Go.Proofs.Ytmgbdbamfljjnaa.PFnExactBusWrite Go.Proofs.YtmgbdbamfljjnaaW.PrintWords
open Go.ChangeMaps (open_string shut_string)
set_option linter.unusedVariables false
theorem own : ownKnob Try.prog.godebug = none := by kernel_rfl
theorem laidOut : laidOutB Try.prog = true := by kernel_rfl
set_option maxRecDepth 100000 in
theorem lifted (os : Os) (started : os.Started) (H : Type) (enc : TypeId × Value → H) :
    ReturnsInHanded {} Try.checked os 5 .any (Rows.fnExactBusWriteSpec.pre6 enc Try.prog Try.f5 Rows.fnExactBusWriteRow.domain false) (Rows.fnExactBusWriteSpec.post enc Try.prog Try.f5 false true false false) := by
  refine returnsInHanded_of_change_sized (C := Try.checked) own started (by kernel_rfl) Try.func5
    (ChangeSpec.witness6 (enc := enc) (C := Try.checked) false ⟨#[], #[.agg #[.int .i64 0, .int .i64 0, .int .i64 0, .int .i64 0, .int .i64 0, .int .i64 0, .int .i64 0, .int .i64 0, .int .i64 0, .int .i64 0, .bool false, .bool false, .string ByteArray.empty, .int .i64 0, .int .i64 0, .string ByteArray.empty, .int .i64 0, .bool false, .int .i64 0, .string ByteArray.empty, .string ByteArray.empty, .slice none 0 0, .int .i64 0], .int .i64 0, .int .i64 0], []⟩ 8 (by kernel_rfl) (by kernel_rfl) (by kernel_rfl) (by kernel_rfl)) ?_
  intro W base args ds gs before hval0 hW hcnd hsz0 _
  have hval : ∀ (j : Nat) t v, Try.f5.params[j]? = some t → args[j]? = some v → Value.okWide Try.prog W .any base t v := hval0
  have hW' := hW
  obtain ⟨p, q, hA0, hV, rfl, hfz, hnd⟩ := hW
  have hA : DataW.TrodAll enc Try.prog W 0 (fun _ => true) true Try.f5.params.toList args.toList ds p := hA0
  rw [Try.params5] at hA hval
  obtain ⟨v0, vs0, d0, ds0, p0, q0, hargs, rfl, rfl, h0, r0⟩ := trodAll_cons hA
  obtain ⟨v1, vs1, d1, ds1, p1, q1, rfl, rfl, rfl, h1, r1⟩ := trodAll_cons r0
  obtain ⟨v2, vs2, d2, ds2, p2, q2, rfl, rfl, rfl, h2, r2⟩ := trodAll_cons r1
  obtain ⟨rfl, rfl, rfl⟩ := trodAll_nil r2
  obtain rfl : args = #[v0, v1, v2] := by cases args; simp_all
  obtain ⟨rfl, rfl⟩ := trodVars_none hV
  have k0 := h0
  have lt0 : ∀ x ∈ p0, x.block < W.heap.size := by obtain ⟨m, hm⟩ := k0; exact DataW.trod_lt m _ _ _ hm
  obtain ⟨cs0, rfl, hsz0⟩ := okWide_struct Try.underlying28 (hval 0 28 v0 rfl rfl)
  obtain ⟨fuel0, hf0⟩ := h0
  obtain ⟨x0, hk0_, ok0⟩ := (Rdb.struct Try.underlying28 (by kernel_rfl) (by kernel_rfl) (RdF.cons (Rdb.struct Try.underlying23 (by kernel_rfl) (by kernel_rfl) (RdF.cons (Rdb.int Try.underlying2) (RdF.cons (Rdb.int Try.underlying2) (RdF.cons (Rdb.int Try.underlying2) (RdF.cons (Rdb.int Try.underlying2) (RdF.cons (Rdb.int Try.underlying2) (RdF.cons (Rdb.int Try.underlying2) (RdF.cons (Rdb.int Try.underlying2) (RdF.cons (Rdb.int Try.underlying2) (RdF.cons (Rdb.int Try.underlying2) (RdF.cons (Rdb.int Try.underlying2) (RdF.cons (Rdb.bool Try.underlying4) (RdF.one (Rdb.bool Try.underlying4)))))))))))))) (RdF.cons (Rdb.struct Try.underlying25 (by kernel_rfl) (by kernel_rfl) (RdF.cons (Rdb.string Try.underlying9) (RdF.cons (Rdb.int Try.underlying2) (RdF.cons (Rdb.int Try.underlying2) (RdF.cons (Rdb.string Try.underlying9) (RdF.cons (Rdb.int Try.underlying2) (RdF.cons (Rdb.bool Try.underlying4) (RdF.one (Rdb.int Try.underlying2))))))))) (RdF.cons (Rdb.string Try.underlying9) (RdF.cons (Rdb.string Try.underlying9) (RdF.cons (Rdb.slice (0 : Int) Try.underlying26 (by kernel_rfl) (Rdb.int Try.underlying2)) (RdF.one (Rdb.int Try.underlying2)))))))) enc W fuel0 _ _ hf0
  have hk0 : (Kd.pair (Kd.pair (Kd.int .i64) (Kd.pair (Kd.int .i64) (Kd.pair (Kd.int .i64) (Kd.pair (Kd.int .i64) (Kd.pair (Kd.int .i64) (Kd.pair (Kd.int .i64) (Kd.pair (Kd.int .i64) (Kd.pair (Kd.int .i64) (Kd.pair (Kd.int .i64) (Kd.pair (Kd.int .i64) (Kd.pair Kd.bool Kd.bool))))))))))) (Kd.pair (Kd.pair Kd.string (Kd.pair (Kd.int .i64) (Kd.pair (Kd.int .i64) (Kd.pair Kd.string (Kd.pair (Kd.int .i64) (Kd.pair Kd.bool (Kd.int .i64))))))) (Kd.pair Kd.string (Kd.pair Kd.string (Kd.pair (Kd.slice 2 (Kd.int .i64)) (Kd.int .i64)))))).K W x0 cs0.toList := hk0_
  generalize hc0 : cs0.toList = cl0 at hk0
  obtain ⟨_, _, rfl, g1_0, f1_0⟩ := hk0
  obtain ⟨_, _, rfl, g2_0, f2_0⟩ := g1_0
  obtain rfl := g2_0
  obtain ⟨_, _, rfl, g3_0, f3_0⟩ := f2_0
  obtain rfl := g3_0
  obtain ⟨_, _, rfl, g4_0, f4_0⟩ := f3_0
  obtain rfl := g4_0
  obtain ⟨_, _, rfl, g5_0, f5_0⟩ := f4_0
  obtain rfl := g5_0
  obtain ⟨_, _, rfl, g6_0, f6_0⟩ := f5_0
  obtain rfl := g6_0
  obtain ⟨_, _, rfl, g7_0, f7_0⟩ := f6_0
  obtain rfl := g7_0
  obtain ⟨_, _, rfl, g8_0, f8_0⟩ := f7_0
  obtain rfl := g8_0
  obtain ⟨_, _, rfl, g9_0, f9_0⟩ := f8_0
  obtain rfl := g9_0
  obtain ⟨_, _, rfl, g10_0, f10_0⟩ := f9_0
  obtain rfl := g10_0
  obtain ⟨_, _, rfl, g11_0, f11_0⟩ := f10_0
  obtain rfl := g11_0
  obtain ⟨_, _, rfl, g12_0, f12_0⟩ := f11_0
  obtain rfl := g12_0
  obtain rfl := f12_0
  obtain ⟨_, _, rfl, g13_0, f13_0⟩ := f1_0
  obtain ⟨_, _, rfl, g14_0, f14_0⟩ := g13_0
  obtain rfl := g14_0
  obtain ⟨_, _, rfl, g15_0, f15_0⟩ := f14_0
  obtain rfl := g15_0
  obtain ⟨_, _, rfl, g16_0, f16_0⟩ := f15_0
  obtain rfl := g16_0
  obtain ⟨_, _, rfl, g17_0, f17_0⟩ := f16_0
  obtain rfl := g17_0
  obtain ⟨_, _, rfl, g18_0, f18_0⟩ := f17_0
  obtain rfl := g18_0
  obtain ⟨_, _, rfl, g19_0, f19_0⟩ := f18_0
  obtain rfl := g19_0
  obtain rfl := f19_0
  obtain ⟨_, _, rfl, g20_0, f20_0⟩ := f13_0
  obtain rfl := g20_0
  obtain ⟨_, _, rfl, g21_0, f21_0⟩ := f20_0
  obtain rfl := g21_0
  obtain ⟨_, _, rfl, g22_0, f22_0⟩ := f21_0
  obtain ⟨A23_0, c23_0, rfl, l23_0, e23_0⟩ := g22_0
  obtain rfl := f22_0
  obtain rfl : cs0 = #[.int .i64 x0.1.1, .int .i64 x0.1.2.1, .int .i64 x0.1.2.2.1, .int .i64 x0.1.2.2.2.1, .int .i64 x0.1.2.2.2.2.1, .int .i64 x0.1.2.2.2.2.2.1, .int .i64 x0.1.2.2.2.2.2.2.1, .int .i64 x0.1.2.2.2.2.2.2.2.1, .int .i64 x0.1.2.2.2.2.2.2.2.2.1, .int .i64 x0.1.2.2.2.2.2.2.2.2.2.1, .bool x0.1.2.2.2.2.2.2.2.2.2.2.1, .bool x0.1.2.2.2.2.2.2.2.2.2.2.2, .string x0.2.1.1, .int .i64 x0.2.1.2.1, .int .i64 x0.2.1.2.2.1, .string x0.2.1.2.2.2.1, .int .i64 x0.2.1.2.2.2.2.1, .bool x0.2.1.2.2.2.2.2.1, .int .i64 x0.2.1.2.2.2.2.2.2, .string x0.2.2.1, .string x0.2.2.2.1, .slice A23_0 x0.2.2.2.2.1.length c23_0, .int .i64 x0.2.2.2.2.2] := Array.toList_inj.1 (by rw [hc0]; rfl)
  obtain ⟨a1, rfl, rfl, rfl, w1⟩ := open_int Try.underlying2 (hval 1 2 v1 rfl rfl) h1
  obtain ⟨a2, rfl, rfl, rfl, w2⟩ := open_int Try.underlying2 (hval 2 2 v2 rfl rfl) h2
  obtain ⟨k, hp⟩ := Pure.FnExactBusWrite x0.1.1 x0.1.2.1 x0.1.2.2.1 x0.1.2.2.2.1 x0.1.2.2.2.2.1 x0.1.2.2.2.2.2.1 x0.1.2.2.2.2.2.2.1 x0.1.2.2.2.2.2.2.2.1 x0.1.2.2.2.2.2.2.2.2.1 x0.1.2.2.2.2.2.2.2.2.2.1 x0.1.2.2.2.2.2.2.2.2.2.2.1 x0.1.2.2.2.2.2.2.2.2.2.2.2 x0.2.1.1 x0.2.1.2.1 x0.2.1.2.2.1 x0.2.1.2.2.2.1 x0.2.1.2.2.2.2.1 x0.2.1.2.2.2.2.2.1 x0.2.1.2.2.2.2.2.2 x0.2.2.1 x0.2.2.2.1 x0.2.2.2.2.1 x0.2.2.2.2.2 a1 a2 ok0.1.1 ok0.1.2.1 ok0.1.2.2.1 ok0.1.2.2.2.1 ok0.1.2.2.2.2.1 ok0.1.2.2.2.2.2.1 ok0.1.2.2.2.2.2.2.1 ok0.1.2.2.2.2.2.2.2.1 ok0.1.2.2.2.2.2.2.2.2.1 ok0.1.2.2.2.2.2.2.2.2.2.1 ok0.2.1.1 ok0.2.1.2.1 ok0.2.1.2.2.1 ok0.2.1.2.2.2.1 ok0.2.1.2.2.2.2.1 ok0.2.1.2.2.2.2.2.2 ok0.2.2.1 ok0.2.2.2.1 ok0.2.2.2.2.1 ok0.2.2.2.2.2 w1 w2
  refine (laws_FnExactBusWrite.calls k x0.1.1 x0.1.2.1 x0.1.2.2.1 x0.1.2.2.2.1 x0.1.2.2.2.2.1 x0.1.2.2.2.2.2.1 x0.1.2.2.2.2.2.2.1 x0.1.2.2.2.2.2.2.2.1 x0.1.2.2.2.2.2.2.2.2.1 x0.1.2.2.2.2.2.2.2.2.2.1 x0.1.2.2.2.2.2.2.2.2.2.2.1 x0.1.2.2.2.2.2.2.2.2.2.2.2 x0.2.1.1 x0.2.1.2.1 x0.2.1.2.2.1 x0.2.1.2.2.2.1 x0.2.1.2.2.2.2.1 x0.2.1.2.2.2.2.2.1 x0.2.1.2.2.2.2.2.2 x0.2.2.1 x0.2.2.2.1 _ _ x0.2.2.2.2.1 x0.2.2.2.2.2 a1 a2 true W e23_0 l23_0 hp).mono fun e W' ⟨he, bel0⟩ => ?_
  have bel : Below W.heap.size W W' := bel0
  subst he
  exact ⟨_, rfl, _, _, _, [], _, [], hW', trodAll_mk1 (shut_bool Try.underlying4 _), (trodAll_cons_mk (Below.trod laidOut (by kernel_rfl) (of_decide_eq_true (by kernel_rfl)) k0 bel lt0) (trodAll_cons_mk (shut_int Try.underlying2 w1) (trodAll_cons_mk (shut_int Try.underlying2 w2) trodAll_mk0))), rfl, bel.frame _, fun h => by cases h⟩
theorem over : Rows.fnExactBusWriteRow.holds Try.pinned (OpenSpec.ofChange Rows.fnExactBusWriteSpec) :=
  OpenClaim.holds_of_wide 5 Try.f5 rfl rfl rfl rfl rfl rfl rfl ⟨rfl, rfl, rfl, rfl, rfl⟩ rfl rfl rfl rfl rfl (by kernel_rfl) Try.func5 (by kernel_rfl)
    (of_decide_eq_true (by kernel_rfl)) (by unfold Func.isWrapper; first | (rw [if_pos (by decide +kernel)]; kernel_rfl) | (rw [if_neg (by decide +kernel)]; exact ⟨rfl, rfl⟩))
    (fun os started H enc _ => lifted os started H enc)
theorem proved : Rows.FnExactBusWriteSaid := over
#print axioms proved
end Go.Proofs.Ytmgbdbamfljjnaa.fnExactBusWrite
namespace Go.Proofs.Ytmgbdbamfljjnaa
/-- The row, under a short name, for the claim. -/
theorem fnExactBusWrite_holds : Rows.FnExactBusWriteSaid := fnExactBusWrite.proved
end Go.Proofs.Ytmgbdbamfljjnaa
