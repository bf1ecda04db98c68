/-
The law FnExactObjectOk of the given program returns true for every input and leaves its arguments as they were; no condition.
-/
import Derived.Test.YtbbngeooodcbcaaRows
import Derived.Test.YtbbngeooodcbcaaPFnExactObjectOkx16
import Derived.Test.YtbbngeooodcbcaaKinFnExactObjectOk
import Derived.Test.YtbbngeooodcbcaaPureFnExactObjectOk
import Derived.WalkKit
import Derived.ProofKit
import Derived.OpenShut
import Derived.ShutString
import Derived.ChangeOld
import Derived.Below
import Derived.SizedLaws
import Derived.Test.YtbbngeooodcbcaaWSized
namespace Go.Proofs.Ytbbngeooodcbcaa.fnExactObjectOk
open Go.ChangeShapes Go.WideShapes Go.ChangeAt Go.RowKit Go.Proofs.Ytbbngeooodcbcaa.Aid Go.Proofs.Ytbbngeooodcbcaa.Kin Go.Proofs.Ytbbngeooodcbcaa.PFnExactObjectOk Go.Proofs.YtbbngeooodcbcaaW.PrintWords
open Go.ChangeMaps (open_string shut_string)
set_option linter.unusedVariables false
theorem own : ownKnob Try.prog.godebug = none := by kernel_rfl
theorem laidOut : laidOutB Try.prog = true := by kernel_rfl
set_option maxRecDepth 100000 in
theorem lifted (os : Os) (started : os.Started) (H : Type) (enc : TypeId × Value → H) :
    ReturnsInHanded {} Try.checked os 3 .any (Rows.fnExactObjectOkSpec.pre6 enc Try.prog Try.f3 Rows.fnExactObjectOkRow.domain false) (Rows.fnExactObjectOkSpec.post enc Try.prog Try.f3 false true false false) := by
  refine returnsInHanded_of_change_sized (C := Try.checked) own started (by kernel_rfl) Try.func3
    (ChangeSpec.witness6 (enc := enc) (C := Try.checked) false ⟨#[], #[.agg #[.slice none 0 0, .slice none 0 0, .slice none 0 0]], []⟩ 8 (by kernel_rfl) (by kernel_rfl) (by kernel_rfl) (by kernel_rfl)) ?_
  intro W base args ds gs before hval0 hW hcnd hsz0 _
  have hval : ∀ (j : Nat) t v, Try.f3.params[j]? = some t → args[j]? = some v → Value.okWide Try.prog W .any base t v := hval0
  have hW' := hW
  obtain ⟨p, q, hA0, hV, rfl, hfz, hnd⟩ := hW
  have hA : DataW.TrodAll enc Try.prog W 0 (fun _ => true) true Try.f3.params.toList args.toList ds p := hA0
  rw [Try.params3] at hA hval
  obtain ⟨v0, vs0, d0, ds0, p0, q0, hargs, rfl, rfl, h0, r0⟩ := trodAll_cons hA
  obtain ⟨rfl, rfl, rfl⟩ := trodAll_nil r0
  obtain rfl : args = #[v0] := by cases args; simp_all
  obtain ⟨rfl, rfl⟩ := trodVars_none hV
  have k0 := h0
  have lt0 : ∀ x ∈ p0, x.block < W.heap.size := by obtain ⟨m, hm⟩ := k0; exact DataW.trod_lt m _ _ _ hm
  obtain ⟨cs0, rfl, hsz0⟩ := okWide_struct Try.underlying26 (hval 0 26 v0 rfl rfl)
  obtain ⟨fuel0, hf0⟩ := h0
  obtain ⟨x0, hk0_, ok0⟩ := (Rdb.struct Try.underlying26 (by kernel_rfl) (by kernel_rfl) (RdF.cons (Rdb.slice z62 Try.underlying22 (by kernel_rfl) rdT62) (RdF.cons (Rdb.slice z64 Try.underlying23 (by kernel_rfl) rdT64) (RdF.one (Rdb.slice [] Try.underlying24 (by kernel_rfl) (Rdb.slice z90 Try.underlying66 (by kernel_rfl) rdT90)))))) enc W fuel0 _ _ hf0
  have hk0 : (Kd.pair (Kd.slice 62 k62) (Kd.pair (Kd.slice 64 k64) (Kd.slice 66 (Kd.slice 90 k90)))).K W x0 cs0.toList := hk0_
  generalize hc0 : cs0.toList = cl0 at hk0
  obtain ⟨_, _, rfl, g1_0, f1_0⟩ := hk0
  obtain ⟨A2_0, c2_0, rfl, l2_0, e2_0⟩ := g1_0
  obtain ⟨_, _, rfl, g3_0, f3_0⟩ := f1_0
  obtain ⟨A4_0, c4_0, rfl, l4_0, e4_0⟩ := g3_0
  obtain ⟨A5_0, c5_0, rfl, l5_0, e5_0⟩ := f3_0
  obtain rfl : cs0 = #[.slice A2_0 x0.1.length c2_0, .slice A4_0 x0.2.1.length c4_0, .slice A5_0 x0.2.2.length c5_0] := Array.toList_inj.1 (by rw [hc0]; rfl)
  obtain ⟨k, hp⟩ := Pure.FnExactObjectOk x0.1 x0.2.1 x0.2.2 ok0.1 ok0.2.1 ok0.2.2
  refine (laws_FnExactObjectOk.calls k _ _ x0.1 _ _ x0.2.1 _ _ x0.2.2 true W e2_0 l2_0 e4_0 l4_0 e5_0 l5_0 hp).mono fun e W' ⟨he, bel0⟩ => ?_
  have bel : Below W.heap.size W W' := bel0
  subst he
  exact ⟨_, rfl, _, _, _, [], _, [], hW', trodAll_mk1 (shut_bool Try.underlying4 _), (trodAll_cons_mk (Below.trod laidOut (by kernel_rfl) (of_decide_eq_true (by kernel_rfl)) k0 bel lt0) trodAll_mk0), rfl, bel.frame _, fun h => by cases h⟩
theorem over : Rows.fnExactObjectOkRow.holds Try.pinned (OpenSpec.ofChange Rows.fnExactObjectOkSpec) :=
  OpenClaim.holds_of_wide 3 Try.f3 rfl rfl rfl rfl rfl rfl rfl ⟨rfl, rfl, rfl, rfl, rfl⟩ rfl rfl rfl rfl rfl (by kernel_rfl) Try.func3 (by kernel_rfl)
    (of_decide_eq_true (by kernel_rfl)) (by unfold Func.isWrapper; first | (rw [if_pos (by decide +kernel)]; kernel_rfl) | (rw [if_neg (by decide +kernel)]; exact ⟨rfl, rfl⟩))
    (fun os started H enc _ => lifted os started H enc)
theorem proved : Rows.FnExactObjectOkSaid := over
#print axioms proved
end Go.Proofs.Ytbbngeooodcbcaa.fnExactObjectOk
namespace Go.Proofs.Ytbbngeooodcbcaa
/-- The row, under a short name, for the claim. -/
theorem fnExactObjectOk_holds : Rows.FnExactObjectOkSaid := fnExactObjectOk.proved
end Go.Proofs.Ytbbngeooodcbcaa
