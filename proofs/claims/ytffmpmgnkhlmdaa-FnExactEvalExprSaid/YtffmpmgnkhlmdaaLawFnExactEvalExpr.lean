/-
The law FnExactEvalExpr of the given program returns true for every input and leaves its arguments as they were; no condition.
-/
import Derived.Test.YtffmpmgnkhlmdaaRows
import Derived.Test.YtffmpmgnkhlmdaaPFnExactEvalExprx8
import Derived.Test.YtffmpmgnkhlmdaaKinFnExactEvalExpr
import Derived.Test.YtffmpmgnkhlmdaaPureFnExactEvalExpr
import Derived.WalkKit
import Derived.ProofKit
import Derived.OpenShut
import Derived.ShutString
import Derived.ChangeOld
import Derived.Below
import Derived.SizedLaws
import Derived.Test.YtffmpmgnkhlmdaaWSized
namespace Go.Proofs.Ytffmpmgnkhlmdaa.fnExactEvalExpr
open Go.ChangeShapes Go.WideShapes Go.ChangeAt Go.RowKit Go.Proofs.Ytffmpmgnkhlmdaa.Aid Go.Proofs.Ytffmpmgnkhlmdaa.Kin Go.Proofs.Ytffmpmgnkhlmdaa.PFnExactEvalExpr Go.Proofs.YtffmpmgnkhlmdaaW.PrintWords
open Go.ChangeMaps (open_string shut_string)
set_option linter.unusedVariables false
theorem own : ownKnob Try.prog.godebug = none := by kernel_rfl
theorem laidOut : laidOutB Try.prog = true := by kernel_rfl
set_option maxRecDepth 100000 in
theorem lifted (os : Os) (started : os.Started) (H : Type) (enc : TypeId × Value → H) :
    ReturnsInHanded {} Try.checked os 5 .any (Rows.fnExactEvalExprSpec.pre6 enc Try.prog Try.f5 Rows.fnExactEvalExprRow.domain false) (Rows.fnExactEvalExprSpec.post enc Try.prog Try.f5 false true false false) := by
  refine returnsInHanded_of_change_sized (C := Try.checked) own started (by kernel_rfl) Try.func5
    (ChangeSpec.witness6 (enc := enc) (C := Try.checked) false ⟨#[], #[.slice none 0 0, .slice none 0 0], []⟩ 8 (by kernel_rfl) (by kernel_rfl) (by kernel_rfl) (by kernel_rfl)) ?_
  intro W base args ds gs before hval0 hW hcnd hsz0 _
  have hval : ∀ (j : Nat) t v, Try.f5.params[j]? = some t → args[j]? = some v → Value.okWide Try.prog W .any base t v := hval0
  have hW' := hW
  obtain ⟨p, q, hA0, hV, rfl, hfz, hnd⟩ := hW
  have hA : DataW.TrodAll enc Try.prog W 0 (fun _ => true) true Try.f5.params.toList args.toList ds p := hA0
  rw [Try.params5] at hA hval
  obtain ⟨v0, vs0, d0, ds0, p0, q0, hargs, rfl, rfl, h0, r0⟩ := trodAll_cons hA
  obtain ⟨v1, vs1, d1, ds1, p1, q1, rfl, rfl, rfl, h1, r1⟩ := trodAll_cons r0
  obtain ⟨rfl, rfl, rfl⟩ := trodAll_nil r1
  obtain rfl : args = #[v0, v1] := by cases args; simp_all
  obtain ⟨rfl, rfl⟩ := trodVars_none hV
  have k0 := h0
  have lt0 : ∀ x ∈ p0, x.block < W.heap.size := by obtain ⟨m, hm⟩ := k0; exact DataW.trod_lt m _ _ _ hm
  obtain ⟨a0, len0, cap0, rfl⟩ := okWide_slice Try.underlying42 (hval 0 42 v0 rfl rfl)
  obtain ⟨fuel0, hf0⟩ := h0
  obtain ⟨x0, hk0, ok0⟩ := (Rdb.slice z108 Try.underlying42 (by kernel_rfl) rdT108) enc W fuel0 _ _ hf0
  obtain ⟨A0_, c0_, hv0, hl0, hr0⟩ := hk0
  replace hv0 : [Value.slice a0 len0 cap0] = [Value.slice A0_ x0.length c0_] := hv0
  simp only [List.cons.injEq, Value.slice.injEq, and_true] at hv0
  obtain ⟨rfl, rfl, rfl⟩ := hv0
  have k1 := h1
  have lt1 : ∀ x ∈ p1, x.block < W.heap.size := by obtain ⟨m, hm⟩ := k1; exact DataW.trod_lt m _ _ _ hm
  obtain ⟨a1, len1, cap1, rfl⟩ := okWide_slice Try.underlying43 (hval 1 43 v1 rfl rfl)
  obtain ⟨fuel1, hf1⟩ := h1
  obtain ⟨x1, hk1, ok1⟩ := (Rdb.slice z111 Try.underlying43 (by kernel_rfl) rdT111) enc W fuel1 _ _ hf1
  obtain ⟨A1_, c1_, hv1, hl1, hr1⟩ := hk1
  replace hv1 : [Value.slice a1 len1 cap1] = [Value.slice A1_ x1.length c1_] := hv1
  simp only [List.cons.injEq, Value.slice.injEq, and_true] at hv1
  obtain ⟨rfl, rfl, rfl⟩ := hv1
  obtain ⟨k, hp⟩ := Pure.FnExactEvalExpr x0 x1 ok0 ok1
  refine (laws_FnExactEvalExpr.calls k _ _ x0 _ _ x1 true W hr0 hl0 hr1 hl1 hp).mono fun e W' ⟨he, bel0⟩ => ?_
  have bel : Below W.heap.size W W' := bel0
  subst he
  exact ⟨_, rfl, _, _, _, [], _, [], hW', trodAll_mk1 (shut_bool Try.underlying4 _), (trodAll_cons_mk (Below.trod laidOut (by kernel_rfl) (of_decide_eq_true (by kernel_rfl)) k0 bel lt0) (trodAll_cons_mk (Below.trod laidOut (by kernel_rfl) (of_decide_eq_true (by kernel_rfl)) k1 bel lt1) trodAll_mk0)), rfl, bel.frame _, fun h => by cases h⟩
theorem over : Rows.fnExactEvalExprRow.holds Try.pinned (OpenSpec.ofChange Rows.fnExactEvalExprSpec) :=
  OpenClaim.holds_of_wide 5 Try.f5 rfl rfl rfl rfl rfl rfl rfl ⟨rfl, rfl, rfl, rfl, rfl⟩ rfl rfl rfl rfl rfl (by kernel_rfl) Try.func5 (by kernel_rfl)
    (of_decide_eq_true (by kernel_rfl)) (by unfold Func.isWrapper; first | (rw [if_pos (by decide +kernel)]; kernel_rfl) | (rw [if_neg (by decide +kernel)]; exact ⟨rfl, rfl⟩))
    (fun os started H enc _ => lifted os started H enc)
theorem proved : Rows.FnExactEvalExprSaid := over
#print axioms proved
end Go.Proofs.Ytffmpmgnkhlmdaa.fnExactEvalExpr
namespace Go.Proofs.Ytffmpmgnkhlmdaa
/-- The row, under a short name, for the claim. -/
theorem fnExactEvalExpr_holds : Rows.FnExactEvalExprSaid := fnExactEvalExpr.proved
end Go.Proofs.Ytffmpmgnkhlmdaa
