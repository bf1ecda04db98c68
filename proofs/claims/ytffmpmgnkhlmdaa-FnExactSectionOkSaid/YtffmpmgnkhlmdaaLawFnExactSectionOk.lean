/-
The law FnExactSectionOk of the given program returns true for every input and leaves its arguments as they were; no condition.
-/
import Derived.Test.YtffmpmgnkhlmdaaRows
import Derived.Test.YtffmpmgnkhlmdaaPFnExactSectionOkx8
import Derived.Test.YtffmpmgnkhlmdaaKinFnExactSectionOk
import Derived.Test.YtffmpmgnkhlmdaaPureFnExactSectionOk
import Derived.WalkKit
import Derived.ProofKit
import Derived.OpenShut
import Derived.ShutString
import Derived.ChangeOld
import Derived.Below
import Derived.SizedLaws
import Derived.Test.YtffmpmgnkhlmdaaWSized
namespace Go.Proofs.Ytffmpmgnkhlmdaa.fnExactSectionOk
open Go.ChangeShapes Go.WideShapes Go.ChangeAt Go.RowKit Go.Proofs.Ytffmpmgnkhlmdaa.Aid Go.Proofs.Ytffmpmgnkhlmdaa.Kin Go.Proofs.Ytffmpmgnkhlmdaa.PFnExactSectionOk Go.Proofs.YtffmpmgnkhlmdaaW.PrintWords
open Go.ChangeMaps (open_string shut_string)
set_option linter.unusedVariables false
theorem own : ownKnob Try.prog.godebug = none := by kernel_rfl
theorem laidOut : laidOutB Try.prog = true := by kernel_rfl
set_option maxRecDepth 100000 in
theorem lifted (os : Os) (started : os.Started) (H : Type) (enc : TypeId × Value → H) :
    ReturnsInHanded {} Try.checked os 7 .any (Rows.fnExactSectionOkSpec.pre6 enc Try.prog Try.f7 Rows.fnExactSectionOkRow.domain false) (Rows.fnExactSectionOkSpec.post enc Try.prog Try.f7 false true false false) := by
  refine returnsInHanded_of_change_sized (C := Try.checked) own started (by kernel_rfl) Try.func7
    (ChangeSpec.witness6 (enc := enc) (C := Try.checked) false ⟨#[], #[.agg #[.string ByteArray.empty, .int .i64 0, .int .i64 0, .int .i64 0, .string ByteArray.empty, .slice none 0 0]], []⟩ 8 (by kernel_rfl) (by kernel_rfl) (by kernel_rfl) (by kernel_rfl)) ?_
  intro W base args ds gs before hval0 hW hcnd hsz0 _
  have hval : ∀ (j : Nat) t v, Try.f7.params[j]? = some t → args[j]? = some v → Value.okWide Try.prog W .any base t v := hval0
  have hW' := hW
  obtain ⟨p, q, hA0, hV, rfl, hfz, hnd⟩ := hW
  have hA : DataW.TrodAll enc Try.prog W 0 (fun _ => true) true Try.f7.params.toList args.toList ds p := hA0
  rw [Try.params7] at hA hval
  obtain ⟨v0, vs0, d0, ds0, p0, q0, hargs, rfl, rfl, h0, r0⟩ := trodAll_cons hA
  obtain ⟨rfl, rfl, rfl⟩ := trodAll_nil r0
  obtain rfl : args = #[v0] := by cases args; simp_all
  obtain ⟨rfl, rfl⟩ := trodVars_none hV
  have k0 := h0
  have lt0 : ∀ x ∈ p0, x.block < W.heap.size := by obtain ⟨m, hm⟩ := k0; exact DataW.trod_lt m _ _ _ hm
  obtain ⟨cs0, rfl, hsz0⟩ := okWide_struct Try.underlying63 (hval 0 63 v0 rfl rfl)
  obtain ⟨fuel0, hf0⟩ := h0
  obtain ⟨x0, hk0_, ok0⟩ := (Rdb.struct Try.underlying63 (by kernel_rfl) (by kernel_rfl) (RdF.cons (Rdb.string Try.underlying9) (RdF.cons (Rdb.int Try.underlying2) (RdF.cons (Rdb.int Try.underlying2) (RdF.cons (Rdb.int Try.underlying2) (RdF.cons (Rdb.string Try.underlying9) (RdF.one (Rdb.slice z179 Try.underlying61 (by kernel_rfl) rdT179)))))))) enc W fuel0 _ _ hf0
  have hk0 : (Kd.pair Kd.string (Kd.pair (Kd.int .i64) (Kd.pair (Kd.int .i64) (Kd.pair (Kd.int .i64) (Kd.pair Kd.string (Kd.slice 179 k179)))))).K W x0 cs0.toList := hk0_
  generalize hc0 : cs0.toList = cl0 at hk0
  obtain ⟨_, _, rfl, g1_0, f1_0⟩ := hk0
  obtain rfl := g1_0
  obtain ⟨_, _, rfl, g2_0, f2_0⟩ := f1_0
  obtain rfl := g2_0
  obtain ⟨_, _, rfl, g3_0, f3_0⟩ := f2_0
  obtain rfl := g3_0
  obtain ⟨_, _, rfl, g4_0, f4_0⟩ := f3_0
  obtain rfl := g4_0
  obtain ⟨_, _, rfl, g5_0, f5_0⟩ := f4_0
  obtain rfl := g5_0
  obtain ⟨A6_0, c6_0, rfl, l6_0, e6_0⟩ := f5_0
  obtain rfl : cs0 = #[.string x0.1, .int .i64 x0.2.1, .int .i64 x0.2.2.1, .int .i64 x0.2.2.2.1, .string x0.2.2.2.2.1, .slice A6_0 x0.2.2.2.2.2.length c6_0] := Array.toList_inj.1 (by rw [hc0]; rfl)
  obtain ⟨k, hp⟩ := Pure.FnExactSectionOk x0.1 x0.2.1 x0.2.2.1 x0.2.2.2.1 x0.2.2.2.2.1 x0.2.2.2.2.2 ok0.1 ok0.2.1 ok0.2.2.1 ok0.2.2.2.1 ok0.2.2.2.2.1 ok0.2.2.2.2.2
  refine (laws_FnExactSectionOk.calls k x0.1 x0.2.1 x0.2.2.1 x0.2.2.2.1 x0.2.2.2.2.1 _ _ x0.2.2.2.2.2 true W e6_0 l6_0 hp).mono fun e W' ⟨he, bel0⟩ => ?_
  have bel : Below W.heap.size W W' := bel0
  subst he
  exact ⟨_, rfl, _, _, _, [], _, [], hW', trodAll_mk1 (shut_bool Try.underlying4 _), (trodAll_cons_mk (Below.trod laidOut (by kernel_rfl) (of_decide_eq_true (by kernel_rfl)) k0 bel lt0) trodAll_mk0), rfl, bel.frame _, fun h => by cases h⟩
theorem over : Rows.fnExactSectionOkRow.holds Try.pinned (OpenSpec.ofChange Rows.fnExactSectionOkSpec) :=
  OpenClaim.holds_of_wide 7 Try.f7 rfl rfl rfl rfl rfl rfl rfl ⟨rfl, rfl, rfl, rfl, rfl⟩ rfl rfl rfl rfl rfl (by kernel_rfl) Try.func7 (by kernel_rfl)
    (of_decide_eq_true (by kernel_rfl)) (by unfold Func.isWrapper; first | (rw [if_pos (by decide +kernel)]; kernel_rfl) | (rw [if_neg (by decide +kernel)]; exact ⟨rfl, rfl⟩))
    (fun os started H enc _ => lifted os started H enc)
theorem proved : Rows.FnExactSectionOkSaid := over
#print axioms proved
end Go.Proofs.Ytffmpmgnkhlmdaa.fnExactSectionOk
namespace Go.Proofs.Ytffmpmgnkhlmdaa
/-- The row, under a short name, for the claim. -/
theorem fnExactSectionOk_holds : Rows.FnExactSectionOkSaid := fnExactSectionOk.proved
end Go.Proofs.Ytffmpmgnkhlmdaa
