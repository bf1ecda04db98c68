/-
The law FnExactReadLine of the given program returns true for every input and leaves its arguments as they were; condition: the package-level variables of its row hold what the program lays in them.
-/
import Derived.Test.YtffmpmgnkhlmdaaDoorRows
import Derived.Test.YtffmpmgnkhlmdaaDoorPFnExactReadLinex0
import Derived.Test.YtffmpmgnkhlmdaaDoorKinFnExactReadLine
import Derived.Test.YtffmpmgnkhlmdaaDoorPureFnExactReadLine
import Derived.WalkKit
import Derived.ProofKit
import Derived.OpenShut
import Derived.ShutString
import Derived.ChangeOld
import Derived.Below
import Derived.SizedLaws
import Derived.Test.YtffmpmgnkhlmdaaDoorGlobFnExactLineOk
import Derived.Test.YtffmpmgnkhlmdaaDoorTie
import Derived.Test.YtffmpmgnkhlmdaaDoorCards
import Derived.SevenTiedAt
import Derived.LaidLaws
import Derived.Test.YtffmpmgnkhlmdaaDoorWSized
namespace Go.Proofs.YtffmpmgnkhlmdaaDoor.fnExactReadLine
open Go.ChangeShapes Go.WideShapes Go.ChangeAt Go.RowKit Go.Proofs.YtffmpmgnkhlmdaaDoor.Aid Go.Proofs.YtffmpmgnkhlmdaaDoor.Kin Go.Proofs.YtffmpmgnkhlmdaaDoor.PFnExactReadLine Go.Proofs.YtffmpmgnkhlmdaaDoorW.PrintWords Go.Proofs.YtffmpmgnkhlmdaaDoor.PFnExactLineOk
open Go.ChangeMaps (open_string shut_string)
set_option linter.unusedVariables false
theorem own : ownKnob Tryd.prog.godebug = none := by kernel_rfl
theorem laidOut : laidOutB Tryd.prog = true := by kernel_rfl
noncomputable def laidWorld (os : Os) : World := layAll Tryd.prog (World.holding Tryd.prog os ⟨#[], #[], []⟩) Rows.fnExactReadLineRow.laid
theorem laidWorld_os (os : Os) : (laidWorld os).os = os := layAll_os _ _ _
theorem laidWorld_met (os : Os) (args : Array Value) : laidMetH Tryd.prog Rows.fnExactReadLineRow.laid ((laidWorld os).forCall (fun _ _ => 0) ⟨#[], args, []⟩).memory :=
  laidMetH_of_parts (laidMet_of_run' 8 (by kernel_rfl) (by kernel_rfl)) (by kernel_rfl)
theorem gw_of {W : World} (h : laidMetH Tryd.prog Rows.fnExactReadLineRow.laid W) (hsh : W.ShapedOpen Tryd.prog) : GW W := by
  have hl := laidMet_of_H (by kernel_rfl) h
  exact ⟨trivial, cell_of_shapedOpen_int (P := Tryd.prog) (g := 0) (t := 3) hsh (of_decide_eq_true (by kernel_rfl)) (zero := #[.int .i64 0]) (by kernel_rfl) rfl (by kernel_rfl) (by kernel_rfl) (by kernel_rfl)⟩
set_option maxRecDepth 100000 in
theorem lifted (os : Os) (started : os.Started) (H : Type) (enc : TypeId × Value → H) :
    ReturnsInHanded {} Tryd.checked os 7 .any (fun w args => (Rows.fnExactReadLineSpec.pre enc Tryd.prog Tryd.f7 Rows.fnExactReadLineRow.domain false w args ∧ laidMetH Tryd.prog Rows.fnExactReadLineRow.laid w) ∧ sizedMet enc Tryd.prog Tryd.f7 (OpenSpec.ofChange Rows.fnExactReadLineSpec) false w args) (Rows.fnExactReadLineSpec.post enc Tryd.prog Tryd.f7 false true false false) := by
  refine handed_and_shaped (C := Tryd.checked) (X := fun w _ => laidMetH Tryd.prog Rows.fnExactReadLineRow.laid w) (fun _ _ _ hh h => h.of_heap hh) own started (by kernel_rfl) Tryd.func7
    (witness_ref (enc := enc) (C := Tryd.checked) (os := os) (X := fun w _ => laidMetH Tryd.prog Rows.fnExactReadLineRow.laid w) false (laidWorld os) #[.string ByteArray.empty] 8 (laidWorld_os os) (by kernel_rfl) (by kernel_rfl) (by kernel_rfl) (by kernel_rfl) (by kernel_rfl) (laidWorld_met os _)) ?_
  intro W base args ds gs before hval0 hW hL hsh
  have hgw := gw_of hL hsh
  have hval : ∀ (j : Nat) t v, Tryd.f7.params[j]? = some t → args[j]? = some v → Value.okWide Tryd.prog W .any base t v := hval0
  have hW' := hW
  obtain ⟨p, q, hA0, hV, rfl, hfz, hnd⟩ := hW
  have hA : DataW.TrodAll enc Tryd.prog W 0 (fun _ => true) true Tryd.f7.params.toList args.toList ds p := hA0
  rw [Tryd.params7] at hA hval
  obtain ⟨v0, vs0, d0, ds0, p0, q0, hargs, rfl, rfl, h0, r0⟩ := trodAll_cons hA
  obtain ⟨rfl, rfl, rfl⟩ := trodAll_nil r0
  obtain rfl : args = #[v0] := by cases args; simp_all
  obtain ⟨rfl, rfl⟩ := trodVars_none hV
  obtain ⟨a0, rfl, rfl, rfl, y0⟩ := open_string Tryd.underlying9 (hval 0 9 v0 rfl rfl) h0
  obtain ⟨k, hp⟩ := Pure.FnExactReadLine a0 y0
  refine (laws_FnExactReadLine.calls k a0 true W hgw hp).mono fun e W' ⟨he, bel0⟩ => ?_
  have bel : Below W.heap.size W W' := bel0
  subst he
  exact ⟨_, rfl, _, _, _, [], _, [], hW', trodAll_mk1 (shut_bool Tryd.underlying4 _), (trodAll_cons_mk (shut_string Tryd.underlying9 y0) trodAll_mk0), rfl, bel.frame _, fun h => by cases h⟩
theorem over : Rows.fnExactReadLineRow.holds Tryd.pinned (OpenSpec.ofChange Rows.fnExactReadLineSpec) :=
  OpenClaim.holds_of_wide 7 Tryd.f7 rfl rfl rfl rfl rfl rfl rfl ⟨rfl, rfl, rfl, rfl, rfl⟩ rfl rfl rfl rfl rfl (by kernel_rfl) Tryd.func7 (by kernel_rfl)
    (of_decide_eq_true (by kernel_rfl)) (by unfold Func.isWrapper; first | (rw [if_pos (by decide +kernel)]; kernel_rfl) | (rw [if_neg (by decide +kernel)]; exact ⟨rfl, rfl⟩))
    (fun os started H enc _ => lifted os started H enc)
theorem proved : Rows.FnExactReadLineCardSaid :=
  Claim7.holds_tied_plain_at .later [] [.data, .pinned] true (true, "273c8fd8b7e7eb4241f7ebb29ccb69d432ceca0111bff8bd3634956123c45f78") false
    over (fun _ h => by cases h) (by kernel_rfl) (fun _ h => by cases h) fnExactReadLine_row_tie rfl ⟨rfl, rfl⟩ (by kernel_rfl) rfl
    (fun f fn hf hfn => by
      obtain rfl : f = 7 := Option.some.inj ((show Tryd.prog.funcNamed "loop.example/g00460/laws.FnExactReadLine" = some 7 by kernel_rfl).symm.trans hf) |>.symm
      obtain rfl : fn = Tryd.f7 := (Option.some.inj (Tryd.func7.symm.trans hfn)).symm
      refine ⟨by kernel_rfl, fun j t ht => ?_⟩
      rw [Tryd.params7] at ht
      have hm : t ∈ [9] := by
        have := List.mem_of_getElem? (by simpa using ht)
        simpa using this
      simp only [List.mem_cons, List.not_mem_nil, or_false] at hm
      rcases hm with rfl
      · exact (show Tryd.prog.wantsStandIn 9 = false by kernel_rfl))
    (by kernel_rfl)
#print axioms proved
end Go.Proofs.YtffmpmgnkhlmdaaDoor.fnExactReadLine
namespace Go.Proofs.YtffmpmgnkhlmdaaDoor
/-- The card, under a short name, for the claim. -/
theorem fnExactReadLine_holds : Rows.FnExactReadLineCardSaid := fnExactReadLine.proved
end Go.Proofs.YtffmpmgnkhlmdaaDoor
