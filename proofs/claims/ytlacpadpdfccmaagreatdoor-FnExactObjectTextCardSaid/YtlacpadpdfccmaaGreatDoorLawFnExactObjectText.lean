/-
The law FnExactObjectText of the given program returns true for every input and leaves its arguments as they were; condition: the package-level variables of its row hold what the program lays in them.
-/
import Derived.Test.YtlacpadpdfccmaaGreatDoorRows
import Derived.Test.YtlacpadpdfccmaaGreatDoorPFnExactObjectTextx4
import Derived.Test.YtlacpadpdfccmaaGreatDoorKinFnExactObjectText
import Derived.Test.YtlacpadpdfccmaaGreatDoorPureFnExactObjectText
import Derived.WalkKit
import Derived.ProofKit
import Derived.OpenShut
import Derived.ShutString
import Derived.ChangeOld
import Derived.Below
import Derived.SizedLaws
import Derived.Test.YtlacpadpdfccmaaGreatDoorGlobFnExactObjectText
import Derived.Test.YtlacpadpdfccmaaGreatDoorTie
import Derived.Test.YtlacpadpdfccmaaGreatDoorCards
import Derived.SevenTiedAt
import Derived.Lib.LaidCaseMet
import Derived.PinnedBridge
import Derived.Test.YtlacpadpdfccmaaGreatDoorShelf
import Derived.LaidLaws
import Derived.Test.YtlacpadpdfccmaaGreatDoorWSized
namespace Go.Proofs.YtlacpadpdfccmaaGreatDoor.fnExactObjectText
open Go.ChangeShapes Go.WideShapes Go.ChangeAt Go.RowKit Go.Proofs.YtlacpadpdfccmaaGreatDoor.Aid Go.Proofs.YtlacpadpdfccmaaGreatDoor.Kin Go.Proofs.YtlacpadpdfccmaaGreatDoor.PFnExactObjectText Go.Proofs.YtlacpadpdfccmaaGreatDoorW.PrintWords
open Go.ChangeMaps (open_string shut_string)
set_option linter.unusedVariables false
theorem own : ownKnob Tryz.prog.godebug = none := by kernel_rfl
theorem laidOut : laidOutB Tryz.prog = true := by kernel_rfl
noncomputable def laidWorld (os : Os) : World :=
  let N := (World.settled Tryz.prog os).heap.size
  let w0 := layAll Tryz.prog (World.holding Tryz.prog os ⟨#[.cells Lib.caseCells5 225], #[], []⟩) [("math/bits.deBruijn32tab", Rows.laid_math_bits_deBruijn32tab), ("math/bits.deBruijn64tab", Rows.laid_math_bits_deBruijn64tab), ("internal/strconv.uint64pow10", Rows.laid_internal_strconv_uint64pow10), ("unicode/utf8.acceptRanges", Rows.laid_unicode_utf8_acceptRanges), ("unicode/utf8.first", Rows.laid_unicode_utf8_first)]
  { w0 with heap := w0.heap.modify 6 fun
      | .cells _ t frozen => .cells #[.slice (some ⟨N, 0, none⟩) 336 336] t frozen
      | o => o }
set_option maxRecDepth 100000 in
theorem laidWorld_os (os : Os) : (laidWorld os).os = os := by
  unfold laidWorld
  dsimp only
  rw [layAll_os]
  rfl
theorem laidWorld_met (os : Os) (args : Array Value) : laidMetH Tryz.prog Rows.fnExactObjectTextRow.laid ((laidWorld os).forCall (fun _ _ => 0) ⟨#[], args, []⟩).memory := by
  have h := Go.Proofs.laidMet_with_case (P := Tryz.prog) (ρ := Tryz.lays203_ren) { Tryz.lays203 with } (by kernel_rfl) ⟨by kernel_rfl, by kernel_rfl, by kernel_rfl, by kernel_rfl, by kernel_rfl, by kernel_rfl⟩
    (w := ((laidWorld os).forCall (fun _ _ => 0) ⟨#[], args, []⟩).memory) (l := [("math/bits.deBruijn32tab", Rows.laid_math_bits_deBruijn32tab), ("math/bits.deBruijn64tab", Rows.laid_math_bits_deBruijn64tab), ("internal/strconv.uint64pow10", Rows.laid_internal_strconv_uint64pow10), ("unicode/utf8.acceptRanges", Rows.laid_unicode_utf8_acceptRanges)] ++ [("unicode/utf8.first", Rows.laid_unicode_utf8_first)]) 10 (by kernel_rfl) (by kernel_rfl) (by kernel_rfl) ((World.settled Tryz.prog default).heap.size) 225 (of_decide_eq_true (by kernel_rfl)) (by kernel_rfl) (by kernel_rfl) (by kernel_rfl)
  rw [← Go.Pinned.caseRanges_eq] at h
  refine laidMetH_of_parts ?_ (by kernel_rfl)
  have e : (Rows.fnExactObjectTextRow.laid.filter fun x => x.2.handleName?.isNone) = [("math/bits.deBruijn32tab", Rows.laid_math_bits_deBruijn32tab), ("math/bits.deBruijn64tab", Rows.laid_math_bits_deBruijn64tab), ("internal/strconv.uint64pow10", Rows.laid_internal_strconv_uint64pow10), ("unicode/utf8.acceptRanges", Rows.laid_unicode_utf8_acceptRanges)] ++ (("unicode.CaseRanges", Go.Pinned.caseRanges) :: [("unicode/utf8.first", Rows.laid_unicode_utf8_first)]) := by kernel_rfl
  rw [e]
  exact laidMet_put [("math/bits.deBruijn32tab", Rows.laid_math_bits_deBruijn32tab), ("math/bits.deBruijn64tab", Rows.laid_math_bits_deBruijn64tab), ("internal/strconv.uint64pow10", Rows.laid_internal_strconv_uint64pow10), ("unicode/utf8.acceptRanges", Rows.laid_unicode_utf8_acceptRanges)] [("unicode/utf8.first", Rows.laid_unicode_utf8_first)] ("unicode.CaseRanges", Go.Pinned.caseRanges) h
theorem gw_of {W : World} (h : laidMetH Tryz.prog Rows.fnExactObjectTextRow.laid W) (hsh : W.ShapedOpen Tryz.prog) : GW W := by
  have hl := laidMet_of_H (by kernel_rfl) h
  exact ⟨trivial, cell_of_shapedOpen_int (P := Tryz.prog) (g := 0) (t := 3) hsh (of_decide_eq_true (by kernel_rfl)) (zero := #[.int .i64 0]) (by kernel_rfl) rfl (by kernel_rfl) (by kernel_rfl) (by kernel_rfl), tab_of_laid (P := Tryz.prog) (g := 1) (t := 193) (e := 170) (n := 20) (by kernel_rfl) (by kernel_rfl) (by kernel_rfl) (by kernel_rfl) (by kernel_rfl) (by kernel_rfl) hl (by show _ ∈ [("math/bits.deBruijn32tab", Rows.laid_math_bits_deBruijn32tab), ("math/bits.deBruijn64tab", Rows.laid_math_bits_deBruijn64tab), ("internal/strconv.uint64pow10", Rows.laid_internal_strconv_uint64pow10), ("unicode/utf8.acceptRanges", Rows.laid_unicode_utf8_acceptRanges), ("unicode.CaseRanges", Rows.laid_unicode_CaseRanges), ("unicode/utf8.first", Rows.laid_unicode_utf8_first)]; rw [show Lib.tabData .u64 Lib.pow10Tab = (Rows.laid_internal_strconv_uint64pow10 : DataW Unit) from by kernel_rfl]; exact List.mem_cons_of_mem _ (List.mem_cons_of_mem _ (List.mem_cons_self))), tab_of_laid (P := Tryz.prog) (g := 8) (t := 218) (e := 5) (n := 64) (by kernel_rfl) (by kernel_rfl) (by kernel_rfl) (by kernel_rfl) (by kernel_rfl) (by kernel_rfl) hl (by show _ ∈ [("math/bits.deBruijn32tab", Rows.laid_math_bits_deBruijn32tab), ("math/bits.deBruijn64tab", Rows.laid_math_bits_deBruijn64tab), ("internal/strconv.uint64pow10", Rows.laid_internal_strconv_uint64pow10), ("unicode/utf8.acceptRanges", Rows.laid_unicode_utf8_acceptRanges), ("unicode.CaseRanges", Rows.laid_unicode_CaseRanges), ("unicode/utf8.first", Rows.laid_unicode_utf8_first)]; rw [show Lib.tabData .u8 [0, 1, 56, 2, 57, 49, 28, 3, 61, 58, 42, 50, 38, 29, 17, 4, 62, 47, 59, 36, 45, 43, 51, 22, 53, 39, 33, 30, 24, 18, 12, 5, 63, 55, 48, 27, 60, 41, 37, 16, 46, 35, 44, 21, 52, 32, 23, 11, 54, 26, 40, 15, 34, 20, 31, 10, 25, 14, 19, 9, 13, 8, 7, 6] = (Rows.laid_math_bits_deBruijn64tab : DataW Unit) from by kernel_rfl]; exact List.mem_cons_of_mem _ (List.mem_cons_self))⟩
set_option maxRecDepth 100000 in
theorem lifted (os : Os) (started : os.Started) (H : Type) (enc : TypeId × Value → H) :
    ReturnsInHanded {} Tryz.checked os 3 .any (fun w args => (Rows.fnExactObjectTextSpec.pre enc Tryz.prog Tryz.f3 Rows.fnExactObjectTextRow.domain false w args ∧ laidMetH Tryz.prog Rows.fnExactObjectTextRow.laid w) ∧ sizedMet enc Tryz.prog Tryz.f3 (OpenSpec.ofChange Rows.fnExactObjectTextSpec) false w args) (Rows.fnExactObjectTextSpec.post enc Tryz.prog Tryz.f3 false true false false) := by
  refine handed_and_shaped (C := Tryz.checked) (X := fun w _ => laidMetH Tryz.prog Rows.fnExactObjectTextRow.laid w) (fun _ _ _ hh h => h.of_heap hh) own started (by kernel_rfl) Tryz.func3
    (witness_ref (enc := enc) (C := Tryz.checked) (os := os) (X := fun w _ => laidMetH Tryz.prog Rows.fnExactObjectTextRow.laid w) false (laidWorld os) #[.agg #[.slice none 0 0, .slice none 0 0, .slice none 0 0]] 8 (laidWorld_os os) (by kernel_rfl) (by kernel_rfl) (by kernel_rfl) (by kernel_rfl) (by kernel_rfl) (laidWorld_met os _)) ?_
  intro W base args ds gs before hval0 hW hL hsh
  have hgw := gw_of hL hsh
  have hval : ∀ (j : Nat) t v, Tryz.f3.params[j]? = some t → args[j]? = some v → Value.okWide Tryz.prog W .any base t v := hval0
  have hW' := hW
  obtain ⟨p, q, hA0, hV, rfl, hfz, hnd⟩ := hW
  have hA : DataW.TrodAll enc Tryz.prog W 0 (fun _ => true) true Tryz.f3.params.toList args.toList ds p := hA0
  rw [Tryz.params3] at hA hval
  obtain ⟨v0, vs0, d0, ds0, p0, q0, hargs, rfl, rfl, h0, r0⟩ := trodAll_cons hA
  obtain ⟨rfl, rfl, rfl⟩ := trodAll_nil r0
  obtain rfl : args = #[v0] := by cases args; simp_all
  obtain ⟨rfl, rfl⟩ := trodVars_none hV
  have k0 := h0
  have lt0 : ∀ x ∈ p0, x.block < W.heap.size := by obtain ⟨m, hm⟩ := k0; exact DataW.trod_lt m _ _ _ hm
  obtain ⟨cs0, rfl, hsz0⟩ := okWide_struct Tryz.underlying26 (hval 0 26 v0 rfl rfl)
  obtain ⟨fuel0, hf0⟩ := h0
  obtain ⟨x0, hk0_, ok0⟩ := (Rdb.struct Tryz.underlying26 (by kernel_rfl) (by kernel_rfl) (RdF.cons (Rdb.slice z62 Tryz.underlying22 (by kernel_rfl) rdT62) (RdF.cons (Rdb.slice z65 Tryz.underlying23 (by kernel_rfl) rdT65) (RdF.one (Rdb.slice [] Tryz.underlying24 (by kernel_rfl) (Rdb.slice z119 Tryz.underlying67 (by kernel_rfl) rdT119)))))) enc W fuel0 _ _ hf0
  have hk0 : (Kd.pair (Kd.slice 62 k62) (Kd.pair (Kd.slice 65 k65) (Kd.slice 67 (Kd.slice 119 k119)))).K W x0 cs0.toList := hk0_
  generalize hc0 : cs0.toList = cl0 at hk0
  obtain ⟨_, _, rfl, g1_0, f1_0⟩ := hk0
  obtain ⟨A2_0, c2_0, rfl, l2_0, e2_0⟩ := g1_0
  obtain ⟨_, _, rfl, g3_0, f3_0⟩ := f1_0
  obtain ⟨A4_0, c4_0, rfl, l4_0, e4_0⟩ := g3_0
  obtain ⟨A5_0, c5_0, rfl, l5_0, e5_0⟩ := f3_0
  obtain rfl : cs0 = #[.slice A2_0 x0.1.length c2_0, .slice A4_0 x0.2.1.length c4_0, .slice A5_0 x0.2.2.length c5_0] := Array.toList_inj.1 (by rw [hc0]; rfl)
  obtain ⟨k, hp⟩ := Pure.FnExactObjectText x0.1 x0.2.1 x0.2.2 ok0.1 ok0.2.1 ok0.2.2
  refine (laws_FnExactObjectText.calls k _ _ x0.1 _ _ x0.2.1 _ _ x0.2.2 true W e2_0 l2_0 e4_0 l4_0 e5_0 l5_0 hgw hp).mono fun e W' ⟨he, bel0⟩ => ?_
  have bel : Below W.heap.size W W' := bel0
  subst he
  exact ⟨_, rfl, _, _, _, [], _, [], hW', trodAll_mk1 (shut_bool Tryz.underlying4 _), (trodAll_cons_mk (Below.trod laidOut (by kernel_rfl) (of_decide_eq_true (by kernel_rfl)) k0 bel lt0) trodAll_mk0), rfl, bel.frame _, fun h => by cases h⟩
theorem over : Rows.fnExactObjectTextRow.holds Tryz.pinned (OpenSpec.ofChange Rows.fnExactObjectTextSpec) :=
  OpenClaim.holds_of_wide 3 Tryz.f3 rfl rfl rfl rfl rfl rfl rfl ⟨rfl, rfl, rfl, rfl, rfl⟩ rfl rfl rfl rfl rfl (by kernel_rfl) Tryz.func3 (by kernel_rfl)
    (of_decide_eq_true (by kernel_rfl)) (by unfold Func.isWrapper; first | (rw [if_pos (by decide +kernel)]; kernel_rfl) | (rw [if_neg (by decide +kernel)]; exact ⟨rfl, rfl⟩))
    (fun os started H enc _ => lifted os started H enc)
theorem proved : Rows.FnExactObjectTextCardSaid :=
  Claim7.holds_tied_plain_at .later [] [.data, .data, .data, .data, .pinned, .pinned] true (true, "cd6ff4890c7ba74a5843c9584913a68efdf8389e5f8857f4249a0413ffa450b5") true
    over (fun _ h => by cases h) (by kernel_rfl) (fun _ h => by cases h) fnExactObjectText_row_tie rfl ⟨rfl, rfl⟩ (by kernel_rfl) rfl
    (fun f fn hf hfn => by
      obtain rfl : f = 3 := Option.some.inj ((show Tryz.prog.funcNamed "loop.example/g00460/laws.FnExactObjectText" = some 3 by kernel_rfl).symm.trans hf) |>.symm
      obtain rfl : fn = Tryz.f3 := (Option.some.inj (Tryz.func3.symm.trans hfn)).symm
      refine ⟨by kernel_rfl, fun j t ht => ?_⟩
      rw [Tryz.params3] at ht
      have hm : t ∈ [26] := by
        have := List.mem_of_getElem? (by simpa using ht)
        simpa using this
      simp only [List.mem_cons, List.not_mem_nil, or_false] at hm
      rcases hm with rfl
      · exact (show Tryz.prog.wantsStandIn 26 = false by kernel_rfl))
    (by kernel_rfl)
#print axioms proved
end Go.Proofs.YtlacpadpdfccmaaGreatDoor.fnExactObjectText
namespace Go.Proofs.YtlacpadpdfccmaaGreatDoor
/-- The card, under a short name, for the claim. -/
theorem fnExactObjectText_holds : Rows.FnExactObjectTextCardSaid := fnExactObjectText.proved
end Go.Proofs.YtlacpadpdfccmaaGreatDoor
