/- What the Go functions that the law FnExactMachineNew reaches compute, function by function, and that Go comes to just that. -/
import Derived.Test.YtmgbdbamfljjnaaPFnExactMachineNewx0
import Derived.Test.YtmgbdbamfljjnaaPFnExactMachineNewx1
import Derived.Test.YtmgbdbamfljjnaaPFnExactMachineNewx3
import Derived.Test.YtmgbdbamfljjnaaPFnExactMachineNewx4
namespace Go.Proofs.Ytmgbdbamfljjnaa.PFnExactMachineNew
open Go.RowKit Go.Proofs.YtmgbdbamfljjnaaW.PrintWords Go.Proofs.YtmgbdbamfljjnaaW.PrintLast Go.Proofs.YtmgbdbamfljjnaaW.PrintMore
attribute [local go_sem] max2_int min2_int max_two min_two max_three min_three max_four min_four   -- for this text's walks alone
set_option linter.unusedVariables false
set_option linter.unusedSimpArgs false

/-! ### laws_FnExactMachineNew: function 6 -/
mutual
def laws_FnExactMachineNew.j0 : Nat → ByteArray → Int → Bool → Bool → Int → Int → Int → Int → Int → Int → Int → Int → Int → Int → Bool → Bool → ByteArray → Int → Int → ByteArray → Int → Bool → Int → ByteArray → ByteArray → List Int → Int → Int → Int → Int → Int → Int → Int → Int → Int → Int → Int → Bool → Bool → ByteArray → Int → Int → ByteArray → Int → Bool → Int → ByteArray → ByteArray → List Int → Int → Option (Bool)
  | 0, _, _, _, _, _, _, _, _, _, _, _, _, _, _, _, _, _, _, _, _, _, _, _, _, _, _, _, _, _, _, _, _, _, _, _, _, _, _, _, _, _, _, _, _, _, _, _, _, _, _ => none
  | k + 1, x0, x1, x6, x36, x201000, x201001, x201002, x201003, x201004, x201005, x201006, x201007, x201008, x201009, x201010, x201011, x201012, x201013, x201014, x201015, x201016, x201017, x201018, x201019, x201020, x201021, x201022, x228000, x228001, x228002, x228003, x228004, x228005, x228006, x228007, x228008, x228009, x228010, x228011, x228012, x228013, x228014, x228015, x228016, x228017, x228018, x228019, x228020, x228021, x228022 => if x36 = true then (some false) else ((laws_markMachine.f k x228000 x228001 x228002 x228003 x228004 x228005 x228006 x228007 x228008 x228009 x228010 x228011 x228012 x228013 x228014 x228015 x228016 x228017 x228018 x228019 x228020 x228021 x228022 1).bind fun bt229 => ((laws_heldMachine.f k x228000 x228001 x228002 x228003 x228004 x228005 x228006 x228007 x228008 x228009 x228010 x228011 x228012 x228013 x228014 x228015 x228016 x228017 x228018 x228019 x228020 bt229.2 x228022 1).bind fun t231 => (if t231 < 0 then (some false) else (if t231 = bt229.1 then ((impl_MachineNew.f k x0 x1).bind fun bt232 => ((laws_eqMachine.f k bt232.1 bt232.2.1 bt232.2.2.1 bt232.2.2.2.1 bt232.2.2.2.2.1 bt232.2.2.2.2.2.1 bt232.2.2.2.2.2.2.1 bt232.2.2.2.2.2.2.2.1 bt232.2.2.2.2.2.2.2.2.1 bt232.2.2.2.2.2.2.2.2.2.1 bt232.2.2.2.2.2.2.2.2.2.2.1 bt232.2.2.2.2.2.2.2.2.2.2.2.1 bt232.2.2.2.2.2.2.2.2.2.2.2.2.1 bt232.2.2.2.2.2.2.2.2.2.2.2.2.2.1 bt232.2.2.2.2.2.2.2.2.2.2.2.2.2.2.1 bt232.2.2.2.2.2.2.2.2.2.2.2.2.2.2.2.1 bt232.2.2.2.2.2.2.2.2.2.2.2.2.2.2.2.2.1 bt232.2.2.2.2.2.2.2.2.2.2.2.2.2.2.2.2.2.1 bt232.2.2.2.2.2.2.2.2.2.2.2.2.2.2.2.2.2.2.1 bt232.2.2.2.2.2.2.2.2.2.2.2.2.2.2.2.2.2.2.2.1 bt232.2.2.2.2.2.2.2.2.2.2.2.2.2.2.2.2.2.2.2.2.1 bt232.2.2.2.2.2.2.2.2.2.2.2.2.2.2.2.2.2.2.2.2.2.1 bt232.2.2.2.2.2.2.2.2.2.2.2.2.2.2.2.2.2.2.2.2.2.2.1 x201000 x201001 x201002 x201003 x201004 x201005 x201006 x201007 x201008 x201009 x201010 x201011 x201012 x201013 x201014 x201015 x201016 x201017 x201018 x201019 x201020 x201021 x201022).bind fun t259 => (if t259 = true then (laws_FnExactMachineNew.j1 k bt229.1 (bt232.2.2.2.2.2.2.2.2.2.2.2.2.2.2.2.2.2.2.2.2.2.2.2 != x6) x228000 x228001 x228002 x228003 x228004 x228005 x228006 x228007 x228008 x228009 x228010 x228011 x228012 x228013 x228014 x228015 x228016 x228017 x228018 x228019 x228020 bt229.2 x228022) else (laws_FnExactMachineNew.j1 k bt229.1 true x228000 x228001 x228002 x228003 x228004 x228005 x228006 x228007 x228008 x228009 x228010 x228011 x228012 x228013 x228014 x228015 x228016 x228017 x228018 x228019 x228020 bt229.2 x228022)))) else (some false)))))
def laws_FnExactMachineNew.j1 : Nat → Int → Bool → Int → Int → Int → Int → Int → Int → Int → Int → Int → Int → Bool → Bool → ByteArray → Int → Int → ByteArray → Int → Bool → Int → ByteArray → ByteArray → List Int → Int → Option (Bool)
  | 0, _, _, _, _, _, _, _, _, _, _, _, _, _, _, _, _, _, _, _, _, _, _, _, _, _ => none
  | k + 1, x9, x62, x228000, x228001, x228002, x228003, x228004, x228005, x228006, x228007, x228008, x228009, x228010, x228011, x228012, x228013, x228014, x228015, x228016, x228017, x228018, x228019, x228020, x228021, x228022 => if x62 = true then (some false) else ((laws_heldMachine.f k x228000 x228001 x228002 x228003 x228004 x228005 x228006 x228007 x228008 x228009 x228010 x228011 x228012 x228013 x228014 x228015 x228016 x228017 x228018 x228019 x228020 x228021 x228022 1).bind fun t260 => (if t260 < 0 then (some false) else (if t260 = x9 then (some true) else (some false))))
end
def laws_FnExactMachineNew.f (k : Nat) (a0 : ByteArray) (a1 : Int) : Option (Bool) := if (a0.size : Int) > 1048576 then (some true) else ((spec_MachineNew.f k a0 a1).bind fun bt174 => ((impl_MachineNew.f k a0 a1).bind fun bt201 => ((laws_eqMachine.f k bt201.1 bt201.2.1 bt201.2.2.1 bt201.2.2.2.1 bt201.2.2.2.2.1 bt201.2.2.2.2.2.1 bt201.2.2.2.2.2.2.1 bt201.2.2.2.2.2.2.2.1 bt201.2.2.2.2.2.2.2.2.1 bt201.2.2.2.2.2.2.2.2.2.1 bt201.2.2.2.2.2.2.2.2.2.2.1 bt201.2.2.2.2.2.2.2.2.2.2.2.1 bt201.2.2.2.2.2.2.2.2.2.2.2.2.1 bt201.2.2.2.2.2.2.2.2.2.2.2.2.2.1 bt201.2.2.2.2.2.2.2.2.2.2.2.2.2.2.1 bt201.2.2.2.2.2.2.2.2.2.2.2.2.2.2.2.1 bt201.2.2.2.2.2.2.2.2.2.2.2.2.2.2.2.2.1 bt201.2.2.2.2.2.2.2.2.2.2.2.2.2.2.2.2.2.1 bt201.2.2.2.2.2.2.2.2.2.2.2.2.2.2.2.2.2.2.1 bt201.2.2.2.2.2.2.2.2.2.2.2.2.2.2.2.2.2.2.2.1 bt201.2.2.2.2.2.2.2.2.2.2.2.2.2.2.2.2.2.2.2.2.1 bt201.2.2.2.2.2.2.2.2.2.2.2.2.2.2.2.2.2.2.2.2.2.1 bt201.2.2.2.2.2.2.2.2.2.2.2.2.2.2.2.2.2.2.2.2.2.2.1 bt174.1 bt174.2.1 bt174.2.2.1 bt174.2.2.2.1 bt174.2.2.2.2.1 bt174.2.2.2.2.2.1 bt174.2.2.2.2.2.2.1 bt174.2.2.2.2.2.2.2.1 bt174.2.2.2.2.2.2.2.2.1 bt174.2.2.2.2.2.2.2.2.2.1 bt174.2.2.2.2.2.2.2.2.2.2.1 bt174.2.2.2.2.2.2.2.2.2.2.2.1 bt174.2.2.2.2.2.2.2.2.2.2.2.2.1 bt174.2.2.2.2.2.2.2.2.2.2.2.2.2.1 bt174.2.2.2.2.2.2.2.2.2.2.2.2.2.2.1 bt174.2.2.2.2.2.2.2.2.2.2.2.2.2.2.2.1 bt174.2.2.2.2.2.2.2.2.2.2.2.2.2.2.2.2.1 bt174.2.2.2.2.2.2.2.2.2.2.2.2.2.2.2.2.2.1 bt174.2.2.2.2.2.2.2.2.2.2.2.2.2.2.2.2.2.2.1 bt174.2.2.2.2.2.2.2.2.2.2.2.2.2.2.2.2.2.2.2.1 bt174.2.2.2.2.2.2.2.2.2.2.2.2.2.2.2.2.2.2.2.2.1 bt174.2.2.2.2.2.2.2.2.2.2.2.2.2.2.2.2.2.2.2.2.2.1 bt174.2.2.2.2.2.2.2.2.2.2.2.2.2.2.2.2.2.2.2.2.2.2.1).bind fun t228 => (if t228 = true then (laws_FnExactMachineNew.j0 k a0 a1 bt174.2.2.2.2.2.2.2.2.2.2.2.2.2.2.2.2.2.2.2.2.2.2.2 (bt201.2.2.2.2.2.2.2.2.2.2.2.2.2.2.2.2.2.2.2.2.2.2.2 != bt174.2.2.2.2.2.2.2.2.2.2.2.2.2.2.2.2.2.2.2.2.2.2.2) bt174.1 bt174.2.1 bt174.2.2.1 bt174.2.2.2.1 bt174.2.2.2.2.1 bt174.2.2.2.2.2.1 bt174.2.2.2.2.2.2.1 bt174.2.2.2.2.2.2.2.1 bt174.2.2.2.2.2.2.2.2.1 bt174.2.2.2.2.2.2.2.2.2.1 bt174.2.2.2.2.2.2.2.2.2.2.1 bt174.2.2.2.2.2.2.2.2.2.2.2.1 bt174.2.2.2.2.2.2.2.2.2.2.2.2.1 bt174.2.2.2.2.2.2.2.2.2.2.2.2.2.1 bt174.2.2.2.2.2.2.2.2.2.2.2.2.2.2.1 bt174.2.2.2.2.2.2.2.2.2.2.2.2.2.2.2.1 bt174.2.2.2.2.2.2.2.2.2.2.2.2.2.2.2.2.1 bt174.2.2.2.2.2.2.2.2.2.2.2.2.2.2.2.2.2.1 bt174.2.2.2.2.2.2.2.2.2.2.2.2.2.2.2.2.2.2.1 bt174.2.2.2.2.2.2.2.2.2.2.2.2.2.2.2.2.2.2.2.1 bt174.2.2.2.2.2.2.2.2.2.2.2.2.2.2.2.2.2.2.2.2.1 bt174.2.2.2.2.2.2.2.2.2.2.2.2.2.2.2.2.2.2.2.2.2.1 bt174.2.2.2.2.2.2.2.2.2.2.2.2.2.2.2.2.2.2.2.2.2.2.1 bt201.1 bt201.2.1 bt201.2.2.1 bt201.2.2.2.1 bt201.2.2.2.2.1 bt201.2.2.2.2.2.1 bt201.2.2.2.2.2.2.1 bt201.2.2.2.2.2.2.2.1 bt201.2.2.2.2.2.2.2.2.1 bt201.2.2.2.2.2.2.2.2.2.1 bt201.2.2.2.2.2.2.2.2.2.2.1 bt201.2.2.2.2.2.2.2.2.2.2.2.1 bt201.2.2.2.2.2.2.2.2.2.2.2.2.1 bt201.2.2.2.2.2.2.2.2.2.2.2.2.2.1 bt201.2.2.2.2.2.2.2.2.2.2.2.2.2.2.1 bt201.2.2.2.2.2.2.2.2.2.2.2.2.2.2.2.1 bt201.2.2.2.2.2.2.2.2.2.2.2.2.2.2.2.2.1 bt201.2.2.2.2.2.2.2.2.2.2.2.2.2.2.2.2.2.1 bt201.2.2.2.2.2.2.2.2.2.2.2.2.2.2.2.2.2.2.1 bt201.2.2.2.2.2.2.2.2.2.2.2.2.2.2.2.2.2.2.2.1 bt201.2.2.2.2.2.2.2.2.2.2.2.2.2.2.2.2.2.2.2.2.1 bt201.2.2.2.2.2.2.2.2.2.2.2.2.2.2.2.2.2.2.2.2.2.1 bt201.2.2.2.2.2.2.2.2.2.2.2.2.2.2.2.2.2.2.2.2.2.2.1) else (laws_FnExactMachineNew.j0 k a0 a1 bt174.2.2.2.2.2.2.2.2.2.2.2.2.2.2.2.2.2.2.2.2.2.2.2 true bt174.1 bt174.2.1 bt174.2.2.1 bt174.2.2.2.1 bt174.2.2.2.2.1 bt174.2.2.2.2.2.1 bt174.2.2.2.2.2.2.1 bt174.2.2.2.2.2.2.2.1 bt174.2.2.2.2.2.2.2.2.1 bt174.2.2.2.2.2.2.2.2.2.1 bt174.2.2.2.2.2.2.2.2.2.2.1 bt174.2.2.2.2.2.2.2.2.2.2.2.1 bt174.2.2.2.2.2.2.2.2.2.2.2.2.1 bt174.2.2.2.2.2.2.2.2.2.2.2.2.2.1 bt174.2.2.2.2.2.2.2.2.2.2.2.2.2.2.1 bt174.2.2.2.2.2.2.2.2.2.2.2.2.2.2.2.1 bt174.2.2.2.2.2.2.2.2.2.2.2.2.2.2.2.2.1 bt174.2.2.2.2.2.2.2.2.2.2.2.2.2.2.2.2.2.1 bt174.2.2.2.2.2.2.2.2.2.2.2.2.2.2.2.2.2.2.1 bt174.2.2.2.2.2.2.2.2.2.2.2.2.2.2.2.2.2.2.2.1 bt174.2.2.2.2.2.2.2.2.2.2.2.2.2.2.2.2.2.2.2.2.1 bt174.2.2.2.2.2.2.2.2.2.2.2.2.2.2.2.2.2.2.2.2.2.1 bt174.2.2.2.2.2.2.2.2.2.2.2.2.2.2.2.2.2.2.2.2.2.2.1 bt201.1 bt201.2.1 bt201.2.2.1 bt201.2.2.2.1 bt201.2.2.2.2.1 bt201.2.2.2.2.2.1 bt201.2.2.2.2.2.2.1 bt201.2.2.2.2.2.2.2.1 bt201.2.2.2.2.2.2.2.2.1 bt201.2.2.2.2.2.2.2.2.2.1 bt201.2.2.2.2.2.2.2.2.2.2.1 bt201.2.2.2.2.2.2.2.2.2.2.2.1 bt201.2.2.2.2.2.2.2.2.2.2.2.2.1 bt201.2.2.2.2.2.2.2.2.2.2.2.2.2.1 bt201.2.2.2.2.2.2.2.2.2.2.2.2.2.2.1 bt201.2.2.2.2.2.2.2.2.2.2.2.2.2.2.2.1 bt201.2.2.2.2.2.2.2.2.2.2.2.2.2.2.2.2.1 bt201.2.2.2.2.2.2.2.2.2.2.2.2.2.2.2.2.2.1 bt201.2.2.2.2.2.2.2.2.2.2.2.2.2.2.2.2.2.2.1 bt201.2.2.2.2.2.2.2.2.2.2.2.2.2.2.2.2.2.2.2.1 bt201.2.2.2.2.2.2.2.2.2.2.2.2.2.2.2.2.2.2.2.2.1 bt201.2.2.2.2.2.2.2.2.2.2.2.2.2.2.2.2.2.2.2.2.2.1 bt201.2.2.2.2.2.2.2.2.2.2.2.2.2.2.2.2.2.2.2.2.2.2.1)))))
theorem laws_FnExactMachineNew.mono_l : ∀ k, (∀ y0 y1 y2 y3 y4 y5 y6 y7 y8 y9 y10 y11 y12 y13 y14 y15 y16 y17 y18 y19 y20 y21 y22 y23 y24 y25 y26 y27 y28 y29 y30 y31 y32 y33 y34 y35 y36 y37 y38 y39 y40 y41 y42 y43 y44 y45 y46 y47 y48 y49, LeO (laws_FnExactMachineNew.j0 k y0 y1 y2 y3 y4 y5 y6 y7 y8 y9 y10 y11 y12 y13 y14 y15 y16 y17 y18 y19 y20 y21 y22 y23 y24 y25 y26 y27 y28 y29 y30 y31 y32 y33 y34 y35 y36 y37 y38 y39 y40 y41 y42 y43 y44 y45 y46 y47 y48 y49) (laws_FnExactMachineNew.j0 (k + 1) y0 y1 y2 y3 y4 y5 y6 y7 y8 y9 y10 y11 y12 y13 y14 y15 y16 y17 y18 y19 y20 y21 y22 y23 y24 y25 y26 y27 y28 y29 y30 y31 y32 y33 y34 y35 y36 y37 y38 y39 y40 y41 y42 y43 y44 y45 y46 y47 y48 y49)) ∧ (∀ y0 y1 y2 y3 y4 y5 y6 y7 y8 y9 y10 y11 y12 y13 y14 y15 y16 y17 y18 y19 y20 y21 y22 y23 y24, LeO (laws_FnExactMachineNew.j1 k y0 y1 y2 y3 y4 y5 y6 y7 y8 y9 y10 y11 y12 y13 y14 y15 y16 y17 y18 y19 y20 y21 y22 y23 y24) (laws_FnExactMachineNew.j1 (k + 1) y0 y1 y2 y3 y4 y5 y6 y7 y8 y9 y10 y11 y12 y13 y14 y15 y16 y17 y18 y19 y20 y21 y22 y23 y24))
  | 0 => ⟨fun _ _ _ _ _ _ _ _ _ _ _ _ _ _ _ _ _ _ _ _ _ _ _ _ _ _ _ _ _ _ _ _ _ _ _ _ _ _ _ _ _ _ _ _ _ _ _ _ _ _ r h => by simp [laws_FnExactMachineNew.j0] at h, fun _ _ _ _ _ _ _ _ _ _ _ _ _ _ _ _ _ _ _ _ _ _ _ _ _ r h => by simp [laws_FnExactMachineNew.j1] at h⟩
  | k + 1 => by
    obtain ⟨ih0, ih1⟩ := laws_FnExactMachineNew.mono_l k
    refine ⟨?_, ?_⟩
    · intro y0 y1 y2 y3 y4 y5 y6 y7 y8 y9 y10 y11 y12 y13 y14 y15 y16 y17 y18 y19 y20 y21 y22 y23 y24 y25 y26 y27 y28 y29 y30 y31 y32 y33 y34 y35 y36 y37 y38 y39 y40 y41 y42 y43 y44 y45 y46 y47 y48 y49
      unfold laws_FnExactMachineNew.j0
      repeat' first
      | (with_reducible exact ih0 _ _ _ _ _ _ _ _ _ _ _ _ _ _ _ _ _ _ _ _ _ _ _ _ _ _ _ _ _ _ _ _ _ _ _ _ _ _ _ _ _ _ _ _ _ _ _ _ _ _)
      | (with_reducible exact ih1 _ _ _ _ _ _ _ _ _ _ _ _ _ _ _ _ _ _ _ _ _ _ _ _ _)
      | (with_reducible exact impl_MachineNew.mono _ _ _)
      | (with_reducible exact laws_eqMachine.mono _ _ _ _ _ _ _ _ _ _ _ _ _ _ _ _ _ _ _ _ _ _ _ _ _ _ _ _ _ _ _ _ _ _ _ _ _ _ _ _ _ _ _ _ _ _ _)
      | (with_reducible exact laws_heldMachine.mono _ _ _ _ _ _ _ _ _ _ _ _ _ _ _ _ _ _ _ _ _ _ _ _ _)
      | (with_reducible exact laws_markMachine.mono _ _ _ _ _ _ _ _ _ _ _ _ _ _ _ _ _ _ _ _ _ _ _ _ _)
      | (with_reducible exact spec_MachineNew.mono _ _ _)
      | (with_reducible exact LeO.refl _)
      | (with_reducible exact LeO.none _)
      | (with_reducible refine LeO.ite ?_ ?_)
      | (with_reducible refine LeO.bind ?_ (fun _ => ?_))
      | exact ih0 _ _ _ _ _ _ _ _ _ _ _ _ _ _ _ _ _ _ _ _ _ _ _ _ _ _ _ _ _ _ _ _ _ _ _ _ _ _ _ _ _ _ _ _ _ _ _ _ _ _
      | exact ih1 _ _ _ _ _ _ _ _ _ _ _ _ _ _ _ _ _ _ _ _ _ _ _ _ _
      | exact impl_MachineNew.mono _ _ _
      | exact laws_eqMachine.mono _ _ _ _ _ _ _ _ _ _ _ _ _ _ _ _ _ _ _ _ _ _ _ _ _ _ _ _ _ _ _ _ _ _ _ _ _ _ _ _ _ _ _ _ _ _ _
      | exact laws_heldMachine.mono _ _ _ _ _ _ _ _ _ _ _ _ _ _ _ _ _ _ _ _ _ _ _ _ _
      | exact laws_markMachine.mono _ _ _ _ _ _ _ _ _ _ _ _ _ _ _ _ _ _ _ _ _ _ _ _ _
      | exact spec_MachineNew.mono _ _ _
      | exact LeO.none _
      | refine LeO.ite ?_ ?_
      | refine LeO.bind ?_ (fun _ => ?_)
    · intro y0 y1 y2 y3 y4 y5 y6 y7 y8 y9 y10 y11 y12 y13 y14 y15 y16 y17 y18 y19 y20 y21 y22 y23 y24
      unfold laws_FnExactMachineNew.j1
      repeat' first
      | (with_reducible exact ih0 _ _ _ _ _ _ _ _ _ _ _ _ _ _ _ _ _ _ _ _ _ _ _ _ _ _ _ _ _ _ _ _ _ _ _ _ _ _ _ _ _ _ _ _ _ _ _ _ _ _)
      | (with_reducible exact ih1 _ _ _ _ _ _ _ _ _ _ _ _ _ _ _ _ _ _ _ _ _ _ _ _ _)
      | (with_reducible exact impl_MachineNew.mono _ _ _)
      | (with_reducible exact laws_eqMachine.mono _ _ _ _ _ _ _ _ _ _ _ _ _ _ _ _ _ _ _ _ _ _ _ _ _ _ _ _ _ _ _ _ _ _ _ _ _ _ _ _ _ _ _ _ _ _ _)
      | (with_reducible exact laws_heldMachine.mono _ _ _ _ _ _ _ _ _ _ _ _ _ _ _ _ _ _ _ _ _ _ _ _ _)
      | (with_reducible exact laws_markMachine.mono _ _ _ _ _ _ _ _ _ _ _ _ _ _ _ _ _ _ _ _ _ _ _ _ _)
      | (with_reducible exact spec_MachineNew.mono _ _ _)
      | (with_reducible exact LeO.refl _)
      | (with_reducible exact LeO.none _)
      | (with_reducible refine LeO.ite ?_ ?_)
      | (with_reducible refine LeO.bind ?_ (fun _ => ?_))
      | exact ih0 _ _ _ _ _ _ _ _ _ _ _ _ _ _ _ _ _ _ _ _ _ _ _ _ _ _ _ _ _ _ _ _ _ _ _ _ _ _ _ _ _ _ _ _ _ _ _ _ _ _
      | exact ih1 _ _ _ _ _ _ _ _ _ _ _ _ _ _ _ _ _ _ _ _ _ _ _ _ _
      | exact impl_MachineNew.mono _ _ _
      | exact laws_eqMachine.mono _ _ _ _ _ _ _ _ _ _ _ _ _ _ _ _ _ _ _ _ _ _ _ _ _ _ _ _ _ _ _ _ _ _ _ _ _ _ _ _ _ _ _ _ _ _ _
      | exact laws_heldMachine.mono _ _ _ _ _ _ _ _ _ _ _ _ _ _ _ _ _ _ _ _ _ _ _ _ _
      | exact laws_markMachine.mono _ _ _ _ _ _ _ _ _ _ _ _ _ _ _ _ _ _ _ _ _ _ _ _ _
      | exact spec_MachineNew.mono _ _ _
      | exact LeO.none _
      | refine LeO.ite ?_ ?_
      | refine LeO.bind ?_ (fun _ => ?_)
theorem laws_FnExactMachineNew.mono : ∀ a0 a1 k, LeO (laws_FnExactMachineNew.f k a0 a1) (laws_FnExactMachineNew.f (k + 1) a0 a1) := by
  intro a0 a1 k
  obtain ⟨ih0, ih1⟩ := laws_FnExactMachineNew.mono_l k
  unfold laws_FnExactMachineNew.f
  repeat' first
      | (with_reducible exact ih0 _ _ _ _ _ _ _ _ _ _ _ _ _ _ _ _ _ _ _ _ _ _ _ _ _ _ _ _ _ _ _ _ _ _ _ _ _ _ _ _ _ _ _ _ _ _ _ _ _ _)
      | (with_reducible exact ih1 _ _ _ _ _ _ _ _ _ _ _ _ _ _ _ _ _ _ _ _ _ _ _ _ _)
      | (with_reducible exact impl_MachineNew.mono _ _ _)
      | (with_reducible exact laws_eqMachine.mono _ _ _ _ _ _ _ _ _ _ _ _ _ _ _ _ _ _ _ _ _ _ _ _ _ _ _ _ _ _ _ _ _ _ _ _ _ _ _ _ _ _ _ _ _ _ _)
      | (with_reducible exact laws_heldMachine.mono _ _ _ _ _ _ _ _ _ _ _ _ _ _ _ _ _ _ _ _ _ _ _ _ _)
      | (with_reducible exact laws_markMachine.mono _ _ _ _ _ _ _ _ _ _ _ _ _ _ _ _ _ _ _ _ _ _ _ _ _)
      | (with_reducible exact spec_MachineNew.mono _ _ _)
      | (with_reducible exact LeO.refl _)
      | (with_reducible exact LeO.none _)
      | (with_reducible refine LeO.ite ?_ ?_)
      | (with_reducible refine LeO.bind ?_ (fun _ => ?_))
      | exact ih0 _ _ _ _ _ _ _ _ _ _ _ _ _ _ _ _ _ _ _ _ _ _ _ _ _ _ _ _ _ _ _ _ _ _ _ _ _ _ _ _ _ _ _ _ _ _ _ _ _ _
      | exact ih1 _ _ _ _ _ _ _ _ _ _ _ _ _ _ _ _ _ _ _ _ _ _ _ _ _
      | exact impl_MachineNew.mono _ _ _
      | exact laws_eqMachine.mono _ _ _ _ _ _ _ _ _ _ _ _ _ _ _ _ _ _ _ _ _ _ _ _ _ _ _ _ _ _ _ _ _ _ _ _ _ _ _ _ _ _ _ _ _ _ _
      | exact laws_heldMachine.mono _ _ _ _ _ _ _ _ _ _ _ _ _ _ _ _ _ _ _ _ _ _ _ _ _
      | exact laws_markMachine.mono _ _ _ _ _ _ _ _ _ _ _ _ _ _ _ _ _ _ _ _ _ _ _ _ _
      | exact spec_MachineNew.mono _ _ _
      | exact LeO.none _
      | refine LeO.ite ?_ ?_
      | refine LeO.bind ?_ (fun _ => ?_)
open Go.Proofs.Ytmgbdbamfljjnaa.Aid in
set_option maxHeartbeats 8000000 in
set_option maxRecDepth 100000 in
theorem laws_FnExactMachineNew.calls (k : Nat) (a0 : ByteArray) (a1 : Int) (r : Bool) (w : World) (h : laws_FnExactMachineNew.f k a0 a1 = some r) :
    Calls Try.prog 6 #[.string a0, .int .i64 a1] w fun e w' => e = .returned (.bool r) ∧ Below w.heap.size w w' := by
  have hu34 := Try.underlying34
  have HB := Aside0.mk (Below.refl w.heap.size w)
  have H : (if (a0.size : Int) > 1048576 then (some true) else ((spec_MachineNew.f k a0 a1).bind fun bt174 => ((impl_MachineNew.f k a0 a1).bind fun bt201 => ((laws_eqMachine.f k bt201.1 bt201.2.1 bt201.2.2.1 bt201.2.2.2.1 bt201.2.2.2.2.1 bt201.2.2.2.2.2.1 bt201.2.2.2.2.2.2.1 bt201.2.2.2.2.2.2.2.1 bt201.2.2.2.2.2.2.2.2.1 bt201.2.2.2.2.2.2.2.2.2.1 bt201.2.2.2.2.2.2.2.2.2.2.1 bt201.2.2.2.2.2.2.2.2.2.2.2.1 bt201.2.2.2.2.2.2.2.2.2.2.2.2.1 bt201.2.2.2.2.2.2.2.2.2.2.2.2.2.1 bt201.2.2.2.2.2.2.2.2.2.2.2.2.2.2.1 bt201.2.2.2.2.2.2.2.2.2.2.2.2.2.2.2.1 bt201.2.2.2.2.2.2.2.2.2.2.2.2.2.2.2.2.1 bt201.2.2.2.2.2.2.2.2.2.2.2.2.2.2.2.2.2.1 bt201.2.2.2.2.2.2.2.2.2.2.2.2.2.2.2.2.2.2.1 bt201.2.2.2.2.2.2.2.2.2.2.2.2.2.2.2.2.2.2.2.1 bt201.2.2.2.2.2.2.2.2.2.2.2.2.2.2.2.2.2.2.2.2.1 bt201.2.2.2.2.2.2.2.2.2.2.2.2.2.2.2.2.2.2.2.2.2.1 bt201.2.2.2.2.2.2.2.2.2.2.2.2.2.2.2.2.2.2.2.2.2.2.1 bt174.1 bt174.2.1 bt174.2.2.1 bt174.2.2.2.1 bt174.2.2.2.2.1 bt174.2.2.2.2.2.1 bt174.2.2.2.2.2.2.1 bt174.2.2.2.2.2.2.2.1 bt174.2.2.2.2.2.2.2.2.1 bt174.2.2.2.2.2.2.2.2.2.1 bt174.2.2.2.2.2.2.2.2.2.2.1 bt174.2.2.2.2.2.2.2.2.2.2.2.1 bt174.2.2.2.2.2.2.2.2.2.2.2.2.1 bt174.2.2.2.2.2.2.2.2.2.2.2.2.2.1 bt174.2.2.2.2.2.2.2.2.2.2.2.2.2.2.1 bt174.2.2.2.2.2.2.2.2.2.2.2.2.2.2.2.1 bt174.2.2.2.2.2.2.2.2.2.2.2.2.2.2.2.2.1 bt174.2.2.2.2.2.2.2.2.2.2.2.2.2.2.2.2.2.1 bt174.2.2.2.2.2.2.2.2.2.2.2.2.2.2.2.2.2.2.1 bt174.2.2.2.2.2.2.2.2.2.2.2.2.2.2.2.2.2.2.2.1 bt174.2.2.2.2.2.2.2.2.2.2.2.2.2.2.2.2.2.2.2.2.1 bt174.2.2.2.2.2.2.2.2.2.2.2.2.2.2.2.2.2.2.2.2.2.1 bt174.2.2.2.2.2.2.2.2.2.2.2.2.2.2.2.2.2.2.2.2.2.2.1).bind fun t228 => (if t228 = true then (laws_FnExactMachineNew.j0 k a0 a1 bt174.2.2.2.2.2.2.2.2.2.2.2.2.2.2.2.2.2.2.2.2.2.2.2 (bt201.2.2.2.2.2.2.2.2.2.2.2.2.2.2.2.2.2.2.2.2.2.2.2 != bt174.2.2.2.2.2.2.2.2.2.2.2.2.2.2.2.2.2.2.2.2.2.2.2) bt174.1 bt174.2.1 bt174.2.2.1 bt174.2.2.2.1 bt174.2.2.2.2.1 bt174.2.2.2.2.2.1 bt174.2.2.2.2.2.2.1 bt174.2.2.2.2.2.2.2.1 bt174.2.2.2.2.2.2.2.2.1 bt174.2.2.2.2.2.2.2.2.2.1 bt174.2.2.2.2.2.2.2.2.2.2.1 bt174.2.2.2.2.2.2.2.2.2.2.2.1 bt174.2.2.2.2.2.2.2.2.2.2.2.2.1 bt174.2.2.2.2.2.2.2.2.2.2.2.2.2.1 bt174.2.2.2.2.2.2.2.2.2.2.2.2.2.2.1 bt174.2.2.2.2.2.2.2.2.2.2.2.2.2.2.2.1 bt174.2.2.2.2.2.2.2.2.2.2.2.2.2.2.2.2.1 bt174.2.2.2.2.2.2.2.2.2.2.2.2.2.2.2.2.2.1 bt174.2.2.2.2.2.2.2.2.2.2.2.2.2.2.2.2.2.2.1 bt174.2.2.2.2.2.2.2.2.2.2.2.2.2.2.2.2.2.2.2.1 bt174.2.2.2.2.2.2.2.2.2.2.2.2.2.2.2.2.2.2.2.2.1 bt174.2.2.2.2.2.2.2.2.2.2.2.2.2.2.2.2.2.2.2.2.2.1 bt174.2.2.2.2.2.2.2.2.2.2.2.2.2.2.2.2.2.2.2.2.2.2.1 bt201.1 bt201.2.1 bt201.2.2.1 bt201.2.2.2.1 bt201.2.2.2.2.1 bt201.2.2.2.2.2.1 bt201.2.2.2.2.2.2.1 bt201.2.2.2.2.2.2.2.1 bt201.2.2.2.2.2.2.2.2.1 bt201.2.2.2.2.2.2.2.2.2.1 bt201.2.2.2.2.2.2.2.2.2.2.1 bt201.2.2.2.2.2.2.2.2.2.2.2.1 bt201.2.2.2.2.2.2.2.2.2.2.2.2.1 bt201.2.2.2.2.2.2.2.2.2.2.2.2.2.1 bt201.2.2.2.2.2.2.2.2.2.2.2.2.2.2.1 bt201.2.2.2.2.2.2.2.2.2.2.2.2.2.2.2.1 bt201.2.2.2.2.2.2.2.2.2.2.2.2.2.2.2.2.1 bt201.2.2.2.2.2.2.2.2.2.2.2.2.2.2.2.2.2.1 bt201.2.2.2.2.2.2.2.2.2.2.2.2.2.2.2.2.2.2.1 bt201.2.2.2.2.2.2.2.2.2.2.2.2.2.2.2.2.2.2.2.1 bt201.2.2.2.2.2.2.2.2.2.2.2.2.2.2.2.2.2.2.2.2.1 bt201.2.2.2.2.2.2.2.2.2.2.2.2.2.2.2.2.2.2.2.2.2.1 bt201.2.2.2.2.2.2.2.2.2.2.2.2.2.2.2.2.2.2.2.2.2.2.1) else (laws_FnExactMachineNew.j0 k a0 a1 bt174.2.2.2.2.2.2.2.2.2.2.2.2.2.2.2.2.2.2.2.2.2.2.2 true bt174.1 bt174.2.1 bt174.2.2.1 bt174.2.2.2.1 bt174.2.2.2.2.1 bt174.2.2.2.2.2.1 bt174.2.2.2.2.2.2.1 bt174.2.2.2.2.2.2.2.1 bt174.2.2.2.2.2.2.2.2.1 bt174.2.2.2.2.2.2.2.2.2.1 bt174.2.2.2.2.2.2.2.2.2.2.1 bt174.2.2.2.2.2.2.2.2.2.2.2.1 bt174.2.2.2.2.2.2.2.2.2.2.2.2.1 bt174.2.2.2.2.2.2.2.2.2.2.2.2.2.1 bt174.2.2.2.2.2.2.2.2.2.2.2.2.2.2.1 bt174.2.2.2.2.2.2.2.2.2.2.2.2.2.2.2.1 bt174.2.2.2.2.2.2.2.2.2.2.2.2.2.2.2.2.1 bt174.2.2.2.2.2.2.2.2.2.2.2.2.2.2.2.2.2.1 bt174.2.2.2.2.2.2.2.2.2.2.2.2.2.2.2.2.2.2.1 bt174.2.2.2.2.2.2.2.2.2.2.2.2.2.2.2.2.2.2.2.1 bt174.2.2.2.2.2.2.2.2.2.2.2.2.2.2.2.2.2.2.2.2.1 bt174.2.2.2.2.2.2.2.2.2.2.2.2.2.2.2.2.2.2.2.2.2.1 bt174.2.2.2.2.2.2.2.2.2.2.2.2.2.2.2.2.2.2.2.2.2.2.1 bt201.1 bt201.2.1 bt201.2.2.1 bt201.2.2.2.1 bt201.2.2.2.2.1 bt201.2.2.2.2.2.1 bt201.2.2.2.2.2.2.1 bt201.2.2.2.2.2.2.2.1 bt201.2.2.2.2.2.2.2.2.1 bt201.2.2.2.2.2.2.2.2.2.1 bt201.2.2.2.2.2.2.2.2.2.2.1 bt201.2.2.2.2.2.2.2.2.2.2.2.1 bt201.2.2.2.2.2.2.2.2.2.2.2.2.1 bt201.2.2.2.2.2.2.2.2.2.2.2.2.2.1 bt201.2.2.2.2.2.2.2.2.2.2.2.2.2.2.1 bt201.2.2.2.2.2.2.2.2.2.2.2.2.2.2.2.1 bt201.2.2.2.2.2.2.2.2.2.2.2.2.2.2.2.2.1 bt201.2.2.2.2.2.2.2.2.2.2.2.2.2.2.2.2.2.1 bt201.2.2.2.2.2.2.2.2.2.2.2.2.2.2.2.2.2.2.1 bt201.2.2.2.2.2.2.2.2.2.2.2.2.2.2.2.2.2.2.2.1 bt201.2.2.2.2.2.2.2.2.2.2.2.2.2.2.2.2.2.2.2.2.1 bt201.2.2.2.2.2.2.2.2.2.2.2.2.2.2.2.2.2.2.2.2.2.1 bt201.2.2.2.2.2.2.2.2.2.2.2.2.2.2.2.2.2.2.2.2.2.2.1)))))) = some r := h
  clear h
  by_cases c3 : (a0.size : Int) > 1048576
  · rw [if_pos c3] at H
    have c3b0 : decide (1048576 < (a0.size : Int)) = true := decide_eq_true c3
    have c3b1 : decide (1048576 < a0.size) = true := decide_eq_true (by omega)
    clear c3
    obtain rfl := Option.some.inj H
    go_enter Try.func6, Try.ntmps6
    go_wp2
    go_ret
    exact ⟨by first | rfl | (simp [errW_none, errW_some] <;> rfl) | (simp [*, errW_none, errW_some] <;> rfl), by repeat (first | (with_reducible first | exact HB.out | apply below_alloc | apply pw_below_drewN | apply below_drew1) | exact HB.out)⟩
  · rw [if_neg c3] at H
    have c3b0 : decide (1048576 < (a0.size : Int)) = false := decide_eq_false c3
    have c3b1 : decide (1048576 < a0.size) = false := decide_eq_false (by omega)
    clear c3
    replace H := Option.bind_eq_some_iff.mp H
    obtain ⟨⟨t174, t175, t176, t177, t178, t179, t180, t181, t182, t183, t184, t185, t186, t187, t188, t189, t190, t191, t192, t193, t194, t195, t198, t199⟩, A40, H⟩ := H
    replace H : ((impl_MachineNew.f k a0 a1).bind fun bt201 => ((laws_eqMachine.f k bt201.1 bt201.2.1 bt201.2.2.1 bt201.2.2.2.1 bt201.2.2.2.2.1 bt201.2.2.2.2.2.1 bt201.2.2.2.2.2.2.1 bt201.2.2.2.2.2.2.2.1 bt201.2.2.2.2.2.2.2.2.1 bt201.2.2.2.2.2.2.2.2.2.1 bt201.2.2.2.2.2.2.2.2.2.2.1 bt201.2.2.2.2.2.2.2.2.2.2.2.1 bt201.2.2.2.2.2.2.2.2.2.2.2.2.1 bt201.2.2.2.2.2.2.2.2.2.2.2.2.2.1 bt201.2.2.2.2.2.2.2.2.2.2.2.2.2.2.1 bt201.2.2.2.2.2.2.2.2.2.2.2.2.2.2.2.1 bt201.2.2.2.2.2.2.2.2.2.2.2.2.2.2.2.2.1 bt201.2.2.2.2.2.2.2.2.2.2.2.2.2.2.2.2.2.1 bt201.2.2.2.2.2.2.2.2.2.2.2.2.2.2.2.2.2.2.1 bt201.2.2.2.2.2.2.2.2.2.2.2.2.2.2.2.2.2.2.2.1 bt201.2.2.2.2.2.2.2.2.2.2.2.2.2.2.2.2.2.2.2.2.1 bt201.2.2.2.2.2.2.2.2.2.2.2.2.2.2.2.2.2.2.2.2.2.1 bt201.2.2.2.2.2.2.2.2.2.2.2.2.2.2.2.2.2.2.2.2.2.2.1 t174 t175 t176 t177 t178 t179 t180 t181 t182 t183 t184 t185 t186 t187 t188 t189 t190 t191 t192 t193 t194 t195 t198).bind fun t228 => (if t228 = true then (laws_FnExactMachineNew.j0 k a0 a1 t199 (bt201.2.2.2.2.2.2.2.2.2.2.2.2.2.2.2.2.2.2.2.2.2.2.2 != t199) t174 t175 t176 t177 t178 t179 t180 t181 t182 t183 t184 t185 t186 t187 t188 t189 t190 t191 t192 t193 t194 t195 t198 bt201.1 bt201.2.1 bt201.2.2.1 bt201.2.2.2.1 bt201.2.2.2.2.1 bt201.2.2.2.2.2.1 bt201.2.2.2.2.2.2.1 bt201.2.2.2.2.2.2.2.1 bt201.2.2.2.2.2.2.2.2.1 bt201.2.2.2.2.2.2.2.2.2.1 bt201.2.2.2.2.2.2.2.2.2.2.1 bt201.2.2.2.2.2.2.2.2.2.2.2.1 bt201.2.2.2.2.2.2.2.2.2.2.2.2.1 bt201.2.2.2.2.2.2.2.2.2.2.2.2.2.1 bt201.2.2.2.2.2.2.2.2.2.2.2.2.2.2.1 bt201.2.2.2.2.2.2.2.2.2.2.2.2.2.2.2.1 bt201.2.2.2.2.2.2.2.2.2.2.2.2.2.2.2.2.1 bt201.2.2.2.2.2.2.2.2.2.2.2.2.2.2.2.2.2.1 bt201.2.2.2.2.2.2.2.2.2.2.2.2.2.2.2.2.2.2.1 bt201.2.2.2.2.2.2.2.2.2.2.2.2.2.2.2.2.2.2.2.1 bt201.2.2.2.2.2.2.2.2.2.2.2.2.2.2.2.2.2.2.2.2.1 bt201.2.2.2.2.2.2.2.2.2.2.2.2.2.2.2.2.2.2.2.2.2.1 bt201.2.2.2.2.2.2.2.2.2.2.2.2.2.2.2.2.2.2.2.2.2.2.1) else (laws_FnExactMachineNew.j0 k a0 a1 t199 true t174 t175 t176 t177 t178 t179 t180 t181 t182 t183 t184 t185 t186 t187 t188 t189 t190 t191 t192 t193 t194 t195 t198 bt201.1 bt201.2.1 bt201.2.2.1 bt201.2.2.2.1 bt201.2.2.2.2.1 bt201.2.2.2.2.2.1 bt201.2.2.2.2.2.2.1 bt201.2.2.2.2.2.2.2.1 bt201.2.2.2.2.2.2.2.2.1 bt201.2.2.2.2.2.2.2.2.2.1 bt201.2.2.2.2.2.2.2.2.2.2.1 bt201.2.2.2.2.2.2.2.2.2.2.2.1 bt201.2.2.2.2.2.2.2.2.2.2.2.2.1 bt201.2.2.2.2.2.2.2.2.2.2.2.2.2.1 bt201.2.2.2.2.2.2.2.2.2.2.2.2.2.2.1 bt201.2.2.2.2.2.2.2.2.2.2.2.2.2.2.2.1 bt201.2.2.2.2.2.2.2.2.2.2.2.2.2.2.2.2.1 bt201.2.2.2.2.2.2.2.2.2.2.2.2.2.2.2.2.2.1 bt201.2.2.2.2.2.2.2.2.2.2.2.2.2.2.2.2.2.2.1 bt201.2.2.2.2.2.2.2.2.2.2.2.2.2.2.2.2.2.2.2.1 bt201.2.2.2.2.2.2.2.2.2.2.2.2.2.2.2.2.2.2.2.2.1 bt201.2.2.2.2.2.2.2.2.2.2.2.2.2.2.2.2.2.2.2.2.2.1 bt201.2.2.2.2.2.2.2.2.2.2.2.2.2.2.2.2.2.2.2.2.2.2.1)))) = some r := H
    have A4 := Aside0.mk A40
    clear A40
    replace H := Option.bind_eq_some_iff.mp H
    obtain ⟨⟨t201, t202, t203, t204, t205, t206, t207, t208, t209, t210, t211, t212, t213, t214, t215, t216, t217, t218, t219, t220, t221, t222, t225, t226⟩, A50, H⟩ := H
    replace H : ((laws_eqMachine.f k t201 t202 t203 t204 t205 t206 t207 t208 t209 t210 t211 t212 t213 t214 t215 t216 t217 t218 t219 t220 t221 t222 t225 t174 t175 t176 t177 t178 t179 t180 t181 t182 t183 t184 t185 t186 t187 t188 t189 t190 t191 t192 t193 t194 t195 t198).bind fun t228 => (if t228 = true then (laws_FnExactMachineNew.j0 k a0 a1 t199 (t226 != t199) t174 t175 t176 t177 t178 t179 t180 t181 t182 t183 t184 t185 t186 t187 t188 t189 t190 t191 t192 t193 t194 t195 t198 t201 t202 t203 t204 t205 t206 t207 t208 t209 t210 t211 t212 t213 t214 t215 t216 t217 t218 t219 t220 t221 t222 t225) else (laws_FnExactMachineNew.j0 k a0 a1 t199 true t174 t175 t176 t177 t178 t179 t180 t181 t182 t183 t184 t185 t186 t187 t188 t189 t190 t191 t192 t193 t194 t195 t198 t201 t202 t203 t204 t205 t206 t207 t208 t209 t210 t211 t212 t213 t214 t215 t216 t217 t218 t219 t220 t221 t222 t225))) = some r := H
    have A5 := Aside0.mk A50
    clear A50
    have HC6 := Aside0.mk H
    clear H
    go_enter Try.func6, Try.ntmps6
    go_upto_region 5 with (first | ((with_reducible refine gate_store (t := 34) (p := 5) rfl ?_); refine store_blkg rfl (ty := 34) (p := 5) rfl rfl BK200.out 0 rfl rfl (Nat.le_of_ble_eq_true rfl) (by kernel_rfl) (by simp [Value.oneCell']) ?_; intro w_ hbk hgr; simp only [putAt, List.setIfInBounds_toArray, List.set_cons_zero, List.set_cons_succ, Nat.zero_add, Nat.reduceAdd] at hbk; (try (have N_ := Aside0.mk (Kd.R_mono (Kd.R_grown (Kd.R_types HO197.out BK200.out (by decide)) hgr (fun _ hk_ e_ => hk_.2 (by injection e_))) (fun _ hk_ => hk_.1)); clear HO197; have HO197 := N_; clear N_)); (try (have N_ := Aside0.mk (Kd.R_mono (Kd.R_grown (Kd.R_types HO224.out BK200.out (by decide)) hgr (fun _ hk_ e_ => hk_.2 (by injection e_))) (fun _ hk_ => hk_.1)); clear HO224; have HO224 := N_; clear N_)); (try (have N_ := Aside0.mk (blk_other BK227.out hgr NB227_200.out); clear BK227; have BK227 := N_; clear N_)); (try (have N_ := Aside0.mk (blk_other BK258.out hgr NB258_200.out); clear BK258; have BK258 := N_; clear N_)); have N_ := Aside0.mk (below_grown (by repeat (first | exact HB.out | apply below_alloc | apply pw_below_drewN | apply below_drew1)) hgr GE200.out); clear HB; have HB := N_; clear N_; clear BK200; have BK200 := Aside0.mk hbk; clear hbk hgr) | ((with_reducible refine gate_store (t := 34) (p := 7) rfl ?_); refine store_blkg rfl (ty := 34) (p := 7) rfl rfl BK227.out 0 rfl rfl (Nat.le_of_ble_eq_true rfl) (by kernel_rfl) (by simp [Value.oneCell']) ?_; intro w_ hbk hgr; simp only [putAt, List.setIfInBounds_toArray, List.set_cons_zero, List.set_cons_succ, Nat.zero_add, Nat.reduceAdd] at hbk; (try (have N_ := Aside0.mk (Kd.R_mono (Kd.R_grown (Kd.R_types HO197.out BK227.out (by decide)) hgr (fun _ hk_ e_ => hk_.2 (by injection e_))) (fun _ hk_ => hk_.1)); clear HO197; have HO197 := N_; clear N_)); (try (have N_ := Aside0.mk (Kd.R_mono (Kd.R_grown (Kd.R_types HO224.out BK227.out (by decide)) hgr (fun _ hk_ e_ => hk_.2 (by injection e_))) (fun _ hk_ => hk_.1)); clear HO224; have HO224 := N_; clear N_)); (try (have N_ := Aside0.mk (blk_other BK200.out hgr NB200_227.out); clear BK200; have BK200 := N_; clear N_)); (try (have N_ := Aside0.mk (blk_other BK258.out hgr NB258_227.out); clear BK258; have BK258 := N_; clear N_)); have N_ := Aside0.mk (below_grown (by repeat (first | exact HB.out | apply below_alloc | apply pw_below_drewN | apply below_drew1)) hgr GE227.out); clear HB; have HB := N_; clear N_; clear BK227; have BK227 := Aside0.mk hbk; clear hbk hgr) | ((with_reducible refine gate_dst (N := 28) rfl ?_); refine load_blkg rfl (ty := 34) (p := 7) rfl BK227.out 0 23 rfl rfl Try.underlying34 rfl (by kernel_rfl) ?_; simp only [List.drop_succ_cons, List.drop_zero, List.take_succ_cons, List.take_zero, Act.put, List.setIfInBounds_toArray, List.set_cons_zero, List.set_cons_succ, Option.elim]) | ((with_reducible refine gate_dst (N := 29) rfl ?_); refine load_blkg rfl (ty := 34) (p := 5) rfl BK200.out 0 23 rfl rfl Try.underlying34 rfl (by kernel_rfl) ?_; simp only [List.drop_succ_cons, List.drop_zero, List.take_succ_cons, List.take_zero, Act.put, List.setIfInBounds_toArray, List.set_cons_zero, List.set_cons_succ, Option.elim]) | ((with_reducible refine gate_dst (N := 37) rfl ?_); refine load_blkg rfl (ty := 34) (p := 7) rfl BK227.out 0 23 rfl rfl Try.underlying34 rfl (by kernel_rfl) ?_; simp only [List.drop_succ_cons, List.drop_zero, List.take_succ_cons, List.take_zero, Act.put, List.setIfInBounds_toArray, List.set_cons_zero, List.set_cons_succ, Option.elim]) | ((with_reducible refine gate_dst (N := 40) rfl ?_); refine load_blkg rfl (ty := 34) (p := 7) rfl BK227.out 0 23 rfl rfl Try.underlying34 rfl (by kernel_rfl) ?_; simp only [List.drop_succ_cons, List.drop_zero, List.take_succ_cons, List.take_zero, Act.put, List.setIfInBounds_toArray, List.set_cons_zero, List.set_cons_succ, Option.elim]) | ((with_reducible refine gate_store (t := 34) (p := 11) rfl ?_); refine store_blkg rfl (ty := 34) (p := 11) rfl rfl BK258.out 0 rfl rfl (Nat.le_of_ble_eq_true rfl) (by kernel_rfl) (by simp [Value.oneCell']) ?_; intro w_ hbk hgr; simp only [putAt, List.setIfInBounds_toArray, List.set_cons_zero, List.set_cons_succ, Nat.zero_add, Nat.reduceAdd] at hbk; (try (have N_ := Aside0.mk (Kd.R_mono (Kd.R_grown (Kd.R_types HO197.out BK258.out (by decide)) hgr (fun _ hk_ e_ => hk_.2 (by injection e_))) (fun _ hk_ => hk_.1)); clear HO197; have HO197 := N_; clear N_)); (try (have N_ := Aside0.mk (Kd.R_mono (Kd.R_grown (Kd.R_types HO224.out BK258.out (by decide)) hgr (fun _ hk_ e_ => hk_.2 (by injection e_))) (fun _ hk_ => hk_.1)); clear HO224; have HO224 := N_; clear N_)); (try (have N_ := Aside0.mk (blk_other BK200.out hgr NB200_258.out); clear BK200; have BK200 := N_; clear N_)); (try (have N_ := Aside0.mk (blk_other BK227.out hgr NB227_258.out); clear BK227; have BK227 := N_; clear N_)); have N_ := Aside0.mk (below_grown (by repeat (first | exact HB.out | apply below_alloc | apply pw_below_drewN | apply below_drew1)) hgr GE258.out); clear HB; have HB := N_; clear N_; clear BK258; have BK258 := Aside0.mk hbk; clear hbk hgr) | ((with_reducible refine gate_dst (N := 54) rfl ?_); refine load_blkg rfl (ty := 34) (p := 11) rfl BK258.out 0 23 rfl rfl Try.underlying34 rfl (by kernel_rfl) ?_; simp only [List.drop_succ_cons, List.drop_zero, List.take_succ_cons, List.take_zero, Act.put, List.setIfInBounds_toArray, List.set_cons_zero, List.set_cons_succ, Option.elim]) | ((with_reducible refine gate_dst (N := 55) rfl ?_); refine load_blkg rfl (ty := 34) (p := 5) rfl BK200.out 0 23 rfl rfl Try.underlying34 rfl (by kernel_rfl) ?_; simp only [List.drop_succ_cons, List.drop_zero, List.take_succ_cons, List.take_zero, Act.put, List.setIfInBounds_toArray, List.set_cons_zero, List.set_cons_succ, Option.elim]) | ((with_reducible refine gate_dst (N := 63) rfl ?_); refine load_blkg rfl (ty := 34) (p := 7) rfl BK227.out 0 23 rfl rfl Try.underlying34 rfl (by kernel_rfl) ?_; simp only [List.drop_succ_cons, List.drop_zero, List.take_succ_cons, List.take_zero, Act.put, List.setIfInBounds_toArray, List.set_cons_zero, List.set_cons_succ, Option.elim]) | ((with_reducible refine gate_callee (f := 18) rfl ?_); refine goesL_ (some 19) rfl rfl Try.func18 (by kernel_rfl) rfl #[.string a0, .int .i64 a1] rfl (by (try simp only [List.map_toArray, List.map_cons, List.map_nil]); first | done | rfl | (simp only [List.length_drop, List.length_take]; rfl)) ?_; (with_reducible refine (spec_MachineNew.calls k a0 a1 t174 t175 t176 t177 t178 t179 t180 t181 t182 t183 t184 t185 t186 t187 t188 t189 t190 t191 t192 t193 t194 t195 t198 t199 _ A4.out).mono ?_); rintro e w7 ⟨v196, rfl, ho0, hb⟩; refine ⟨_, rfl, ?_⟩; have n0_ := Aside0.mk (Kd.R_lower ho0 (below_size (by repeat (first | (with_reducible first | exact HB.out | apply below_alloc | apply pw_below_drewN | apply below_drew1) | exact HB.out)))); have n1_ := Aside0.mk (below_step (by repeat (first | (with_reducible first | exact HB.out | apply below_alloc | apply pw_below_drewN | apply below_drew1) | exact HB.out)) hb); clear HB; have HO197 := n0_; have HB := n1_; clear n0_ n1_; (try clear hb); (try clear hb2); (try clear hk); (try clear hi); (try clear ho0)) | ((with_reducible refine gate_dst (N := 5) rfl ?_); refine box_event ?hg (N := 5) ?hd (cs := #[.int .i64 0, .int .i64 0, .int .i64 0, .int .i64 0, .int .i64 0, .int .i64 0, .int .i64 0, .int .i64 0, .int .i64 0, .int .i64 0, .bool false, .bool false, .string (⟨#[]⟩ : ByteArray), .int .i64 0, .int .i64 0, .string (⟨#[]⟩ : ByteArray), .int .i64 0, .bool false, .int .i64 0, .string (⟨#[]⟩ : ByteArray), .string (⟨#[]⟩ : ByteArray), .slice none 0 0, .int .i64 0]) (t := 34) ?hr ?_; (case hd => rfl); (case hg => rfl); (case hr => first | (go_simp; done) | (go_simp; rfl)); intro gb200 hg w8 hbox hb; have n0_ := Aside0.mk (Kd.R_below (by (with_reducible repeat (first | apply Kd.R_alloc | apply Kd.R_drewN | apply Kd.R_drew)); exact HO197.out) hb); have n1_ := Aside0.mk (below_step (by repeat (first | (with_reducible first | exact HB.out | apply below_alloc | apply pw_below_drewN | apply below_drew1) | exact HB.out)) hb); have n2_ := Aside0.mk (hbox); have n3_ := Aside0.mk ((by rw [hg]; exact (below_size (by repeat (first | (with_reducible first | exact HB.out | apply below_alloc | apply pw_below_drewN | apply below_drew1) | exact HB.out))) : w.heap.size ≤ gb200)); have n4_ := Aside0.mk ((by rw [hg]; exact (below_size (by repeat (first | (with_reducible first | exact HB.out | apply below_alloc | apply pw_below_drewN | apply below_drew1) | exact HB.out))) : w.heap.size ≤ gb200)); clear HO197; clear HB; have HO197 := n0_; have HB := n1_; have BK200 := n2_; have GW200 := n3_; have GE200 := n4_; clear n0_ n1_ n2_ n3_ n4_; clear hb hbox hg; obtain ⟨Ao10, co10, eo10⟩ := Kd.R_slice HO197.out; subst eo10) | ((with_reducible refine gate_callee (f := 19) rfl ?_); refine goesL_ (some 25) rfl rfl Try.func19 (by kernel_rfl) rfl #[.string a0, .int .i64 a1] rfl (by (try simp only [List.map_toArray, List.map_cons, List.map_nil]); first | done | rfl | (simp only [List.length_drop, List.length_take]; rfl)) ?_; (with_reducible refine (impl_MachineNew.calls k a0 a1 t201 t202 t203 t204 t205 t206 t207 t208 t209 t210 t211 t212 t213 t214 t215 t216 t217 t218 t219 t220 t221 t222 t225 t226 _ A5.out).mono ?_); rintro e w11 ⟨v223, rfl, ho0, hb⟩; refine ⟨_, rfl, ?_⟩; have n0_ := Aside0.mk (Kd.R_elder' (by (with_reducible repeat (first | apply Kd.R_alloc | apply Kd.R_drewN | apply Kd.R_drew)); exact (HO197.out)) (Kd.R_base ho0) hb); have n1_ := Aside0.mk (Kd.R_lower (Kd.R_new' ho0 (Kd.R_lt (by (with_reducible repeat (first | apply Kd.R_alloc | apply Kd.R_drewN | apply Kd.R_drew)); exact (HO197.out)))) (below_size (by repeat (first | (with_reducible first | exact HB.out | apply below_alloc | apply pw_below_drewN | apply below_drew1 | refine below_set ?_ GE200.out) | exact HB.out)))); have n2_ := Aside0.mk (blk_below (g := gb200) (o := .cells #[.int .i64 t174, .int .i64 t175, .int .i64 t176, .int .i64 t177, .int .i64 t178, .int .i64 t179, .int .i64 t180, .int .i64 t181, .int .i64 t182, .int .i64 t183, .bool t184, .bool t185, .string t186, .int .i64 t187, .int .i64 t188, .string t189, .int .i64 t190, .bool t191, .int .i64 t192, .string t193, .string t194, .slice Ao10 t195.length co10, .int .i64 t198] 34 (0, 0)) (by (with_reducible repeat (first | refine blk_drewN ?_ _ | refine blk_drew ?_ | refine blk_alloc ?_ _)); exact BK200.out) hb); have n3_ := Aside0.mk (below_step (by repeat (first | (with_reducible first | exact HB.out | apply below_alloc | apply pw_below_drewN | apply below_drew1 | refine below_set ?_ GE200.out) | exact HB.out)) hb); clear HO197; clear BK200; clear HB; have HO197 := n0_; have HO224 := n1_; have BK200 := n2_; have HB := n3_; clear n0_ n1_ n2_ n3_; (try clear hb); (try clear hb2); (try clear hk); (try clear hi); (try clear ho0)) | ((with_reducible refine gate_dst (N := 7) rfl ?_); refine box_event ?hg (N := 7) ?hd (cs := #[.int .i64 0, .int .i64 0, .int .i64 0, .int .i64 0, .int .i64 0, .int .i64 0, .int .i64 0, .int .i64 0, .int .i64 0, .int .i64 0, .bool false, .bool false, .string (⟨#[]⟩ : ByteArray), .int .i64 0, .int .i64 0, .string (⟨#[]⟩ : ByteArray), .int .i64 0, .bool false, .int .i64 0, .string (⟨#[]⟩ : ByteArray), .string (⟨#[]⟩ : ByteArray), .slice none 0 0, .int .i64 0]) (t := 34) ?hr ?_; (case hd => rfl); (case hg => rfl); (case hr => first | (go_simp; done) | (go_simp; rfl)); intro gb227 hg w12 hbox hb; have n0_ := Aside0.mk (Kd.R_below (by (with_reducible repeat (first | apply Kd.R_alloc | apply Kd.R_drewN | apply Kd.R_drew)); exact HO197.out) hb); have n1_ := Aside0.mk (Kd.R_below (by (with_reducible repeat (first | apply Kd.R_alloc | apply Kd.R_drewN | apply Kd.R_drew)); exact HO224.out) hb); have n2_ := Aside0.mk (blk_below (g := gb200) (o := .cells #[.int .i64 t174, .int .i64 t175, .int .i64 t176, .int .i64 t177, .int .i64 t178, .int .i64 t179, .int .i64 t180, .int .i64 t181, .int .i64 t182, .int .i64 t183, .bool t184, .bool t185, .string t186, .int .i64 t187, .int .i64 t188, .string t189, .int .i64 t190, .bool t191, .int .i64 t192, .string t193, .string t194, .slice Ao10 t195.length co10, .int .i64 t198] 34 (0, 0)) (by (with_reducible repeat (first | refine blk_drewN ?_ _ | refine blk_drew ?_ | refine blk_alloc ?_ _)); exact BK200.out) hb); have n3_ := Aside0.mk (below_step (by repeat (first | (with_reducible first | exact HB.out | apply below_alloc | apply pw_below_drewN | apply below_drew1 | refine below_set ?_ GE200.out) | exact HB.out)) hb); have n4_ := Aside0.mk (hbox); have n5_ := Aside0.mk ((by rw [hg]; exact (below_size (by repeat (first | (with_reducible first | exact HB.out | apply below_alloc | apply pw_below_drewN | apply below_drew1 | refine below_set ?_ GE200.out) | exact HB.out))) : w.heap.size ≤ gb227)); have n6_ := Aside0.mk ((by rw [hg]; exact (below_size (by repeat (first | (with_reducible first | exact HB.out | apply below_alloc | apply pw_below_drewN | apply below_drew1 | refine below_set ?_ GE200.out) | exact HB.out))) : w.heap.size ≤ gb227)); have n7_ := Aside0.mk ((by rw [hg]; exact Nat.ne_of_lt (blk_lt (g := gb200) (o := .cells #[.int .i64 t174, .int .i64 t175, .int .i64 t176, .int .i64 t177, .int .i64 t178, .int .i64 t179, .int .i64 t180, .int .i64 t181, .int .i64 t182, .int .i64 t183, .bool t184, .bool t185, .string t186, .int .i64 t187, .int .i64 t188, .string t189, .int .i64 t190, .bool t191, .int .i64 t192, .string t193, .string t194, .slice Ao10 t195.length co10, .int .i64 t198] 34 (0, 0)) (by (with_reducible repeat (first | refine blk_drewN ?_ _ | refine blk_drew ?_ | refine blk_alloc ?_ _)); exact BK200.out)) : gb200 ≠ gb227)); have n8_ := Aside0.mk ((by rw [hg]; exact Nat.ne_of_gt (blk_lt (g := gb200) (o := .cells #[.int .i64 t174, .int .i64 t175, .int .i64 t176, .int .i64 t177, .int .i64 t178, .int .i64 t179, .int .i64 t180, .int .i64 t181, .int .i64 t182, .int .i64 t183, .bool t184, .bool t185, .string t186, .int .i64 t187, .int .i64 t188, .string t189, .int .i64 t190, .bool t191, .int .i64 t192, .string t193, .string t194, .slice Ao10 t195.length co10, .int .i64 t198] 34 (0, 0)) (by (with_reducible repeat (first | refine blk_drewN ?_ _ | refine blk_drew ?_ | refine blk_alloc ?_ _)); exact BK200.out)) : gb227 ≠ gb200)); clear HO197; clear HO224; clear BK200; clear HB; have HO197 := n0_; have HO224 := n1_; have BK200 := n2_; have HB := n3_; have BK227 := n4_; have GW227 := n5_; have GE227 := n6_; have NB200_227 := n7_; have NB227_200 := n8_; clear n0_ n1_ n2_ n3_ n4_ n5_ n6_ n7_ n8_; clear hb hbox hg; obtain ⟨Ao15, co15, eo15⟩ := Kd.R_slice HO224.out; subst eo15))
    (try simp only [Act.put, List.setIfInBounds_toArray, List.set_cons_zero, List.set_cons_succ])
    go_cut [36] (fun v36 wc => ∃ (kq : Nat) (x36_5 : Bool), v36 = .bool x36_5 ∧ Aside0 (laws_FnExactMachineNew.j0 kq a0 a1 t199 x36_5 t174 t175 t176 t177 t178 t179 t180 t181 t182 t183 t184 t185 t186 t187 t188 t189 t190 t191 t192 t193 t194 t195 t198 t201 t202 t203 t204 t205 t206 t207 t208 t209 t210 t211 t212 t213 t214 t215 t216 t217 t218 t219 t220 t221 t222 t225 = some r) ∧ Aside0 (kq ≤ k) ∧ Aside0 (Kd.R (Kd.int .i64) 2 wc w.heap.size (fun k_ => some k_ ≠ ((.slice Ao15 t222.length co15) : Value).ownBlock) (.slice Ao10 t195.length co10) t195) ∧ Aside0 (Kd.R (Kd.int .i64) 2 wc w.heap.size (fun k_ => some k_ ≠ ((.slice Ao10 t195.length co10) : Value).ownBlock) (.slice Ao15 t222.length co15) t222) ∧ Aside0 (wc.heap[gb200]? = some (.cells #[.int .i64 t174, .int .i64 t175, .int .i64 t176, .int .i64 t177, .int .i64 t178, .int .i64 t179, .int .i64 t180, .int .i64 t181, .int .i64 t182, .int .i64 t183, .bool t184, .bool t185, .string t186, .int .i64 t187, .int .i64 t188, .string t189, .int .i64 t190, .bool t191, .int .i64 t192, .string t193, .string t194, (.slice Ao10 t195.length co10), .int .i64 t198] 34 (0, 0))) ∧ Aside0 (wc.heap[gb227]? = some (.cells #[.int .i64 t201, .int .i64 t202, .int .i64 t203, .int .i64 t204, .int .i64 t205, .int .i64 t206, .int .i64 t207, .int .i64 t208, .int .i64 t209, .int .i64 t210, .bool t211, .bool t212, .string t213, .int .i64 t214, .int .i64 t215, .string t216, .int .i64 t217, .bool t218, .int .i64 t219, .string t220, .string t221, (.slice Ao15 t222.length co15), .int .i64 t225] 34 (0, 0))) ∧ Aside0 (Below w.heap.size w wc))
    case first =>
      have H := HC6.out
      clear HC6
      replace H := Option.bind_eq_some_iff.mp H
      obtain ⟨t228, A160, H⟩ := H
      replace H : (if t228 = true then (laws_FnExactMachineNew.j0 k a0 a1 t199 (t226 != t199) t174 t175 t176 t177 t178 t179 t180 t181 t182 t183 t184 t185 t186 t187 t188 t189 t190 t191 t192 t193 t194 t195 t198 t201 t202 t203 t204 t205 t206 t207 t208 t209 t210 t211 t212 t213 t214 t215 t216 t217 t218 t219 t220 t221 t222 t225) else (laws_FnExactMachineNew.j0 k a0 a1 t199 true t174 t175 t176 t177 t178 t179 t180 t181 t182 t183 t184 t185 t186 t187 t188 t189 t190 t191 t192 t193 t194 t195 t198 t201 t202 t203 t204 t205 t206 t207 t208 t209 t210 t211 t212 t213 t214 t215 t216 t217 t218 t219 t220 t221 t222 t225)) = some r := H
      have A16 := Aside0.mk A160
      clear A160
      by_cases c17 : t228 = true
      · subst c17
        have H1 : (laws_FnExactMachineNew.j0 k a0 a1 t199 (t226 != t199) t174 t175 t176 t177 t178 t179 t180 t181 t182 t183 t184 t185 t186 t187 t188 t189 t190 t191 t192 t193 t194 t195 t198 t201 t202 t203 t204 t205 t206 t207 t208 t209 t210 t211 t212 t213 t214 t215 t216 t217 t218 t219 t220 t221 t222 t225) = some r := by rw [if_pos rfl] at H; exact H
        clear H
        have H := H1
        clear H1
        have H' := Aside0.mk H
        clear H
        have hnb18 := NB227_200.out
        have hnc18 := NB200_227.out
        go_wp2_with (first | ((with_reducible refine gate_store (t := 34) (p := 5) rfl ?_); refine store_blkg rfl (ty := 34) (p := 5) rfl rfl BK200.out 0 rfl rfl (Nat.le_of_ble_eq_true rfl) (by kernel_rfl) (by simp [Value.oneCell']) ?_; intro w_ hbk hgr; simp only [putAt, List.setIfInBounds_toArray, List.set_cons_zero, List.set_cons_succ, Nat.zero_add, Nat.reduceAdd] at hbk; (try (have N_ := Aside0.mk (Kd.R_mono (Kd.R_grown (Kd.R_types HO197.out BK200.out (by decide)) hgr (fun _ hk_ e_ => hk_.2 (by injection e_))) (fun _ hk_ => hk_.1)); clear HO197; have HO197 := N_; clear N_)); (try (have N_ := Aside0.mk (Kd.R_mono (Kd.R_grown (Kd.R_types HO224.out BK200.out (by decide)) hgr (fun _ hk_ e_ => hk_.2 (by injection e_))) (fun _ hk_ => hk_.1)); clear HO224; have HO224 := N_; clear N_)); (try (have N_ := Aside0.mk (blk_other BK227.out hgr NB227_200.out); clear BK227; have BK227 := N_; clear N_)); (try (have N_ := Aside0.mk (blk_other BK258.out hgr NB258_200.out); clear BK258; have BK258 := N_; clear N_)); have N_ := Aside0.mk (below_grown (by repeat (first | exact HB.out | apply below_alloc | apply pw_below_drewN | apply below_drew1)) hgr GE200.out); clear HB; have HB := N_; clear N_; clear BK200; have BK200 := Aside0.mk hbk; clear hbk hgr) | ((with_reducible refine gate_store (t := 34) (p := 7) rfl ?_); refine store_blkg rfl (ty := 34) (p := 7) rfl rfl BK227.out 0 rfl rfl (Nat.le_of_ble_eq_true rfl) (by kernel_rfl) (by simp [Value.oneCell']) ?_; intro w_ hbk hgr; simp only [putAt, List.setIfInBounds_toArray, List.set_cons_zero, List.set_cons_succ, Nat.zero_add, Nat.reduceAdd] at hbk; (try (have N_ := Aside0.mk (Kd.R_mono (Kd.R_grown (Kd.R_types HO197.out BK227.out (by decide)) hgr (fun _ hk_ e_ => hk_.2 (by injection e_))) (fun _ hk_ => hk_.1)); clear HO197; have HO197 := N_; clear N_)); (try (have N_ := Aside0.mk (Kd.R_mono (Kd.R_grown (Kd.R_types HO224.out BK227.out (by decide)) hgr (fun _ hk_ e_ => hk_.2 (by injection e_))) (fun _ hk_ => hk_.1)); clear HO224; have HO224 := N_; clear N_)); (try (have N_ := Aside0.mk (blk_other BK200.out hgr NB200_227.out); clear BK200; have BK200 := N_; clear N_)); (try (have N_ := Aside0.mk (blk_other BK258.out hgr NB258_227.out); clear BK258; have BK258 := N_; clear N_)); have N_ := Aside0.mk (below_grown (by repeat (first | exact HB.out | apply below_alloc | apply pw_below_drewN | apply below_drew1)) hgr GE227.out); clear HB; have HB := N_; clear N_; clear BK227; have BK227 := Aside0.mk hbk; clear hbk hgr) | ((with_reducible refine gate_dst (N := 28) rfl ?_); refine load_blkg rfl (ty := 34) (p := 7) rfl BK227.out 0 23 rfl rfl Try.underlying34 rfl (by kernel_rfl) ?_; simp only [List.drop_succ_cons, List.drop_zero, List.take_succ_cons, List.take_zero, Act.put, List.setIfInBounds_toArray, List.set_cons_zero, List.set_cons_succ, Option.elim]) | ((with_reducible refine gate_dst (N := 29) rfl ?_); refine load_blkg rfl (ty := 34) (p := 5) rfl BK200.out 0 23 rfl rfl Try.underlying34 rfl (by kernel_rfl) ?_; simp only [List.drop_succ_cons, List.drop_zero, List.take_succ_cons, List.take_zero, Act.put, List.setIfInBounds_toArray, List.set_cons_zero, List.set_cons_succ, Option.elim]) | ((with_reducible refine gate_dst (N := 37) rfl ?_); refine load_blkg rfl (ty := 34) (p := 7) rfl BK227.out 0 23 rfl rfl Try.underlying34 rfl (by kernel_rfl) ?_; simp only [List.drop_succ_cons, List.drop_zero, List.take_succ_cons, List.take_zero, Act.put, List.setIfInBounds_toArray, List.set_cons_zero, List.set_cons_succ, Option.elim]) | ((with_reducible refine gate_dst (N := 40) rfl ?_); refine load_blkg rfl (ty := 34) (p := 7) rfl BK227.out 0 23 rfl rfl Try.underlying34 rfl (by kernel_rfl) ?_; simp only [List.drop_succ_cons, List.drop_zero, List.take_succ_cons, List.take_zero, Act.put, List.setIfInBounds_toArray, List.set_cons_zero, List.set_cons_succ, Option.elim]) | ((with_reducible refine gate_store (t := 34) (p := 11) rfl ?_); refine store_blkg rfl (ty := 34) (p := 11) rfl rfl BK258.out 0 rfl rfl (Nat.le_of_ble_eq_true rfl) (by kernel_rfl) (by simp [Value.oneCell']) ?_; intro w_ hbk hgr; simp only [putAt, List.setIfInBounds_toArray, List.set_cons_zero, List.set_cons_succ, Nat.zero_add, Nat.reduceAdd] at hbk; (try (have N_ := Aside0.mk (Kd.R_mono (Kd.R_grown (Kd.R_types HO197.out BK258.out (by decide)) hgr (fun _ hk_ e_ => hk_.2 (by injection e_))) (fun _ hk_ => hk_.1)); clear HO197; have HO197 := N_; clear N_)); (try (have N_ := Aside0.mk (Kd.R_mono (Kd.R_grown (Kd.R_types HO224.out BK258.out (by decide)) hgr (fun _ hk_ e_ => hk_.2 (by injection e_))) (fun _ hk_ => hk_.1)); clear HO224; have HO224 := N_; clear N_)); (try (have N_ := Aside0.mk (blk_other BK200.out hgr NB200_258.out); clear BK200; have BK200 := N_; clear N_)); (try (have N_ := Aside0.mk (blk_other BK227.out hgr NB227_258.out); clear BK227; have BK227 := N_; clear N_)); have N_ := Aside0.mk (below_grown (by repeat (first | exact HB.out | apply below_alloc | apply pw_below_drewN | apply below_drew1)) hgr GE258.out); clear HB; have HB := N_; clear N_; clear BK258; have BK258 := Aside0.mk hbk; clear hbk hgr) | ((with_reducible refine gate_dst (N := 54) rfl ?_); refine load_blkg rfl (ty := 34) (p := 11) rfl BK258.out 0 23 rfl rfl Try.underlying34 rfl (by kernel_rfl) ?_; simp only [List.drop_succ_cons, List.drop_zero, List.take_succ_cons, List.take_zero, Act.put, List.setIfInBounds_toArray, List.set_cons_zero, List.set_cons_succ, Option.elim]) | ((with_reducible refine gate_dst (N := 55) rfl ?_); refine load_blkg rfl (ty := 34) (p := 5) rfl BK200.out 0 23 rfl rfl Try.underlying34 rfl (by kernel_rfl) ?_; simp only [List.drop_succ_cons, List.drop_zero, List.take_succ_cons, List.take_zero, Act.put, List.setIfInBounds_toArray, List.set_cons_zero, List.set_cons_succ, Option.elim]) | ((with_reducible refine gate_dst (N := 63) rfl ?_); refine load_blkg rfl (ty := 34) (p := 7) rfl BK227.out 0 23 rfl rfl Try.underlying34 rfl (by kernel_rfl) ?_; simp only [List.drop_succ_cons, List.drop_zero, List.take_succ_cons, List.take_zero, Act.put, List.setIfInBounds_toArray, List.set_cons_zero, List.set_cons_succ, Option.elim]) | ((with_reducible refine gate_callee (f := 11) rfl ?_); refine goesL_ (some 30) rfl rfl Try.func11 (by kernel_rfl) rfl #[.agg #[.int .i64 t201, .int .i64 t202, .int .i64 t203, .int .i64 t204, .int .i64 t205, .int .i64 t206, .int .i64 t207, .int .i64 t208, .int .i64 t209, .int .i64 t210, .bool t211, .bool t212, .string t213, .int .i64 t214, .int .i64 t215, .string t216, .int .i64 t217, .bool t218, .int .i64 t219, .string t220, .string t221, .slice Ao15 t222.length co15, .int .i64 t225], .agg #[.int .i64 t174, .int .i64 t175, .int .i64 t176, .int .i64 t177, .int .i64 t178, .int .i64 t179, .int .i64 t180, .int .i64 t181, .int .i64 t182, .int .i64 t183, .bool t184, .bool t185, .string t186, .int .i64 t187, .int .i64 t188, .string t189, .int .i64 t190, .bool t191, .int .i64 t192, .string t193, .string t194, .slice Ao10 t195.length co10, .int .i64 t198]] rfl (by (try simp only [List.map_toArray, List.map_cons, List.map_nil]); first | done | rfl | (simp only [List.length_drop, List.length_take]; rfl)) ?_; (with_reducible refine (laws_eqMachine.calls k t201 t202 t203 t204 t205 t206 t207 t208 t209 t210 t211 t212 t213 t214 t215 t216 t217 t218 t219 t220 t221 _ _ t222 t225 t174 t175 t176 t177 t178 t179 t180 t181 t182 t183 t184 t185 t186 t187 t188 t189 t190 t191 t192 t193 t194 _ _ t195 t198 true _ ?side1 ?side2 ?side3 ?side4 A16.out).mono ?_); (case side1 => refine (Kd.R_reads' (e := 2) (base := w.heap.size) (ok := fun k_ => (True ∧ some k_ ≠ (.slice Ao10 t195.length co10 : Value).ownBlock)) (n := t222.length) (c := co15) ?_).2.2; exact (by (with_reducible repeat (first | apply Kd.R_alloc | apply Kd.R_drewN | apply Kd.R_drew)); exact (HO224.out))); (case side2 => exact (Kd.R_reads' HO224.out).2.1); (case side3 => refine (Kd.R_reads' (e := 2) (base := w.heap.size) (ok := fun k_ => (True ∧ some k_ ≠ (.slice Ao15 t222.length co15 : Value).ownBlock)) (n := t195.length) (c := co10) ?_).2.2; exact (by (with_reducible repeat (first | apply Kd.R_alloc | apply Kd.R_drewN | apply Kd.R_drew)); exact (HO197.out))); (case side4 => exact (Kd.R_reads' HO197.out).2.1); rintro e w21 ⟨rfl, hb⟩; refine ⟨_, rfl, ?_⟩; have n0_ := Aside0.mk (Kd.R_below (by (with_reducible repeat (first | apply Kd.R_alloc | apply Kd.R_drewN | apply Kd.R_drew)); exact (HO197.out)) hb); have n1_ := Aside0.mk (Kd.R_below (by (with_reducible repeat (first | apply Kd.R_alloc | apply Kd.R_drewN | apply Kd.R_drew)); exact (HO224.out)) hb); have n2_ := Aside0.mk (blk_below (g := gb200) (o := .cells #[.int .i64 t174, .int .i64 t175, .int .i64 t176, .int .i64 t177, .int .i64 t178, .int .i64 t179, .int .i64 t180, .int .i64 t181, .int .i64 t182, .int .i64 t183, .bool t184, .bool t185, .string t186, .int .i64 t187, .int .i64 t188, .string t189, .int .i64 t190, .bool t191, .int .i64 t192, .string t193, .string t194, .slice Ao10 t195.length co10, .int .i64 t198] 34 (0, 0)) (by (with_reducible repeat (first | refine blk_drewN ?_ _ | refine blk_drew ?_ | refine blk_alloc ?_ _)); exact BK200.out) hb); have n3_ := Aside0.mk (blk_below (g := gb227) (o := .cells #[.int .i64 t201, .int .i64 t202, .int .i64 t203, .int .i64 t204, .int .i64 t205, .int .i64 t206, .int .i64 t207, .int .i64 t208, .int .i64 t209, .int .i64 t210, .bool t211, .bool t212, .string t213, .int .i64 t214, .int .i64 t215, .string t216, .int .i64 t217, .bool t218, .int .i64 t219, .string t220, .string t221, .slice Ao15 t222.length co15, .int .i64 t225] 34 (0, 0)) (by (with_reducible repeat (first | refine blk_drewN ?_ _ | refine blk_drew ?_ | refine blk_alloc ?_ _)); exact BK227.out) hb); have n4_ := Aside0.mk (below_step (by repeat (first | (with_reducible first | exact HB.out | apply below_alloc | apply pw_below_drewN | apply below_drew1 | refine below_set ?_ GE200.out | refine below_set ?_ GE227.out) | exact HB.out)) hb); clear HO197; clear HO224; clear BK200; clear BK227; clear HB; have HO197 := n0_; have HO224 := n1_; have BK200 := n2_; have BK227 := n3_; have HB := n4_; clear n0_ n1_ n2_ n3_ n4_; (try clear hb); (try clear hb2); (try clear hk); (try clear hi)))
        go_meet
        case rel => exact ⟨_, ((t226 != t199)), (by first | rfl | (simp; done) | (simp [*]; done)), H', ⟨by first | omega | exact Nat.le_refl _⟩, ⟨by (with_reducible repeat (first | apply Kd.R_alloc | apply Kd.R_drewN | apply Kd.R_drew)); exact Kd.R_mono HO197.out (fun _ hk => hk.2)⟩, ⟨by (with_reducible repeat (first | apply Kd.R_alloc | apply Kd.R_drewN | apply Kd.R_drew)); exact Kd.R_mono HO224.out (fun _ hk => hk.2)⟩, ⟨by (with_reducible repeat (first | refine blk_drewN ?_ _ | refine blk_drew ?_ | refine blk_alloc ?_ _)); exact BK200.out⟩, ⟨by (with_reducible repeat (first | refine blk_drewN ?_ _ | refine blk_drew ?_ | refine blk_alloc ?_ _)); exact BK227.out⟩, ⟨by repeat (first | (with_reducible first | exact HB.out | apply below_alloc | apply pw_below_drewN | apply below_drew1 | refine below_set ?_ GE200.out | refine below_set ?_ GE227.out) | exact HB.out)⟩⟩
      · replace c17 := Bool.eq_false_iff.mpr c17
        subst c17
        have H1 : (laws_FnExactMachineNew.j0 k a0 a1 t199 true t174 t175 t176 t177 t178 t179 t180 t181 t182 t183 t184 t185 t186 t187 t188 t189 t190 t191 t192 t193 t194 t195 t198 t201 t202 t203 t204 t205 t206 t207 t208 t209 t210 t211 t212 t213 t214 t215 t216 t217 t218 t219 t220 t221 t222 t225) = some r := by rw [if_neg (show ¬ (false = true) by decide)] at H; exact H
        clear H
        have H := H1
        clear H1
        have H' := Aside0.mk H
        clear H
        have hnb22 := NB227_200.out
        have hnc22 := NB200_227.out
        go_wp2_with (first | ((with_reducible refine gate_store (t := 34) (p := 5) rfl ?_); refine store_blkg rfl (ty := 34) (p := 5) rfl rfl BK200.out 0 rfl rfl (Nat.le_of_ble_eq_true rfl) (by kernel_rfl) (by simp [Value.oneCell']) ?_; intro w_ hbk hgr; simp only [putAt, List.setIfInBounds_toArray, List.set_cons_zero, List.set_cons_succ, Nat.zero_add, Nat.reduceAdd] at hbk; (try (have N_ := Aside0.mk (Kd.R_mono (Kd.R_grown (Kd.R_types HO197.out BK200.out (by decide)) hgr (fun _ hk_ e_ => hk_.2 (by injection e_))) (fun _ hk_ => hk_.1)); clear HO197; have HO197 := N_; clear N_)); (try (have N_ := Aside0.mk (Kd.R_mono (Kd.R_grown (Kd.R_types HO224.out BK200.out (by decide)) hgr (fun _ hk_ e_ => hk_.2 (by injection e_))) (fun _ hk_ => hk_.1)); clear HO224; have HO224 := N_; clear N_)); (try (have N_ := Aside0.mk (blk_other BK227.out hgr NB227_200.out); clear BK227; have BK227 := N_; clear N_)); (try (have N_ := Aside0.mk (blk_other BK258.out hgr NB258_200.out); clear BK258; have BK258 := N_; clear N_)); have N_ := Aside0.mk (below_grown (by repeat (first | exact HB.out | apply below_alloc | apply pw_below_drewN | apply below_drew1)) hgr GE200.out); clear HB; have HB := N_; clear N_; clear BK200; have BK200 := Aside0.mk hbk; clear hbk hgr) | ((with_reducible refine gate_store (t := 34) (p := 7) rfl ?_); refine store_blkg rfl (ty := 34) (p := 7) rfl rfl BK227.out 0 rfl rfl (Nat.le_of_ble_eq_true rfl) (by kernel_rfl) (by simp [Value.oneCell']) ?_; intro w_ hbk hgr; simp only [putAt, List.setIfInBounds_toArray, List.set_cons_zero, List.set_cons_succ, Nat.zero_add, Nat.reduceAdd] at hbk; (try (have N_ := Aside0.mk (Kd.R_mono (Kd.R_grown (Kd.R_types HO197.out BK227.out (by decide)) hgr (fun _ hk_ e_ => hk_.2 (by injection e_))) (fun _ hk_ => hk_.1)); clear HO197; have HO197 := N_; clear N_)); (try (have N_ := Aside0.mk (Kd.R_mono (Kd.R_grown (Kd.R_types HO224.out BK227.out (by decide)) hgr (fun _ hk_ e_ => hk_.2 (by injection e_))) (fun _ hk_ => hk_.1)); clear HO224; have HO224 := N_; clear N_)); (try (have N_ := Aside0.mk (blk_other BK200.out hgr NB200_227.out); clear BK200; have BK200 := N_; clear N_)); (try (have N_ := Aside0.mk (blk_other BK258.out hgr NB258_227.out); clear BK258; have BK258 := N_; clear N_)); have N_ := Aside0.mk (below_grown (by repeat (first | exact HB.out | apply below_alloc | apply pw_below_drewN | apply below_drew1)) hgr GE227.out); clear HB; have HB := N_; clear N_; clear BK227; have BK227 := Aside0.mk hbk; clear hbk hgr) | ((with_reducible refine gate_dst (N := 28) rfl ?_); refine load_blkg rfl (ty := 34) (p := 7) rfl BK227.out 0 23 rfl rfl Try.underlying34 rfl (by kernel_rfl) ?_; simp only [List.drop_succ_cons, List.drop_zero, List.take_succ_cons, List.take_zero, Act.put, List.setIfInBounds_toArray, List.set_cons_zero, List.set_cons_succ, Option.elim]) | ((with_reducible refine gate_dst (N := 29) rfl ?_); refine load_blkg rfl (ty := 34) (p := 5) rfl BK200.out 0 23 rfl rfl Try.underlying34 rfl (by kernel_rfl) ?_; simp only [List.drop_succ_cons, List.drop_zero, List.take_succ_cons, List.take_zero, Act.put, List.setIfInBounds_toArray, List.set_cons_zero, List.set_cons_succ, Option.elim]) | ((with_reducible refine gate_dst (N := 37) rfl ?_); refine load_blkg rfl (ty := 34) (p := 7) rfl BK227.out 0 23 rfl rfl Try.underlying34 rfl (by kernel_rfl) ?_; simp only [List.drop_succ_cons, List.drop_zero, List.take_succ_cons, List.take_zero, Act.put, List.setIfInBounds_toArray, List.set_cons_zero, List.set_cons_succ, Option.elim]) | ((with_reducible refine gate_dst (N := 40) rfl ?_); refine load_blkg rfl (ty := 34) (p := 7) rfl BK227.out 0 23 rfl rfl Try.underlying34 rfl (by kernel_rfl) ?_; simp only [List.drop_succ_cons, List.drop_zero, List.take_succ_cons, List.take_zero, Act.put, List.setIfInBounds_toArray, List.set_cons_zero, List.set_cons_succ, Option.elim]) | ((with_reducible refine gate_store (t := 34) (p := 11) rfl ?_); refine store_blkg rfl (ty := 34) (p := 11) rfl rfl BK258.out 0 rfl rfl (Nat.le_of_ble_eq_true rfl) (by kernel_rfl) (by simp [Value.oneCell']) ?_; intro w_ hbk hgr; simp only [putAt, List.setIfInBounds_toArray, List.set_cons_zero, List.set_cons_succ, Nat.zero_add, Nat.reduceAdd] at hbk; (try (have N_ := Aside0.mk (Kd.R_mono (Kd.R_grown (Kd.R_types HO197.out BK258.out (by decide)) hgr (fun _ hk_ e_ => hk_.2 (by injection e_))) (fun _ hk_ => hk_.1)); clear HO197; have HO197 := N_; clear N_)); (try (have N_ := Aside0.mk (Kd.R_mono (Kd.R_grown (Kd.R_types HO224.out BK258.out (by decide)) hgr (fun _ hk_ e_ => hk_.2 (by injection e_))) (fun _ hk_ => hk_.1)); clear HO224; have HO224 := N_; clear N_)); (try (have N_ := Aside0.mk (blk_other BK200.out hgr NB200_258.out); clear BK200; have BK200 := N_; clear N_)); (try (have N_ := Aside0.mk (blk_other BK227.out hgr NB227_258.out); clear BK227; have BK227 := N_; clear N_)); have N_ := Aside0.mk (below_grown (by repeat (first | exact HB.out | apply below_alloc | apply pw_below_drewN | apply below_drew1)) hgr GE258.out); clear HB; have HB := N_; clear N_; clear BK258; have BK258 := Aside0.mk hbk; clear hbk hgr) | ((with_reducible refine gate_dst (N := 54) rfl ?_); refine load_blkg rfl (ty := 34) (p := 11) rfl BK258.out 0 23 rfl rfl Try.underlying34 rfl (by kernel_rfl) ?_; simp only [List.drop_succ_cons, List.drop_zero, List.take_succ_cons, List.take_zero, Act.put, List.setIfInBounds_toArray, List.set_cons_zero, List.set_cons_succ, Option.elim]) | ((with_reducible refine gate_dst (N := 55) rfl ?_); refine load_blkg rfl (ty := 34) (p := 5) rfl BK200.out 0 23 rfl rfl Try.underlying34 rfl (by kernel_rfl) ?_; simp only [List.drop_succ_cons, List.drop_zero, List.take_succ_cons, List.take_zero, Act.put, List.setIfInBounds_toArray, List.set_cons_zero, List.set_cons_succ, Option.elim]) | ((with_reducible refine gate_dst (N := 63) rfl ?_); refine load_blkg rfl (ty := 34) (p := 7) rfl BK227.out 0 23 rfl rfl Try.underlying34 rfl (by kernel_rfl) ?_; simp only [List.drop_succ_cons, List.drop_zero, List.take_succ_cons, List.take_zero, Act.put, List.setIfInBounds_toArray, List.set_cons_zero, List.set_cons_succ, Option.elim]) | ((with_reducible refine gate_callee (f := 11) rfl ?_); refine goesL_ (some 30) rfl rfl Try.func11 (by kernel_rfl) rfl #[.agg #[.int .i64 t201, .int .i64 t202, .int .i64 t203, .int .i64 t204, .int .i64 t205, .int .i64 t206, .int .i64 t207, .int .i64 t208, .int .i64 t209, .int .i64 t210, .bool t211, .bool t212, .string t213, .int .i64 t214, .int .i64 t215, .string t216, .int .i64 t217, .bool t218, .int .i64 t219, .string t220, .string t221, .slice Ao15 t222.length co15, .int .i64 t225], .agg #[.int .i64 t174, .int .i64 t175, .int .i64 t176, .int .i64 t177, .int .i64 t178, .int .i64 t179, .int .i64 t180, .int .i64 t181, .int .i64 t182, .int .i64 t183, .bool t184, .bool t185, .string t186, .int .i64 t187, .int .i64 t188, .string t189, .int .i64 t190, .bool t191, .int .i64 t192, .string t193, .string t194, .slice Ao10 t195.length co10, .int .i64 t198]] rfl (by (try simp only [List.map_toArray, List.map_cons, List.map_nil]); first | done | rfl | (simp only [List.length_drop, List.length_take]; rfl)) ?_; (with_reducible refine (laws_eqMachine.calls k t201 t202 t203 t204 t205 t206 t207 t208 t209 t210 t211 t212 t213 t214 t215 t216 t217 t218 t219 t220 t221 _ _ t222 t225 t174 t175 t176 t177 t178 t179 t180 t181 t182 t183 t184 t185 t186 t187 t188 t189 t190 t191 t192 t193 t194 _ _ t195 t198 false _ ?side1 ?side2 ?side3 ?side4 A16.out).mono ?_); (case side1 => refine (Kd.R_reads' (e := 2) (base := w.heap.size) (ok := fun k_ => (True ∧ some k_ ≠ (.slice Ao10 t195.length co10 : Value).ownBlock)) (n := t222.length) (c := co15) ?_).2.2; exact (by (with_reducible repeat (first | apply Kd.R_alloc | apply Kd.R_drewN | apply Kd.R_drew)); exact (HO224.out))); (case side2 => exact (Kd.R_reads' HO224.out).2.1); (case side3 => refine (Kd.R_reads' (e := 2) (base := w.heap.size) (ok := fun k_ => (True ∧ some k_ ≠ (.slice Ao15 t222.length co15 : Value).ownBlock)) (n := t195.length) (c := co10) ?_).2.2; exact (by (with_reducible repeat (first | apply Kd.R_alloc | apply Kd.R_drewN | apply Kd.R_drew)); exact (HO197.out))); (case side4 => exact (Kd.R_reads' HO197.out).2.1); rintro e w25 ⟨rfl, hb⟩; refine ⟨_, rfl, ?_⟩; have n0_ := Aside0.mk (Kd.R_below (by (with_reducible repeat (first | apply Kd.R_alloc | apply Kd.R_drewN | apply Kd.R_drew)); exact (HO197.out)) hb); have n1_ := Aside0.mk (Kd.R_below (by (with_reducible repeat (first | apply Kd.R_alloc | apply Kd.R_drewN | apply Kd.R_drew)); exact (HO224.out)) hb); have n2_ := Aside0.mk (blk_below (g := gb200) (o := .cells #[.int .i64 t174, .int .i64 t175, .int .i64 t176, .int .i64 t177, .int .i64 t178, .int .i64 t179, .int .i64 t180, .int .i64 t181, .int .i64 t182, .int .i64 t183, .bool t184, .bool t185, .string t186, .int .i64 t187, .int .i64 t188, .string t189, .int .i64 t190, .bool t191, .int .i64 t192, .string t193, .string t194, .slice Ao10 t195.length co10, .int .i64 t198] 34 (0, 0)) (by (with_reducible repeat (first | refine blk_drewN ?_ _ | refine blk_drew ?_ | refine blk_alloc ?_ _)); exact BK200.out) hb); have n3_ := Aside0.mk (blk_below (g := gb227) (o := .cells #[.int .i64 t201, .int .i64 t202, .int .i64 t203, .int .i64 t204, .int .i64 t205, .int .i64 t206, .int .i64 t207, .int .i64 t208, .int .i64 t209, .int .i64 t210, .bool t211, .bool t212, .string t213, .int .i64 t214, .int .i64 t215, .string t216, .int .i64 t217, .bool t218, .int .i64 t219, .string t220, .string t221, .slice Ao15 t222.length co15, .int .i64 t225] 34 (0, 0)) (by (with_reducible repeat (first | refine blk_drewN ?_ _ | refine blk_drew ?_ | refine blk_alloc ?_ _)); exact BK227.out) hb); have n4_ := Aside0.mk (below_step (by repeat (first | (with_reducible first | exact HB.out | apply below_alloc | apply pw_below_drewN | apply below_drew1 | refine below_set ?_ GE200.out | refine below_set ?_ GE227.out) | exact HB.out)) hb); clear HO197; clear HO224; clear BK200; clear BK227; clear HB; have HO197 := n0_; have HO224 := n1_; have BK200 := n2_; have BK227 := n3_; have HB := n4_; clear n0_ n1_ n2_ n3_ n4_; (try clear hb); (try clear hb2); (try clear hk); (try clear hi)))
        go_meet
        case rel => exact ⟨_, (true), (by first | rfl | (simp; done) | (simp [*]; done)), H', ⟨by first | omega | exact Nat.le_refl _⟩, ⟨by (with_reducible repeat (first | apply Kd.R_alloc | apply Kd.R_drewN | apply Kd.R_drew)); exact Kd.R_mono HO197.out (fun _ hk => hk.2)⟩, ⟨by (with_reducible repeat (first | apply Kd.R_alloc | apply Kd.R_drewN | apply Kd.R_drew)); exact Kd.R_mono HO224.out (fun _ hk => hk.2)⟩, ⟨by (with_reducible repeat (first | refine blk_drewN ?_ _ | refine blk_drew ?_ | refine blk_alloc ?_ _)); exact BK200.out⟩, ⟨by (with_reducible repeat (first | refine blk_drewN ?_ _ | refine blk_drew ?_ | refine blk_alloc ?_ _)); exact BK227.out⟩, ⟨by repeat (first | (with_reducible first | exact HB.out | apply below_alloc | apply pw_below_drewN | apply below_drew1 | refine below_set ?_ GE200.out | refine below_set ?_ GE227.out) | exact HB.out)⟩⟩
    case rest =>
      clear HC6
      try clear c1
      try clear c2
      try clear p2
      try clear c3
      try clear c3b0
      try clear c3b1
      try clear c6
      try clear c11
      try clear c13
      try clear c17
      try clear c18
      try clear c19
      try clear c22
      try clear hcz14_0
      try clear hcz14_1
      try clear hcz14_10
      try clear hcz14_11
      try clear hcz14_12
      try clear hcz14_13
      try clear hcz14_14
      try clear hcz14_15
      try clear hcz14_16
      try clear hcz14_17
      try clear hcz14_18
      try clear hcz14_19
      try clear hcz14_2
      try clear hcz14_20
      try clear hcz14_21
      try clear hcz14_22
      try clear hcz14_3
      try clear hcz14_4
      try clear hcz14_5
      try clear hcz14_6
      try clear hcz14_7
      try clear hcz14_8
      try clear hcz14_9
      try clear hcz19_0
      try clear hcz19_1
      try clear hcz19_10
      try clear hcz19_11
      try clear hcz19_12
      try clear hcz19_13
      try clear hcz19_14
      try clear hcz19_15
      try clear hcz19_16
      try clear hcz19_17
      try clear hcz19_18
      try clear hcz19_19
      try clear hcz19_2
      try clear hcz19_20
      try clear hcz19_21
      try clear hcz19_22
      try clear hcz19_3
      try clear hcz19_4
      try clear hcz19_5
      try clear hcz19_6
      try clear hcz19_7
      try clear hcz19_8
      try clear hcz19_9
      try clear hcz20_0
      try clear hcz20_1
      try clear hcz20_10
      try clear hcz20_11
      try clear hcz20_12
      try clear hcz20_13
      try clear hcz20_14
      try clear hcz20_15
      try clear hcz20_16
      try clear hcz20_17
      try clear hcz20_18
      try clear hcz20_19
      try clear hcz20_2
      try clear hcz20_20
      try clear hcz20_21
      try clear hcz20_22
      try clear hcz20_3
      try clear hcz20_4
      try clear hcz20_5
      try clear hcz20_6
      try clear hcz20_7
      try clear hcz20_8
      try clear hcz20_9
      try clear hcz23_0
      try clear hcz23_1
      try clear hcz23_10
      try clear hcz23_11
      try clear hcz23_12
      try clear hcz23_13
      try clear hcz23_14
      try clear hcz23_15
      try clear hcz23_16
      try clear hcz23_17
      try clear hcz23_18
      try clear hcz23_19
      try clear hcz23_2
      try clear hcz23_20
      try clear hcz23_21
      try clear hcz23_22
      try clear hcz23_3
      try clear hcz23_4
      try clear hcz23_5
      try clear hcz23_6
      try clear hcz23_7
      try clear hcz23_8
      try clear hcz23_9
      try clear hcz24_0
      try clear hcz24_1
      try clear hcz24_10
      try clear hcz24_11
      try clear hcz24_12
      try clear hcz24_13
      try clear hcz24_14
      try clear hcz24_15
      try clear hcz24_16
      try clear hcz24_17
      try clear hcz24_18
      try clear hcz24_19
      try clear hcz24_2
      try clear hcz24_20
      try clear hcz24_21
      try clear hcz24_22
      try clear hcz24_3
      try clear hcz24_4
      try clear hcz24_5
      try clear hcz24_6
      try clear hcz24_7
      try clear hcz24_8
      try clear hcz24_9
      try clear hcz9_0
      try clear hcz9_1
      try clear hcz9_10
      try clear hcz9_11
      try clear hcz9_12
      try clear hcz9_13
      try clear hcz9_14
      try clear hcz9_15
      try clear hcz9_16
      try clear hcz9_17
      try clear hcz9_18
      try clear hcz9_19
      try clear hcz9_2
      try clear hcz9_20
      try clear hcz9_21
      try clear hcz9_22
      try clear hcz9_3
      try clear hcz9_4
      try clear hcz9_5
      try clear hcz9_6
      try clear hcz9_7
      try clear hcz9_8
      try clear hcz9_9
      try clear hfz14_0
      try clear hfz14_1
      try clear hfz14_10
      try clear hfz14_11
      try clear hfz14_12
      try clear hfz14_13
      try clear hfz14_14
      try clear hfz14_15
      try clear hfz14_16
      try clear hfz14_17
      try clear hfz14_18
      try clear hfz14_19
      try clear hfz14_2
      try clear hfz14_20
      try clear hfz14_21
      try clear hfz14_22
      try clear hfz14_3
      try clear hfz14_4
      try clear hfz14_5
      try clear hfz14_6
      try clear hfz14_7
      try clear hfz14_8
      try clear hfz14_9
      try clear hfz19_0
      try clear hfz19_1
      try clear hfz19_10
      try clear hfz19_11
      try clear hfz19_12
      try clear hfz19_13
      try clear hfz19_14
      try clear hfz19_15
      try clear hfz19_16
      try clear hfz19_17
      try clear hfz19_18
      try clear hfz19_19
      try clear hfz19_2
      try clear hfz19_20
      try clear hfz19_21
      try clear hfz19_22
      try clear hfz19_3
      try clear hfz19_4
      try clear hfz19_5
      try clear hfz19_6
      try clear hfz19_7
      try clear hfz19_8
      try clear hfz19_9
      try clear hfz20_0
      try clear hfz20_1
      try clear hfz20_10
      try clear hfz20_11
      try clear hfz20_12
      try clear hfz20_13
      try clear hfz20_14
      try clear hfz20_15
      try clear hfz20_16
      try clear hfz20_17
      try clear hfz20_18
      try clear hfz20_19
      try clear hfz20_2
      try clear hfz20_20
      try clear hfz20_21
      try clear hfz20_22
      try clear hfz20_3
      try clear hfz20_4
      try clear hfz20_5
      try clear hfz20_6
      try clear hfz20_7
      try clear hfz20_8
      try clear hfz20_9
      try clear hfz23_0
      try clear hfz23_1
      try clear hfz23_10
      try clear hfz23_11
      try clear hfz23_12
      try clear hfz23_13
      try clear hfz23_14
      try clear hfz23_15
      try clear hfz23_16
      try clear hfz23_17
      try clear hfz23_18
      try clear hfz23_19
      try clear hfz23_2
      try clear hfz23_20
      try clear hfz23_21
      try clear hfz23_22
      try clear hfz23_3
      try clear hfz23_4
      try clear hfz23_5
      try clear hfz23_6
      try clear hfz23_7
      try clear hfz23_8
      try clear hfz23_9
      try clear hfz24_0
      try clear hfz24_1
      try clear hfz24_10
      try clear hfz24_11
      try clear hfz24_12
      try clear hfz24_13
      try clear hfz24_14
      try clear hfz24_15
      try clear hfz24_16
      try clear hfz24_17
      try clear hfz24_18
      try clear hfz24_19
      try clear hfz24_2
      try clear hfz24_20
      try clear hfz24_21
      try clear hfz24_22
      try clear hfz24_3
      try clear hfz24_4
      try clear hfz24_5
      try clear hfz24_6
      try clear hfz24_7
      try clear hfz24_8
      try clear hfz24_9
      try clear hfz9_0
      try clear hfz9_1
      try clear hfz9_10
      try clear hfz9_11
      try clear hfz9_12
      try clear hfz9_13
      try clear hfz9_14
      try clear hfz9_15
      try clear hfz9_16
      try clear hfz9_17
      try clear hfz9_18
      try clear hfz9_19
      try clear hfz9_2
      try clear hfz9_20
      try clear hfz9_21
      try clear hfz9_22
      try clear hfz9_3
      try clear hfz9_4
      try clear hfz9_5
      try clear hfz9_6
      try clear hfz9_7
      try clear hfz9_8
      try clear hfz9_9
      obtain ⟨kq, x36_5, rfl, HA, HJ5, HO_201021, HO_228021, BK200, BK227, HB⟩ := hcut
      cases kq with
      | zero => exact absurd HA.out (by simp [laws_FnExactMachineNew.j0])
      | succ kj5 =>
        have H := HA.out
        clear HA
        simp only [laws_FnExactMachineNew.j0] at H
        by_cases c26 : x36_5 = true
        · subst c26
          have H1 : (some false) = some r := by rw [if_pos rfl] at H; exact H
          clear H
          have H := H1
          clear H1
          obtain rfl := Option.some.inj H
          go_wp2
          go_ret
          exact ⟨by first | rfl | (simp [errW_none, errW_some] <;> rfl) | (simp [*, errW_none, errW_some] <;> rfl), by repeat (first | (with_reducible first | exact HB.out | apply below_alloc | apply pw_below_drewN | apply below_drew1 | refine below_set ?_ GE200.out | refine below_set ?_ GE227.out) | exact HB.out)⟩
        · replace c26 := Bool.eq_false_iff.mpr c26
          subst c26
          have H1 : ((laws_markMachine.f kj5 t201 t202 t203 t204 t205 t206 t207 t208 t209 t210 t211 t212 t213 t214 t215 t216 t217 t218 t219 t220 t221 t222 t225 1).bind fun bt229 => ((laws_heldMachine.f kj5 t201 t202 t203 t204 t205 t206 t207 t208 t209 t210 t211 t212 t213 t214 t215 t216 t217 t218 t219 t220 t221 bt229.2 t225 1).bind fun t231 => (if t231 < 0 then (some false) else (if t231 = bt229.1 then ((impl_MachineNew.f kj5 a0 a1).bind fun bt232 => ((laws_eqMachine.f kj5 bt232.1 bt232.2.1 bt232.2.2.1 bt232.2.2.2.1 bt232.2.2.2.2.1 bt232.2.2.2.2.2.1 bt232.2.2.2.2.2.2.1 bt232.2.2.2.2.2.2.2.1 bt232.2.2.2.2.2.2.2.2.1 bt232.2.2.2.2.2.2.2.2.2.1 bt232.2.2.2.2.2.2.2.2.2.2.1 bt232.2.2.2.2.2.2.2.2.2.2.2.1 bt232.2.2.2.2.2.2.2.2.2.2.2.2.1 bt232.2.2.2.2.2.2.2.2.2.2.2.2.2.1 bt232.2.2.2.2.2.2.2.2.2.2.2.2.2.2.1 bt232.2.2.2.2.2.2.2.2.2.2.2.2.2.2.2.1 bt232.2.2.2.2.2.2.2.2.2.2.2.2.2.2.2.2.1 bt232.2.2.2.2.2.2.2.2.2.2.2.2.2.2.2.2.2.1 bt232.2.2.2.2.2.2.2.2.2.2.2.2.2.2.2.2.2.2.1 bt232.2.2.2.2.2.2.2.2.2.2.2.2.2.2.2.2.2.2.2.1 bt232.2.2.2.2.2.2.2.2.2.2.2.2.2.2.2.2.2.2.2.2.1 bt232.2.2.2.2.2.2.2.2.2.2.2.2.2.2.2.2.2.2.2.2.2.1 bt232.2.2.2.2.2.2.2.2.2.2.2.2.2.2.2.2.2.2.2.2.2.2.1 t174 t175 t176 t177 t178 t179 t180 t181 t182 t183 t184 t185 t186 t187 t188 t189 t190 t191 t192 t193 t194 t195 t198).bind fun t259 => (if t259 = true then (laws_FnExactMachineNew.j1 kj5 bt229.1 (bt232.2.2.2.2.2.2.2.2.2.2.2.2.2.2.2.2.2.2.2.2.2.2.2 != t199) t201 t202 t203 t204 t205 t206 t207 t208 t209 t210 t211 t212 t213 t214 t215 t216 t217 t218 t219 t220 t221 bt229.2 t225) else (laws_FnExactMachineNew.j1 kj5 bt229.1 true t201 t202 t203 t204 t205 t206 t207 t208 t209 t210 t211 t212 t213 t214 t215 t216 t217 t218 t219 t220 t221 bt229.2 t225)))) else (some false))))) = some r := by rw [if_neg (show ¬ (false = true) by decide)] at H; exact H
          clear H
          have H := H1
          clear H1
          replace H := Option.bind_eq_some_iff.mp H
          obtain ⟨⟨t229, t230⟩, A270, H⟩ := H
          replace H : ((laws_heldMachine.f kj5 t201 t202 t203 t204 t205 t206 t207 t208 t209 t210 t211 t212 t213 t214 t215 t216 t217 t218 t219 t220 t221 t230 t225 1).bind fun t231 => (if t231 < 0 then (some false) else (if t231 = t229 then ((impl_MachineNew.f kj5 a0 a1).bind fun bt232 => ((laws_eqMachine.f kj5 bt232.1 bt232.2.1 bt232.2.2.1 bt232.2.2.2.1 bt232.2.2.2.2.1 bt232.2.2.2.2.2.1 bt232.2.2.2.2.2.2.1 bt232.2.2.2.2.2.2.2.1 bt232.2.2.2.2.2.2.2.2.1 bt232.2.2.2.2.2.2.2.2.2.1 bt232.2.2.2.2.2.2.2.2.2.2.1 bt232.2.2.2.2.2.2.2.2.2.2.2.1 bt232.2.2.2.2.2.2.2.2.2.2.2.2.1 bt232.2.2.2.2.2.2.2.2.2.2.2.2.2.1 bt232.2.2.2.2.2.2.2.2.2.2.2.2.2.2.1 bt232.2.2.2.2.2.2.2.2.2.2.2.2.2.2.2.1 bt232.2.2.2.2.2.2.2.2.2.2.2.2.2.2.2.2.1 bt232.2.2.2.2.2.2.2.2.2.2.2.2.2.2.2.2.2.1 bt232.2.2.2.2.2.2.2.2.2.2.2.2.2.2.2.2.2.2.1 bt232.2.2.2.2.2.2.2.2.2.2.2.2.2.2.2.2.2.2.2.1 bt232.2.2.2.2.2.2.2.2.2.2.2.2.2.2.2.2.2.2.2.2.1 bt232.2.2.2.2.2.2.2.2.2.2.2.2.2.2.2.2.2.2.2.2.2.1 bt232.2.2.2.2.2.2.2.2.2.2.2.2.2.2.2.2.2.2.2.2.2.2.1 t174 t175 t176 t177 t178 t179 t180 t181 t182 t183 t184 t185 t186 t187 t188 t189 t190 t191 t192 t193 t194 t195 t198).bind fun t259 => (if t259 = true then (laws_FnExactMachineNew.j1 kj5 t229 (bt232.2.2.2.2.2.2.2.2.2.2.2.2.2.2.2.2.2.2.2.2.2.2.2 != t199) t201 t202 t203 t204 t205 t206 t207 t208 t209 t210 t211 t212 t213 t214 t215 t216 t217 t218 t219 t220 t221 t230 t225) else (laws_FnExactMachineNew.j1 kj5 t229 true t201 t202 t203 t204 t205 t206 t207 t208 t209 t210 t211 t212 t213 t214 t215 t216 t217 t218 t219 t220 t221 t230 t225)))) else (some false)))) = some r := H
          have A27 := Aside0.mk A270
          clear A270
          replace H := Option.bind_eq_some_iff.mp H
          obtain ⟨t231, A280, H⟩ := H
          replace H : (if t231 < 0 then (some false) else (if t231 = t229 then ((impl_MachineNew.f kj5 a0 a1).bind fun bt232 => ((laws_eqMachine.f kj5 bt232.1 bt232.2.1 bt232.2.2.1 bt232.2.2.2.1 bt232.2.2.2.2.1 bt232.2.2.2.2.2.1 bt232.2.2.2.2.2.2.1 bt232.2.2.2.2.2.2.2.1 bt232.2.2.2.2.2.2.2.2.1 bt232.2.2.2.2.2.2.2.2.2.1 bt232.2.2.2.2.2.2.2.2.2.2.1 bt232.2.2.2.2.2.2.2.2.2.2.2.1 bt232.2.2.2.2.2.2.2.2.2.2.2.2.1 bt232.2.2.2.2.2.2.2.2.2.2.2.2.2.1 bt232.2.2.2.2.2.2.2.2.2.2.2.2.2.2.1 bt232.2.2.2.2.2.2.2.2.2.2.2.2.2.2.2.1 bt232.2.2.2.2.2.2.2.2.2.2.2.2.2.2.2.2.1 bt232.2.2.2.2.2.2.2.2.2.2.2.2.2.2.2.2.2.1 bt232.2.2.2.2.2.2.2.2.2.2.2.2.2.2.2.2.2.2.1 bt232.2.2.2.2.2.2.2.2.2.2.2.2.2.2.2.2.2.2.2.1 bt232.2.2.2.2.2.2.2.2.2.2.2.2.2.2.2.2.2.2.2.2.1 bt232.2.2.2.2.2.2.2.2.2.2.2.2.2.2.2.2.2.2.2.2.2.1 bt232.2.2.2.2.2.2.2.2.2.2.2.2.2.2.2.2.2.2.2.2.2.2.1 t174 t175 t176 t177 t178 t179 t180 t181 t182 t183 t184 t185 t186 t187 t188 t189 t190 t191 t192 t193 t194 t195 t198).bind fun t259 => (if t259 = true then (laws_FnExactMachineNew.j1 kj5 t229 (bt232.2.2.2.2.2.2.2.2.2.2.2.2.2.2.2.2.2.2.2.2.2.2.2 != t199) t201 t202 t203 t204 t205 t206 t207 t208 t209 t210 t211 t212 t213 t214 t215 t216 t217 t218 t219 t220 t221 t230 t225) else (laws_FnExactMachineNew.j1 kj5 t229 true t201 t202 t203 t204 t205 t206 t207 t208 t209 t210 t211 t212 t213 t214 t215 t216 t217 t218 t219 t220 t221 t230 t225)))) else (some false))) = some r := H
          have A28 := Aside0.mk A280
          clear A280
          by_cases c29 : t231 < 0
          · rw [if_pos c29] at H
            have c29b0 : decide (t231 < 0) = true := decide_eq_true c29
            clear c29
            obtain rfl := Option.some.inj H
            have hnb30 := NB227_200.out
            have hnc30 := NB200_227.out
            go_wp2_with (first | ((with_reducible refine gate_store (t := 34) (p := 5) rfl ?_); refine store_blkg rfl (ty := 34) (p := 5) rfl rfl BK200.out 0 rfl rfl (Nat.le_of_ble_eq_true rfl) (by kernel_rfl) (by simp [Value.oneCell']) ?_; intro w_ hbk hgr; simp only [putAt, List.setIfInBounds_toArray, List.set_cons_zero, List.set_cons_succ, Nat.zero_add, Nat.reduceAdd] at hbk; (try (have N_ := Aside0.mk (Kd.R_mono (Kd.R_grown (Kd.R_types HO_201021.out BK200.out (by decide)) hgr (fun _ hk_ e_ => hk_.2 (by injection e_))) (fun _ hk_ => hk_.1)); clear HO_201021; have HO_201021 := N_; clear N_)); (try (have N_ := Aside0.mk (Kd.R_mono (Kd.R_grown (Kd.R_types HO_228021.out BK200.out (by decide)) hgr (fun _ hk_ e_ => hk_.2 (by injection e_))) (fun _ hk_ => hk_.1)); clear HO_228021; have HO_228021 := N_; clear N_)); (try (have N_ := Aside0.mk (blk_other BK227.out hgr NB227_200.out); clear BK227; have BK227 := N_; clear N_)); (try (have N_ := Aside0.mk (blk_other BK258.out hgr NB258_200.out); clear BK258; have BK258 := N_; clear N_)); have N_ := Aside0.mk (below_grown (by repeat (first | exact HB.out | apply below_alloc | apply pw_below_drewN | apply below_drew1)) hgr GE200.out); clear HB; have HB := N_; clear N_; clear BK200; have BK200 := Aside0.mk hbk; clear hbk hgr) | ((with_reducible refine gate_store (t := 34) (p := 7) rfl ?_); refine store_blkg rfl (ty := 34) (p := 7) rfl rfl BK227.out 0 rfl rfl (Nat.le_of_ble_eq_true rfl) (by kernel_rfl) (by simp [Value.oneCell']) ?_; intro w_ hbk hgr; simp only [putAt, List.setIfInBounds_toArray, List.set_cons_zero, List.set_cons_succ, Nat.zero_add, Nat.reduceAdd] at hbk; (try (have N_ := Aside0.mk (Kd.R_mono (Kd.R_grown (Kd.R_types HO_201021.out BK227.out (by decide)) hgr (fun _ hk_ e_ => hk_.2 (by injection e_))) (fun _ hk_ => hk_.1)); clear HO_201021; have HO_201021 := N_; clear N_)); (try (have N_ := Aside0.mk (Kd.R_mono (Kd.R_grown (Kd.R_types HO_228021.out BK227.out (by decide)) hgr (fun _ hk_ e_ => hk_.2 (by injection e_))) (fun _ hk_ => hk_.1)); clear HO_228021; have HO_228021 := N_; clear N_)); (try (have N_ := Aside0.mk (blk_other BK200.out hgr NB200_227.out); clear BK200; have BK200 := N_; clear N_)); (try (have N_ := Aside0.mk (blk_other BK258.out hgr NB258_227.out); clear BK258; have BK258 := N_; clear N_)); have N_ := Aside0.mk (below_grown (by repeat (first | exact HB.out | apply below_alloc | apply pw_below_drewN | apply below_drew1)) hgr GE227.out); clear HB; have HB := N_; clear N_; clear BK227; have BK227 := Aside0.mk hbk; clear hbk hgr) | ((with_reducible refine gate_dst (N := 28) rfl ?_); refine load_blkg rfl (ty := 34) (p := 7) rfl BK227.out 0 23 rfl rfl Try.underlying34 rfl (by kernel_rfl) ?_; simp only [List.drop_succ_cons, List.drop_zero, List.take_succ_cons, List.take_zero, Act.put, List.setIfInBounds_toArray, List.set_cons_zero, List.set_cons_succ, Option.elim]) | ((with_reducible refine gate_dst (N := 29) rfl ?_); refine load_blkg rfl (ty := 34) (p := 5) rfl BK200.out 0 23 rfl rfl Try.underlying34 rfl (by kernel_rfl) ?_; simp only [List.drop_succ_cons, List.drop_zero, List.take_succ_cons, List.take_zero, Act.put, List.setIfInBounds_toArray, List.set_cons_zero, List.set_cons_succ, Option.elim]) | ((with_reducible refine gate_dst (N := 37) rfl ?_); refine load_blkg rfl (ty := 34) (p := 7) rfl BK227.out 0 23 rfl rfl Try.underlying34 rfl (by kernel_rfl) ?_; simp only [List.drop_succ_cons, List.drop_zero, List.take_succ_cons, List.take_zero, Act.put, List.setIfInBounds_toArray, List.set_cons_zero, List.set_cons_succ, Option.elim]) | ((with_reducible refine gate_dst (N := 40) rfl ?_); refine load_blkg rfl (ty := 34) (p := 7) rfl BK227.out 0 23 rfl rfl Try.underlying34 rfl (by kernel_rfl) ?_; simp only [List.drop_succ_cons, List.drop_zero, List.take_succ_cons, List.take_zero, Act.put, List.setIfInBounds_toArray, List.set_cons_zero, List.set_cons_succ, Option.elim]) | ((with_reducible refine gate_store (t := 34) (p := 11) rfl ?_); refine store_blkg rfl (ty := 34) (p := 11) rfl rfl BK258.out 0 rfl rfl (Nat.le_of_ble_eq_true rfl) (by kernel_rfl) (by simp [Value.oneCell']) ?_; intro w_ hbk hgr; simp only [putAt, List.setIfInBounds_toArray, List.set_cons_zero, List.set_cons_succ, Nat.zero_add, Nat.reduceAdd] at hbk; (try (have N_ := Aside0.mk (Kd.R_mono (Kd.R_grown (Kd.R_types HO_201021.out BK258.out (by decide)) hgr (fun _ hk_ e_ => hk_.2 (by injection e_))) (fun _ hk_ => hk_.1)); clear HO_201021; have HO_201021 := N_; clear N_)); (try (have N_ := Aside0.mk (Kd.R_mono (Kd.R_grown (Kd.R_types HO_228021.out BK258.out (by decide)) hgr (fun _ hk_ e_ => hk_.2 (by injection e_))) (fun _ hk_ => hk_.1)); clear HO_228021; have HO_228021 := N_; clear N_)); (try (have N_ := Aside0.mk (blk_other BK200.out hgr NB200_258.out); clear BK200; have BK200 := N_; clear N_)); (try (have N_ := Aside0.mk (blk_other BK227.out hgr NB227_258.out); clear BK227; have BK227 := N_; clear N_)); have N_ := Aside0.mk (below_grown (by repeat (first | exact HB.out | apply below_alloc | apply pw_below_drewN | apply below_drew1)) hgr GE258.out); clear HB; have HB := N_; clear N_; clear BK258; have BK258 := Aside0.mk hbk; clear hbk hgr) | ((with_reducible refine gate_dst (N := 54) rfl ?_); refine load_blkg rfl (ty := 34) (p := 11) rfl BK258.out 0 23 rfl rfl Try.underlying34 rfl (by kernel_rfl) ?_; simp only [List.drop_succ_cons, List.drop_zero, List.take_succ_cons, List.take_zero, Act.put, List.setIfInBounds_toArray, List.set_cons_zero, List.set_cons_succ, Option.elim]) | ((with_reducible refine gate_dst (N := 55) rfl ?_); refine load_blkg rfl (ty := 34) (p := 5) rfl BK200.out 0 23 rfl rfl Try.underlying34 rfl (by kernel_rfl) ?_; simp only [List.drop_succ_cons, List.drop_zero, List.take_succ_cons, List.take_zero, Act.put, List.setIfInBounds_toArray, List.set_cons_zero, List.set_cons_succ, Option.elim]) | ((with_reducible refine gate_dst (N := 63) rfl ?_); refine load_blkg rfl (ty := 34) (p := 7) rfl BK227.out 0 23 rfl rfl Try.underlying34 rfl (by kernel_rfl) ?_; simp only [List.drop_succ_cons, List.drop_zero, List.take_succ_cons, List.take_zero, Act.put, List.setIfInBounds_toArray, List.set_cons_zero, List.set_cons_succ, Option.elim]) | ((with_reducible refine gate_callee (f := 16) rfl ?_); refine goesL_ (some 39) rfl rfl Try.func16 (by kernel_rfl) rfl #[.agg #[.int .i64 t201, .int .i64 t202, .int .i64 t203, .int .i64 t204, .int .i64 t205, .int .i64 t206, .int .i64 t207, .int .i64 t208, .int .i64 t209, .int .i64 t210, .bool t211, .bool t212, .string t213, .int .i64 t214, .int .i64 t215, .string t216, .int .i64 t217, .bool t218, .int .i64 t219, .string t220, .string t221, .slice Ao15 t222.length co15, .int .i64 t225], .int .i64 1] rfl (by (try simp only [List.map_toArray, List.map_cons, List.map_nil]); first | done | rfl | (simp only [List.length_drop, List.length_take]; rfl)) ?_; (with_reducible refine (laws_markMachine.calls kj5 t201 t202 t203 t204 t205 t206 t207 t208 t209 t210 t211 t212 t213 t214 t215 t216 t217 t218 t219 t220 t221 (fun k_ => some k_ = (.slice Ao15 t222.length co15 : Value).ownBlock) (.slice Ao15 t222.length co15) t222 t225 1 t229 t230 w _ ?side1 ?side2 A27.out).mono ?_); (case side1 => repeat (first | (with_reducible first | exact HB.out | apply below_alloc | apply pw_below_drewN | apply below_drew1 | refine below_set ?_ GE200.out | refine below_set ?_ GE227.out) | exact HB.out)); (case side2 => exact Kd.R_tight rfl HO_228021.out); rintro e w32 ⟨rfl, hy0, hb, hkp⟩; refine ⟨_, rfl, ?_⟩; have n0_ := Aside0.mk (Kd.R_mono (ok' := fun k_ => some k_ ≠ (.slice Ao15 t222.length co15 : Value).ownBlock) (Kd.R_keptB (HO_201021.out) hkp (fun k_ hk_ hs_ => (hk_) hs_)) (fun k_ hk_ => hk_.1)); have n1_ := Aside0.mk (Kd.R_reok rfl hy0 (fun k_ e_ => HO_228021.out.1 k_ e_)); have n2_ := Aside0.mk (blk_kept (by (with_reducible repeat (first | refine blk_drewN ?_ _ | refine blk_drew ?_ | refine blk_alloc ?_ _)); exact BK200.out) hkp (fun hs_ => (fun e_ => (Kd.R_ne HO_228021.out BK200.out (by decide)) e_) hs_)); have n3_ := Aside0.mk (blk_kept (by (with_reducible repeat (first | refine blk_drewN ?_ _ | refine blk_drew ?_ | refine blk_alloc ?_ _)); exact BK227.out) hkp (fun hs_ => (fun e_ => (Kd.R_ne HO_228021.out BK227.out (by decide)) e_) hs_)); have n4_ := Aside0.mk (hb); clear HO_201021; clear HO_228021; clear BK200; clear BK227; clear HB; have HO_201021 := n0_; have HO_228021 := n1_; have BK200 := n2_; have BK227 := n3_; have HB := n4_; clear n0_ n1_ n2_ n3_ n4_; (try clear hb); (try clear hkp); (try clear hy0)) | ((with_reducible refine gate_callee (f := 17) rfl ?_); refine goesL_ (some 42) rfl rfl Try.func17 (by kernel_rfl) rfl #[.agg #[.int .i64 t201, .int .i64 t202, .int .i64 t203, .int .i64 t204, .int .i64 t205, .int .i64 t206, .int .i64 t207, .int .i64 t208, .int .i64 t209, .int .i64 t210, .bool t211, .bool t212, .string t213, .int .i64 t214, .int .i64 t215, .string t216, .int .i64 t217, .bool t218, .int .i64 t219, .string t220, .string t221, .slice Ao15 t230.length co15, .int .i64 t225], .int .i64 1] rfl (by (try simp only [List.map_toArray, List.map_cons, List.map_nil]); first | done | (rw [show t230.length = t222.length from (Kd.R_reads' HO_228021.out).1.symm] <;> rfl) | rfl | (simp only [List.length_drop, List.length_take]; rfl)) ?_; (with_reducible refine (laws_heldMachine.calls kj5 t201 t202 t203 t204 t205 t206 t207 t208 t209 t210 t211 t212 t213 t214 t215 t216 t217 t218 t219 t220 t221 _ _ t230 t225 1 t231 _ ?side1 ?side2 A28.out).mono ?_); (case side1 => repeat (first | exact (Kd.R_reads' HO_228021.out).2.2 | (with_reducible refine Kd.C_alloc ?_ _) | (with_reducible refine Kd.C_drewN ?_ _) | (with_reducible refine Kd.C_drew ?_))); (case side2 => rw [show t230.length = t222.length from (Kd.R_reads' HO_228021.out).1.symm]; exact (Kd.R_reads' HO_228021.out).2.1); rintro e w34 ⟨rfl, hb⟩; refine ⟨_, rfl, ?_⟩; have n0_ := Aside0.mk (Kd.R_below (by (with_reducible repeat (first | apply Kd.R_alloc | apply Kd.R_drewN | apply Kd.R_drew)); exact HO_201021.out) hb); have n1_ := Aside0.mk (Kd.R_below (by (with_reducible repeat (first | apply Kd.R_alloc | apply Kd.R_drewN | apply Kd.R_drew)); exact HO_228021.out) hb); have n2_ := Aside0.mk (blk_below (g := gb200) (o := .cells #[.int .i64 t174, .int .i64 t175, .int .i64 t176, .int .i64 t177, .int .i64 t178, .int .i64 t179, .int .i64 t180, .int .i64 t181, .int .i64 t182, .int .i64 t183, .bool t184, .bool t185, .string t186, .int .i64 t187, .int .i64 t188, .string t189, .int .i64 t190, .bool t191, .int .i64 t192, .string t193, .string t194, .slice Ao10 t195.length co10, .int .i64 t198] 34 (0, 0)) (by (with_reducible repeat (first | refine blk_drewN ?_ _ | refine blk_drew ?_ | refine blk_alloc ?_ _)); exact BK200.out) hb); have n3_ := Aside0.mk (blk_below (g := gb227) (o := .cells #[.int .i64 t201, .int .i64 t202, .int .i64 t203, .int .i64 t204, .int .i64 t205, .int .i64 t206, .int .i64 t207, .int .i64 t208, .int .i64 t209, .int .i64 t210, .bool t211, .bool t212, .string t213, .int .i64 t214, .int .i64 t215, .string t216, .int .i64 t217, .bool t218, .int .i64 t219, .string t220, .string t221, .slice Ao15 t222.length co15, .int .i64 t225] 34 (0, 0)) (by (with_reducible repeat (first | refine blk_drewN ?_ _ | refine blk_drew ?_ | refine blk_alloc ?_ _)); exact BK227.out) hb); have n4_ := Aside0.mk (below_step (by repeat (first | (with_reducible first | exact HB.out | apply below_alloc | apply pw_below_drewN | apply below_drew1 | refine below_set ?_ GE200.out | refine below_set ?_ GE227.out) | exact HB.out)) hb); clear HO_201021; clear HO_228021; clear BK200; clear BK227; clear HB; have HO_201021 := n0_; have HO_228021 := n1_; have BK200 := n2_; have BK227 := n3_; have HB := n4_; clear n0_ n1_ n2_ n3_ n4_; (try clear hb); (try clear hb2); (try clear hk); (try clear hi)))
            go_ret
            exact ⟨by first | rfl | (simp [errW_none, errW_some] <;> rfl) | (simp [*, errW_none, errW_some] <;> rfl), by repeat (first | (with_reducible first | exact HB.out | apply below_alloc | apply pw_below_drewN | apply below_drew1 | refine below_set ?_ GE200.out | refine below_set ?_ GE227.out) | exact HB.out)⟩
          · rw [if_neg c29] at H
            have c29b0 : decide (t231 < 0) = false := decide_eq_false c29
            clear c29
            by_cases c35 : t231 = t229
            · rw [if_pos c35] at H
              have c35b0 : (t231 == t229) = true := beq_iff_eq.mpr c35
              have c35b1 : (t231 != t229) = false := bne_eq_false_iff_eq.mpr c35
              clear c35
              replace H := Option.bind_eq_some_iff.mp H
              obtain ⟨⟨t232, t233, t234, t235, t236, t237, t238, t239, t240, t241, t242, t243, t244, t245, t246, t247, t248, t249, t250, t251, t252, t253, t256, t257⟩, A360, H⟩ := H
              replace H : ((laws_eqMachine.f kj5 t232 t233 t234 t235 t236 t237 t238 t239 t240 t241 t242 t243 t244 t245 t246 t247 t248 t249 t250 t251 t252 t253 t256 t174 t175 t176 t177 t178 t179 t180 t181 t182 t183 t184 t185 t186 t187 t188 t189 t190 t191 t192 t193 t194 t195 t198).bind fun t259 => (if t259 = true then (laws_FnExactMachineNew.j1 kj5 t229 (t257 != t199) t201 t202 t203 t204 t205 t206 t207 t208 t209 t210 t211 t212 t213 t214 t215 t216 t217 t218 t219 t220 t221 t230 t225) else (laws_FnExactMachineNew.j1 kj5 t229 true t201 t202 t203 t204 t205 t206 t207 t208 t209 t210 t211 t212 t213 t214 t215 t216 t217 t218 t219 t220 t221 t230 t225))) = some r := H
              have A36 := Aside0.mk A360
              clear A360
              have HC37 := Aside0.mk H
              clear H
              have hnb38 := NB227_200.out
              have hnc38 := NB200_227.out
              go_upto_region 16 with (first | ((with_reducible refine gate_store (t := 34) (p := 5) rfl ?_); refine store_blkg rfl (ty := 34) (p := 5) rfl rfl BK200.out 0 rfl rfl (Nat.le_of_ble_eq_true rfl) (by kernel_rfl) (by simp [Value.oneCell']) ?_; intro w_ hbk hgr; simp only [putAt, List.setIfInBounds_toArray, List.set_cons_zero, List.set_cons_succ, Nat.zero_add, Nat.reduceAdd] at hbk; (try (have N_ := Aside0.mk (Kd.R_mono (Kd.R_grown (Kd.R_types HO255.out BK200.out (by decide)) hgr (fun _ hk_ e_ => hk_.2 (by injection e_))) (fun _ hk_ => hk_.1)); clear HO255; have HO255 := N_; clear N_)); (try (have N_ := Aside0.mk (Kd.R_mono (Kd.R_grown (Kd.R_types HO_201021.out BK200.out (by decide)) hgr (fun _ hk_ e_ => hk_.2 (by injection e_))) (fun _ hk_ => hk_.1)); clear HO_201021; have HO_201021 := N_; clear N_)); (try (have N_ := Aside0.mk (Kd.R_mono (Kd.R_grown (Kd.R_types HO_228021.out BK200.out (by decide)) hgr (fun _ hk_ e_ => hk_.2 (by injection e_))) (fun _ hk_ => hk_.1)); clear HO_228021; have HO_228021 := N_; clear N_)); (try (have N_ := Aside0.mk (blk_other BK227.out hgr NB227_200.out); clear BK227; have BK227 := N_; clear N_)); (try (have N_ := Aside0.mk (blk_other BK258.out hgr NB258_200.out); clear BK258; have BK258 := N_; clear N_)); have N_ := Aside0.mk (below_grown (by repeat (first | exact HB.out | apply below_alloc | apply pw_below_drewN | apply below_drew1)) hgr GE200.out); clear HB; have HB := N_; clear N_; clear BK200; have BK200 := Aside0.mk hbk; clear hbk hgr) | ((with_reducible refine gate_store (t := 34) (p := 7) rfl ?_); refine store_blkg rfl (ty := 34) (p := 7) rfl rfl BK227.out 0 rfl rfl (Nat.le_of_ble_eq_true rfl) (by kernel_rfl) (by simp [Value.oneCell']) ?_; intro w_ hbk hgr; simp only [putAt, List.setIfInBounds_toArray, List.set_cons_zero, List.set_cons_succ, Nat.zero_add, Nat.reduceAdd] at hbk; (try (have N_ := Aside0.mk (Kd.R_mono (Kd.R_grown (Kd.R_types HO255.out BK227.out (by decide)) hgr (fun _ hk_ e_ => hk_.2 (by injection e_))) (fun _ hk_ => hk_.1)); clear HO255; have HO255 := N_; clear N_)); (try (have N_ := Aside0.mk (Kd.R_mono (Kd.R_grown (Kd.R_types HO_201021.out BK227.out (by decide)) hgr (fun _ hk_ e_ => hk_.2 (by injection e_))) (fun _ hk_ => hk_.1)); clear HO_201021; have HO_201021 := N_; clear N_)); (try (have N_ := Aside0.mk (Kd.R_mono (Kd.R_grown (Kd.R_types HO_228021.out BK227.out (by decide)) hgr (fun _ hk_ e_ => hk_.2 (by injection e_))) (fun _ hk_ => hk_.1)); clear HO_228021; have HO_228021 := N_; clear N_)); (try (have N_ := Aside0.mk (blk_other BK200.out hgr NB200_227.out); clear BK200; have BK200 := N_; clear N_)); (try (have N_ := Aside0.mk (blk_other BK258.out hgr NB258_227.out); clear BK258; have BK258 := N_; clear N_)); have N_ := Aside0.mk (below_grown (by repeat (first | exact HB.out | apply below_alloc | apply pw_below_drewN | apply below_drew1)) hgr GE227.out); clear HB; have HB := N_; clear N_; clear BK227; have BK227 := Aside0.mk hbk; clear hbk hgr) | ((with_reducible refine gate_dst (N := 28) rfl ?_); refine load_blkg rfl (ty := 34) (p := 7) rfl BK227.out 0 23 rfl rfl Try.underlying34 rfl (by kernel_rfl) ?_; simp only [List.drop_succ_cons, List.drop_zero, List.take_succ_cons, List.take_zero, Act.put, List.setIfInBounds_toArray, List.set_cons_zero, List.set_cons_succ, Option.elim]) | ((with_reducible refine gate_dst (N := 29) rfl ?_); refine load_blkg rfl (ty := 34) (p := 5) rfl BK200.out 0 23 rfl rfl Try.underlying34 rfl (by kernel_rfl) ?_; simp only [List.drop_succ_cons, List.drop_zero, List.take_succ_cons, List.take_zero, Act.put, List.setIfInBounds_toArray, List.set_cons_zero, List.set_cons_succ, Option.elim]) | ((with_reducible refine gate_dst (N := 37) rfl ?_); refine load_blkg rfl (ty := 34) (p := 7) rfl BK227.out 0 23 rfl rfl Try.underlying34 rfl (by kernel_rfl) ?_; simp only [List.drop_succ_cons, List.drop_zero, List.take_succ_cons, List.take_zero, Act.put, List.setIfInBounds_toArray, List.set_cons_zero, List.set_cons_succ, Option.elim]) | ((with_reducible refine gate_dst (N := 40) rfl ?_); refine load_blkg rfl (ty := 34) (p := 7) rfl BK227.out 0 23 rfl rfl Try.underlying34 rfl (by kernel_rfl) ?_; simp only [List.drop_succ_cons, List.drop_zero, List.take_succ_cons, List.take_zero, Act.put, List.setIfInBounds_toArray, List.set_cons_zero, List.set_cons_succ, Option.elim]) | ((with_reducible refine gate_store (t := 34) (p := 11) rfl ?_); refine store_blkg rfl (ty := 34) (p := 11) rfl rfl BK258.out 0 rfl rfl (Nat.le_of_ble_eq_true rfl) (by kernel_rfl) (by simp [Value.oneCell']) ?_; intro w_ hbk hgr; simp only [putAt, List.setIfInBounds_toArray, List.set_cons_zero, List.set_cons_succ, Nat.zero_add, Nat.reduceAdd] at hbk; (try (have N_ := Aside0.mk (Kd.R_mono (Kd.R_grown (Kd.R_types HO255.out BK258.out (by decide)) hgr (fun _ hk_ e_ => hk_.2 (by injection e_))) (fun _ hk_ => hk_.1)); clear HO255; have HO255 := N_; clear N_)); (try (have N_ := Aside0.mk (Kd.R_mono (Kd.R_grown (Kd.R_types HO_201021.out BK258.out (by decide)) hgr (fun _ hk_ e_ => hk_.2 (by injection e_))) (fun _ hk_ => hk_.1)); clear HO_201021; have HO_201021 := N_; clear N_)); (try (have N_ := Aside0.mk (Kd.R_mono (Kd.R_grown (Kd.R_types HO_228021.out BK258.out (by decide)) hgr (fun _ hk_ e_ => hk_.2 (by injection e_))) (fun _ hk_ => hk_.1)); clear HO_228021; have HO_228021 := N_; clear N_)); (try (have N_ := Aside0.mk (blk_other BK200.out hgr NB200_258.out); clear BK200; have BK200 := N_; clear N_)); (try (have N_ := Aside0.mk (blk_other BK227.out hgr NB227_258.out); clear BK227; have BK227 := N_; clear N_)); have N_ := Aside0.mk (below_grown (by repeat (first | exact HB.out | apply below_alloc | apply pw_below_drewN | apply below_drew1)) hgr GE258.out); clear HB; have HB := N_; clear N_; clear BK258; have BK258 := Aside0.mk hbk; clear hbk hgr) | ((with_reducible refine gate_dst (N := 54) rfl ?_); refine load_blkg rfl (ty := 34) (p := 11) rfl BK258.out 0 23 rfl rfl Try.underlying34 rfl (by kernel_rfl) ?_; simp only [List.drop_succ_cons, List.drop_zero, List.take_succ_cons, List.take_zero, Act.put, List.setIfInBounds_toArray, List.set_cons_zero, List.set_cons_succ, Option.elim]) | ((with_reducible refine gate_dst (N := 55) rfl ?_); refine load_blkg rfl (ty := 34) (p := 5) rfl BK200.out 0 23 rfl rfl Try.underlying34 rfl (by kernel_rfl) ?_; simp only [List.drop_succ_cons, List.drop_zero, List.take_succ_cons, List.take_zero, Act.put, List.setIfInBounds_toArray, List.set_cons_zero, List.set_cons_succ, Option.elim]) | ((with_reducible refine gate_dst (N := 63) rfl ?_); refine load_blkg rfl (ty := 34) (p := 7) rfl BK227.out 0 23 rfl rfl Try.underlying34 rfl (by kernel_rfl) ?_; simp only [List.drop_succ_cons, List.drop_zero, List.take_succ_cons, List.take_zero, Act.put, List.setIfInBounds_toArray, List.set_cons_zero, List.set_cons_succ, Option.elim]) | ((with_reducible refine gate_callee (f := 16) rfl ?_); refine goesL_ (some 39) rfl rfl Try.func16 (by kernel_rfl) rfl #[.agg #[.int .i64 t201, .int .i64 t202, .int .i64 t203, .int .i64 t204, .int .i64 t205, .int .i64 t206, .int .i64 t207, .int .i64 t208, .int .i64 t209, .int .i64 t210, .bool t211, .bool t212, .string t213, .int .i64 t214, .int .i64 t215, .string t216, .int .i64 t217, .bool t218, .int .i64 t219, .string t220, .string t221, .slice Ao15 t222.length co15, .int .i64 t225], .int .i64 1] rfl (by (try simp only [List.map_toArray, List.map_cons, List.map_nil]); first | done | rfl | (simp only [List.length_drop, List.length_take]; rfl)) ?_; (with_reducible refine (laws_markMachine.calls kj5 t201 t202 t203 t204 t205 t206 t207 t208 t209 t210 t211 t212 t213 t214 t215 t216 t217 t218 t219 t220 t221 (fun k_ => some k_ = (.slice Ao15 t222.length co15 : Value).ownBlock) (.slice Ao15 t222.length co15) t222 t225 1 t229 t230 w _ ?side1 ?side2 A27.out).mono ?_); (case side1 => repeat (first | (with_reducible first | exact HB.out | apply below_alloc | apply pw_below_drewN | apply below_drew1 | refine below_set ?_ GE200.out | refine below_set ?_ GE227.out) | exact HB.out)); (case side2 => exact Kd.R_tight rfl HO_228021.out); rintro e w40 ⟨rfl, hy0, hb, hkp⟩; refine ⟨_, rfl, ?_⟩; have n0_ := Aside0.mk (Kd.R_mono (ok' := fun k_ => some k_ ≠ (.slice Ao15 t222.length co15 : Value).ownBlock) (Kd.R_keptB (HO_201021.out) hkp (fun k_ hk_ hs_ => (hk_) hs_)) (fun k_ hk_ => hk_.1)); have n1_ := Aside0.mk (Kd.R_reok rfl hy0 (fun k_ e_ => HO_228021.out.1 k_ e_)); have n2_ := Aside0.mk (blk_kept (by (with_reducible repeat (first | refine blk_drewN ?_ _ | refine blk_drew ?_ | refine blk_alloc ?_ _)); exact BK200.out) hkp (fun hs_ => (fun e_ => (Kd.R_ne HO_228021.out BK200.out (by decide)) e_) hs_)); have n3_ := Aside0.mk (blk_kept (by (with_reducible repeat (first | refine blk_drewN ?_ _ | refine blk_drew ?_ | refine blk_alloc ?_ _)); exact BK227.out) hkp (fun hs_ => (fun e_ => (Kd.R_ne HO_228021.out BK227.out (by decide)) e_) hs_)); have n4_ := Aside0.mk (hb); clear HO_201021; clear HO_228021; clear BK200; clear BK227; clear HB; have HO_201021 := n0_; have HO_228021 := n1_; have BK200 := n2_; have BK227 := n3_; have HB := n4_; clear n0_ n1_ n2_ n3_ n4_; (try clear hb); (try clear hkp); (try clear hy0)) | ((with_reducible refine gate_callee (f := 17) rfl ?_); refine goesL_ (some 42) rfl rfl Try.func17 (by kernel_rfl) rfl #[.agg #[.int .i64 t201, .int .i64 t202, .int .i64 t203, .int .i64 t204, .int .i64 t205, .int .i64 t206, .int .i64 t207, .int .i64 t208, .int .i64 t209, .int .i64 t210, .bool t211, .bool t212, .string t213, .int .i64 t214, .int .i64 t215, .string t216, .int .i64 t217, .bool t218, .int .i64 t219, .string t220, .string t221, .slice Ao15 t230.length co15, .int .i64 t225], .int .i64 1] rfl (by (try simp only [List.map_toArray, List.map_cons, List.map_nil]); first | done | (rw [show t230.length = t222.length from (Kd.R_reads' HO_228021.out).1.symm] <;> rfl) | rfl | (simp only [List.length_drop, List.length_take]; rfl)) ?_; (with_reducible refine (laws_heldMachine.calls kj5 t201 t202 t203 t204 t205 t206 t207 t208 t209 t210 t211 t212 t213 t214 t215 t216 t217 t218 t219 t220 t221 _ _ t230 t225 1 t231 _ ?side1 ?side2 A28.out).mono ?_); (case side1 => repeat (first | exact (Kd.R_reads' HO_228021.out).2.2 | (with_reducible refine Kd.C_alloc ?_ _) | (with_reducible refine Kd.C_drewN ?_ _) | (with_reducible refine Kd.C_drew ?_))); (case side2 => rw [show t230.length = t222.length from (Kd.R_reads' HO_228021.out).1.symm]; exact (Kd.R_reads' HO_228021.out).2.1); rintro e w42 ⟨rfl, hb⟩; refine ⟨_, rfl, ?_⟩; have n0_ := Aside0.mk (Kd.R_below (by (with_reducible repeat (first | apply Kd.R_alloc | apply Kd.R_drewN | apply Kd.R_drew)); exact HO_201021.out) hb); have n1_ := Aside0.mk (Kd.R_below (by (with_reducible repeat (first | apply Kd.R_alloc | apply Kd.R_drewN | apply Kd.R_drew)); exact HO_228021.out) hb); have n2_ := Aside0.mk (blk_below (g := gb200) (o := .cells #[.int .i64 t174, .int .i64 t175, .int .i64 t176, .int .i64 t177, .int .i64 t178, .int .i64 t179, .int .i64 t180, .int .i64 t181, .int .i64 t182, .int .i64 t183, .bool t184, .bool t185, .string t186, .int .i64 t187, .int .i64 t188, .string t189, .int .i64 t190, .bool t191, .int .i64 t192, .string t193, .string t194, .slice Ao10 t195.length co10, .int .i64 t198] 34 (0, 0)) (by (with_reducible repeat (first | refine blk_drewN ?_ _ | refine blk_drew ?_ | refine blk_alloc ?_ _)); exact BK200.out) hb); have n3_ := Aside0.mk (blk_below (g := gb227) (o := .cells #[.int .i64 t201, .int .i64 t202, .int .i64 t203, .int .i64 t204, .int .i64 t205, .int .i64 t206, .int .i64 t207, .int .i64 t208, .int .i64 t209, .int .i64 t210, .bool t211, .bool t212, .string t213, .int .i64 t214, .int .i64 t215, .string t216, .int .i64 t217, .bool t218, .int .i64 t219, .string t220, .string t221, .slice Ao15 t222.length co15, .int .i64 t225] 34 (0, 0)) (by (with_reducible repeat (first | refine blk_drewN ?_ _ | refine blk_drew ?_ | refine blk_alloc ?_ _)); exact BK227.out) hb); have n4_ := Aside0.mk (below_step (by repeat (first | (with_reducible first | exact HB.out | apply below_alloc | apply pw_below_drewN | apply below_drew1 | refine below_set ?_ GE200.out | refine below_set ?_ GE227.out) | exact HB.out)) hb); clear HO_201021; clear HO_228021; clear BK200; clear BK227; clear HB; have HO_201021 := n0_; have HO_228021 := n1_; have BK200 := n2_; have BK227 := n3_; have HB := n4_; clear n0_ n1_ n2_ n3_ n4_; (try clear hb); (try clear hb2); (try clear hk); (try clear hi)) | ((with_reducible refine gate_callee (f := 19) rfl ?_); refine goesL_ (some 51) rfl rfl Try.func19 (by kernel_rfl) rfl #[.string a0, .int .i64 a1] rfl (by (try simp only [List.map_toArray, List.map_cons, List.map_nil]); first | done | rfl | (simp only [List.length_drop, List.length_take]; rfl)) ?_; (with_reducible refine (impl_MachineNew.calls kj5 a0 a1 t232 t233 t234 t235 t236 t237 t238 t239 t240 t241 t242 t243 t244 t245 t246 t247 t248 t249 t250 t251 t252 t253 t256 t257 _ A36.out).mono ?_); rintro e w43 ⟨v254, rfl, ho0, hb⟩; refine ⟨_, rfl, ?_⟩; have n0_ := Aside0.mk (Kd.R_elder' (by (with_reducible repeat (first | apply Kd.R_alloc | apply Kd.R_drewN | apply Kd.R_drew)); exact HO_201021.out) (Kd.R_base ho0) hb); have n1_ := Aside0.mk (Kd.R_elder' (by (with_reducible repeat (first | apply Kd.R_alloc | apply Kd.R_drewN | apply Kd.R_drew)); exact HO_228021.out) (Kd.R_base ho0) hb); have n2_ := Aside0.mk (Kd.R_lower (Kd.R_new' (Kd.R_new' ho0 (Kd.R_lt (by (with_reducible repeat (first | apply Kd.R_alloc | apply Kd.R_drewN | apply Kd.R_drew)); exact HO_201021.out))) (Kd.R_lt (by (with_reducible repeat (first | apply Kd.R_alloc | apply Kd.R_drewN | apply Kd.R_drew)); exact HO_228021.out))) (below_size (by repeat (first | (with_reducible first | exact HB.out | apply below_alloc | apply pw_below_drewN | apply below_drew1 | refine below_set ?_ GE200.out | refine below_set ?_ GE227.out) | exact HB.out)))); have n3_ := Aside0.mk (blk_below (g := gb200) (o := .cells #[.int .i64 t174, .int .i64 t175, .int .i64 t176, .int .i64 t177, .int .i64 t178, .int .i64 t179, .int .i64 t180, .int .i64 t181, .int .i64 t182, .int .i64 t183, .bool t184, .bool t185, .string t186, .int .i64 t187, .int .i64 t188, .string t189, .int .i64 t190, .bool t191, .int .i64 t192, .string t193, .string t194, .slice Ao10 t195.length co10, .int .i64 t198] 34 (0, 0)) (by (with_reducible repeat (first | refine blk_drewN ?_ _ | refine blk_drew ?_ | refine blk_alloc ?_ _)); exact BK200.out) hb); have n4_ := Aside0.mk (blk_below (g := gb227) (o := .cells #[.int .i64 t201, .int .i64 t202, .int .i64 t203, .int .i64 t204, .int .i64 t205, .int .i64 t206, .int .i64 t207, .int .i64 t208, .int .i64 t209, .int .i64 t210, .bool t211, .bool t212, .string t213, .int .i64 t214, .int .i64 t215, .string t216, .int .i64 t217, .bool t218, .int .i64 t219, .string t220, .string t221, .slice Ao15 t222.length co15, .int .i64 t225] 34 (0, 0)) (by (with_reducible repeat (first | refine blk_drewN ?_ _ | refine blk_drew ?_ | refine blk_alloc ?_ _)); exact BK227.out) hb); have n5_ := Aside0.mk (below_step (by repeat (first | (with_reducible first | exact HB.out | apply below_alloc | apply pw_below_drewN | apply below_drew1 | refine below_set ?_ GE200.out | refine below_set ?_ GE227.out) | exact HB.out)) hb); clear HO_201021; clear HO_228021; clear BK200; clear BK227; clear HB; have HO_201021 := n0_; have HO_228021 := n1_; have HO255 := n2_; have BK200 := n3_; have BK227 := n4_; have HB := n5_; clear n0_ n1_ n2_ n3_ n4_ n5_; (try clear hb); (try clear hb2); (try clear hk); (try clear hi); (try clear ho0)) | ((with_reducible refine gate_dst (N := 11) rfl ?_); refine box_event ?hg (N := 11) ?hd (cs := #[.int .i64 0, .int .i64 0, .int .i64 0, .int .i64 0, .int .i64 0, .int .i64 0, .int .i64 0, .int .i64 0, .int .i64 0, .int .i64 0, .bool false, .bool false, .string (⟨#[]⟩ : ByteArray), .int .i64 0, .int .i64 0, .string (⟨#[]⟩ : ByteArray), .int .i64 0, .bool false, .int .i64 0, .string (⟨#[]⟩ : ByteArray), .string (⟨#[]⟩ : ByteArray), .slice none 0 0, .int .i64 0]) (t := 34) ?hr ?_; (case hd => rfl); (case hg => rfl); (case hr => first | (go_simp; done) | (go_simp; rfl)); intro gb258 hg w44 hbox hb; have n0_ := Aside0.mk (Kd.R_below (by (with_reducible repeat (first | apply Kd.R_alloc | apply Kd.R_drewN | apply Kd.R_drew)); exact HO_201021.out) hb); have n1_ := Aside0.mk (Kd.R_below (by (with_reducible repeat (first | apply Kd.R_alloc | apply Kd.R_drewN | apply Kd.R_drew)); exact HO_228021.out) hb); have n2_ := Aside0.mk (Kd.R_below (by (with_reducible repeat (first | apply Kd.R_alloc | apply Kd.R_drewN | apply Kd.R_drew)); exact HO255.out) hb); have n3_ := Aside0.mk (blk_below (g := gb200) (o := .cells #[.int .i64 t174, .int .i64 t175, .int .i64 t176, .int .i64 t177, .int .i64 t178, .int .i64 t179, .int .i64 t180, .int .i64 t181, .int .i64 t182, .int .i64 t183, .bool t184, .bool t185, .string t186, .int .i64 t187, .int .i64 t188, .string t189, .int .i64 t190, .bool t191, .int .i64 t192, .string t193, .string t194, .slice Ao10 t195.length co10, .int .i64 t198] 34 (0, 0)) (by (with_reducible repeat (first | refine blk_drewN ?_ _ | refine blk_drew ?_ | refine blk_alloc ?_ _)); exact BK200.out) hb); have n4_ := Aside0.mk (blk_below (g := gb227) (o := .cells #[.int .i64 t201, .int .i64 t202, .int .i64 t203, .int .i64 t204, .int .i64 t205, .int .i64 t206, .int .i64 t207, .int .i64 t208, .int .i64 t209, .int .i64 t210, .bool t211, .bool t212, .string t213, .int .i64 t214, .int .i64 t215, .string t216, .int .i64 t217, .bool t218, .int .i64 t219, .string t220, .string t221, .slice Ao15 t222.length co15, .int .i64 t225] 34 (0, 0)) (by (with_reducible repeat (first | refine blk_drewN ?_ _ | refine blk_drew ?_ | refine blk_alloc ?_ _)); exact BK227.out) hb); have n5_ := Aside0.mk (below_step (by repeat (first | (with_reducible first | exact HB.out | apply below_alloc | apply pw_below_drewN | apply below_drew1 | refine below_set ?_ GE200.out | refine below_set ?_ GE227.out) | exact HB.out)) hb); have n6_ := Aside0.mk (hbox); have n7_ := Aside0.mk ((by rw [hg]; exact (below_size (by repeat (first | (with_reducible first | exact HB.out | apply below_alloc | apply pw_below_drewN | apply below_drew1 | refine below_set ?_ GE200.out | refine below_set ?_ GE227.out) | exact HB.out))) : w.heap.size ≤ gb258)); have n8_ := Aside0.mk ((by rw [hg]; exact (below_size (by repeat (first | (with_reducible first | exact HB.out | apply below_alloc | apply pw_below_drewN | apply below_drew1 | refine below_set ?_ GE200.out | refine below_set ?_ GE227.out) | exact HB.out))) : w.heap.size ≤ gb258)); have n9_ := Aside0.mk ((by rw [hg]; exact Nat.ne_of_lt (blk_lt (g := gb200) (o := .cells #[.int .i64 t174, .int .i64 t175, .int .i64 t176, .int .i64 t177, .int .i64 t178, .int .i64 t179, .int .i64 t180, .int .i64 t181, .int .i64 t182, .int .i64 t183, .bool t184, .bool t185, .string t186, .int .i64 t187, .int .i64 t188, .string t189, .int .i64 t190, .bool t191, .int .i64 t192, .string t193, .string t194, .slice Ao10 t195.length co10, .int .i64 t198] 34 (0, 0)) (by (with_reducible repeat (first | refine blk_drewN ?_ _ | refine blk_drew ?_ | refine blk_alloc ?_ _)); exact BK200.out)) : gb200 ≠ gb258)); have n10_ := Aside0.mk ((by rw [hg]; exact Nat.ne_of_gt (blk_lt (g := gb200) (o := .cells #[.int .i64 t174, .int .i64 t175, .int .i64 t176, .int .i64 t177, .int .i64 t178, .int .i64 t179, .int .i64 t180, .int .i64 t181, .int .i64 t182, .int .i64 t183, .bool t184, .bool t185, .string t186, .int .i64 t187, .int .i64 t188, .string t189, .int .i64 t190, .bool t191, .int .i64 t192, .string t193, .string t194, .slice Ao10 t195.length co10, .int .i64 t198] 34 (0, 0)) (by (with_reducible repeat (first | refine blk_drewN ?_ _ | refine blk_drew ?_ | refine blk_alloc ?_ _)); exact BK200.out)) : gb258 ≠ gb200)); have n11_ := Aside0.mk ((by rw [hg]; exact Nat.ne_of_lt (blk_lt (g := gb227) (o := .cells #[.int .i64 t201, .int .i64 t202, .int .i64 t203, .int .i64 t204, .int .i64 t205, .int .i64 t206, .int .i64 t207, .int .i64 t208, .int .i64 t209, .int .i64 t210, .bool t211, .bool t212, .string t213, .int .i64 t214, .int .i64 t215, .string t216, .int .i64 t217, .bool t218, .int .i64 t219, .string t220, .string t221, .slice Ao15 t222.length co15, .int .i64 t225] 34 (0, 0)) (by (with_reducible repeat (first | refine blk_drewN ?_ _ | refine blk_drew ?_ | refine blk_alloc ?_ _)); exact BK227.out)) : gb227 ≠ gb258)); have n12_ := Aside0.mk ((by rw [hg]; exact Nat.ne_of_gt (blk_lt (g := gb227) (o := .cells #[.int .i64 t201, .int .i64 t202, .int .i64 t203, .int .i64 t204, .int .i64 t205, .int .i64 t206, .int .i64 t207, .int .i64 t208, .int .i64 t209, .int .i64 t210, .bool t211, .bool t212, .string t213, .int .i64 t214, .int .i64 t215, .string t216, .int .i64 t217, .bool t218, .int .i64 t219, .string t220, .string t221, .slice Ao15 t222.length co15, .int .i64 t225] 34 (0, 0)) (by (with_reducible repeat (first | refine blk_drewN ?_ _ | refine blk_drew ?_ | refine blk_alloc ?_ _)); exact BK227.out)) : gb258 ≠ gb227)); clear HO_201021; clear HO_228021; clear HO255; clear BK200; clear BK227; clear HB; have HO_201021 := n0_; have HO_228021 := n1_; have HO255 := n2_; have BK200 := n3_; have BK227 := n4_; have HB := n5_; have BK258 := n6_; have GW258 := n7_; have GE258 := n8_; have NB200_258 := n9_; have NB258_200 := n10_; have NB227_258 := n11_; have NB258_227 := n12_; clear n0_ n1_ n2_ n3_ n4_ n5_ n6_ n7_ n8_ n9_ n10_ n11_ n12_; clear hb hbox hg; obtain ⟨Ao48, co48, eo48⟩ := Kd.R_slice HO255.out; subst eo48))
              (try simp only [Act.put, List.setIfInBounds_toArray, List.set_cons_zero, List.set_cons_succ])
              go_cut [62] (fun v62 wc => ∃ (kq : Nat) (x62_36 : Bool), v62 = .bool x62_36 ∧ Aside0 (laws_FnExactMachineNew.j1 kq t229 x62_36 t201 t202 t203 t204 t205 t206 t207 t208 t209 t210 t211 t212 t213 t214 t215 t216 t217 t218 t219 t220 t221 t230 t225 = some r) ∧ Aside0 (kq ≤ kj5) ∧ Aside0 (Kd.R (Kd.int .i64) 2 wc w.heap.size (fun k_ => some k_ ≠ ((.slice Ao15 t222.length co15) : Value).ownBlock ∧ some k_ ≠ ((.slice Ao48 t253.length co48) : Value).ownBlock) (.slice Ao10 t195.length co10) t195) ∧ Aside0 (Kd.R (Kd.int .i64) 2 wc w.heap.size (fun k_ => some k_ ≠ ((.slice Ao10 t195.length co10) : Value).ownBlock ∧ some k_ ≠ ((.slice Ao48 t253.length co48) : Value).ownBlock) (.slice Ao15 t222.length co15) t230) ∧ Aside0 (Kd.R (Kd.int .i64) 2 wc w.heap.size (fun k_ => some k_ ≠ ((.slice Ao10 t195.length co10) : Value).ownBlock ∧ some k_ ≠ ((.slice Ao15 t222.length co15) : Value).ownBlock) (.slice Ao48 t253.length co48) t253) ∧ Aside0 (wc.heap[gb200]? = some (.cells #[.int .i64 t174, .int .i64 t175, .int .i64 t176, .int .i64 t177, .int .i64 t178, .int .i64 t179, .int .i64 t180, .int .i64 t181, .int .i64 t182, .int .i64 t183, .bool t184, .bool t185, .string t186, .int .i64 t187, .int .i64 t188, .string t189, .int .i64 t190, .bool t191, .int .i64 t192, .string t193, .string t194, (.slice Ao10 t195.length co10), .int .i64 t198] 34 (0, 0))) ∧ Aside0 (wc.heap[gb227]? = some (.cells #[.int .i64 t201, .int .i64 t202, .int .i64 t203, .int .i64 t204, .int .i64 t205, .int .i64 t206, .int .i64 t207, .int .i64 t208, .int .i64 t209, .int .i64 t210, .bool t211, .bool t212, .string t213, .int .i64 t214, .int .i64 t215, .string t216, .int .i64 t217, .bool t218, .int .i64 t219, .string t220, .string t221, (.slice Ao15 t222.length co15), .int .i64 t225] 34 (0, 0))) ∧ Aside0 (wc.heap[gb258]? = some (.cells #[.int .i64 t232, .int .i64 t233, .int .i64 t234, .int .i64 t235, .int .i64 t236, .int .i64 t237, .int .i64 t238, .int .i64 t239, .int .i64 t240, .int .i64 t241, .bool t242, .bool t243, .string t244, .int .i64 t245, .int .i64 t246, .string t247, .int .i64 t248, .bool t249, .int .i64 t250, .string t251, .string t252, (.slice Ao48 t253.length co48), .int .i64 t256] 34 (0, 0))) ∧ Aside0 (Below w.heap.size w wc))
              case first =>
                have H := HC37.out
                clear HC37
                replace H := Option.bind_eq_some_iff.mp H
                obtain ⟨t259, A490, H⟩ := H
                replace H : (if t259 = true then (laws_FnExactMachineNew.j1 kj5 t229 (t257 != t199) t201 t202 t203 t204 t205 t206 t207 t208 t209 t210 t211 t212 t213 t214 t215 t216 t217 t218 t219 t220 t221 t230 t225) else (laws_FnExactMachineNew.j1 kj5 t229 true t201 t202 t203 t204 t205 t206 t207 t208 t209 t210 t211 t212 t213 t214 t215 t216 t217 t218 t219 t220 t221 t230 t225)) = some r := H
                have A49 := Aside0.mk A490
                clear A490
                by_cases c50 : t259 = true
                · subst c50
                  have H1 : (laws_FnExactMachineNew.j1 kj5 t229 (t257 != t199) t201 t202 t203 t204 t205 t206 t207 t208 t209 t210 t211 t212 t213 t214 t215 t216 t217 t218 t219 t220 t221 t230 t225) = some r := by rw [if_pos rfl] at H; exact H
                  clear H
                  have H := H1
                  clear H1
                  have H' := Aside0.mk H
                  clear H
                  have hnb51 := NB258_200.out
                  have hnc51 := NB200_258.out
                  have hnb52 := NB258_227.out
                  have hnc52 := NB227_258.out
                  have hnb54 := NB200_227.out
                  have hnc54 := NB227_200.out
                  go_wp2_with (first | ((with_reducible refine gate_store (t := 34) (p := 5) rfl ?_); refine store_blkg rfl (ty := 34) (p := 5) rfl rfl BK200.out 0 rfl rfl (Nat.le_of_ble_eq_true rfl) (by kernel_rfl) (by simp [Value.oneCell']) ?_; intro w_ hbk hgr; simp only [putAt, List.setIfInBounds_toArray, List.set_cons_zero, List.set_cons_succ, Nat.zero_add, Nat.reduceAdd] at hbk; (try (have N_ := Aside0.mk (Kd.R_mono (Kd.R_grown (Kd.R_types HO255.out BK200.out (by decide)) hgr (fun _ hk_ e_ => hk_.2 (by injection e_))) (fun _ hk_ => hk_.1)); clear HO255; have HO255 := N_; clear N_)); (try (have N_ := Aside0.mk (Kd.R_mono (Kd.R_grown (Kd.R_types HO_201021.out BK200.out (by decide)) hgr (fun _ hk_ e_ => hk_.2 (by injection e_))) (fun _ hk_ => hk_.1)); clear HO_201021; have HO_201021 := N_; clear N_)); (try (have N_ := Aside0.mk (Kd.R_mono (Kd.R_grown (Kd.R_types HO_228021.out BK200.out (by decide)) hgr (fun _ hk_ e_ => hk_.2 (by injection e_))) (fun _ hk_ => hk_.1)); clear HO_228021; have HO_228021 := N_; clear N_)); (try (have N_ := Aside0.mk (blk_other BK227.out hgr NB227_200.out); clear BK227; have BK227 := N_; clear N_)); (try (have N_ := Aside0.mk (blk_other BK258.out hgr NB258_200.out); clear BK258; have BK258 := N_; clear N_)); have N_ := Aside0.mk (below_grown (by repeat (first | exact HB.out | apply below_alloc | apply pw_below_drewN | apply below_drew1)) hgr GE200.out); clear HB; have HB := N_; clear N_; clear BK200; have BK200 := Aside0.mk hbk; clear hbk hgr) | ((with_reducible refine gate_store (t := 34) (p := 7) rfl ?_); refine store_blkg rfl (ty := 34) (p := 7) rfl rfl BK227.out 0 rfl rfl (Nat.le_of_ble_eq_true rfl) (by kernel_rfl) (by simp [Value.oneCell']) ?_; intro w_ hbk hgr; simp only [putAt, List.setIfInBounds_toArray, List.set_cons_zero, List.set_cons_succ, Nat.zero_add, Nat.reduceAdd] at hbk; (try (have N_ := Aside0.mk (Kd.R_mono (Kd.R_grown (Kd.R_types HO255.out BK227.out (by decide)) hgr (fun _ hk_ e_ => hk_.2 (by injection e_))) (fun _ hk_ => hk_.1)); clear HO255; have HO255 := N_; clear N_)); (try (have N_ := Aside0.mk (Kd.R_mono (Kd.R_grown (Kd.R_types HO_201021.out BK227.out (by decide)) hgr (fun _ hk_ e_ => hk_.2 (by injection e_))) (fun _ hk_ => hk_.1)); clear HO_201021; have HO_201021 := N_; clear N_)); (try (have N_ := Aside0.mk (Kd.R_mono (Kd.R_grown (Kd.R_types HO_228021.out BK227.out (by decide)) hgr (fun _ hk_ e_ => hk_.2 (by injection e_))) (fun _ hk_ => hk_.1)); clear HO_228021; have HO_228021 := N_; clear N_)); (try (have N_ := Aside0.mk (blk_other BK200.out hgr NB200_227.out); clear BK200; have BK200 := N_; clear N_)); (try (have N_ := Aside0.mk (blk_other BK258.out hgr NB258_227.out); clear BK258; have BK258 := N_; clear N_)); have N_ := Aside0.mk (below_grown (by repeat (first | exact HB.out | apply below_alloc | apply pw_below_drewN | apply below_drew1)) hgr GE227.out); clear HB; have HB := N_; clear N_; clear BK227; have BK227 := Aside0.mk hbk; clear hbk hgr) | ((with_reducible refine gate_dst (N := 28) rfl ?_); refine load_blkg rfl (ty := 34) (p := 7) rfl BK227.out 0 23 rfl rfl Try.underlying34 rfl (by kernel_rfl) ?_; simp only [List.drop_succ_cons, List.drop_zero, List.take_succ_cons, List.take_zero, Act.put, List.setIfInBounds_toArray, List.set_cons_zero, List.set_cons_succ, Option.elim]) | ((with_reducible refine gate_dst (N := 29) rfl ?_); refine load_blkg rfl (ty := 34) (p := 5) rfl BK200.out 0 23 rfl rfl Try.underlying34 rfl (by kernel_rfl) ?_; simp only [List.drop_succ_cons, List.drop_zero, List.take_succ_cons, List.take_zero, Act.put, List.setIfInBounds_toArray, List.set_cons_zero, List.set_cons_succ, Option.elim]) | ((with_reducible refine gate_dst (N := 37) rfl ?_); refine load_blkg rfl (ty := 34) (p := 7) rfl BK227.out 0 23 rfl rfl Try.underlying34 rfl (by kernel_rfl) ?_; simp only [List.drop_succ_cons, List.drop_zero, List.take_succ_cons, List.take_zero, Act.put, List.setIfInBounds_toArray, List.set_cons_zero, List.set_cons_succ, Option.elim]) | ((with_reducible refine gate_dst (N := 40) rfl ?_); refine load_blkg rfl (ty := 34) (p := 7) rfl BK227.out 0 23 rfl rfl Try.underlying34 rfl (by kernel_rfl) ?_; simp only [List.drop_succ_cons, List.drop_zero, List.take_succ_cons, List.take_zero, Act.put, List.setIfInBounds_toArray, List.set_cons_zero, List.set_cons_succ, Option.elim]) | ((with_reducible refine gate_store (t := 34) (p := 11) rfl ?_); refine store_blkg rfl (ty := 34) (p := 11) rfl rfl BK258.out 0 rfl rfl (Nat.le_of_ble_eq_true rfl) (by kernel_rfl) (by simp [Value.oneCell']) ?_; intro w_ hbk hgr; simp only [putAt, List.setIfInBounds_toArray, List.set_cons_zero, List.set_cons_succ, Nat.zero_add, Nat.reduceAdd] at hbk; (try (have N_ := Aside0.mk (Kd.R_mono (Kd.R_grown (Kd.R_types HO255.out BK258.out (by decide)) hgr (fun _ hk_ e_ => hk_.2 (by injection e_))) (fun _ hk_ => hk_.1)); clear HO255; have HO255 := N_; clear N_)); (try (have N_ := Aside0.mk (Kd.R_mono (Kd.R_grown (Kd.R_types HO_201021.out BK258.out (by decide)) hgr (fun _ hk_ e_ => hk_.2 (by injection e_))) (fun _ hk_ => hk_.1)); clear HO_201021; have HO_201021 := N_; clear N_)); (try (have N_ := Aside0.mk (Kd.R_mono (Kd.R_grown (Kd.R_types HO_228021.out BK258.out (by decide)) hgr (fun _ hk_ e_ => hk_.2 (by injection e_))) (fun _ hk_ => hk_.1)); clear HO_228021; have HO_228021 := N_; clear N_)); (try (have N_ := Aside0.mk (blk_other BK200.out hgr NB200_258.out); clear BK200; have BK200 := N_; clear N_)); (try (have N_ := Aside0.mk (blk_other BK227.out hgr NB227_258.out); clear BK227; have BK227 := N_; clear N_)); have N_ := Aside0.mk (below_grown (by repeat (first | exact HB.out | apply below_alloc | apply pw_below_drewN | apply below_drew1)) hgr GE258.out); clear HB; have HB := N_; clear N_; clear BK258; have BK258 := Aside0.mk hbk; clear hbk hgr) | ((with_reducible refine gate_dst (N := 54) rfl ?_); refine load_blkg rfl (ty := 34) (p := 11) rfl BK258.out 0 23 rfl rfl Try.underlying34 rfl (by kernel_rfl) ?_; simp only [List.drop_succ_cons, List.drop_zero, List.take_succ_cons, List.take_zero, Act.put, List.setIfInBounds_toArray, List.set_cons_zero, List.set_cons_succ, Option.elim]) | ((with_reducible refine gate_dst (N := 55) rfl ?_); refine load_blkg rfl (ty := 34) (p := 5) rfl BK200.out 0 23 rfl rfl Try.underlying34 rfl (by kernel_rfl) ?_; simp only [List.drop_succ_cons, List.drop_zero, List.take_succ_cons, List.take_zero, Act.put, List.setIfInBounds_toArray, List.set_cons_zero, List.set_cons_succ, Option.elim]) | ((with_reducible refine gate_dst (N := 63) rfl ?_); refine load_blkg rfl (ty := 34) (p := 7) rfl BK227.out 0 23 rfl rfl Try.underlying34 rfl (by kernel_rfl) ?_; simp only [List.drop_succ_cons, List.drop_zero, List.take_succ_cons, List.take_zero, Act.put, List.setIfInBounds_toArray, List.set_cons_zero, List.set_cons_succ, Option.elim]) | ((with_reducible refine gate_callee (f := 11) rfl ?_); refine goesL_ (some 56) rfl rfl Try.func11 (by kernel_rfl) rfl #[.agg #[.int .i64 t232, .int .i64 t233, .int .i64 t234, .int .i64 t235, .int .i64 t236, .int .i64 t237, .int .i64 t238, .int .i64 t239, .int .i64 t240, .int .i64 t241, .bool t242, .bool t243, .string t244, .int .i64 t245, .int .i64 t246, .string t247, .int .i64 t248, .bool t249, .int .i64 t250, .string t251, .string t252, .slice Ao48 t253.length co48, .int .i64 t256], .agg #[.int .i64 t174, .int .i64 t175, .int .i64 t176, .int .i64 t177, .int .i64 t178, .int .i64 t179, .int .i64 t180, .int .i64 t181, .int .i64 t182, .int .i64 t183, .bool t184, .bool t185, .string t186, .int .i64 t187, .int .i64 t188, .string t189, .int .i64 t190, .bool t191, .int .i64 t192, .string t193, .string t194, .slice Ao10 t195.length co10, .int .i64 t198]] rfl (by (try simp only [List.map_toArray, List.map_cons, List.map_nil]); first | done | rfl | (simp only [List.length_drop, List.length_take]; rfl)) ?_; (with_reducible refine (laws_eqMachine.calls kj5 t232 t233 t234 t235 t236 t237 t238 t239 t240 t241 t242 t243 t244 t245 t246 t247 t248 t249 t250 t251 t252 _ _ t253 t256 t174 t175 t176 t177 t178 t179 t180 t181 t182 t183 t184 t185 t186 t187 t188 t189 t190 t191 t192 t193 t194 _ _ t195 t198 true _ ?side1 ?side2 ?side3 ?side4 A49.out).mono ?_); (case side1 => refine (Kd.R_reads' (e := 2) (base := w.heap.size) (ok := fun k_ => ((True ∧ some k_ ≠ (.slice Ao10 t195.length co10 : Value).ownBlock) ∧ some k_ ≠ (.slice Ao15 t222.length co15 : Value).ownBlock)) (n := t253.length) (c := co48) ?_).2.2; exact (by (with_reducible repeat (first | apply Kd.R_alloc | apply Kd.R_drewN | apply Kd.R_drew)); exact (HO255.out))); (case side2 => exact (Kd.R_reads' HO255.out).2.1); (case side3 => refine (Kd.R_reads' (e := 2) (base := w.heap.size) (ok := fun k_ => (some k_ ≠ (.slice Ao15 t222.length co15 : Value).ownBlock ∧ some k_ ≠ (.slice Ao48 t253.length co48 : Value).ownBlock)) (n := t195.length) (c := co10) ?_).2.2; exact (by (with_reducible repeat (first | apply Kd.R_alloc | apply Kd.R_drewN | apply Kd.R_drew)); exact (HO_201021.out))); (case side4 => exact (Kd.R_reads' HO_201021.out).2.1); rintro e w56 ⟨rfl, hb⟩; refine ⟨_, rfl, ?_⟩; have n0_ := Aside0.mk (Kd.R_below (by (with_reducible repeat (first | apply Kd.R_alloc | apply Kd.R_drewN | apply Kd.R_drew)); exact (HO_201021.out)) hb); have n1_ := Aside0.mk (Kd.R_below (by (with_reducible repeat (first | apply Kd.R_alloc | apply Kd.R_drewN | apply Kd.R_drew)); exact (HO_228021.out)) hb); have n2_ := Aside0.mk (Kd.R_below (by (with_reducible repeat (first | apply Kd.R_alloc | apply Kd.R_drewN | apply Kd.R_drew)); exact (HO255.out)) hb); have n3_ := Aside0.mk (blk_below (g := gb200) (o := .cells #[.int .i64 t174, .int .i64 t175, .int .i64 t176, .int .i64 t177, .int .i64 t178, .int .i64 t179, .int .i64 t180, .int .i64 t181, .int .i64 t182, .int .i64 t183, .bool t184, .bool t185, .string t186, .int .i64 t187, .int .i64 t188, .string t189, .int .i64 t190, .bool t191, .int .i64 t192, .string t193, .string t194, .slice Ao10 t195.length co10, .int .i64 t198] 34 (0, 0)) (by (with_reducible repeat (first | refine blk_drewN ?_ _ | refine blk_drew ?_ | refine blk_alloc ?_ _)); exact BK200.out) hb); have n4_ := Aside0.mk (blk_below (g := gb227) (o := .cells #[.int .i64 t201, .int .i64 t202, .int .i64 t203, .int .i64 t204, .int .i64 t205, .int .i64 t206, .int .i64 t207, .int .i64 t208, .int .i64 t209, .int .i64 t210, .bool t211, .bool t212, .string t213, .int .i64 t214, .int .i64 t215, .string t216, .int .i64 t217, .bool t218, .int .i64 t219, .string t220, .string t221, .slice Ao15 t222.length co15, .int .i64 t225] 34 (0, 0)) (by (with_reducible repeat (first | refine blk_drewN ?_ _ | refine blk_drew ?_ | refine blk_alloc ?_ _)); exact BK227.out) hb); have n5_ := Aside0.mk (blk_below (g := gb258) (o := .cells #[.int .i64 t232, .int .i64 t233, .int .i64 t234, .int .i64 t235, .int .i64 t236, .int .i64 t237, .int .i64 t238, .int .i64 t239, .int .i64 t240, .int .i64 t241, .bool t242, .bool t243, .string t244, .int .i64 t245, .int .i64 t246, .string t247, .int .i64 t248, .bool t249, .int .i64 t250, .string t251, .string t252, .slice Ao48 t253.length co48, .int .i64 t256] 34 (0, 0)) (by (with_reducible repeat (first | refine blk_drewN ?_ _ | refine blk_drew ?_ | refine blk_alloc ?_ _)); exact BK258.out) hb); have n6_ := Aside0.mk (below_step (by repeat (first | (with_reducible first | exact HB.out | apply below_alloc | apply pw_below_drewN | apply below_drew1 | refine below_set ?_ GE200.out | refine below_set ?_ GE227.out | refine below_set ?_ GE258.out) | exact HB.out)) hb); clear HO_201021; clear HO_228021; clear HO255; clear BK200; clear BK227; clear BK258; clear HB; have HO_201021 := n0_; have HO_228021 := n1_; have HO255 := n2_; have BK200 := n3_; have BK227 := n4_; have BK258 := n5_; have HB := n6_; clear n0_ n1_ n2_ n3_ n4_ n5_ n6_; (try clear hb); (try clear hb2); (try clear hk); (try clear hi)))
                  go_meet
                  case rel => exact ⟨_, ((t257 != t199)), (by first | rfl | (simp; done) | (simp [*]; done)), H', ⟨by have := HJ5.out; first | omega | exact Nat.le_refl _⟩, ⟨by (with_reducible repeat (first | apply Kd.R_alloc | apply Kd.R_drewN | apply Kd.R_drew)); exact HO_201021.out⟩, ⟨by (with_reducible repeat (first | apply Kd.R_alloc | apply Kd.R_drewN | apply Kd.R_drew)); exact HO_228021.out⟩, ⟨by (with_reducible repeat (first | apply Kd.R_alloc | apply Kd.R_drewN | apply Kd.R_drew)); exact Kd.R_mono HO255.out (fun _ hk => ⟨hk.1.2, hk.2⟩)⟩, ⟨by (with_reducible repeat (first | refine blk_drewN ?_ _ | refine blk_drew ?_ | refine blk_alloc ?_ _)); exact BK200.out⟩, ⟨by (with_reducible repeat (first | refine blk_drewN ?_ _ | refine blk_drew ?_ | refine blk_alloc ?_ _)); exact BK227.out⟩, ⟨by (with_reducible repeat (first | refine blk_drewN ?_ _ | refine blk_drew ?_ | refine blk_alloc ?_ _)); exact BK258.out⟩, ⟨by repeat (first | (with_reducible first | exact HB.out | apply below_alloc | apply pw_below_drewN | apply below_drew1 | refine below_set ?_ GE200.out | refine below_set ?_ GE227.out | refine below_set ?_ GE258.out) | exact HB.out)⟩⟩
                · replace c50 := Bool.eq_false_iff.mpr c50
                  subst c50
                  have H1 : (laws_FnExactMachineNew.j1 kj5 t229 true t201 t202 t203 t204 t205 t206 t207 t208 t209 t210 t211 t212 t213 t214 t215 t216 t217 t218 t219 t220 t221 t230 t225) = some r := by rw [if_neg (show ¬ (false = true) by decide)] at H; exact H
                  clear H
                  have H := H1
                  clear H1
                  have H' := Aside0.mk H
                  clear H
                  have hnb57 := NB258_200.out
                  have hnc57 := NB200_258.out
                  have hnb58 := NB258_227.out
                  have hnc58 := NB227_258.out
                  have hnb60 := NB200_227.out
                  have hnc60 := NB227_200.out
                  go_wp2_with (first | ((with_reducible refine gate_store (t := 34) (p := 5) rfl ?_); refine store_blkg rfl (ty := 34) (p := 5) rfl rfl BK200.out 0 rfl rfl (Nat.le_of_ble_eq_true rfl) (by kernel_rfl) (by simp [Value.oneCell']) ?_; intro w_ hbk hgr; simp only [putAt, List.setIfInBounds_toArray, List.set_cons_zero, List.set_cons_succ, Nat.zero_add, Nat.reduceAdd] at hbk; (try (have N_ := Aside0.mk (Kd.R_mono (Kd.R_grown (Kd.R_types HO255.out BK200.out (by decide)) hgr (fun _ hk_ e_ => hk_.2 (by injection e_))) (fun _ hk_ => hk_.1)); clear HO255; have HO255 := N_; clear N_)); (try (have N_ := Aside0.mk (Kd.R_mono (Kd.R_grown (Kd.R_types HO_201021.out BK200.out (by decide)) hgr (fun _ hk_ e_ => hk_.2 (by injection e_))) (fun _ hk_ => hk_.1)); clear HO_201021; have HO_201021 := N_; clear N_)); (try (have N_ := Aside0.mk (Kd.R_mono (Kd.R_grown (Kd.R_types HO_228021.out BK200.out (by decide)) hgr (fun _ hk_ e_ => hk_.2 (by injection e_))) (fun _ hk_ => hk_.1)); clear HO_228021; have HO_228021 := N_; clear N_)); (try (have N_ := Aside0.mk (blk_other BK227.out hgr NB227_200.out); clear BK227; have BK227 := N_; clear N_)); (try (have N_ := Aside0.mk (blk_other BK258.out hgr NB258_200.out); clear BK258; have BK258 := N_; clear N_)); have N_ := Aside0.mk (below_grown (by repeat (first | exact HB.out | apply below_alloc | apply pw_below_drewN | apply below_drew1)) hgr GE200.out); clear HB; have HB := N_; clear N_; clear BK200; have BK200 := Aside0.mk hbk; clear hbk hgr) | ((with_reducible refine gate_store (t := 34) (p := 7) rfl ?_); refine store_blkg rfl (ty := 34) (p := 7) rfl rfl BK227.out 0 rfl rfl (Nat.le_of_ble_eq_true rfl) (by kernel_rfl) (by simp [Value.oneCell']) ?_; intro w_ hbk hgr; simp only [putAt, List.setIfInBounds_toArray, List.set_cons_zero, List.set_cons_succ, Nat.zero_add, Nat.reduceAdd] at hbk; (try (have N_ := Aside0.mk (Kd.R_mono (Kd.R_grown (Kd.R_types HO255.out BK227.out (by decide)) hgr (fun _ hk_ e_ => hk_.2 (by injection e_))) (fun _ hk_ => hk_.1)); clear HO255; have HO255 := N_; clear N_)); (try (have N_ := Aside0.mk (Kd.R_mono (Kd.R_grown (Kd.R_types HO_201021.out BK227.out (by decide)) hgr (fun _ hk_ e_ => hk_.2 (by injection e_))) (fun _ hk_ => hk_.1)); clear HO_201021; have HO_201021 := N_; clear N_)); (try (have N_ := Aside0.mk (Kd.R_mono (Kd.R_grown (Kd.R_types HO_228021.out BK227.out (by decide)) hgr (fun _ hk_ e_ => hk_.2 (by injection e_))) (fun _ hk_ => hk_.1)); clear HO_228021; have HO_228021 := N_; clear N_)); (try (have N_ := Aside0.mk (blk_other BK200.out hgr NB200_227.out); clear BK200; have BK200 := N_; clear N_)); (try (have N_ := Aside0.mk (blk_other BK258.out hgr NB258_227.out); clear BK258; have BK258 := N_; clear N_)); have N_ := Aside0.mk (below_grown (by repeat (first | exact HB.out | apply below_alloc | apply pw_below_drewN | apply below_drew1)) hgr GE227.out); clear HB; have HB := N_; clear N_; clear BK227; have BK227 := Aside0.mk hbk; clear hbk hgr) | ((with_reducible refine gate_dst (N := 28) rfl ?_); refine load_blkg rfl (ty := 34) (p := 7) rfl BK227.out 0 23 rfl rfl Try.underlying34 rfl (by kernel_rfl) ?_; simp only [List.drop_succ_cons, List.drop_zero, List.take_succ_cons, List.take_zero, Act.put, List.setIfInBounds_toArray, List.set_cons_zero, List.set_cons_succ, Option.elim]) | ((with_reducible refine gate_dst (N := 29) rfl ?_); refine load_blkg rfl (ty := 34) (p := 5) rfl BK200.out 0 23 rfl rfl Try.underlying34 rfl (by kernel_rfl) ?_; simp only [List.drop_succ_cons, List.drop_zero, List.take_succ_cons, List.take_zero, Act.put, List.setIfInBounds_toArray, List.set_cons_zero, List.set_cons_succ, Option.elim]) | ((with_reducible refine gate_dst (N := 37) rfl ?_); refine load_blkg rfl (ty := 34) (p := 7) rfl BK227.out 0 23 rfl rfl Try.underlying34 rfl (by kernel_rfl) ?_; simp only [List.drop_succ_cons, List.drop_zero, List.take_succ_cons, List.take_zero, Act.put, List.setIfInBounds_toArray, List.set_cons_zero, List.set_cons_succ, Option.elim]) | ((with_reducible refine gate_dst (N := 40) rfl ?_); refine load_blkg rfl (ty := 34) (p := 7) rfl BK227.out 0 23 rfl rfl Try.underlying34 rfl (by kernel_rfl) ?_; simp only [List.drop_succ_cons, List.drop_zero, List.take_succ_cons, List.take_zero, Act.put, List.setIfInBounds_toArray, List.set_cons_zero, List.set_cons_succ, Option.elim]) | ((with_reducible refine gate_store (t := 34) (p := 11) rfl ?_); refine store_blkg rfl (ty := 34) (p := 11) rfl rfl BK258.out 0 rfl rfl (Nat.le_of_ble_eq_true rfl) (by kernel_rfl) (by simp [Value.oneCell']) ?_; intro w_ hbk hgr; simp only [putAt, List.setIfInBounds_toArray, List.set_cons_zero, List.set_cons_succ, Nat.zero_add, Nat.reduceAdd] at hbk; (try (have N_ := Aside0.mk (Kd.R_mono (Kd.R_grown (Kd.R_types HO255.out BK258.out (by decide)) hgr (fun _ hk_ e_ => hk_.2 (by injection e_))) (fun _ hk_ => hk_.1)); clear HO255; have HO255 := N_; clear N_)); (try (have N_ := Aside0.mk (Kd.R_mono (Kd.R_grown (Kd.R_types HO_201021.out BK258.out (by decide)) hgr (fun _ hk_ e_ => hk_.2 (by injection e_))) (fun _ hk_ => hk_.1)); clear HO_201021; have HO_201021 := N_; clear N_)); (try (have N_ := Aside0.mk (Kd.R_mono (Kd.R_grown (Kd.R_types HO_228021.out BK258.out (by decide)) hgr (fun _ hk_ e_ => hk_.2 (by injection e_))) (fun _ hk_ => hk_.1)); clear HO_228021; have HO_228021 := N_; clear N_)); (try (have N_ := Aside0.mk (blk_other BK200.out hgr NB200_258.out); clear BK200; have BK200 := N_; clear N_)); (try (have N_ := Aside0.mk (blk_other BK227.out hgr NB227_258.out); clear BK227; have BK227 := N_; clear N_)); have N_ := Aside0.mk (below_grown (by repeat (first | exact HB.out | apply below_alloc | apply pw_below_drewN | apply below_drew1)) hgr GE258.out); clear HB; have HB := N_; clear N_; clear BK258; have BK258 := Aside0.mk hbk; clear hbk hgr) | ((with_reducible refine gate_dst (N := 54) rfl ?_); refine load_blkg rfl (ty := 34) (p := 11) rfl BK258.out 0 23 rfl rfl Try.underlying34 rfl (by kernel_rfl) ?_; simp only [List.drop_succ_cons, List.drop_zero, List.take_succ_cons, List.take_zero, Act.put, List.setIfInBounds_toArray, List.set_cons_zero, List.set_cons_succ, Option.elim]) | ((with_reducible refine gate_dst (N := 55) rfl ?_); refine load_blkg rfl (ty := 34) (p := 5) rfl BK200.out 0 23 rfl rfl Try.underlying34 rfl (by kernel_rfl) ?_; simp only [List.drop_succ_cons, List.drop_zero, List.take_succ_cons, List.take_zero, Act.put, List.setIfInBounds_toArray, List.set_cons_zero, List.set_cons_succ, Option.elim]) | ((with_reducible refine gate_dst (N := 63) rfl ?_); refine load_blkg rfl (ty := 34) (p := 7) rfl BK227.out 0 23 rfl rfl Try.underlying34 rfl (by kernel_rfl) ?_; simp only [List.drop_succ_cons, List.drop_zero, List.take_succ_cons, List.take_zero, Act.put, List.setIfInBounds_toArray, List.set_cons_zero, List.set_cons_succ, Option.elim]) | ((with_reducible refine gate_callee (f := 11) rfl ?_); refine goesL_ (some 56) rfl rfl Try.func11 (by kernel_rfl) rfl #[.agg #[.int .i64 t232, .int .i64 t233, .int .i64 t234, .int .i64 t235, .int .i64 t236, .int .i64 t237, .int .i64 t238, .int .i64 t239, .int .i64 t240, .int .i64 t241, .bool t242, .bool t243, .string t244, .int .i64 t245, .int .i64 t246, .string t247, .int .i64 t248, .bool t249, .int .i64 t250, .string t251, .string t252, .slice Ao48 t253.length co48, .int .i64 t256], .agg #[.int .i64 t174, .int .i64 t175, .int .i64 t176, .int .i64 t177, .int .i64 t178, .int .i64 t179, .int .i64 t180, .int .i64 t181, .int .i64 t182, .int .i64 t183, .bool t184, .bool t185, .string t186, .int .i64 t187, .int .i64 t188, .string t189, .int .i64 t190, .bool t191, .int .i64 t192, .string t193, .string t194, .slice Ao10 t195.length co10, .int .i64 t198]] rfl (by (try simp only [List.map_toArray, List.map_cons, List.map_nil]); first | done | rfl | (simp only [List.length_drop, List.length_take]; rfl)) ?_; (with_reducible refine (laws_eqMachine.calls kj5 t232 t233 t234 t235 t236 t237 t238 t239 t240 t241 t242 t243 t244 t245 t246 t247 t248 t249 t250 t251 t252 _ _ t253 t256 t174 t175 t176 t177 t178 t179 t180 t181 t182 t183 t184 t185 t186 t187 t188 t189 t190 t191 t192 t193 t194 _ _ t195 t198 false _ ?side1 ?side2 ?side3 ?side4 A49.out).mono ?_); (case side1 => refine (Kd.R_reads' (e := 2) (base := w.heap.size) (ok := fun k_ => ((True ∧ some k_ ≠ (.slice Ao10 t195.length co10 : Value).ownBlock) ∧ some k_ ≠ (.slice Ao15 t222.length co15 : Value).ownBlock)) (n := t253.length) (c := co48) ?_).2.2; exact (by (with_reducible repeat (first | apply Kd.R_alloc | apply Kd.R_drewN | apply Kd.R_drew)); exact (HO255.out))); (case side2 => exact (Kd.R_reads' HO255.out).2.1); (case side3 => refine (Kd.R_reads' (e := 2) (base := w.heap.size) (ok := fun k_ => (some k_ ≠ (.slice Ao15 t222.length co15 : Value).ownBlock ∧ some k_ ≠ (.slice Ao48 t253.length co48 : Value).ownBlock)) (n := t195.length) (c := co10) ?_).2.2; exact (by (with_reducible repeat (first | apply Kd.R_alloc | apply Kd.R_drewN | apply Kd.R_drew)); exact (HO_201021.out))); (case side4 => exact (Kd.R_reads' HO_201021.out).2.1); rintro e w62 ⟨rfl, hb⟩; refine ⟨_, rfl, ?_⟩; have n0_ := Aside0.mk (Kd.R_below (by (with_reducible repeat (first | apply Kd.R_alloc | apply Kd.R_drewN | apply Kd.R_drew)); exact (HO_201021.out)) hb); have n1_ := Aside0.mk (Kd.R_below (by (with_reducible repeat (first | apply Kd.R_alloc | apply Kd.R_drewN | apply Kd.R_drew)); exact (HO_228021.out)) hb); have n2_ := Aside0.mk (Kd.R_below (by (with_reducible repeat (first | apply Kd.R_alloc | apply Kd.R_drewN | apply Kd.R_drew)); exact (HO255.out)) hb); have n3_ := Aside0.mk (blk_below (g := gb200) (o := .cells #[.int .i64 t174, .int .i64 t175, .int .i64 t176, .int .i64 t177, .int .i64 t178, .int .i64 t179, .int .i64 t180, .int .i64 t181, .int .i64 t182, .int .i64 t183, .bool t184, .bool t185, .string t186, .int .i64 t187, .int .i64 t188, .string t189, .int .i64 t190, .bool t191, .int .i64 t192, .string t193, .string t194, .slice Ao10 t195.length co10, .int .i64 t198] 34 (0, 0)) (by (with_reducible repeat (first | refine blk_drewN ?_ _ | refine blk_drew ?_ | refine blk_alloc ?_ _)); exact BK200.out) hb); have n4_ := Aside0.mk (blk_below (g := gb227) (o := .cells #[.int .i64 t201, .int .i64 t202, .int .i64 t203, .int .i64 t204, .int .i64 t205, .int .i64 t206, .int .i64 t207, .int .i64 t208, .int .i64 t209, .int .i64 t210, .bool t211, .bool t212, .string t213, .int .i64 t214, .int .i64 t215, .string t216, .int .i64 t217, .bool t218, .int .i64 t219, .string t220, .string t221, .slice Ao15 t222.length co15, .int .i64 t225] 34 (0, 0)) (by (with_reducible repeat (first | refine blk_drewN ?_ _ | refine blk_drew ?_ | refine blk_alloc ?_ _)); exact BK227.out) hb); have n5_ := Aside0.mk (blk_below (g := gb258) (o := .cells #[.int .i64 t232, .int .i64 t233, .int .i64 t234, .int .i64 t235, .int .i64 t236, .int .i64 t237, .int .i64 t238, .int .i64 t239, .int .i64 t240, .int .i64 t241, .bool t242, .bool t243, .string t244, .int .i64 t245, .int .i64 t246, .string t247, .int .i64 t248, .bool t249, .int .i64 t250, .string t251, .string t252, .slice Ao48 t253.length co48, .int .i64 t256] 34 (0, 0)) (by (with_reducible repeat (first | refine blk_drewN ?_ _ | refine blk_drew ?_ | refine blk_alloc ?_ _)); exact BK258.out) hb); have n6_ := Aside0.mk (below_step (by repeat (first | (with_reducible first | exact HB.out | apply below_alloc | apply pw_below_drewN | apply below_drew1 | refine below_set ?_ GE200.out | refine below_set ?_ GE227.out | refine below_set ?_ GE258.out) | exact HB.out)) hb); clear HO_201021; clear HO_228021; clear HO255; clear BK200; clear BK227; clear BK258; clear HB; have HO_201021 := n0_; have HO_228021 := n1_; have HO255 := n2_; have BK200 := n3_; have BK227 := n4_; have BK258 := n5_; have HB := n6_; clear n0_ n1_ n2_ n3_ n4_ n5_ n6_; (try clear hb); (try clear hb2); (try clear hk); (try clear hi)))
                  go_meet
                  case rel => exact ⟨_, (true), (by first | rfl | (simp; done) | (simp [*]; done)), H', ⟨by have := HJ5.out; first | omega | exact Nat.le_refl _⟩, ⟨by (with_reducible repeat (first | apply Kd.R_alloc | apply Kd.R_drewN | apply Kd.R_drew)); exact HO_201021.out⟩, ⟨by (with_reducible repeat (first | apply Kd.R_alloc | apply Kd.R_drewN | apply Kd.R_drew)); exact HO_228021.out⟩, ⟨by (with_reducible repeat (first | apply Kd.R_alloc | apply Kd.R_drewN | apply Kd.R_drew)); exact Kd.R_mono HO255.out (fun _ hk => ⟨hk.1.2, hk.2⟩)⟩, ⟨by (with_reducible repeat (first | refine blk_drewN ?_ _ | refine blk_drew ?_ | refine blk_alloc ?_ _)); exact BK200.out⟩, ⟨by (with_reducible repeat (first | refine blk_drewN ?_ _ | refine blk_drew ?_ | refine blk_alloc ?_ _)); exact BK227.out⟩, ⟨by (with_reducible repeat (first | refine blk_drewN ?_ _ | refine blk_drew ?_ | refine blk_alloc ?_ _)); exact BK258.out⟩, ⟨by repeat (first | (with_reducible first | exact HB.out | apply below_alloc | apply pw_below_drewN | apply below_drew1 | refine below_set ?_ GE200.out | refine below_set ?_ GE227.out | refine below_set ?_ GE258.out) | exact HB.out)⟩⟩
              case rest =>
                clear HC37
                try clear c1
                try clear c2
                try clear p2
                try clear c3
                try clear c4
                try clear c5
                try clear c6
                try clear c11
                try clear c16
                try clear c17
                try clear c19
                try clear c26
                try clear c29
                try clear c29b0
                try clear c30
                try clear c35
                try clear c35b0
                try clear c35b1
                try clear c38
                try clear c45
                try clear c46
                try clear c50
                try clear c51
                try clear c52
                try clear c54
                try clear c57
                try clear c58
                try clear c60
                try clear hcz20_20
                try clear hcz20_21
                try clear hcz20_22
                try clear hcz20_3
                try clear hcz20_4
                try clear hcz20_5
                try clear hcz20_6
                try clear hcz20_7
                try clear hcz20_8
                try clear hcz20_9
                try clear hcz23_0
                try clear hcz23_1
                try clear hcz23_10
                try clear hcz23_11
                try clear hcz23_12
                try clear hcz23_13
                try clear hcz23_14
                try clear hcz23_15
                try clear hcz23_16
                try clear hcz23_17
                try clear hcz23_18
                try clear hcz23_19
                try clear hcz23_2
                try clear hcz23_20
                try clear hcz23_21
                try clear hcz23_22
                try clear hcz23_3
                try clear hcz23_4
                try clear hcz23_5
                try clear hcz23_6
                try clear hcz23_7
                try clear hcz23_8
                try clear hcz23_9
                try clear hcz24_0
                try clear hcz24_1
                try clear hcz24_10
                try clear hcz24_11
                try clear hcz24_12
                try clear hcz24_13
                try clear hcz24_14
                try clear hcz24_15
                try clear hcz24_16
                try clear hcz24_17
                try clear hcz24_18
                try clear hcz24_19
                try clear hcz24_2
                try clear hcz24_20
                try clear hcz24_21
                try clear hcz24_22
                try clear hcz24_3
                try clear hcz24_4
                try clear hcz24_5
                try clear hcz24_6
                try clear hcz24_7
                try clear hcz24_8
                try clear hcz24_9
                try clear hcz31_0
                try clear hcz31_1
                try clear hcz31_10
                try clear hcz31_11
                try clear hcz31_12
                try clear hcz31_13
                try clear hcz31_14
                try clear hcz31_15
                try clear hcz31_16
                try clear hcz31_17
                try clear hcz31_18
                try clear hcz31_19
                try clear hcz31_2
                try clear hcz31_20
                try clear hcz31_21
                try clear hcz31_22
                try clear hcz31_3
                try clear hcz31_4
                try clear hcz31_5
                try clear hcz31_6
                try clear hcz31_7
                try clear hcz31_8
                try clear hcz31_9
                try clear hcz33_0
                try clear hcz33_1
                try clear hcz33_10
                try clear hcz33_11
                try clear hcz33_12
                try clear hcz33_13
                try clear hcz33_14
                try clear hcz33_15
                try clear hcz33_16
                try clear hcz33_17
                try clear hcz33_18
                try clear hcz33_19
                try clear hcz33_2
                try clear hcz33_20
                try clear hcz33_21
                try clear hcz33_22
                try clear hcz33_3
                try clear hcz33_4
                try clear hcz33_5
                try clear hcz33_6
                try clear hcz33_7
                try clear hcz33_8
                try clear hcz33_9
                try clear hcz39_0
                try clear hcz39_1
                try clear hcz39_10
                try clear hcz39_11
                try clear hcz39_12
                try clear hcz39_13
                try clear hcz39_14
                try clear hcz39_15
                try clear hcz39_16
                try clear hcz39_17
                try clear hcz39_18
                try clear hcz39_19
                try clear hcz39_2
                try clear hcz39_20
                try clear hcz39_21
                try clear hcz39_22
                try clear hcz39_3
                try clear hcz39_4
                try clear hcz39_5
                try clear hcz39_6
                try clear hcz39_7
                try clear hcz39_8
                try clear hcz39_9
                try clear hcz41_0
                try clear hcz41_1
                try clear hcz41_10
                try clear hcz41_11
                try clear hcz41_12
                try clear hcz41_13
                try clear hcz41_14
                try clear hcz41_15
                try clear hcz41_16
                try clear hcz41_17
                try clear hcz41_18
                try clear hcz41_19
                try clear hcz41_2
                try clear hcz41_20
                try clear hcz41_21
                try clear hcz41_22
                try clear hcz41_3
                try clear hcz41_4
                try clear hcz41_5
                try clear hcz41_6
                try clear hcz41_7
                try clear hcz41_8
                try clear hcz41_9
                try clear hcz47_0
                try clear hcz47_1
                try clear hcz47_10
                try clear hcz47_11
                try clear hcz47_12
                try clear hcz47_13
                try clear hcz47_14
                try clear hcz47_15
                try clear hcz47_16
                try clear hcz47_17
                try clear hcz47_18
                try clear hcz47_19
                try clear hcz47_2
                try clear hcz47_20
                try clear hcz47_21
                try clear hcz47_22
                try clear hcz47_3
                try clear hcz47_4
                try clear hcz47_5
                try clear hcz47_6
                try clear hcz47_7
                try clear hcz47_8
                try clear hcz47_9
                try clear hcz53_0
                try clear hcz53_1
                try clear hcz53_10
                try clear hcz53_11
                try clear hcz53_12
                try clear hcz53_13
                try clear hcz53_14
                try clear hcz53_15
                try clear hcz53_16
                try clear hcz53_17
                try clear hcz53_18
                try clear hcz53_19
                try clear hcz53_2
                try clear hcz53_20
                try clear hcz53_21
                try clear hcz53_22
                try clear hcz53_3
                try clear hcz53_4
                try clear hcz53_5
                try clear hcz53_6
                try clear hcz53_7
                try clear hcz53_8
                try clear hcz53_9
                try clear hcz55_0
                try clear hcz55_1
                try clear hcz55_10
                try clear hcz55_11
                try clear hcz55_12
                try clear hcz55_13
                try clear hcz55_14
                try clear hcz55_15
                try clear hcz55_16
                try clear hcz55_17
                try clear hcz55_18
                try clear hcz55_19
                try clear hcz55_2
                try clear hcz55_20
                try clear hcz55_21
                try clear hcz55_22
                try clear hcz55_3
                try clear hcz55_4
                try clear hcz55_5
                try clear hcz55_6
                try clear hcz55_7
                try clear hcz55_8
                try clear hcz55_9
                try clear hcz59_0
                try clear hcz59_1
                try clear hcz59_10
                try clear hcz59_11
                try clear hcz59_12
                try clear hcz59_13
                try clear hcz59_14
                try clear hcz59_15
                try clear hcz59_16
                try clear hcz59_17
                try clear hcz59_18
                try clear hcz59_19
                try clear hcz59_2
                try clear hcz59_20
                try clear hcz59_21
                try clear hcz59_22
                try clear hcz59_3
                try clear hcz59_4
                try clear hcz59_5
                try clear hcz59_6
                try clear hcz59_7
                try clear hcz59_8
                try clear hcz59_9
                try clear hcz61_0
                try clear hcz61_1
                try clear hcz61_10
                try clear hcz61_11
                try clear hcz61_12
                try clear hcz61_13
                try clear hcz61_14
                try clear hcz61_15
                try clear hcz61_16
                try clear hcz61_17
                try clear hcz61_18
                try clear hcz61_19
                try clear hcz61_2
                try clear hcz61_20
                try clear hcz61_21
                try clear hcz61_22
                try clear hcz61_3
                try clear hcz61_4
                try clear hcz61_5
                try clear hcz61_6
                try clear hcz61_7
                try clear hcz61_8
                try clear hcz61_9
                try clear hcz9_0
                try clear hcz9_1
                try clear hcz9_10
                try clear hcz9_11
                try clear hcz9_12
                try clear hcz9_13
                try clear hcz9_14
                try clear hcz9_15
                try clear hcz9_16
                try clear hcz9_17
                try clear hcz9_18
                try clear hcz9_19
                try clear hcz9_2
                try clear hcz9_20
                try clear hcz9_21
                try clear hcz9_22
                try clear hcz9_3
                try clear hcz9_4
                try clear hcz9_5
                try clear hcz9_6
                try clear hcz9_7
                try clear hcz9_8
                try clear hcz9_9
                try clear hfz14_0
                try clear hfz14_1
                try clear hfz14_10
                try clear hfz14_11
                try clear hfz14_12
                try clear hfz14_13
                try clear hfz14_14
                try clear hfz14_15
                try clear hfz14_16
                try clear hfz14_17
                try clear hfz14_18
                try clear hfz14_19
                try clear hfz14_2
                try clear hfz14_20
                try clear hfz14_21
                try clear hfz14_22
                try clear hfz14_3
                try clear hfz14_4
                try clear hfz14_5
                try clear hfz14_6
                try clear hfz14_7
                try clear hfz14_8
                try clear hfz14_9
                try clear hfz19_0
                try clear hfz19_1
                try clear hfz19_10
                try clear hfz19_11
                try clear hfz19_12
                try clear hfz19_13
                try clear hfz19_14
                try clear hfz19_15
                try clear hfz19_16
                try clear hfz19_17
                try clear hfz19_18
                try clear hfz19_19
                try clear hfz19_2
                try clear hfz19_20
                try clear hfz19_21
                try clear hfz19_22
                try clear hfz19_3
                try clear hfz19_4
                try clear hfz19_5
                try clear hfz19_6
                try clear hfz19_7
                try clear hfz19_8
                try clear hfz19_9
                try clear hfz20_0
                try clear hfz20_1
                try clear hfz20_10
                try clear hfz20_11
                try clear hfz20_12
                try clear hfz20_13
                try clear hfz20_14
                try clear hfz20_15
                try clear hfz20_16
                try clear hfz20_17
                try clear hfz20_18
                try clear hfz20_19
                try clear hfz20_2
                try clear hfz20_20
                try clear hfz20_21
                try clear hfz20_22
                try clear hfz20_3
                try clear hfz20_4
                try clear hfz20_5
                try clear hfz20_6
                try clear hfz20_7
                try clear hfz20_8
                try clear hfz20_9
                try clear hfz23_0
                try clear hfz23_1
                try clear hfz23_10
                try clear hfz23_11
                try clear hfz23_12
                try clear hfz23_13
                try clear hfz23_14
                try clear hfz23_15
                try clear hfz23_16
                try clear hfz23_17
                try clear hfz23_18
                try clear hfz23_19
                try clear hfz23_2
                try clear hfz23_20
                try clear hfz23_21
                try clear hfz23_22
                try clear hfz23_3
                try clear hfz23_4
                try clear hfz23_5
                try clear hfz23_6
                try clear hfz23_7
                try clear hfz23_8
                try clear hfz23_9
                try clear hfz24_0
                try clear hfz24_1
                try clear hfz24_10
                try clear hfz24_11
                try clear hfz24_12
                try clear hfz24_13
                try clear hfz24_14
                try clear hfz24_15
                try clear hfz24_16
                try clear hfz24_17
                try clear hfz24_18
                try clear hfz24_19
                try clear hfz24_2
                try clear hfz24_20
                try clear hfz24_21
                try clear hfz24_22
                try clear hfz24_3
                try clear hfz24_4
                try clear hfz24_5
                try clear hfz24_6
                try clear hfz24_7
                try clear hfz24_8
                try clear hfz24_9
                try clear hfz31_0
                try clear hfz31_1
                try clear hfz31_10
                try clear hfz31_11
                try clear hfz31_12
                try clear hfz31_13
                try clear hfz31_14
                try clear hfz31_15
                try clear hfz31_16
                try clear hfz31_17
                try clear hfz31_18
                try clear hfz31_19
                try clear hfz31_2
                try clear hfz31_20
                try clear hfz31_21
                try clear hfz31_22
                try clear hfz31_3
                try clear hfz31_4
                try clear hfz31_5
                try clear hfz31_6
                try clear hfz31_7
                try clear hfz31_8
                try clear hfz31_9
                try clear hfz33_0
                try clear hfz33_1
                try clear hfz33_10
                try clear hfz33_11
                try clear hfz33_12
                try clear hfz33_13
                try clear hfz33_14
                try clear hfz33_15
                try clear hfz33_16
                try clear hfz33_17
                try clear hfz33_18
                try clear hfz33_19
                try clear hfz33_2
                try clear hfz33_20
                try clear hfz33_21
                try clear hfz33_22
                try clear hfz33_3
                try clear hfz33_4
                try clear hfz33_5
                try clear hfz33_6
                try clear hfz33_7
                try clear hfz33_8
                try clear hfz33_9
                try clear hfz39_0
                try clear hfz39_1
                try clear hfz39_10
                try clear hfz39_11
                try clear hfz39_12
                try clear hfz39_13
                try clear hfz39_14
                try clear hfz39_15
                try clear hfz39_16
                try clear hfz39_17
                try clear hfz39_18
                try clear hfz39_19
                try clear hfz39_2
                try clear hfz39_20
                try clear hfz39_21
                try clear hfz39_22
                try clear hfz39_3
                try clear hfz39_4
                try clear hfz39_5
                try clear hfz39_6
                try clear hfz39_7
                try clear hfz39_8
                try clear hfz39_9
                try clear hfz41_0
                try clear hfz41_1
                try clear hfz41_10
                try clear hfz41_11
                try clear hfz41_12
                try clear hfz41_13
                try clear hfz41_14
                try clear hfz41_15
                try clear hfz41_16
                try clear hfz41_17
                try clear hfz41_18
                try clear hfz41_19
                try clear hfz41_2
                try clear hfz41_20
                try clear hfz41_21
                try clear hfz41_22
                try clear hfz41_3
                try clear hfz41_4
                try clear hfz41_5
                try clear hfz41_6
                try clear hfz41_7
                try clear hfz41_8
                try clear hfz41_9
                try clear hfz47_0
                try clear hfz47_1
                try clear hfz47_10
                try clear hfz47_11
                try clear hfz47_12
                try clear hfz47_13
                try clear hfz47_14
                try clear hfz47_15
                try clear hfz47_16
                try clear hfz47_17
                try clear hfz47_18
                try clear hfz47_19
                try clear hfz47_2
                try clear hfz47_20
                try clear hfz47_21
                try clear hfz47_22
                try clear hfz47_3
                try clear hfz47_4
                try clear hfz47_5
                try clear hfz47_6
                try clear hfz47_7
                try clear hfz47_8
                try clear hfz47_9
                try clear hfz53_0
                try clear hfz53_1
                try clear hfz53_10
                try clear hfz53_11
                try clear hfz53_12
                try clear hfz53_13
                try clear hfz53_14
                try clear hfz53_15
                try clear hfz53_16
                try clear hfz53_17
                try clear hfz53_18
                try clear hfz53_19
                try clear hfz53_2
                try clear hfz53_20
                try clear hfz53_21
                try clear hfz53_22
                try clear hfz53_3
                try clear hfz53_4
                try clear hfz53_5
                try clear hfz53_6
                try clear hfz53_7
                try clear hfz53_8
                try clear hfz53_9
                try clear hfz55_0
                try clear hfz55_1
                try clear hfz55_10
                try clear hfz55_11
                try clear hfz55_12
                try clear hfz55_13
                try clear hfz55_14
                try clear hfz55_15
                try clear hfz55_16
                try clear hfz55_17
                try clear hfz55_18
                try clear hfz55_19
                try clear hfz55_2
                try clear hfz55_20
                try clear hfz55_21
                try clear hfz55_22
                try clear hfz55_3
                try clear hfz55_4
                try clear hfz55_5
                try clear hfz55_6
                try clear hfz55_7
                try clear hfz55_8
                try clear hfz55_9
                try clear hfz59_0
                try clear hfz59_1
                try clear hfz59_10
                try clear hfz59_11
                try clear hfz59_12
                try clear hfz59_13
                try clear hfz59_14
                try clear hfz59_15
                try clear hfz59_16
                try clear hfz59_17
                try clear hfz59_18
                try clear hfz59_19
                try clear hfz59_2
                try clear hfz59_20
                try clear hfz59_21
                try clear hfz59_22
                try clear hfz59_3
                try clear hfz59_4
                try clear hfz59_5
                try clear hfz59_6
                try clear hfz59_7
                try clear hfz59_8
                try clear hfz59_9
                try clear hfz61_0
                try clear hfz61_1
                try clear hfz61_10
                try clear hfz61_11
                try clear hfz61_12
                try clear hfz61_13
                try clear hfz61_14
                try clear hfz61_15
                try clear hfz61_16
                try clear hfz61_17
                try clear hfz61_18
                try clear hfz61_19
                try clear hfz61_2
                try clear hfz61_20
                try clear hfz61_21
                try clear hfz61_22
                try clear hfz61_3
                try clear hfz61_4
                try clear hfz61_5
                try clear hfz61_6
                try clear hfz61_7
                try clear hfz61_8
                try clear hfz61_9
                try clear hfz9_0
                try clear hfz9_1
                try clear hfz9_10
                try clear hfz9_11
                try clear hfz9_12
                try clear hfz9_13
                try clear hfz9_14
                try clear hfz9_15
                try clear hfz9_16
                try clear hfz9_17
                try clear hfz9_18
                try clear hfz9_19
                try clear hfz9_2
                try clear hfz9_20
                try clear hfz9_21
                try clear hfz9_22
                try clear hfz9_3
                try clear hfz9_4
                try clear hfz9_5
                try clear hfz9_6
                try clear hfz9_7
                try clear hfz9_8
                try clear hfz9_9
                obtain ⟨kq, x62_36, rfl, HA, HJ36, HO_201021, HO_228021, HO_259021, BK200, BK227, BK258, HB⟩ := hcut
                have hl228021_36 := (Kd.R_reads' HO_228021.out).1
                rw [hl228021_36] at HO_228021
                (try simp only [hl228021_36])
                (try simp only [hl228021_36] at BK200)
                (try simp only [hl228021_36] at BK227)
                (try simp only [hl228021_36] at BK258)
                (try simp only [hl228021_36] at HO_201021)
                (try simp only [hl228021_36] at HO_259021)
                cases kq with
                | zero => exact absurd HA.out (by simp [laws_FnExactMachineNew.j1])
                | succ kj36 =>
                  have H := HA.out
                  clear HA
                  simp only [laws_FnExactMachineNew.j1] at H
                  by_cases c63 : x62_36 = true
                  · subst c63
                    have H1 : (some false) = some r := by rw [if_pos rfl] at H; exact H
                    clear H
                    have H := H1
                    clear H1
                    obtain rfl := Option.some.inj H
                    go_wp2
                    go_ret
                    exact ⟨by first | rfl | (simp [errW_none, errW_some] <;> rfl) | (simp [*, errW_none, errW_some] <;> rfl), by repeat (first | (with_reducible first | exact HB.out | apply below_alloc | apply pw_below_drewN | apply below_drew1 | refine below_set ?_ GE200.out | refine below_set ?_ GE227.out | refine below_set ?_ GE258.out) | exact HB.out)⟩
                  · replace c63 := Bool.eq_false_iff.mpr c63
                    subst c63
                    have H1 : ((laws_heldMachine.f kj36 t201 t202 t203 t204 t205 t206 t207 t208 t209 t210 t211 t212 t213 t214 t215 t216 t217 t218 t219 t220 t221 t230 t225 1).bind fun t260 => (if t260 < 0 then (some false) else (if t260 = t229 then (some true) else (some false)))) = some r := by rw [if_neg (show ¬ (false = true) by decide)] at H; exact H
                    clear H
                    have H := H1
                    clear H1
                    replace H := Option.bind_eq_some_iff.mp H
                    obtain ⟨t260, A640, H⟩ := H
                    replace H : (if t260 < 0 then (some false) else (if t260 = t229 then (some true) else (some false))) = some r := H
                    have A64 := Aside0.mk A640
                    clear A640
                    by_cases c65 : t260 < 0
                    · rw [if_pos c65] at H
                      have c65b0 : decide (t260 < 0) = true := decide_eq_true c65
                      clear c65
                      obtain rfl := Option.some.inj H
                      have hnb66 := NB227_200.out
                      have hnc66 := NB200_227.out
                      have hnb67 := NB227_258.out
                      have hnc67 := NB258_227.out
                      go_wp2_with (first | ((with_reducible refine gate_store (t := 34) (p := 5) rfl ?_); refine store_blkg rfl (ty := 34) (p := 5) rfl rfl BK200.out 0 rfl rfl (Nat.le_of_ble_eq_true rfl) (by kernel_rfl) (by simp [Value.oneCell']) ?_; intro w_ hbk hgr; simp only [putAt, List.setIfInBounds_toArray, List.set_cons_zero, List.set_cons_succ, Nat.zero_add, Nat.reduceAdd] at hbk; (try (have N_ := Aside0.mk (Kd.R_mono (Kd.R_grown (Kd.R_types HO_201021.out BK200.out (by decide)) hgr (fun _ hk_ e_ => hk_.2 (by injection e_))) (fun _ hk_ => hk_.1)); clear HO_201021; have HO_201021 := N_; clear N_)); (try (have N_ := Aside0.mk (Kd.R_mono (Kd.R_grown (Kd.R_types HO_228021.out BK200.out (by decide)) hgr (fun _ hk_ e_ => hk_.2 (by injection e_))) (fun _ hk_ => hk_.1)); clear HO_228021; have HO_228021 := N_; clear N_)); (try (have N_ := Aside0.mk (Kd.R_mono (Kd.R_grown (Kd.R_types HO_259021.out BK200.out (by decide)) hgr (fun _ hk_ e_ => hk_.2 (by injection e_))) (fun _ hk_ => hk_.1)); clear HO_259021; have HO_259021 := N_; clear N_)); (try (have N_ := Aside0.mk (blk_other BK227.out hgr NB227_200.out); clear BK227; have BK227 := N_; clear N_)); (try (have N_ := Aside0.mk (blk_other BK258.out hgr NB258_200.out); clear BK258; have BK258 := N_; clear N_)); have N_ := Aside0.mk (below_grown (by repeat (first | exact HB.out | apply below_alloc | apply pw_below_drewN | apply below_drew1)) hgr GE200.out); clear HB; have HB := N_; clear N_; clear BK200; have BK200 := Aside0.mk hbk; clear hbk hgr) | ((with_reducible refine gate_store (t := 34) (p := 7) rfl ?_); refine store_blkg rfl (ty := 34) (p := 7) rfl rfl BK227.out 0 rfl rfl (Nat.le_of_ble_eq_true rfl) (by kernel_rfl) (by simp [Value.oneCell']) ?_; intro w_ hbk hgr; simp only [putAt, List.setIfInBounds_toArray, List.set_cons_zero, List.set_cons_succ, Nat.zero_add, Nat.reduceAdd] at hbk; (try (have N_ := Aside0.mk (Kd.R_mono (Kd.R_grown (Kd.R_types HO_201021.out BK227.out (by decide)) hgr (fun _ hk_ e_ => hk_.2 (by injection e_))) (fun _ hk_ => hk_.1)); clear HO_201021; have HO_201021 := N_; clear N_)); (try (have N_ := Aside0.mk (Kd.R_mono (Kd.R_grown (Kd.R_types HO_228021.out BK227.out (by decide)) hgr (fun _ hk_ e_ => hk_.2 (by injection e_))) (fun _ hk_ => hk_.1)); clear HO_228021; have HO_228021 := N_; clear N_)); (try (have N_ := Aside0.mk (Kd.R_mono (Kd.R_grown (Kd.R_types HO_259021.out BK227.out (by decide)) hgr (fun _ hk_ e_ => hk_.2 (by injection e_))) (fun _ hk_ => hk_.1)); clear HO_259021; have HO_259021 := N_; clear N_)); (try (have N_ := Aside0.mk (blk_other BK200.out hgr NB200_227.out); clear BK200; have BK200 := N_; clear N_)); (try (have N_ := Aside0.mk (blk_other BK258.out hgr NB258_227.out); clear BK258; have BK258 := N_; clear N_)); have N_ := Aside0.mk (below_grown (by repeat (first | exact HB.out | apply below_alloc | apply pw_below_drewN | apply below_drew1)) hgr GE227.out); clear HB; have HB := N_; clear N_; clear BK227; have BK227 := Aside0.mk hbk; clear hbk hgr) | ((with_reducible refine gate_dst (N := 28) rfl ?_); refine load_blkg rfl (ty := 34) (p := 7) rfl BK227.out 0 23 rfl rfl Try.underlying34 rfl (by kernel_rfl) ?_; simp only [List.drop_succ_cons, List.drop_zero, List.take_succ_cons, List.take_zero, Act.put, List.setIfInBounds_toArray, List.set_cons_zero, List.set_cons_succ, Option.elim]) | ((with_reducible refine gate_dst (N := 29) rfl ?_); refine load_blkg rfl (ty := 34) (p := 5) rfl BK200.out 0 23 rfl rfl Try.underlying34 rfl (by kernel_rfl) ?_; simp only [List.drop_succ_cons, List.drop_zero, List.take_succ_cons, List.take_zero, Act.put, List.setIfInBounds_toArray, List.set_cons_zero, List.set_cons_succ, Option.elim]) | ((with_reducible refine gate_dst (N := 37) rfl ?_); refine load_blkg rfl (ty := 34) (p := 7) rfl BK227.out 0 23 rfl rfl Try.underlying34 rfl (by kernel_rfl) ?_; simp only [List.drop_succ_cons, List.drop_zero, List.take_succ_cons, List.take_zero, Act.put, List.setIfInBounds_toArray, List.set_cons_zero, List.set_cons_succ, Option.elim]) | ((with_reducible refine gate_dst (N := 40) rfl ?_); refine load_blkg rfl (ty := 34) (p := 7) rfl BK227.out 0 23 rfl rfl Try.underlying34 rfl (by kernel_rfl) ?_; simp only [List.drop_succ_cons, List.drop_zero, List.take_succ_cons, List.take_zero, Act.put, List.setIfInBounds_toArray, List.set_cons_zero, List.set_cons_succ, Option.elim]) | ((with_reducible refine gate_store (t := 34) (p := 11) rfl ?_); refine store_blkg rfl (ty := 34) (p := 11) rfl rfl BK258.out 0 rfl rfl (Nat.le_of_ble_eq_true rfl) (by kernel_rfl) (by simp [Value.oneCell']) ?_; intro w_ hbk hgr; simp only [putAt, List.setIfInBounds_toArray, List.set_cons_zero, List.set_cons_succ, Nat.zero_add, Nat.reduceAdd] at hbk; (try (have N_ := Aside0.mk (Kd.R_mono (Kd.R_grown (Kd.R_types HO_201021.out BK258.out (by decide)) hgr (fun _ hk_ e_ => hk_.2 (by injection e_))) (fun _ hk_ => hk_.1)); clear HO_201021; have HO_201021 := N_; clear N_)); (try (have N_ := Aside0.mk (Kd.R_mono (Kd.R_grown (Kd.R_types HO_228021.out BK258.out (by decide)) hgr (fun _ hk_ e_ => hk_.2 (by injection e_))) (fun _ hk_ => hk_.1)); clear HO_228021; have HO_228021 := N_; clear N_)); (try (have N_ := Aside0.mk (Kd.R_mono (Kd.R_grown (Kd.R_types HO_259021.out BK258.out (by decide)) hgr (fun _ hk_ e_ => hk_.2 (by injection e_))) (fun _ hk_ => hk_.1)); clear HO_259021; have HO_259021 := N_; clear N_)); (try (have N_ := Aside0.mk (blk_other BK200.out hgr NB200_258.out); clear BK200; have BK200 := N_; clear N_)); (try (have N_ := Aside0.mk (blk_other BK227.out hgr NB227_258.out); clear BK227; have BK227 := N_; clear N_)); have N_ := Aside0.mk (below_grown (by repeat (first | exact HB.out | apply below_alloc | apply pw_below_drewN | apply below_drew1)) hgr GE258.out); clear HB; have HB := N_; clear N_; clear BK258; have BK258 := Aside0.mk hbk; clear hbk hgr) | ((with_reducible refine gate_dst (N := 54) rfl ?_); refine load_blkg rfl (ty := 34) (p := 11) rfl BK258.out 0 23 rfl rfl Try.underlying34 rfl (by kernel_rfl) ?_; simp only [List.drop_succ_cons, List.drop_zero, List.take_succ_cons, List.take_zero, Act.put, List.setIfInBounds_toArray, List.set_cons_zero, List.set_cons_succ, Option.elim]) | ((with_reducible refine gate_dst (N := 55) rfl ?_); refine load_blkg rfl (ty := 34) (p := 5) rfl BK200.out 0 23 rfl rfl Try.underlying34 rfl (by kernel_rfl) ?_; simp only [List.drop_succ_cons, List.drop_zero, List.take_succ_cons, List.take_zero, Act.put, List.setIfInBounds_toArray, List.set_cons_zero, List.set_cons_succ, Option.elim]) | ((with_reducible refine gate_dst (N := 63) rfl ?_); refine load_blkg rfl (ty := 34) (p := 7) rfl BK227.out 0 23 rfl rfl Try.underlying34 rfl (by kernel_rfl) ?_; simp only [List.drop_succ_cons, List.drop_zero, List.take_succ_cons, List.take_zero, Act.put, List.setIfInBounds_toArray, List.set_cons_zero, List.set_cons_succ, Option.elim]) | ((with_reducible refine gate_callee (f := 17) rfl ?_); refine goesL_ (some 65) rfl rfl Try.func17 (by kernel_rfl) rfl #[.agg #[.int .i64 t201, .int .i64 t202, .int .i64 t203, .int .i64 t204, .int .i64 t205, .int .i64 t206, .int .i64 t207, .int .i64 t208, .int .i64 t209, .int .i64 t210, .bool t211, .bool t212, .string t213, .int .i64 t214, .int .i64 t215, .string t216, .int .i64 t217, .bool t218, .int .i64 t219, .string t220, .string t221, .slice Ao15 t230.length co15, .int .i64 t225], .int .i64 1] rfl (by (try simp only [List.map_toArray, List.map_cons, List.map_nil]); first | done | rfl | (simp only [List.length_drop, List.length_take]; rfl)) ?_; (with_reducible refine (laws_heldMachine.calls kj36 t201 t202 t203 t204 t205 t206 t207 t208 t209 t210 t211 t212 t213 t214 t215 t216 t217 t218 t219 t220 t221 _ _ t230 t225 1 t260 _ ?side1 ?side2 A64.out).mono ?_); (case side1 => repeat (first | exact (Kd.R_reads' HO_228021.out).2.2 | (with_reducible refine Kd.C_alloc ?_ _) | (with_reducible refine Kd.C_drewN ?_ _) | (with_reducible refine Kd.C_drew ?_))); (case side2 => exact (Kd.R_reads' HO_228021.out).2.1); rintro e w69 ⟨rfl, hb⟩; refine ⟨_, rfl, ?_⟩; have n0_ := Aside0.mk (Kd.R_below (by (with_reducible repeat (first | apply Kd.R_alloc | apply Kd.R_drewN | apply Kd.R_drew)); exact HO_201021.out) hb); have n1_ := Aside0.mk (Kd.R_below (by (with_reducible repeat (first | apply Kd.R_alloc | apply Kd.R_drewN | apply Kd.R_drew)); exact HO_228021.out) hb); have n2_ := Aside0.mk (Kd.R_below (by (with_reducible repeat (first | apply Kd.R_alloc | apply Kd.R_drewN | apply Kd.R_drew)); exact HO_259021.out) hb); have n3_ := Aside0.mk (blk_below (g := gb200) (o := .cells #[.int .i64 t174, .int .i64 t175, .int .i64 t176, .int .i64 t177, .int .i64 t178, .int .i64 t179, .int .i64 t180, .int .i64 t181, .int .i64 t182, .int .i64 t183, .bool t184, .bool t185, .string t186, .int .i64 t187, .int .i64 t188, .string t189, .int .i64 t190, .bool t191, .int .i64 t192, .string t193, .string t194, .slice Ao10 t195.length co10, .int .i64 t198] 34 (0, 0)) (by (with_reducible repeat (first | refine blk_drewN ?_ _ | refine blk_drew ?_ | refine blk_alloc ?_ _)); exact BK200.out) hb); have n4_ := Aside0.mk (blk_below (g := gb227) (o := .cells #[.int .i64 t201, .int .i64 t202, .int .i64 t203, .int .i64 t204, .int .i64 t205, .int .i64 t206, .int .i64 t207, .int .i64 t208, .int .i64 t209, .int .i64 t210, .bool t211, .bool t212, .string t213, .int .i64 t214, .int .i64 t215, .string t216, .int .i64 t217, .bool t218, .int .i64 t219, .string t220, .string t221, .slice Ao15 t230.length co15, .int .i64 t225] 34 (0, 0)) (by (with_reducible repeat (first | refine blk_drewN ?_ _ | refine blk_drew ?_ | refine blk_alloc ?_ _)); exact BK227.out) hb); have n5_ := Aside0.mk (blk_below (g := gb258) (o := .cells #[.int .i64 t232, .int .i64 t233, .int .i64 t234, .int .i64 t235, .int .i64 t236, .int .i64 t237, .int .i64 t238, .int .i64 t239, .int .i64 t240, .int .i64 t241, .bool t242, .bool t243, .string t244, .int .i64 t245, .int .i64 t246, .string t247, .int .i64 t248, .bool t249, .int .i64 t250, .string t251, .string t252, .slice Ao48 t253.length co48, .int .i64 t256] 34 (0, 0)) (by (with_reducible repeat (first | refine blk_drewN ?_ _ | refine blk_drew ?_ | refine blk_alloc ?_ _)); exact BK258.out) hb); have n6_ := Aside0.mk (below_step (by repeat (first | (with_reducible first | exact HB.out | apply below_alloc | apply pw_below_drewN | apply below_drew1 | refine below_set ?_ GE200.out | refine below_set ?_ GE227.out | refine below_set ?_ GE258.out) | exact HB.out)) hb); clear HO_201021; clear HO_228021; clear HO_259021; clear BK200; clear BK227; clear BK258; clear HB; have HO_201021 := n0_; have HO_228021 := n1_; have HO_259021 := n2_; have BK200 := n3_; have BK227 := n4_; have BK258 := n5_; have HB := n6_; clear n0_ n1_ n2_ n3_ n4_ n5_ n6_; (try clear hb); (try clear hb2); (try clear hk); (try clear hi)))
                      go_ret
                      exact ⟨by first | rfl | (simp [errW_none, errW_some] <;> rfl) | (simp [*, errW_none, errW_some] <;> rfl), by repeat (first | (with_reducible first | exact HB.out | apply below_alloc | apply pw_below_drewN | apply below_drew1 | refine below_set ?_ GE200.out | refine below_set ?_ GE227.out | refine below_set ?_ GE258.out) | exact HB.out)⟩
                    · rw [if_neg c65] at H
                      have c65b0 : decide (t260 < 0) = false := decide_eq_false c65
                      clear c65
                      by_cases c70 : t260 = t229
                      · rw [if_pos c70] at H
                        have c70b0 : (t260 == t229) = true := beq_iff_eq.mpr c70
                        have c70b1 : (t260 != t229) = false := bne_eq_false_iff_eq.mpr c70
                        clear c70
                        obtain rfl := Option.some.inj H
                        have hnb71 := NB227_200.out
                        have hnc71 := NB200_227.out
                        have hnb72 := NB227_258.out
                        have hnc72 := NB258_227.out
                        go_wp2_with (first | ((with_reducible refine gate_store (t := 34) (p := 5) rfl ?_); refine store_blkg rfl (ty := 34) (p := 5) rfl rfl BK200.out 0 rfl rfl (Nat.le_of_ble_eq_true rfl) (by kernel_rfl) (by simp [Value.oneCell']) ?_; intro w_ hbk hgr; simp only [putAt, List.setIfInBounds_toArray, List.set_cons_zero, List.set_cons_succ, Nat.zero_add, Nat.reduceAdd] at hbk; (try (have N_ := Aside0.mk (Kd.R_mono (Kd.R_grown (Kd.R_types HO_201021.out BK200.out (by decide)) hgr (fun _ hk_ e_ => hk_.2 (by injection e_))) (fun _ hk_ => hk_.1)); clear HO_201021; have HO_201021 := N_; clear N_)); (try (have N_ := Aside0.mk (Kd.R_mono (Kd.R_grown (Kd.R_types HO_228021.out BK200.out (by decide)) hgr (fun _ hk_ e_ => hk_.2 (by injection e_))) (fun _ hk_ => hk_.1)); clear HO_228021; have HO_228021 := N_; clear N_)); (try (have N_ := Aside0.mk (Kd.R_mono (Kd.R_grown (Kd.R_types HO_259021.out BK200.out (by decide)) hgr (fun _ hk_ e_ => hk_.2 (by injection e_))) (fun _ hk_ => hk_.1)); clear HO_259021; have HO_259021 := N_; clear N_)); (try (have N_ := Aside0.mk (blk_other BK227.out hgr NB227_200.out); clear BK227; have BK227 := N_; clear N_)); (try (have N_ := Aside0.mk (blk_other BK258.out hgr NB258_200.out); clear BK258; have BK258 := N_; clear N_)); have N_ := Aside0.mk (below_grown (by repeat (first | exact HB.out | apply below_alloc | apply pw_below_drewN | apply below_drew1)) hgr GE200.out); clear HB; have HB := N_; clear N_; clear BK200; have BK200 := Aside0.mk hbk; clear hbk hgr) | ((with_reducible refine gate_store (t := 34) (p := 7) rfl ?_); refine store_blkg rfl (ty := 34) (p := 7) rfl rfl BK227.out 0 rfl rfl (Nat.le_of_ble_eq_true rfl) (by kernel_rfl) (by simp [Value.oneCell']) ?_; intro w_ hbk hgr; simp only [putAt, List.setIfInBounds_toArray, List.set_cons_zero, List.set_cons_succ, Nat.zero_add, Nat.reduceAdd] at hbk; (try (have N_ := Aside0.mk (Kd.R_mono (Kd.R_grown (Kd.R_types HO_201021.out BK227.out (by decide)) hgr (fun _ hk_ e_ => hk_.2 (by injection e_))) (fun _ hk_ => hk_.1)); clear HO_201021; have HO_201021 := N_; clear N_)); (try (have N_ := Aside0.mk (Kd.R_mono (Kd.R_grown (Kd.R_types HO_228021.out BK227.out (by decide)) hgr (fun _ hk_ e_ => hk_.2 (by injection e_))) (fun _ hk_ => hk_.1)); clear HO_228021; have HO_228021 := N_; clear N_)); (try (have N_ := Aside0.mk (Kd.R_mono (Kd.R_grown (Kd.R_types HO_259021.out BK227.out (by decide)) hgr (fun _ hk_ e_ => hk_.2 (by injection e_))) (fun _ hk_ => hk_.1)); clear HO_259021; have HO_259021 := N_; clear N_)); (try (have N_ := Aside0.mk (blk_other BK200.out hgr NB200_227.out); clear BK200; have BK200 := N_; clear N_)); (try (have N_ := Aside0.mk (blk_other BK258.out hgr NB258_227.out); clear BK258; have BK258 := N_; clear N_)); have N_ := Aside0.mk (below_grown (by repeat (first | exact HB.out | apply below_alloc | apply pw_below_drewN | apply below_drew1)) hgr GE227.out); clear HB; have HB := N_; clear N_; clear BK227; have BK227 := Aside0.mk hbk; clear hbk hgr) | ((with_reducible refine gate_dst (N := 28) rfl ?_); refine load_blkg rfl (ty := 34) (p := 7) rfl BK227.out 0 23 rfl rfl Try.underlying34 rfl (by kernel_rfl) ?_; simp only [List.drop_succ_cons, List.drop_zero, List.take_succ_cons, List.take_zero, Act.put, List.setIfInBounds_toArray, List.set_cons_zero, List.set_cons_succ, Option.elim]) | ((with_reducible refine gate_dst (N := 29) rfl ?_); refine load_blkg rfl (ty := 34) (p := 5) rfl BK200.out 0 23 rfl rfl Try.underlying34 rfl (by kernel_rfl) ?_; simp only [List.drop_succ_cons, List.drop_zero, List.take_succ_cons, List.take_zero, Act.put, List.setIfInBounds_toArray, List.set_cons_zero, List.set_cons_succ, Option.elim]) | ((with_reducible refine gate_dst (N := 37) rfl ?_); refine load_blkg rfl (ty := 34) (p := 7) rfl BK227.out 0 23 rfl rfl Try.underlying34 rfl (by kernel_rfl) ?_; simp only [List.drop_succ_cons, List.drop_zero, List.take_succ_cons, List.take_zero, Act.put, List.setIfInBounds_toArray, List.set_cons_zero, List.set_cons_succ, Option.elim]) | ((with_reducible refine gate_dst (N := 40) rfl ?_); refine load_blkg rfl (ty := 34) (p := 7) rfl BK227.out 0 23 rfl rfl Try.underlying34 rfl (by kernel_rfl) ?_; simp only [List.drop_succ_cons, List.drop_zero, List.take_succ_cons, List.take_zero, Act.put, List.setIfInBounds_toArray, List.set_cons_zero, List.set_cons_succ, Option.elim]) | ((with_reducible refine gate_store (t := 34) (p := 11) rfl ?_); refine store_blkg rfl (ty := 34) (p := 11) rfl rfl BK258.out 0 rfl rfl (Nat.le_of_ble_eq_true rfl) (by kernel_rfl) (by simp [Value.oneCell']) ?_; intro w_ hbk hgr; simp only [putAt, List.setIfInBounds_toArray, List.set_cons_zero, List.set_cons_succ, Nat.zero_add, Nat.reduceAdd] at hbk; (try (have N_ := Aside0.mk (Kd.R_mono (Kd.R_grown (Kd.R_types HO_201021.out BK258.out (by decide)) hgr (fun _ hk_ e_ => hk_.2 (by injection e_))) (fun _ hk_ => hk_.1)); clear HO_201021; have HO_201021 := N_; clear N_)); (try (have N_ := Aside0.mk (Kd.R_mono (Kd.R_grown (Kd.R_types HO_228021.out BK258.out (by decide)) hgr (fun _ hk_ e_ => hk_.2 (by injection e_))) (fun _ hk_ => hk_.1)); clear HO_228021; have HO_228021 := N_; clear N_)); (try (have N_ := Aside0.mk (Kd.R_mono (Kd.R_grown (Kd.R_types HO_259021.out BK258.out (by decide)) hgr (fun _ hk_ e_ => hk_.2 (by injection e_))) (fun _ hk_ => hk_.1)); clear HO_259021; have HO_259021 := N_; clear N_)); (try (have N_ := Aside0.mk (blk_other BK200.out hgr NB200_258.out); clear BK200; have BK200 := N_; clear N_)); (try (have N_ := Aside0.mk (blk_other BK227.out hgr NB227_258.out); clear BK227; have BK227 := N_; clear N_)); have N_ := Aside0.mk (below_grown (by repeat (first | exact HB.out | apply below_alloc | apply pw_below_drewN | apply below_drew1)) hgr GE258.out); clear HB; have HB := N_; clear N_; clear BK258; have BK258 := Aside0.mk hbk; clear hbk hgr) | ((with_reducible refine gate_dst (N := 54) rfl ?_); refine load_blkg rfl (ty := 34) (p := 11) rfl BK258.out 0 23 rfl rfl Try.underlying34 rfl (by kernel_rfl) ?_; simp only [List.drop_succ_cons, List.drop_zero, List.take_succ_cons, List.take_zero, Act.put, List.setIfInBounds_toArray, List.set_cons_zero, List.set_cons_succ, Option.elim]) | ((with_reducible refine gate_dst (N := 55) rfl ?_); refine load_blkg rfl (ty := 34) (p := 5) rfl BK200.out 0 23 rfl rfl Try.underlying34 rfl (by kernel_rfl) ?_; simp only [List.drop_succ_cons, List.drop_zero, List.take_succ_cons, List.take_zero, Act.put, List.setIfInBounds_toArray, List.set_cons_zero, List.set_cons_succ, Option.elim]) | ((with_reducible refine gate_dst (N := 63) rfl ?_); refine load_blkg rfl (ty := 34) (p := 7) rfl BK227.out 0 23 rfl rfl Try.underlying34 rfl (by kernel_rfl) ?_; simp only [List.drop_succ_cons, List.drop_zero, List.take_succ_cons, List.take_zero, Act.put, List.setIfInBounds_toArray, List.set_cons_zero, List.set_cons_succ, Option.elim]) | ((with_reducible refine gate_callee (f := 17) rfl ?_); refine goesL_ (some 65) rfl rfl Try.func17 (by kernel_rfl) rfl #[.agg #[.int .i64 t201, .int .i64 t202, .int .i64 t203, .int .i64 t204, .int .i64 t205, .int .i64 t206, .int .i64 t207, .int .i64 t208, .int .i64 t209, .int .i64 t210, .bool t211, .bool t212, .string t213, .int .i64 t214, .int .i64 t215, .string t216, .int .i64 t217, .bool t218, .int .i64 t219, .string t220, .string t221, .slice Ao15 t230.length co15, .int .i64 t225], .int .i64 1] rfl (by (try simp only [List.map_toArray, List.map_cons, List.map_nil]); first | done | rfl | (simp only [List.length_drop, List.length_take]; rfl)) ?_; (with_reducible refine (laws_heldMachine.calls kj36 t201 t202 t203 t204 t205 t206 t207 t208 t209 t210 t211 t212 t213 t214 t215 t216 t217 t218 t219 t220 t221 _ _ t230 t225 1 t260 _ ?side1 ?side2 A64.out).mono ?_); (case side1 => repeat (first | exact (Kd.R_reads' HO_228021.out).2.2 | (with_reducible refine Kd.C_alloc ?_ _) | (with_reducible refine Kd.C_drewN ?_ _) | (with_reducible refine Kd.C_drew ?_))); (case side2 => exact (Kd.R_reads' HO_228021.out).2.1); rintro e w74 ⟨rfl, hb⟩; refine ⟨_, rfl, ?_⟩; have n0_ := Aside0.mk (Kd.R_below (by (with_reducible repeat (first | apply Kd.R_alloc | apply Kd.R_drewN | apply Kd.R_drew)); exact HO_201021.out) hb); have n1_ := Aside0.mk (Kd.R_below (by (with_reducible repeat (first | apply Kd.R_alloc | apply Kd.R_drewN | apply Kd.R_drew)); exact HO_228021.out) hb); have n2_ := Aside0.mk (Kd.R_below (by (with_reducible repeat (first | apply Kd.R_alloc | apply Kd.R_drewN | apply Kd.R_drew)); exact HO_259021.out) hb); have n3_ := Aside0.mk (blk_below (g := gb200) (o := .cells #[.int .i64 t174, .int .i64 t175, .int .i64 t176, .int .i64 t177, .int .i64 t178, .int .i64 t179, .int .i64 t180, .int .i64 t181, .int .i64 t182, .int .i64 t183, .bool t184, .bool t185, .string t186, .int .i64 t187, .int .i64 t188, .string t189, .int .i64 t190, .bool t191, .int .i64 t192, .string t193, .string t194, .slice Ao10 t195.length co10, .int .i64 t198] 34 (0, 0)) (by (with_reducible repeat (first | refine blk_drewN ?_ _ | refine blk_drew ?_ | refine blk_alloc ?_ _)); exact BK200.out) hb); have n4_ := Aside0.mk (blk_below (g := gb227) (o := .cells #[.int .i64 t201, .int .i64 t202, .int .i64 t203, .int .i64 t204, .int .i64 t205, .int .i64 t206, .int .i64 t207, .int .i64 t208, .int .i64 t209, .int .i64 t210, .bool t211, .bool t212, .string t213, .int .i64 t214, .int .i64 t215, .string t216, .int .i64 t217, .bool t218, .int .i64 t219, .string t220, .string t221, .slice Ao15 t230.length co15, .int .i64 t225] 34 (0, 0)) (by (with_reducible repeat (first | refine blk_drewN ?_ _ | refine blk_drew ?_ | refine blk_alloc ?_ _)); exact BK227.out) hb); have n5_ := Aside0.mk (blk_below (g := gb258) (o := .cells #[.int .i64 t232, .int .i64 t233, .int .i64 t234, .int .i64 t235, .int .i64 t236, .int .i64 t237, .int .i64 t238, .int .i64 t239, .int .i64 t240, .int .i64 t241, .bool t242, .bool t243, .string t244, .int .i64 t245, .int .i64 t246, .string t247, .int .i64 t248, .bool t249, .int .i64 t250, .string t251, .string t252, .slice Ao48 t253.length co48, .int .i64 t256] 34 (0, 0)) (by (with_reducible repeat (first | refine blk_drewN ?_ _ | refine blk_drew ?_ | refine blk_alloc ?_ _)); exact BK258.out) hb); have n6_ := Aside0.mk (below_step (by repeat (first | (with_reducible first | exact HB.out | apply below_alloc | apply pw_below_drewN | apply below_drew1 | refine below_set ?_ GE200.out | refine below_set ?_ GE227.out | refine below_set ?_ GE258.out) | exact HB.out)) hb); clear HO_201021; clear HO_228021; clear HO_259021; clear BK200; clear BK227; clear BK258; clear HB; have HO_201021 := n0_; have HO_228021 := n1_; have HO_259021 := n2_; have BK200 := n3_; have BK227 := n4_; have BK258 := n5_; have HB := n6_; clear n0_ n1_ n2_ n3_ n4_ n5_ n6_; (try clear hb); (try clear hb2); (try clear hk); (try clear hi)))
                        go_ret
                        exact ⟨by first | rfl | (simp [errW_none, errW_some] <;> rfl) | (simp [*, errW_none, errW_some] <;> rfl), by repeat (first | (with_reducible first | exact HB.out | apply below_alloc | apply pw_below_drewN | apply below_drew1 | refine below_set ?_ GE200.out | refine below_set ?_ GE227.out | refine below_set ?_ GE258.out) | exact HB.out)⟩
                      · rw [if_neg c70] at H
                        have c70b0 : (t260 == t229) = false := beq_eq_false_iff_ne.mpr c70
                        have c70b1 : (t260 != t229) = true := bne_iff_ne.mpr c70
                        obtain rfl := Option.some.inj H
                        have hnb75 := NB227_200.out
                        have hnc75 := NB200_227.out
                        have hnb76 := NB227_258.out
                        have hnc76 := NB258_227.out
                        go_wp2_with (first | ((with_reducible refine gate_store (t := 34) (p := 5) rfl ?_); refine store_blkg rfl (ty := 34) (p := 5) rfl rfl BK200.out 0 rfl rfl (Nat.le_of_ble_eq_true rfl) (by kernel_rfl) (by simp [Value.oneCell']) ?_; intro w_ hbk hgr; simp only [putAt, List.setIfInBounds_toArray, List.set_cons_zero, List.set_cons_succ, Nat.zero_add, Nat.reduceAdd] at hbk; (try (have N_ := Aside0.mk (Kd.R_mono (Kd.R_grown (Kd.R_types HO_201021.out BK200.out (by decide)) hgr (fun _ hk_ e_ => hk_.2 (by injection e_))) (fun _ hk_ => hk_.1)); clear HO_201021; have HO_201021 := N_; clear N_)); (try (have N_ := Aside0.mk (Kd.R_mono (Kd.R_grown (Kd.R_types HO_228021.out BK200.out (by decide)) hgr (fun _ hk_ e_ => hk_.2 (by injection e_))) (fun _ hk_ => hk_.1)); clear HO_228021; have HO_228021 := N_; clear N_)); (try (have N_ := Aside0.mk (Kd.R_mono (Kd.R_grown (Kd.R_types HO_259021.out BK200.out (by decide)) hgr (fun _ hk_ e_ => hk_.2 (by injection e_))) (fun _ hk_ => hk_.1)); clear HO_259021; have HO_259021 := N_; clear N_)); (try (have N_ := Aside0.mk (blk_other BK227.out hgr NB227_200.out); clear BK227; have BK227 := N_; clear N_)); (try (have N_ := Aside0.mk (blk_other BK258.out hgr NB258_200.out); clear BK258; have BK258 := N_; clear N_)); have N_ := Aside0.mk (below_grown (by repeat (first | exact HB.out | apply below_alloc | apply pw_below_drewN | apply below_drew1)) hgr GE200.out); clear HB; have HB := N_; clear N_; clear BK200; have BK200 := Aside0.mk hbk; clear hbk hgr) | ((with_reducible refine gate_store (t := 34) (p := 7) rfl ?_); refine store_blkg rfl (ty := 34) (p := 7) rfl rfl BK227.out 0 rfl rfl (Nat.le_of_ble_eq_true rfl) (by kernel_rfl) (by simp [Value.oneCell']) ?_; intro w_ hbk hgr; simp only [putAt, List.setIfInBounds_toArray, List.set_cons_zero, List.set_cons_succ, Nat.zero_add, Nat.reduceAdd] at hbk; (try (have N_ := Aside0.mk (Kd.R_mono (Kd.R_grown (Kd.R_types HO_201021.out BK227.out (by decide)) hgr (fun _ hk_ e_ => hk_.2 (by injection e_))) (fun _ hk_ => hk_.1)); clear HO_201021; have HO_201021 := N_; clear N_)); (try (have N_ := Aside0.mk (Kd.R_mono (Kd.R_grown (Kd.R_types HO_228021.out BK227.out (by decide)) hgr (fun _ hk_ e_ => hk_.2 (by injection e_))) (fun _ hk_ => hk_.1)); clear HO_228021; have HO_228021 := N_; clear N_)); (try (have N_ := Aside0.mk (Kd.R_mono (Kd.R_grown (Kd.R_types HO_259021.out BK227.out (by decide)) hgr (fun _ hk_ e_ => hk_.2 (by injection e_))) (fun _ hk_ => hk_.1)); clear HO_259021; have HO_259021 := N_; clear N_)); (try (have N_ := Aside0.mk (blk_other BK200.out hgr NB200_227.out); clear BK200; have BK200 := N_; clear N_)); (try (have N_ := Aside0.mk (blk_other BK258.out hgr NB258_227.out); clear BK258; have BK258 := N_; clear N_)); have N_ := Aside0.mk (below_grown (by repeat (first | exact HB.out | apply below_alloc | apply pw_below_drewN | apply below_drew1)) hgr GE227.out); clear HB; have HB := N_; clear N_; clear BK227; have BK227 := Aside0.mk hbk; clear hbk hgr) | ((with_reducible refine gate_dst (N := 28) rfl ?_); refine load_blkg rfl (ty := 34) (p := 7) rfl BK227.out 0 23 rfl rfl Try.underlying34 rfl (by kernel_rfl) ?_; simp only [List.drop_succ_cons, List.drop_zero, List.take_succ_cons, List.take_zero, Act.put, List.setIfInBounds_toArray, List.set_cons_zero, List.set_cons_succ, Option.elim]) | ((with_reducible refine gate_dst (N := 29) rfl ?_); refine load_blkg rfl (ty := 34) (p := 5) rfl BK200.out 0 23 rfl rfl Try.underlying34 rfl (by kernel_rfl) ?_; simp only [List.drop_succ_cons, List.drop_zero, List.take_succ_cons, List.take_zero, Act.put, List.setIfInBounds_toArray, List.set_cons_zero, List.set_cons_succ, Option.elim]) | ((with_reducible refine gate_dst (N := 37) rfl ?_); refine load_blkg rfl (ty := 34) (p := 7) rfl BK227.out 0 23 rfl rfl Try.underlying34 rfl (by kernel_rfl) ?_; simp only [List.drop_succ_cons, List.drop_zero, List.take_succ_cons, List.take_zero, Act.put, List.setIfInBounds_toArray, List.set_cons_zero, List.set_cons_succ, Option.elim]) | ((with_reducible refine gate_dst (N := 40) rfl ?_); refine load_blkg rfl (ty := 34) (p := 7) rfl BK227.out 0 23 rfl rfl Try.underlying34 rfl (by kernel_rfl) ?_; simp only [List.drop_succ_cons, List.drop_zero, List.take_succ_cons, List.take_zero, Act.put, List.setIfInBounds_toArray, List.set_cons_zero, List.set_cons_succ, Option.elim]) | ((with_reducible refine gate_store (t := 34) (p := 11) rfl ?_); refine store_blkg rfl (ty := 34) (p := 11) rfl rfl BK258.out 0 rfl rfl (Nat.le_of_ble_eq_true rfl) (by kernel_rfl) (by simp [Value.oneCell']) ?_; intro w_ hbk hgr; simp only [putAt, List.setIfInBounds_toArray, List.set_cons_zero, List.set_cons_succ, Nat.zero_add, Nat.reduceAdd] at hbk; (try (have N_ := Aside0.mk (Kd.R_mono (Kd.R_grown (Kd.R_types HO_201021.out BK258.out (by decide)) hgr (fun _ hk_ e_ => hk_.2 (by injection e_))) (fun _ hk_ => hk_.1)); clear HO_201021; have HO_201021 := N_; clear N_)); (try (have N_ := Aside0.mk (Kd.R_mono (Kd.R_grown (Kd.R_types HO_228021.out BK258.out (by decide)) hgr (fun _ hk_ e_ => hk_.2 (by injection e_))) (fun _ hk_ => hk_.1)); clear HO_228021; have HO_228021 := N_; clear N_)); (try (have N_ := Aside0.mk (Kd.R_mono (Kd.R_grown (Kd.R_types HO_259021.out BK258.out (by decide)) hgr (fun _ hk_ e_ => hk_.2 (by injection e_))) (fun _ hk_ => hk_.1)); clear HO_259021; have HO_259021 := N_; clear N_)); (try (have N_ := Aside0.mk (blk_other BK200.out hgr NB200_258.out); clear BK200; have BK200 := N_; clear N_)); (try (have N_ := Aside0.mk (blk_other BK227.out hgr NB227_258.out); clear BK227; have BK227 := N_; clear N_)); have N_ := Aside0.mk (below_grown (by repeat (first | exact HB.out | apply below_alloc | apply pw_below_drewN | apply below_drew1)) hgr GE258.out); clear HB; have HB := N_; clear N_; clear BK258; have BK258 := Aside0.mk hbk; clear hbk hgr) | ((with_reducible refine gate_dst (N := 54) rfl ?_); refine load_blkg rfl (ty := 34) (p := 11) rfl BK258.out 0 23 rfl rfl Try.underlying34 rfl (by kernel_rfl) ?_; simp only [List.drop_succ_cons, List.drop_zero, List.take_succ_cons, List.take_zero, Act.put, List.setIfInBounds_toArray, List.set_cons_zero, List.set_cons_succ, Option.elim]) | ((with_reducible refine gate_dst (N := 55) rfl ?_); refine load_blkg rfl (ty := 34) (p := 5) rfl BK200.out 0 23 rfl rfl Try.underlying34 rfl (by kernel_rfl) ?_; simp only [List.drop_succ_cons, List.drop_zero, List.take_succ_cons, List.take_zero, Act.put, List.setIfInBounds_toArray, List.set_cons_zero, List.set_cons_succ, Option.elim]) | ((with_reducible refine gate_dst (N := 63) rfl ?_); refine load_blkg rfl (ty := 34) (p := 7) rfl BK227.out 0 23 rfl rfl Try.underlying34 rfl (by kernel_rfl) ?_; simp only [List.drop_succ_cons, List.drop_zero, List.take_succ_cons, List.take_zero, Act.put, List.setIfInBounds_toArray, List.set_cons_zero, List.set_cons_succ, Option.elim]) | ((with_reducible refine gate_callee (f := 17) rfl ?_); refine goesL_ (some 65) rfl rfl Try.func17 (by kernel_rfl) rfl #[.agg #[.int .i64 t201, .int .i64 t202, .int .i64 t203, .int .i64 t204, .int .i64 t205, .int .i64 t206, .int .i64 t207, .int .i64 t208, .int .i64 t209, .int .i64 t210, .bool t211, .bool t212, .string t213, .int .i64 t214, .int .i64 t215, .string t216, .int .i64 t217, .bool t218, .int .i64 t219, .string t220, .string t221, .slice Ao15 t230.length co15, .int .i64 t225], .int .i64 1] rfl (by (try simp only [List.map_toArray, List.map_cons, List.map_nil]); first | done | rfl | (simp only [List.length_drop, List.length_take]; rfl)) ?_; (with_reducible refine (laws_heldMachine.calls kj36 t201 t202 t203 t204 t205 t206 t207 t208 t209 t210 t211 t212 t213 t214 t215 t216 t217 t218 t219 t220 t221 _ _ t230 t225 1 t260 _ ?side1 ?side2 A64.out).mono ?_); (case side1 => repeat (first | exact (Kd.R_reads' HO_228021.out).2.2 | (with_reducible refine Kd.C_alloc ?_ _) | (with_reducible refine Kd.C_drewN ?_ _) | (with_reducible refine Kd.C_drew ?_))); (case side2 => exact (Kd.R_reads' HO_228021.out).2.1); rintro e w78 ⟨rfl, hb⟩; refine ⟨_, rfl, ?_⟩; have n0_ := Aside0.mk (Kd.R_below (by (with_reducible repeat (first | apply Kd.R_alloc | apply Kd.R_drewN | apply Kd.R_drew)); exact HO_201021.out) hb); have n1_ := Aside0.mk (Kd.R_below (by (with_reducible repeat (first | apply Kd.R_alloc | apply Kd.R_drewN | apply Kd.R_drew)); exact HO_228021.out) hb); have n2_ := Aside0.mk (Kd.R_below (by (with_reducible repeat (first | apply Kd.R_alloc | apply Kd.R_drewN | apply Kd.R_drew)); exact HO_259021.out) hb); have n3_ := Aside0.mk (blk_below (g := gb200) (o := .cells #[.int .i64 t174, .int .i64 t175, .int .i64 t176, .int .i64 t177, .int .i64 t178, .int .i64 t179, .int .i64 t180, .int .i64 t181, .int .i64 t182, .int .i64 t183, .bool t184, .bool t185, .string t186, .int .i64 t187, .int .i64 t188, .string t189, .int .i64 t190, .bool t191, .int .i64 t192, .string t193, .string t194, .slice Ao10 t195.length co10, .int .i64 t198] 34 (0, 0)) (by (with_reducible repeat (first | refine blk_drewN ?_ _ | refine blk_drew ?_ | refine blk_alloc ?_ _)); exact BK200.out) hb); have n4_ := Aside0.mk (blk_below (g := gb227) (o := .cells #[.int .i64 t201, .int .i64 t202, .int .i64 t203, .int .i64 t204, .int .i64 t205, .int .i64 t206, .int .i64 t207, .int .i64 t208, .int .i64 t209, .int .i64 t210, .bool t211, .bool t212, .string t213, .int .i64 t214, .int .i64 t215, .string t216, .int .i64 t217, .bool t218, .int .i64 t219, .string t220, .string t221, .slice Ao15 t230.length co15, .int .i64 t225] 34 (0, 0)) (by (with_reducible repeat (first | refine blk_drewN ?_ _ | refine blk_drew ?_ | refine blk_alloc ?_ _)); exact BK227.out) hb); have n5_ := Aside0.mk (blk_below (g := gb258) (o := .cells #[.int .i64 t232, .int .i64 t233, .int .i64 t234, .int .i64 t235, .int .i64 t236, .int .i64 t237, .int .i64 t238, .int .i64 t239, .int .i64 t240, .int .i64 t241, .bool t242, .bool t243, .string t244, .int .i64 t245, .int .i64 t246, .string t247, .int .i64 t248, .bool t249, .int .i64 t250, .string t251, .string t252, .slice Ao48 t253.length co48, .int .i64 t256] 34 (0, 0)) (by (with_reducible repeat (first | refine blk_drewN ?_ _ | refine blk_drew ?_ | refine blk_alloc ?_ _)); exact BK258.out) hb); have n6_ := Aside0.mk (below_step (by repeat (first | (with_reducible first | exact HB.out | apply below_alloc | apply pw_below_drewN | apply below_drew1 | refine below_set ?_ GE200.out | refine below_set ?_ GE227.out | refine below_set ?_ GE258.out) | exact HB.out)) hb); clear HO_201021; clear HO_228021; clear HO_259021; clear BK200; clear BK227; clear BK258; clear HB; have HO_201021 := n0_; have HO_228021 := n1_; have HO_259021 := n2_; have BK200 := n3_; have BK227 := n4_; have BK258 := n5_; have HB := n6_; clear n0_ n1_ n2_ n3_ n4_ n5_ n6_; (try clear hb); (try clear hb2); (try clear hk); (try clear hi)))
                        go_ret
                        exact ⟨by first | rfl | (simp [errW_none, errW_some] <;> rfl) | (simp [*, errW_none, errW_some] <;> rfl), by repeat (first | (with_reducible first | exact HB.out | apply below_alloc | apply pw_below_drewN | apply below_drew1 | refine below_set ?_ GE200.out | refine below_set ?_ GE227.out | refine below_set ?_ GE258.out) | exact HB.out)⟩
            · rw [if_neg c35] at H
              have c35b0 : (t231 == t229) = false := beq_eq_false_iff_ne.mpr c35
              have c35b1 : (t231 != t229) = true := bne_iff_ne.mpr c35
              obtain rfl := Option.some.inj H
              have hnb79 := NB227_200.out
              have hnc79 := NB200_227.out
              go_wp2_with (first | ((with_reducible refine gate_store (t := 34) (p := 5) rfl ?_); refine store_blkg rfl (ty := 34) (p := 5) rfl rfl BK200.out 0 rfl rfl (Nat.le_of_ble_eq_true rfl) (by kernel_rfl) (by simp [Value.oneCell']) ?_; intro w_ hbk hgr; simp only [putAt, List.setIfInBounds_toArray, List.set_cons_zero, List.set_cons_succ, Nat.zero_add, Nat.reduceAdd] at hbk; (try (have N_ := Aside0.mk (Kd.R_mono (Kd.R_grown (Kd.R_types HO_201021.out BK200.out (by decide)) hgr (fun _ hk_ e_ => hk_.2 (by injection e_))) (fun _ hk_ => hk_.1)); clear HO_201021; have HO_201021 := N_; clear N_)); (try (have N_ := Aside0.mk (Kd.R_mono (Kd.R_grown (Kd.R_types HO_228021.out BK200.out (by decide)) hgr (fun _ hk_ e_ => hk_.2 (by injection e_))) (fun _ hk_ => hk_.1)); clear HO_228021; have HO_228021 := N_; clear N_)); (try (have N_ := Aside0.mk (blk_other BK227.out hgr NB227_200.out); clear BK227; have BK227 := N_; clear N_)); (try (have N_ := Aside0.mk (blk_other BK258.out hgr NB258_200.out); clear BK258; have BK258 := N_; clear N_)); have N_ := Aside0.mk (below_grown (by repeat (first | exact HB.out | apply below_alloc | apply pw_below_drewN | apply below_drew1)) hgr GE200.out); clear HB; have HB := N_; clear N_; clear BK200; have BK200 := Aside0.mk hbk; clear hbk hgr) | ((with_reducible refine gate_store (t := 34) (p := 7) rfl ?_); refine store_blkg rfl (ty := 34) (p := 7) rfl rfl BK227.out 0 rfl rfl (Nat.le_of_ble_eq_true rfl) (by kernel_rfl) (by simp [Value.oneCell']) ?_; intro w_ hbk hgr; simp only [putAt, List.setIfInBounds_toArray, List.set_cons_zero, List.set_cons_succ, Nat.zero_add, Nat.reduceAdd] at hbk; (try (have N_ := Aside0.mk (Kd.R_mono (Kd.R_grown (Kd.R_types HO_201021.out BK227.out (by decide)) hgr (fun _ hk_ e_ => hk_.2 (by injection e_))) (fun _ hk_ => hk_.1)); clear HO_201021; have HO_201021 := N_; clear N_)); (try (have N_ := Aside0.mk (Kd.R_mono (Kd.R_grown (Kd.R_types HO_228021.out BK227.out (by decide)) hgr (fun _ hk_ e_ => hk_.2 (by injection e_))) (fun _ hk_ => hk_.1)); clear HO_228021; have HO_228021 := N_; clear N_)); (try (have N_ := Aside0.mk (blk_other BK200.out hgr NB200_227.out); clear BK200; have BK200 := N_; clear N_)); (try (have N_ := Aside0.mk (blk_other BK258.out hgr NB258_227.out); clear BK258; have BK258 := N_; clear N_)); have N_ := Aside0.mk (below_grown (by repeat (first | exact HB.out | apply below_alloc | apply pw_below_drewN | apply below_drew1)) hgr GE227.out); clear HB; have HB := N_; clear N_; clear BK227; have BK227 := Aside0.mk hbk; clear hbk hgr) | ((with_reducible refine gate_dst (N := 28) rfl ?_); refine load_blkg rfl (ty := 34) (p := 7) rfl BK227.out 0 23 rfl rfl Try.underlying34 rfl (by kernel_rfl) ?_; simp only [List.drop_succ_cons, List.drop_zero, List.take_succ_cons, List.take_zero, Act.put, List.setIfInBounds_toArray, List.set_cons_zero, List.set_cons_succ, Option.elim]) | ((with_reducible refine gate_dst (N := 29) rfl ?_); refine load_blkg rfl (ty := 34) (p := 5) rfl BK200.out 0 23 rfl rfl Try.underlying34 rfl (by kernel_rfl) ?_; simp only [List.drop_succ_cons, List.drop_zero, List.take_succ_cons, List.take_zero, Act.put, List.setIfInBounds_toArray, List.set_cons_zero, List.set_cons_succ, Option.elim]) | ((with_reducible refine gate_dst (N := 37) rfl ?_); refine load_blkg rfl (ty := 34) (p := 7) rfl BK227.out 0 23 rfl rfl Try.underlying34 rfl (by kernel_rfl) ?_; simp only [List.drop_succ_cons, List.drop_zero, List.take_succ_cons, List.take_zero, Act.put, List.setIfInBounds_toArray, List.set_cons_zero, List.set_cons_succ, Option.elim]) | ((with_reducible refine gate_dst (N := 40) rfl ?_); refine load_blkg rfl (ty := 34) (p := 7) rfl BK227.out 0 23 rfl rfl Try.underlying34 rfl (by kernel_rfl) ?_; simp only [List.drop_succ_cons, List.drop_zero, List.take_succ_cons, List.take_zero, Act.put, List.setIfInBounds_toArray, List.set_cons_zero, List.set_cons_succ, Option.elim]) | ((with_reducible refine gate_store (t := 34) (p := 11) rfl ?_); refine store_blkg rfl (ty := 34) (p := 11) rfl rfl BK258.out 0 rfl rfl (Nat.le_of_ble_eq_true rfl) (by kernel_rfl) (by simp [Value.oneCell']) ?_; intro w_ hbk hgr; simp only [putAt, List.setIfInBounds_toArray, List.set_cons_zero, List.set_cons_succ, Nat.zero_add, Nat.reduceAdd] at hbk; (try (have N_ := Aside0.mk (Kd.R_mono (Kd.R_grown (Kd.R_types HO_201021.out BK258.out (by decide)) hgr (fun _ hk_ e_ => hk_.2 (by injection e_))) (fun _ hk_ => hk_.1)); clear HO_201021; have HO_201021 := N_; clear N_)); (try (have N_ := Aside0.mk (Kd.R_mono (Kd.R_grown (Kd.R_types HO_228021.out BK258.out (by decide)) hgr (fun _ hk_ e_ => hk_.2 (by injection e_))) (fun _ hk_ => hk_.1)); clear HO_228021; have HO_228021 := N_; clear N_)); (try (have N_ := Aside0.mk (blk_other BK200.out hgr NB200_258.out); clear BK200; have BK200 := N_; clear N_)); (try (have N_ := Aside0.mk (blk_other BK227.out hgr NB227_258.out); clear BK227; have BK227 := N_; clear N_)); have N_ := Aside0.mk (below_grown (by repeat (first | exact HB.out | apply below_alloc | apply pw_below_drewN | apply below_drew1)) hgr GE258.out); clear HB; have HB := N_; clear N_; clear BK258; have BK258 := Aside0.mk hbk; clear hbk hgr) | ((with_reducible refine gate_dst (N := 54) rfl ?_); refine load_blkg rfl (ty := 34) (p := 11) rfl BK258.out 0 23 rfl rfl Try.underlying34 rfl (by kernel_rfl) ?_; simp only [List.drop_succ_cons, List.drop_zero, List.take_succ_cons, List.take_zero, Act.put, List.setIfInBounds_toArray, List.set_cons_zero, List.set_cons_succ, Option.elim]) | ((with_reducible refine gate_dst (N := 55) rfl ?_); refine load_blkg rfl (ty := 34) (p := 5) rfl BK200.out 0 23 rfl rfl Try.underlying34 rfl (by kernel_rfl) ?_; simp only [List.drop_succ_cons, List.drop_zero, List.take_succ_cons, List.take_zero, Act.put, List.setIfInBounds_toArray, List.set_cons_zero, List.set_cons_succ, Option.elim]) | ((with_reducible refine gate_dst (N := 63) rfl ?_); refine load_blkg rfl (ty := 34) (p := 7) rfl BK227.out 0 23 rfl rfl Try.underlying34 rfl (by kernel_rfl) ?_; simp only [List.drop_succ_cons, List.drop_zero, List.take_succ_cons, List.take_zero, Act.put, List.setIfInBounds_toArray, List.set_cons_zero, List.set_cons_succ, Option.elim]) | ((with_reducible refine gate_callee (f := 16) rfl ?_); refine goesL_ (some 39) rfl rfl Try.func16 (by kernel_rfl) rfl #[.agg #[.int .i64 t201, .int .i64 t202, .int .i64 t203, .int .i64 t204, .int .i64 t205, .int .i64 t206, .int .i64 t207, .int .i64 t208, .int .i64 t209, .int .i64 t210, .bool t211, .bool t212, .string t213, .int .i64 t214, .int .i64 t215, .string t216, .int .i64 t217, .bool t218, .int .i64 t219, .string t220, .string t221, .slice Ao15 t222.length co15, .int .i64 t225], .int .i64 1] rfl (by (try simp only [List.map_toArray, List.map_cons, List.map_nil]); first | done | rfl | (simp only [List.length_drop, List.length_take]; rfl)) ?_; (with_reducible refine (laws_markMachine.calls kj5 t201 t202 t203 t204 t205 t206 t207 t208 t209 t210 t211 t212 t213 t214 t215 t216 t217 t218 t219 t220 t221 (fun k_ => some k_ = (.slice Ao15 t222.length co15 : Value).ownBlock) (.slice Ao15 t222.length co15) t222 t225 1 t229 t230 w _ ?side1 ?side2 A27.out).mono ?_); (case side1 => repeat (first | (with_reducible first | exact HB.out | apply below_alloc | apply pw_below_drewN | apply below_drew1 | refine below_set ?_ GE200.out | refine below_set ?_ GE227.out) | exact HB.out)); (case side2 => exact Kd.R_tight rfl HO_228021.out); rintro e w81 ⟨rfl, hy0, hb, hkp⟩; refine ⟨_, rfl, ?_⟩; have n0_ := Aside0.mk (Kd.R_mono (ok' := fun k_ => some k_ ≠ (.slice Ao15 t222.length co15 : Value).ownBlock) (Kd.R_keptB (HO_201021.out) hkp (fun k_ hk_ hs_ => (hk_) hs_)) (fun k_ hk_ => hk_.1)); have n1_ := Aside0.mk (Kd.R_reok rfl hy0 (fun k_ e_ => HO_228021.out.1 k_ e_)); have n2_ := Aside0.mk (blk_kept (by (with_reducible repeat (first | refine blk_drewN ?_ _ | refine blk_drew ?_ | refine blk_alloc ?_ _)); exact BK200.out) hkp (fun hs_ => (fun e_ => (Kd.R_ne HO_228021.out BK200.out (by decide)) e_) hs_)); have n3_ := Aside0.mk (blk_kept (by (with_reducible repeat (first | refine blk_drewN ?_ _ | refine blk_drew ?_ | refine blk_alloc ?_ _)); exact BK227.out) hkp (fun hs_ => (fun e_ => (Kd.R_ne HO_228021.out BK227.out (by decide)) e_) hs_)); have n4_ := Aside0.mk (hb); clear HO_201021; clear HO_228021; clear BK200; clear BK227; clear HB; have HO_201021 := n0_; have HO_228021 := n1_; have BK200 := n2_; have BK227 := n3_; have HB := n4_; clear n0_ n1_ n2_ n3_ n4_; (try clear hb); (try clear hkp); (try clear hy0)) | ((with_reducible refine gate_callee (f := 17) rfl ?_); refine goesL_ (some 42) rfl rfl Try.func17 (by kernel_rfl) rfl #[.agg #[.int .i64 t201, .int .i64 t202, .int .i64 t203, .int .i64 t204, .int .i64 t205, .int .i64 t206, .int .i64 t207, .int .i64 t208, .int .i64 t209, .int .i64 t210, .bool t211, .bool t212, .string t213, .int .i64 t214, .int .i64 t215, .string t216, .int .i64 t217, .bool t218, .int .i64 t219, .string t220, .string t221, .slice Ao15 t230.length co15, .int .i64 t225], .int .i64 1] rfl (by (try simp only [List.map_toArray, List.map_cons, List.map_nil]); first | done | (rw [show t230.length = t222.length from (Kd.R_reads' HO_228021.out).1.symm] <;> rfl) | rfl | (simp only [List.length_drop, List.length_take]; rfl)) ?_; (with_reducible refine (laws_heldMachine.calls kj5 t201 t202 t203 t204 t205 t206 t207 t208 t209 t210 t211 t212 t213 t214 t215 t216 t217 t218 t219 t220 t221 _ _ t230 t225 1 t231 _ ?side1 ?side2 A28.out).mono ?_); (case side1 => repeat (first | exact (Kd.R_reads' HO_228021.out).2.2 | (with_reducible refine Kd.C_alloc ?_ _) | (with_reducible refine Kd.C_drewN ?_ _) | (with_reducible refine Kd.C_drew ?_))); (case side2 => rw [show t230.length = t222.length from (Kd.R_reads' HO_228021.out).1.symm]; exact (Kd.R_reads' HO_228021.out).2.1); rintro e w83 ⟨rfl, hb⟩; refine ⟨_, rfl, ?_⟩; have n0_ := Aside0.mk (Kd.R_below (by (with_reducible repeat (first | apply Kd.R_alloc | apply Kd.R_drewN | apply Kd.R_drew)); exact HO_201021.out) hb); have n1_ := Aside0.mk (Kd.R_below (by (with_reducible repeat (first | apply Kd.R_alloc | apply Kd.R_drewN | apply Kd.R_drew)); exact HO_228021.out) hb); have n2_ := Aside0.mk (blk_below (g := gb200) (o := .cells #[.int .i64 t174, .int .i64 t175, .int .i64 t176, .int .i64 t177, .int .i64 t178, .int .i64 t179, .int .i64 t180, .int .i64 t181, .int .i64 t182, .int .i64 t183, .bool t184, .bool t185, .string t186, .int .i64 t187, .int .i64 t188, .string t189, .int .i64 t190, .bool t191, .int .i64 t192, .string t193, .string t194, .slice Ao10 t195.length co10, .int .i64 t198] 34 (0, 0)) (by (with_reducible repeat (first | refine blk_drewN ?_ _ | refine blk_drew ?_ | refine blk_alloc ?_ _)); exact BK200.out) hb); have n3_ := Aside0.mk (blk_below (g := gb227) (o := .cells #[.int .i64 t201, .int .i64 t202, .int .i64 t203, .int .i64 t204, .int .i64 t205, .int .i64 t206, .int .i64 t207, .int .i64 t208, .int .i64 t209, .int .i64 t210, .bool t211, .bool t212, .string t213, .int .i64 t214, .int .i64 t215, .string t216, .int .i64 t217, .bool t218, .int .i64 t219, .string t220, .string t221, .slice Ao15 t222.length co15, .int .i64 t225] 34 (0, 0)) (by (with_reducible repeat (first | refine blk_drewN ?_ _ | refine blk_drew ?_ | refine blk_alloc ?_ _)); exact BK227.out) hb); have n4_ := Aside0.mk (below_step (by repeat (first | (with_reducible first | exact HB.out | apply below_alloc | apply pw_below_drewN | apply below_drew1 | refine below_set ?_ GE200.out | refine below_set ?_ GE227.out) | exact HB.out)) hb); clear HO_201021; clear HO_228021; clear BK200; clear BK227; clear HB; have HO_201021 := n0_; have HO_228021 := n1_; have BK200 := n2_; have BK227 := n3_; have HB := n4_; clear n0_ n1_ n2_ n3_ n4_; (try clear hb); (try clear hb2); (try clear hk); (try clear hi)))
              go_ret
              exact ⟨by first | rfl | (simp [errW_none, errW_some] <;> rfl) | (simp [*, errW_none, errW_some] <;> rfl), by repeat (first | (with_reducible first | exact HB.out | apply below_alloc | apply pw_below_drewN | apply below_drew1 | refine below_set ?_ GE200.out | refine below_set ?_ GE227.out) | exact HB.out)⟩

/-- THE ONE PURE STATEMENT of laws_FnExactMachineNew: yours. -/
def laws_FnExactMachineNew.Pure : Prop := ∀ (a0 : ByteArray) (a1 : Int), a0.size ≤ 140737488351232 → (Lit.int .i64 a1).wf = true → ∃ k, laws_FnExactMachineNew.f k a0 a1 = some true
theorem laws_FnExactMachineNew.walk (P : laws_FnExactMachineNew.Pure) (a0 : ByteArray) (a1 : Int) (w : World) (w0 : a0.size ≤ 140737488351232) (w1 : (Lit.int .i64 a1).wf = true) :
    Calls Try.prog 6 #[.string a0, .int .i64 a1] w fun e w' => e = .returned (.bool true) ∧ Below w.heap.size w w' := by
  obtain ⟨k, h⟩ := P a0 a1 w0 w1
  refine (laws_FnExactMachineNew.calls k a0 a1 true w h).mono ?_
  rintro e w' ⟨rfl, hd⟩
  exact ⟨rfl, hd⟩

end Go.Proofs.Ytmgbdbamfljjnaa.PFnExactMachineNew
