/-
  DERIVED. GIVEN WITH THE SEED: THE CARDS: each row of YtmiebnpmckjidaaDoorRows.lean that lists a variable, with what it lists TIED to the program's text (the seventh form; the later family's looks); each row that meets fmt, with fmt's text TOLD by the authors' own Lean function (tested against real Go, not proved from fmt's source: count such statements apart). THE CARD IS WHAT COUNTS. Prove the row's statement (the work); the ties are given (YtmiebnpmckjidaaDoorTie.lean); close each card by the builder's one call (the guide's Derived/Test/ToyasCard.lean, 'card_holds'). Laid BY PROGRAM, IN A SANDBOX (cutbox-door.mjs). By AI agents, Wed Nov 11 2026. No macro, syntax, notation, axiom, sorry.
-/
import Derived.Test.YtmiebnpmckjidaaDoorRows
import GoSem.ClaimSeven
namespace Go.Proofs.YtmiebnpmckjidaaDoor
namespace Rows

/-- THE TIED CARD OF 'laws.FnExactHexOf'. -/
def fnExactHexOfCard : Claim7 := { stood := { row := fnExactHexOfRow, standIns := [], harness := (true, "e842d5ccebc9b22a30be14cbddbb7b6e5bdd64b2ee8c9b56d50bc15a9e0fa82e"), looks := true }, kinds := [], alts := [], laidByText := true, laidKinds := [.data, .data, .data, .data, .pinned, .pinned], laidTests := true, laidLooks := .later }
def FnExactHexOfCardSaid : Prop := Claim7.holds Tryd.pinned (.plain (OpenSpec.ofChange fnExactHexOfSpec)) fnExactHexOfCard

/-- THE TIED CARD OF 'laws.FnExactSymText'. -/
def fnExactSymTextCard : Claim7 := { stood := { row := fnExactSymTextRow, standIns := [], harness := (true, "e842d5ccebc9b22a30be14cbddbb7b6e5bdd64b2ee8c9b56d50bc15a9e0fa82e"), looks := true }, kinds := [], alts := [], laidByText := true, laidKinds := [.data, .data, .data, .data, .pinned, .pinned], laidTests := true, laidLooks := .later }
def FnExactSymTextCardSaid : Prop := Claim7.holds Tryd.pinned (.plain (OpenSpec.ofChange fnExactSymTextSpec)) fnExactSymTextCard

/-- THE TIED CARD OF 'laws.FnExactTemplateOf'. -/
def fnExactTemplateOfCard : Claim7 := { stood := { row := fnExactTemplateOfRow, standIns := [], harness := (true, "e842d5ccebc9b22a30be14cbddbb7b6e5bdd64b2ee8c9b56d50bc15a9e0fa82e"), looks := true }, kinds := [], alts := [], laidByText := true, laidKinds := [.data, .data, .data, .data, .pinned, .pinned], laidTests := true, laidLooks := .later }
def FnExactTemplateOfCardSaid : Prop := Claim7.holds Tryd.pinned (.plain (OpenSpec.ofChange fnExactTemplateOfSpec)) fnExactTemplateOfCard

/-- THE TIED CARD OF 'laws.FnExactReadSyms'. -/
def fnExactReadSymsCard : Claim7 := { stood := { row := fnExactReadSymsRow, standIns := [], harness := (true, "e842d5ccebc9b22a30be14cbddbb7b6e5bdd64b2ee8c9b56d50bc15a9e0fa82e"), looks := true }, kinds := [], alts := [], laidByText := true, laidKinds := [.data, .data, .data, .data, .pinned, .pinned], laidTests := true, laidLooks := .later }
def FnExactReadSymsCardSaid : Prop := Claim7.holds Tryd.pinned (.plain (OpenSpec.ofChange fnExactReadSymsSpec)) fnExactReadSymsCard

/-- THE TIED CARD OF 'laws.FnExactLengthOf'. -/
def fnExactLengthOfCard : Claim7 := { stood := { row := fnExactLengthOfRow, standIns := [], harness := (true, "e842d5ccebc9b22a30be14cbddbb7b6e5bdd64b2ee8c9b56d50bc15a9e0fa82e"), looks := true }, kinds := [], alts := [], laidByText := true, laidKinds := [.data, .data, .data, .data, .pinned, .pinned], laidTests := true, laidLooks := .later }
def FnExactLengthOfCardSaid : Prop := Claim7.holds Tryd.pinned (.plain (OpenSpec.ofChange fnExactLengthOfSpec)) fnExactLengthOfCard

/-- THE TIED CARD OF 'laws.FnExactReadExpr'. -/
def fnExactReadExprCard : Claim7 := { stood := { row := fnExactReadExprRow, standIns := [], harness := (true, "e842d5ccebc9b22a30be14cbddbb7b6e5bdd64b2ee8c9b56d50bc15a9e0fa82e"), looks := true }, kinds := [], alts := [], laidByText := true, laidKinds := [.data, .data, .data, .data, .sentinel, .sentinel, .pinned], laidTests := true, laidLooks := .later }
def FnExactReadExprCardSaid : Prop := Claim7.holds Tryd.pinned (.plain (OpenSpec.ofChange fnExactReadExprSpec)) fnExactReadExprCard

/-- THE TIED CARD OF 'laws.FnExactInsOk'. -/
def fnExactInsOkCard : Claim7 := { stood := { row := fnExactInsOkRow, standIns := [], harness := (true, "e842d5ccebc9b22a30be14cbddbb7b6e5bdd64b2ee8c9b56d50bc15a9e0fa82e"), looks := true }, kinds := [], alts := [], laidByText := true, laidKinds := [.data, .data, .data, .data, .pinned, .pinned], laidTests := true, laidLooks := .later }
def FnExactInsOkCardSaid : Prop := Claim7.holds Tryd.pinned (.plain (OpenSpec.ofChange fnExactInsOkSpec)) fnExactInsOkCard

/-- THE TIED CARD OF 'laws.FnExactReadIns'. -/
def fnExactReadInsCard : Claim7 := { stood := { row := fnExactReadInsRow, standIns := [], harness := (true, "e842d5ccebc9b22a30be14cbddbb7b6e5bdd64b2ee8c9b56d50bc15a9e0fa82e"), looks := true }, kinds := [], alts := [], laidByText := true, laidKinds := [.data, .data, .data, .data, .pinned, .pinned], laidTests := true, laidLooks := .later }
def FnExactReadInsCardSaid : Prop := Claim7.holds Tryd.pinned (.plain (OpenSpec.ofChange fnExactReadInsSpec)) fnExactReadInsCard

/-- THE TIED CARD OF 'laws.FnExactInsBytes'. -/
def fnExactInsBytesCard : Claim7 := { stood := { row := fnExactInsBytesRow, standIns := [], harness := (true, "e842d5ccebc9b22a30be14cbddbb7b6e5bdd64b2ee8c9b56d50bc15a9e0fa82e"), looks := true }, kinds := [], alts := [], laidByText := true, laidKinds := [.data, .data, .data, .data, .pinned, .pinned], laidTests := true, laidLooks := .later }
def FnExactInsBytesCardSaid : Prop := Claim7.holds Tryd.pinned (.plain (OpenSpec.ofChange fnExactInsBytesSpec)) fnExactInsBytesCard

/-- THE TIED CARD OF 'laws.FnExactInsText'. -/
def fnExactInsTextCard : Claim7 := { stood := { row := fnExactInsTextRow, standIns := [], harness := (true, "e842d5ccebc9b22a30be14cbddbb7b6e5bdd64b2ee8c9b56d50bc15a9e0fa82e"), looks := true }, kinds := [], alts := [], laidByText := true, laidKinds := [.data, .data, .data, .data, .pinned, .pinned], laidTests := true, laidLooks := .later }
def FnExactInsTextCardSaid : Prop := Claim7.holds Tryd.pinned (.plain (OpenSpec.ofChange fnExactInsTextSpec)) fnExactInsTextCard

/-- THE TIED CARD OF 'laws.FnExactCyclesOf'. -/
def fnExactCyclesOfCard : Claim7 := { stood := { row := fnExactCyclesOfRow, standIns := [], harness := (true, "e842d5ccebc9b22a30be14cbddbb7b6e5bdd64b2ee8c9b56d50bc15a9e0fa82e"), looks := true }, kinds := [], alts := [], laidByText := true, laidKinds := [.data, .data, .data, .data, .pinned, .pinned], laidTests := true, laidLooks := .later }
def FnExactCyclesOfCardSaid : Prop := Claim7.holds Tryd.pinned (.plain (OpenSpec.ofChange fnExactCyclesOfSpec)) fnExactCyclesOfCard

/-- THE SECOND FORM's CARD OF 'laws.FnExactHexOf'. -/
def fnExactHexOfUptoCard : Claim7 := { stood := { row := fnExactHexOfUptoRow, standIns := [], harness := (true, "e842d5ccebc9b22a30be14cbddbb7b6e5bdd64b2ee8c9b56d50bc15a9e0fa82e"), looks := true }, kinds := [], alts := [], laidByText := true, laidKinds := [.data, .data, .data, .data, .pinned, .pinned], laidTests := true, laidLooks := .later }
def FnExactHexOfUptoCardSaid : Prop := Claim7.holds Tryd.pinned (.plain (OpenSpec.upto fnExactHexOfSpec)) fnExactHexOfUptoCard

/-- THE SECOND FORM's CARD OF 'laws.FnExactSymText'. -/
def fnExactSymTextUptoCard : Claim7 := { stood := { row := fnExactSymTextUptoRow, standIns := [], harness := (true, "e842d5ccebc9b22a30be14cbddbb7b6e5bdd64b2ee8c9b56d50bc15a9e0fa82e"), looks := true }, kinds := [], alts := [], laidByText := true, laidKinds := [.data, .data, .data, .data, .pinned, .pinned], laidTests := true, laidLooks := .later }
def FnExactSymTextUptoCardSaid : Prop := Claim7.holds Tryd.pinned (.plain (OpenSpec.upto fnExactSymTextSpec)) fnExactSymTextUptoCard

/-- THE SECOND FORM's CARD OF 'laws.FnExactTemplateOf'. -/
def fnExactTemplateOfUptoCard : Claim7 := { stood := { row := fnExactTemplateOfUptoRow, standIns := [], harness := (true, "e842d5ccebc9b22a30be14cbddbb7b6e5bdd64b2ee8c9b56d50bc15a9e0fa82e"), looks := true }, kinds := [], alts := [], laidByText := true, laidKinds := [.data, .data, .data, .data, .pinned, .pinned], laidTests := true, laidLooks := .later }
def FnExactTemplateOfUptoCardSaid : Prop := Claim7.holds Tryd.pinned (.plain (OpenSpec.upto fnExactTemplateOfSpec)) fnExactTemplateOfUptoCard

/-- THE SECOND FORM's CARD OF 'laws.FnExactReadSyms'. -/
def fnExactReadSymsUptoCard : Claim7 := { stood := { row := fnExactReadSymsUptoRow, standIns := [], harness := (true, "e842d5ccebc9b22a30be14cbddbb7b6e5bdd64b2ee8c9b56d50bc15a9e0fa82e"), looks := true }, kinds := [], alts := [], laidByText := true, laidKinds := [.data, .data, .data, .data, .pinned, .pinned], laidTests := true, laidLooks := .later }
def FnExactReadSymsUptoCardSaid : Prop := Claim7.holds Tryd.pinned (.plain (OpenSpec.upto fnExactReadSymsSpec)) fnExactReadSymsUptoCard

/-- THE SECOND FORM's CARD OF 'laws.FnExactLengthOf'. -/
def fnExactLengthOfUptoCard : Claim7 := { stood := { row := fnExactLengthOfUptoRow, standIns := [], harness := (true, "e842d5ccebc9b22a30be14cbddbb7b6e5bdd64b2ee8c9b56d50bc15a9e0fa82e"), looks := true }, kinds := [], alts := [], laidByText := true, laidKinds := [.data, .data, .data, .data, .pinned, .pinned], laidTests := true, laidLooks := .later }
def FnExactLengthOfUptoCardSaid : Prop := Claim7.holds Tryd.pinned (.plain (OpenSpec.upto fnExactLengthOfSpec)) fnExactLengthOfUptoCard

/-- THE SECOND FORM's CARD OF 'laws.FnExactReadExpr'. -/
def fnExactReadExprUptoCard : Claim7 := { stood := { row := fnExactReadExprUptoRow, standIns := [], harness := (true, "e842d5ccebc9b22a30be14cbddbb7b6e5bdd64b2ee8c9b56d50bc15a9e0fa82e"), looks := true }, kinds := [], alts := [], laidByText := true, laidKinds := [.data, .data, .data, .data, .sentinel, .sentinel, .pinned], laidTests := true, laidLooks := .later }
def FnExactReadExprUptoCardSaid : Prop := Claim7.holds Tryd.pinned (.plain (OpenSpec.upto fnExactReadExprSpec)) fnExactReadExprUptoCard

/-- THE SECOND FORM's CARD OF 'laws.FnExactInsOk'. -/
def fnExactInsOkUptoCard : Claim7 := { stood := { row := fnExactInsOkUptoRow, standIns := [], harness := (true, "e842d5ccebc9b22a30be14cbddbb7b6e5bdd64b2ee8c9b56d50bc15a9e0fa82e"), looks := true }, kinds := [], alts := [], laidByText := true, laidKinds := [.data, .data, .data, .data, .pinned, .pinned], laidTests := true, laidLooks := .later }
def FnExactInsOkUptoCardSaid : Prop := Claim7.holds Tryd.pinned (.plain (OpenSpec.upto fnExactInsOkSpec)) fnExactInsOkUptoCard

/-- THE SECOND FORM's CARD OF 'laws.FnExactReadIns'. -/
def fnExactReadInsUptoCard : Claim7 := { stood := { row := fnExactReadInsUptoRow, standIns := [], harness := (true, "e842d5ccebc9b22a30be14cbddbb7b6e5bdd64b2ee8c9b56d50bc15a9e0fa82e"), looks := true }, kinds := [], alts := [], laidByText := true, laidKinds := [.data, .data, .data, .data, .pinned, .pinned], laidTests := true, laidLooks := .later }
def FnExactReadInsUptoCardSaid : Prop := Claim7.holds Tryd.pinned (.plain (OpenSpec.upto fnExactReadInsSpec)) fnExactReadInsUptoCard

/-- THE SECOND FORM's CARD OF 'laws.FnExactInsBytes'. -/
def fnExactInsBytesUptoCard : Claim7 := { stood := { row := fnExactInsBytesUptoRow, standIns := [], harness := (true, "e842d5ccebc9b22a30be14cbddbb7b6e5bdd64b2ee8c9b56d50bc15a9e0fa82e"), looks := true }, kinds := [], alts := [], laidByText := true, laidKinds := [.data, .data, .data, .data, .pinned, .pinned], laidTests := true, laidLooks := .later }
def FnExactInsBytesUptoCardSaid : Prop := Claim7.holds Tryd.pinned (.plain (OpenSpec.upto fnExactInsBytesSpec)) fnExactInsBytesUptoCard

/-- THE SECOND FORM's CARD OF 'laws.FnExactInsText'. -/
def fnExactInsTextUptoCard : Claim7 := { stood := { row := fnExactInsTextUptoRow, standIns := [], harness := (true, "e842d5ccebc9b22a30be14cbddbb7b6e5bdd64b2ee8c9b56d50bc15a9e0fa82e"), looks := true }, kinds := [], alts := [], laidByText := true, laidKinds := [.data, .data, .data, .data, .pinned, .pinned], laidTests := true, laidLooks := .later }
def FnExactInsTextUptoCardSaid : Prop := Claim7.holds Tryd.pinned (.plain (OpenSpec.upto fnExactInsTextSpec)) fnExactInsTextUptoCard

/-- THE SECOND FORM's CARD OF 'laws.FnExactCyclesOf'. -/
def fnExactCyclesOfUptoCard : Claim7 := { stood := { row := fnExactCyclesOfUptoRow, standIns := [], harness := (true, "e842d5ccebc9b22a30be14cbddbb7b6e5bdd64b2ee8c9b56d50bc15a9e0fa82e"), looks := true }, kinds := [], alts := [], laidByText := true, laidKinds := [.data, .data, .data, .data, .pinned, .pinned], laidTests := true, laidLooks := .later }
def FnExactCyclesOfUptoCardSaid : Prop := Claim7.holds Tryd.pinned (.plain (OpenSpec.upto fnExactCyclesOfSpec)) fnExactCyclesOfUptoCard
end Rows
end Go.Proofs.YtmiebnpmckjidaaDoor
