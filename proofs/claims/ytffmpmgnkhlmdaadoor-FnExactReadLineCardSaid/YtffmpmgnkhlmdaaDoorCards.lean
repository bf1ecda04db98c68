/-
  DERIVED. GIVEN WITH THE SEED: THE CARDS: each row of YtffmpmgnkhlmdaaDoorRows.lean that lists a variable, with what it lists TIED to the program's text (the seventh form; the later family's looks); each row that meets fmt, with fmt's text TOLD by the authors' own Lean function (tested against real Go, not proved from fmt's source: count such statements apart). THE CARD IS WHAT COUNTS. Prove the row's statement (the work); the ties are given (YtffmpmgnkhlmdaaDoorTie.lean); close each card by the builder's one call (the guide's Derived/Test/ToyasCard.lean, 'card_holds'). Laid BY PROGRAM, IN A SANDBOX (cutbox-door.mjs). By AI agents, Wed Nov 11 2026. No macro, syntax, notation, axiom, sorry.
-/
import Derived.Test.YtffmpmgnkhlmdaaDoorRows
import GoSem.ClaimSeven
namespace Go.Proofs.YtffmpmgnkhlmdaaDoor
namespace Rows

/-- THE TIED CARD OF 'laws.FnExactArgsOf'. -/
def fnExactArgsOfCard : Claim7 := { stood := { row := fnExactArgsOfRow, standIns := [], harness := (true, "273c8fd8b7e7eb4241f7ebb29ccb69d432ceca0111bff8bd3634956123c45f78"), looks := false }, kinds := [], alts := [], laidByText := true, laidKinds := [.data, .pinned], laidTests := true, laidLooks := .later }
def FnExactArgsOfCardSaid : Prop := Claim7.holds Tryd.pinned (.plain (OpenSpec.ofChange fnExactArgsOfSpec)) fnExactArgsOfCard

/-- THE TIED CARD OF 'laws.FnExactLineOk'. -/
def fnExactLineOkCard : Claim7 := { stood := { row := fnExactLineOkRow, standIns := [], harness := (true, "273c8fd8b7e7eb4241f7ebb29ccb69d432ceca0111bff8bd3634956123c45f78"), looks := false }, kinds := [], alts := [], laidByText := true, laidKinds := [.data, .pinned], laidTests := true, laidLooks := .later }
def FnExactLineOkCardSaid : Prop := Claim7.holds Tryd.pinned (.plain (OpenSpec.ofChange fnExactLineOkSpec)) fnExactLineOkCard

/-- THE TIED CARD OF 'laws.FnExactLineText'. -/
def fnExactLineTextCard : Claim7 := { stood := { row := fnExactLineTextRow, standIns := [], harness := (true, "273c8fd8b7e7eb4241f7ebb29ccb69d432ceca0111bff8bd3634956123c45f78"), looks := false }, kinds := [], alts := [], laidByText := true, laidKinds := [.data, .pinned], laidTests := true, laidLooks := .later }
def FnExactLineTextCardSaid : Prop := Claim7.holds Tryd.pinned (.plain (OpenSpec.ofChange fnExactLineTextSpec)) fnExactLineTextCard

/-- THE TIED CARD OF 'laws.FnExactExprText'. -/
def fnExactExprTextCard : Claim7 := { stood := { row := fnExactExprTextRow, standIns := [], harness := (true, "273c8fd8b7e7eb4241f7ebb29ccb69d432ceca0111bff8bd3634956123c45f78"), looks := false }, kinds := [], alts := [], laidByText := true, laidKinds := [.data, .data, .data, .data, .pinned], laidTests := true, laidLooks := .later }
def FnExactExprTextCardSaid : Prop := Claim7.holds Tryd.pinned (.plain (OpenSpec.ofChange fnExactExprTextSpec)) fnExactExprTextCard

/-- THE TIED CARD OF 'laws.FnExactReadLine'. -/
def fnExactReadLineCard : Claim7 := { stood := { row := fnExactReadLineRow, standIns := [], harness := (true, "273c8fd8b7e7eb4241f7ebb29ccb69d432ceca0111bff8bd3634956123c45f78"), looks := false }, kinds := [], alts := [], laidByText := true, laidKinds := [.data, .pinned], laidTests := true, laidLooks := .later }
def FnExactReadLineCardSaid : Prop := Claim7.holds Tryd.pinned (.plain (OpenSpec.ofChange fnExactReadLineSpec)) fnExactReadLineCard

/-- THE SECOND FORM's CARD OF 'laws.FnExactArgsOf'. -/
def fnExactArgsOfUptoCard : Claim7 := { stood := { row := fnExactArgsOfUptoRow, standIns := [], harness := (true, "273c8fd8b7e7eb4241f7ebb29ccb69d432ceca0111bff8bd3634956123c45f78"), looks := false }, kinds := [], alts := [], laidByText := true, laidKinds := [.data, .pinned], laidTests := true, laidLooks := .later }
def FnExactArgsOfUptoCardSaid : Prop := Claim7.holds Tryd.pinned (.plain (OpenSpec.upto fnExactArgsOfSpec)) fnExactArgsOfUptoCard

/-- THE SECOND FORM's CARD OF 'laws.FnExactLineOk'. -/
def fnExactLineOkUptoCard : Claim7 := { stood := { row := fnExactLineOkUptoRow, standIns := [], harness := (true, "273c8fd8b7e7eb4241f7ebb29ccb69d432ceca0111bff8bd3634956123c45f78"), looks := false }, kinds := [], alts := [], laidByText := true, laidKinds := [.data, .pinned], laidTests := true, laidLooks := .later }
def FnExactLineOkUptoCardSaid : Prop := Claim7.holds Tryd.pinned (.plain (OpenSpec.upto fnExactLineOkSpec)) fnExactLineOkUptoCard

/-- THE SECOND FORM's CARD OF 'laws.FnExactLineText'. -/
def fnExactLineTextUptoCard : Claim7 := { stood := { row := fnExactLineTextUptoRow, standIns := [], harness := (true, "273c8fd8b7e7eb4241f7ebb29ccb69d432ceca0111bff8bd3634956123c45f78"), looks := false }, kinds := [], alts := [], laidByText := true, laidKinds := [.data, .pinned], laidTests := true, laidLooks := .later }
def FnExactLineTextUptoCardSaid : Prop := Claim7.holds Tryd.pinned (.plain (OpenSpec.upto fnExactLineTextSpec)) fnExactLineTextUptoCard

/-- THE SECOND FORM's CARD OF 'laws.FnExactExprText'. -/
def fnExactExprTextUptoCard : Claim7 := { stood := { row := fnExactExprTextUptoRow, standIns := [], harness := (true, "273c8fd8b7e7eb4241f7ebb29ccb69d432ceca0111bff8bd3634956123c45f78"), looks := false }, kinds := [], alts := [], laidByText := true, laidKinds := [.data, .data, .data, .data, .pinned], laidTests := true, laidLooks := .later }
def FnExactExprTextUptoCardSaid : Prop := Claim7.holds Tryd.pinned (.plain (OpenSpec.upto fnExactExprTextSpec)) fnExactExprTextUptoCard

/-- THE SECOND FORM's CARD OF 'laws.FnExactReadLine'. -/
def fnExactReadLineUptoCard : Claim7 := { stood := { row := fnExactReadLineUptoRow, standIns := [], harness := (true, "273c8fd8b7e7eb4241f7ebb29ccb69d432ceca0111bff8bd3634956123c45f78"), looks := false }, kinds := [], alts := [], laidByText := true, laidKinds := [.data, .pinned], laidTests := true, laidLooks := .later }
def FnExactReadLineUptoCardSaid : Prop := Claim7.holds Tryd.pinned (.plain (OpenSpec.upto fnExactReadLineSpec)) fnExactReadLineUptoCard
end Rows
end Go.Proofs.YtffmpmgnkhlmdaaDoor
