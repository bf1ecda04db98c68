/-
  DERIVED. GIVEN WITH THE SEED: THE CARDS: each row of YtlacpadpdfccmaaGreatDoorRows.lean that lists a variable, with what it lists TIED to the program's text (the seventh form; the later family's looks); each row that meets fmt, with fmt's text TOLD by the authors' own Lean function (tested against real Go, not proved from fmt's source: count such statements apart). THE CARD IS WHAT COUNTS. Prove the row's statement (the work); the ties are given (YtlacpadpdfccmaaGreatDoorTie.lean); close each card by the builder's one call (the guide's Derived/Test/ToyasCard.lean, 'card_holds'). Laid BY PROGRAM, IN A SANDBOX (cutbox-door.mjs). By AI agents, Wed Nov 11 2026. No macro, syntax, notation, axiom, sorry.
-/
import Derived.Test.YtlacpadpdfccmaaGreatDoorRows
import GoSem.ClaimSeven
namespace Go.Proofs.YtlacpadpdfccmaaGreatDoor
namespace Rows

/-- THE TIED CARD OF 'laws.FnExactObjectText'. -/
def fnExactObjectTextCard : Claim7 := { stood := { row := fnExactObjectTextRow, standIns := [], harness := (true, "cd6ff4890c7ba74a5843c9584913a68efdf8389e5f8857f4249a0413ffa450b5"), looks := true }, kinds := [], alts := [], laidByText := true, laidKinds := [.data, .data, .data, .data, .pinned, .pinned], laidTests := true, laidLooks := .later }
def FnExactObjectTextCardSaid : Prop := Claim7.holds Tryz.pinned (.plain (OpenSpec.ofChange fnExactObjectTextSpec)) fnExactObjectTextCard

/-- THE TIED CARD OF 'laws.FnExactReadObject'. -/
def fnExactReadObjectCard : Claim7 := { stood := { row := fnExactReadObjectRow, standIns := [], harness := (true, "cd6ff4890c7ba74a5843c9584913a68efdf8389e5f8857f4249a0413ffa450b5"), looks := true }, kinds := [], alts := [], laidByText := true, laidKinds := [.data, .data, .data, .data, .sentinel, .sentinel, .pinned, .pinned], laidTests := true, laidLooks := .later }
def FnExactReadObjectCardSaid : Prop := Claim7.holds Tryz.pinned (.plain (OpenSpec.ofChange fnExactReadObjectSpec)) fnExactReadObjectCard

/-- THE SECOND FORM's CARD OF 'laws.FnExactObjectText'. -/
def fnExactObjectTextUptoCard : Claim7 := { stood := { row := fnExactObjectTextUptoRow, standIns := [], harness := (true, "cd6ff4890c7ba74a5843c9584913a68efdf8389e5f8857f4249a0413ffa450b5"), looks := true }, kinds := [], alts := [], laidByText := true, laidKinds := [.data, .data, .data, .data, .pinned, .pinned], laidTests := true, laidLooks := .later }
def FnExactObjectTextUptoCardSaid : Prop := Claim7.holds Tryz.pinned (.plain (OpenSpec.upto fnExactObjectTextSpec)) fnExactObjectTextUptoCard

/-- THE SECOND FORM's CARD OF 'laws.FnExactReadObject'. -/
def fnExactReadObjectUptoCard : Claim7 := { stood := { row := fnExactReadObjectUptoRow, standIns := [], harness := (true, "cd6ff4890c7ba74a5843c9584913a68efdf8389e5f8857f4249a0413ffa450b5"), looks := true }, kinds := [], alts := [], laidByText := true, laidKinds := [.data, .data, .data, .data, .sentinel, .sentinel, .pinned, .pinned], laidTests := true, laidLooks := .later }
def FnExactReadObjectUptoCardSaid : Prop := Claim7.holds Tryz.pinned (.plain (OpenSpec.upto fnExactReadObjectSpec)) fnExactReadObjectUptoCard
end Rows
end Go.Proofs.YtlacpadpdfccmaaGreatDoor
