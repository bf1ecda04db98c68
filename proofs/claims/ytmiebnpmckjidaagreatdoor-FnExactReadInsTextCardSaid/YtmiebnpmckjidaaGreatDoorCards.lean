/-
  DERIVED. GIVEN WITH THE SEED: THE CARDS: each row of YtmiebnpmckjidaaGreatDoorRows.lean that lists a variable, with what it lists TIED to the program's text (the seventh form; the later family's looks); each row that meets fmt, with fmt's text TOLD by the authors' own Lean function (tested against real Go, not proved from fmt's source: count such statements apart). THE CARD IS WHAT COUNTS. Prove the row's statement (the work); the ties are given (YtmiebnpmckjidaaGreatDoorTie.lean); close each card by the builder's one call (the guide's Derived/Test/ToyasCard.lean, 'card_holds'). Laid BY PROGRAM, IN A SANDBOX (cutbox-door.mjs). By AI agents, Wed Nov 11 2026. No macro, syntax, notation, axiom, sorry.
-/
import Derived.Test.YtmiebnpmckjidaaGreatDoorRows
import GoSem.ClaimSeven
namespace Go.Proofs.YtmiebnpmckjidaaGreatDoor
namespace Rows

/-- THE TIED CARD OF 'laws.FnExactReadInsText'. -/
def fnExactReadInsTextCard : Claim7 := { stood := { row := fnExactReadInsTextRow, standIns := [], harness := (true, "148067b3298022c480284b9b57db3b1e442cc9d104785c331bbed686abec16e7"), looks := true }, kinds := [], alts := [], laidByText := true, laidKinds := [.data, .data, .data, .data, .sentinel, .sentinel, .pinned, .pinned], laidTests := true, laidLooks := .later }
def FnExactReadInsTextCardSaid : Prop := Claim7.holds Tryz.pinned (.plain (OpenSpec.ofChange fnExactReadInsTextSpec)) fnExactReadInsTextCard

/-- THE SECOND FORM's CARD OF 'laws.FnExactReadInsText'. -/
def fnExactReadInsTextUptoCard : Claim7 := { stood := { row := fnExactReadInsTextUptoRow, standIns := [], harness := (true, "148067b3298022c480284b9b57db3b1e442cc9d104785c331bbed686abec16e7"), looks := true }, kinds := [], alts := [], laidByText := true, laidKinds := [.data, .data, .data, .data, .sentinel, .sentinel, .pinned, .pinned], laidTests := true, laidLooks := .later }
def FnExactReadInsTextUptoCardSaid : Prop := Claim7.holds Tryz.pinned (.plain (OpenSpec.upto fnExactReadInsTextSpec)) fnExactReadInsTextUptoCard
end Rows
end Go.Proofs.YtmiebnpmckjidaaGreatDoor
