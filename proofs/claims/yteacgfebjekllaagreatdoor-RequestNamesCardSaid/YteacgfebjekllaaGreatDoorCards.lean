/-
  DERIVED. GIVEN WITH THE SEED: THE CARDS: each row of YteacgfebjekllaaGreatDoorRows.lean that lists a variable, with what it lists TIED to the program's text (the seventh form; the later family's looks); each row that meets fmt, with fmt's text TOLD by the authors' own Lean function (tested against real Go, not proved from fmt's source: count such statements apart). THE CARD IS WHAT COUNTS. Prove the row's statement (the work); the ties are given (YteacgfebjekllaaGreatDoorTie.lean); close each card by the builder's one call (the guide's Derived/Test/ToyasCard.lean, 'card_holds'). Laid BY PROGRAM, IN A SANDBOX (cutbox-door.mjs). By AI agents, Wed Nov 11 2026. No macro, syntax, notation, axiom, sorry.
-/
import Derived.Test.YteacgfebjekllaaGreatDoorRows
import GoSem.ClaimSeven
namespace Go.Proofs.YteacgfebjekllaaGreatDoor
namespace Rows

/-- THE TIED CARD OF 'docketlaw16.RequestNames'. -/
def requestNamesCard : Claim7 := { stood := { row := requestNamesRow, standIns := [], harness := (true, "e54b625ecde6f3ccfbbf13910756417cd45cfce9d062e6f319f71c301adc07ec"), looks := true }, kinds := [], alts := [], laidByText := true, laidKinds := [.data, .data, .data, .data, .handle, .sentinel, .sentinel, .pinned], laidTests := true, laidLooks := .later }
def RequestNamesCardSaid : Prop := Claim7.holds Tryz.pinned (.plain (OpenSpec.ofChange requestNamesSpec)) requestNamesCard

/-- THE SECOND FORM's CARD OF 'docketlaw16.RequestNames'. -/
def requestNamesUptoCard : Claim7 := { stood := { row := requestNamesUptoRow, standIns := [], harness := (true, "e54b625ecde6f3ccfbbf13910756417cd45cfce9d062e6f319f71c301adc07ec"), looks := true }, kinds := [], alts := [], laidByText := true, laidKinds := [.data, .data, .data, .data, .handle, .sentinel, .sentinel, .pinned], laidTests := true, laidLooks := .later }
def RequestNamesUptoCardSaid : Prop := Claim7.holds Tryz.pinned (.plain (OpenSpec.upto requestNamesSpec)) requestNamesUptoCard
end Rows
end Go.Proofs.YteacgfebjekllaaGreatDoor
