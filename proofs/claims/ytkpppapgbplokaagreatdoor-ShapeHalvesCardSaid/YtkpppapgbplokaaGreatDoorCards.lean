/-
  DERIVED. GIVEN WITH THE SEED: THE CARDS: each row of YtkpppapgbplokaaGreatDoorRows.lean that lists a variable, with what it lists TIED to the program's text (the seventh form; the later family's looks); each row that meets fmt, with fmt's text TOLD by the authors' own Lean function (tested against real Go, not proved from fmt's source: count such statements apart). THE CARD IS WHAT COUNTS. Prove the row's statement (the work); the ties are given (YtkpppapgbplokaaGreatDoorTie.lean); close each card by the builder's one call (the guide's Derived/Test/ToyasCard.lean, 'card_holds'). Laid BY PROGRAM, IN A SANDBOX (cutbox-door.mjs). By AI agents, Wed Nov 11 2026. No macro, syntax, notation, axiom, sorry.
-/
import Derived.Test.YtkpppapgbplokaaGreatDoorRows
import GoSem.ClaimSeven
namespace Go.Proofs.YtkpppapgbplokaaGreatDoor
namespace Rows

/-- THE TIED CARD OF 'docketlaw06.ShapeHalves'. -/
def shapeHalvesCard : Claim7 := { stood := { row := shapeHalvesRow, standIns := [], harness := (true, "e200a90f1465d0e0e1b751d7b87f3547d808138d780778e8082f077fbc56c950"), looks := true }, kinds := [], alts := [], laidByText := true, laidKinds := [.data, .data, .data, .data, .sentinel, .sentinel, .pinned], laidTests := true, laidLooks := .later }
def ShapeHalvesCardSaid : Prop := Claim7.holds Tryz.pinned (.plain (OpenSpec.ofChange shapeHalvesSpec)) shapeHalvesCard

/-- THE SECOND FORM's CARD OF 'docketlaw06.ShapeHalves'. -/
def shapeHalvesUptoCard : Claim7 := { stood := { row := shapeHalvesUptoRow, standIns := [], harness := (true, "e200a90f1465d0e0e1b751d7b87f3547d808138d780778e8082f077fbc56c950"), looks := true }, kinds := [], alts := [], laidByText := true, laidKinds := [.data, .data, .data, .data, .sentinel, .sentinel, .pinned], laidTests := true, laidLooks := .later }
def ShapeHalvesUptoCardSaid : Prop := Claim7.holds Tryz.pinned (.plain (OpenSpec.upto shapeHalvesSpec)) shapeHalvesUptoCard
end Rows
end Go.Proofs.YtkpppapgbplokaaGreatDoor
