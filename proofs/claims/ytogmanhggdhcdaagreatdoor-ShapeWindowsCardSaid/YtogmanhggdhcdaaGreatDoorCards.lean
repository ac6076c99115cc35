/-
  DERIVED. GIVEN WITH THE SEED: THE CARDS: each row of YtogmanhggdhcdaaGreatDoorRows.lean that lists a variable, with what it lists TIED to the program's text (the seventh form; the later family's looks); each row that meets fmt, with fmt's text TOLD by the authors' own Lean function (tested against real Go, not proved from fmt's source: count such statements apart). THE CARD IS WHAT COUNTS. Prove the row's statement (the work); the ties are given (YtogmanhggdhcdaaGreatDoorTie.lean); close each card by the builder's one call (the guide's Derived/Test/ToyasCard.lean, 'card_holds'). Laid BY PROGRAM, IN A SANDBOX (cutbox-door.mjs). By AI agents, Wed Nov 11 2026. No macro, syntax, notation, axiom, sorry.
-/
import Derived.Test.YtogmanhggdhcdaaGreatDoorRows
import GoSem.ClaimSeven
namespace Go.Proofs.YtogmanhggdhcdaaGreatDoor
namespace Rows

/-- THE TIED CARD OF 'docketlaw06.ShapeWindows'. -/
def shapeWindowsCard : Claim7 := { stood := { row := shapeWindowsRow, standIns := [], harness := (true, "73adb498e2be8139a3e462a510d4060014f9e8b4b3fb18a1d2c295359ae6e726"), looks := true }, kinds := [], alts := [], laidByText := true, laidKinds := [.data, .data, .data, .data, .sentinel, .sentinel, .pinned], laidTests := true, laidLooks := .later }
def ShapeWindowsCardSaid : Prop := Claim7.holds Tryz.pinned (.plain (OpenSpec.ofChange shapeWindowsSpec)) shapeWindowsCard

/-- THE SECOND FORM's CARD OF 'docketlaw06.ShapeWindows'. -/
def shapeWindowsUptoCard : Claim7 := { stood := { row := shapeWindowsUptoRow, standIns := [], harness := (true, "73adb498e2be8139a3e462a510d4060014f9e8b4b3fb18a1d2c295359ae6e726"), looks := true }, kinds := [], alts := [], laidByText := true, laidKinds := [.data, .data, .data, .data, .sentinel, .sentinel, .pinned], laidTests := true, laidLooks := .later }
def ShapeWindowsUptoCardSaid : Prop := Claim7.holds Tryz.pinned (.plain (OpenSpec.upto shapeWindowsSpec)) shapeWindowsUptoCard
end Rows
end Go.Proofs.YtogmanhggdhcdaaGreatDoor
