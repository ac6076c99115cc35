/-
  DERIVED. GIVEN WITH THE SEED: THE CARDS: each row of YtdalodgajiodhaaGreatDoorRows.lean that lists a variable, with what it lists TIED to the program's text (the seventh form; the later family's looks); each row that meets fmt, with fmt's text TOLD by the authors' own Lean function (tested against real Go, not proved from fmt's source: count such statements apart). THE CARD IS WHAT COUNTS. Prove the row's statement (the work); the ties are given (YtdalodgajiodhaaGreatDoorTie.lean); close each card by the builder's one call (the guide's Derived/Test/ToyasCard.lean, 'card_holds'). Laid BY PROGRAM, IN A SANDBOX (cutbox-door.mjs). By AI agents, Wed Nov 11 2026. No macro, syntax, notation, axiom, sorry.
-/
import Derived.Test.YtdalodgajiodhaaGreatDoorRows
import GoSem.ClaimSeven
namespace Go.Proofs.YtdalodgajiodhaaGreatDoor
namespace Rows

/-- THE TIED CARD OF 'docketlaw06.ShapeOrders'. -/
def shapeOrdersCard : Claim7 := { stood := { row := shapeOrdersRow, standIns := [], harness := (true, "2a0c1c4087f01413db77558586cb9361f6e7c84b11789dea76a10e649e68aaae"), looks := true }, kinds := [], alts := [], laidByText := true, laidKinds := [.data, .data, .data, .data, .sentinel, .sentinel, .pinned], laidTests := true, laidLooks := .later }
def ShapeOrdersCardSaid : Prop := Claim7.holds Tryz.pinned (.plain (OpenSpec.ofChange shapeOrdersSpec)) shapeOrdersCard

/-- THE TIED CARD OF 'docketlaw06.ShapeTotal'. -/
def shapeTotalCard : Claim7 := { stood := { row := shapeTotalRow, standIns := [], harness := (true, "2a0c1c4087f01413db77558586cb9361f6e7c84b11789dea76a10e649e68aaae"), looks := true }, kinds := [], alts := [], laidByText := true, laidKinds := [.data, .data, .data, .data, .sentinel, .sentinel, .pinned], laidTests := true, laidLooks := .later }
def ShapeTotalCardSaid : Prop := Claim7.holds Tryz.pinned (.plain (OpenSpec.ofChange shapeTotalSpec)) shapeTotalCard

/-- THE TIED CARD OF 'docketlaw06.ShapeNil'. -/
def shapeNilCard : Claim7 := { stood := { row := shapeNilRow, standIns := [], harness := (true, "2a0c1c4087f01413db77558586cb9361f6e7c84b11789dea76a10e649e68aaae"), looks := true }, kinds := [], alts := [], laidByText := true, laidKinds := [.data, .data, .data, .data, .sentinel, .sentinel, .pinned], laidTests := true, laidLooks := .later }
def ShapeNilCardSaid : Prop := Claim7.holds Tryz.pinned (.plain (OpenSpec.ofChange shapeNilSpec)) shapeNilCard

/-- THE TIED CARD OF 'docketlaw06.ShapeDistincts'. -/
def shapeDistinctsCard : Claim7 := { stood := { row := shapeDistinctsRow, standIns := [], harness := (true, "2a0c1c4087f01413db77558586cb9361f6e7c84b11789dea76a10e649e68aaae"), looks := true }, kinds := [], alts := [], laidByText := true, laidKinds := [.data, .data, .data, .data, .sentinel, .sentinel, .pinned], laidTests := true, laidLooks := .later }
def ShapeDistinctsCardSaid : Prop := Claim7.holds Tryz.pinned (.plain (OpenSpec.ofChange shapeDistinctsSpec)) shapeDistinctsCard

/-- THE SECOND FORM's CARD OF 'docketlaw06.ShapeOrders'. -/
def shapeOrdersUptoCard : Claim7 := { stood := { row := shapeOrdersUptoRow, standIns := [], harness := (true, "2a0c1c4087f01413db77558586cb9361f6e7c84b11789dea76a10e649e68aaae"), looks := true }, kinds := [], alts := [], laidByText := true, laidKinds := [.data, .data, .data, .data, .sentinel, .sentinel, .pinned], laidTests := true, laidLooks := .later }
def ShapeOrdersUptoCardSaid : Prop := Claim7.holds Tryz.pinned (.plain (OpenSpec.upto shapeOrdersSpec)) shapeOrdersUptoCard

/-- THE SECOND FORM's CARD OF 'docketlaw06.ShapeTotal'. -/
def shapeTotalUptoCard : Claim7 := { stood := { row := shapeTotalUptoRow, standIns := [], harness := (true, "2a0c1c4087f01413db77558586cb9361f6e7c84b11789dea76a10e649e68aaae"), looks := true }, kinds := [], alts := [], laidByText := true, laidKinds := [.data, .data, .data, .data, .sentinel, .sentinel, .pinned], laidTests := true, laidLooks := .later }
def ShapeTotalUptoCardSaid : Prop := Claim7.holds Tryz.pinned (.plain (OpenSpec.upto shapeTotalSpec)) shapeTotalUptoCard

/-- THE SECOND FORM's CARD OF 'docketlaw06.ShapeNil'. -/
def shapeNilUptoCard : Claim7 := { stood := { row := shapeNilUptoRow, standIns := [], harness := (true, "2a0c1c4087f01413db77558586cb9361f6e7c84b11789dea76a10e649e68aaae"), looks := true }, kinds := [], alts := [], laidByText := true, laidKinds := [.data, .data, .data, .data, .sentinel, .sentinel, .pinned], laidTests := true, laidLooks := .later }
def ShapeNilUptoCardSaid : Prop := Claim7.holds Tryz.pinned (.plain (OpenSpec.upto shapeNilSpec)) shapeNilUptoCard

/-- THE SECOND FORM's CARD OF 'docketlaw06.ShapeDistincts'. -/
def shapeDistinctsUptoCard : Claim7 := { stood := { row := shapeDistinctsUptoRow, standIns := [], harness := (true, "2a0c1c4087f01413db77558586cb9361f6e7c84b11789dea76a10e649e68aaae"), looks := true }, kinds := [], alts := [], laidByText := true, laidKinds := [.data, .data, .data, .data, .sentinel, .sentinel, .pinned], laidTests := true, laidLooks := .later }
def ShapeDistinctsUptoCardSaid : Prop := Claim7.holds Tryz.pinned (.plain (OpenSpec.upto shapeDistinctsSpec)) shapeDistinctsUptoCard
end Rows
end Go.Proofs.YtdalodgajiodhaaGreatDoor
