/-
  DERIVED. GIVEN WITH THE SEED: THE CARDS: each row of YtohlmhkiejpkgaaGreatDoorRows.lean that lists a variable, with what it lists TIED to the program's text (the seventh form; the later family's looks); each row that meets fmt, with fmt's text TOLD by the authors' own Lean function (tested against real Go, not proved from fmt's source: count such statements apart). THE CARD IS WHAT COUNTS. Prove the row's statement (the work); the ties are given (YtohlmhkiejpkgaaGreatDoorTie.lean); close each card by the builder's one call (the guide's Derived/Test/ToyasCard.lean, 'card_holds'). Laid BY PROGRAM, IN A SANDBOX (cutbox-door.mjs). By AI agents, Wed Nov 11 2026. No macro, syntax, notation, axiom, sorry.
-/
import Derived.Test.YtohlmhkiejpkgaaGreatDoorRows
import GoSem.ClaimSeven
namespace Go.Proofs.YtohlmhkiejpkgaaGreatDoor
namespace Rows

/-- THE TIED CARD OF 'docketlaw04.FilterMatches'. -/
def filterMatchesCard : Claim7 := { stood := { row := filterMatchesRow, standIns := [], harness := (true, "694d8b1210f77c5b6a3dabbf1b8defebab7ff86f1f71f59df51b7350a0616f1a"), looks := true }, kinds := [], alts := [], laidByText := true, laidKinds := [.data, .pinned], laidTests := true, laidLooks := .later }
def FilterMatchesCardSaid : Prop := Claim7.holds Tryz.pinned (.plain (OpenSpec.ofChange filterMatchesSpec)) filterMatchesCard

/-- THE TIED CARD OF 'docketlaw04.FilterOpposites'. -/
def filterOppositesCard : Claim7 := { stood := { row := filterOppositesRow, standIns := [], harness := (true, "694d8b1210f77c5b6a3dabbf1b8defebab7ff86f1f71f59df51b7350a0616f1a"), looks := true }, kinds := [], alts := [], laidByText := true, laidKinds := [.data, .pinned], laidTests := true, laidLooks := .later }
def FilterOppositesCardSaid : Prop := Claim7.holds Tryz.pinned (.plain (OpenSpec.ofChange filterOppositesSpec)) filterOppositesCard

/-- THE TIED CARD OF 'docketlaw04.FilterOrder'. -/
def filterOrderCard : Claim7 := { stood := { row := filterOrderRow, standIns := [], harness := (true, "694d8b1210f77c5b6a3dabbf1b8defebab7ff86f1f71f59df51b7350a0616f1a"), looks := true }, kinds := [], alts := [], laidByText := true, laidKinds := [.data, .pinned], laidTests := true, laidLooks := .later }
def FilterOrderCardSaid : Prop := Claim7.holds Tryz.pinned (.plain (OpenSpec.ofChange filterOrderSpec)) filterOrderCard

/-- THE TIED CARD OF 'docketlaw04.FilterReaches'. -/
def filterReachesCard : Claim7 := { stood := { row := filterReachesRow, standIns := [], harness := (true, "694d8b1210f77c5b6a3dabbf1b8defebab7ff86f1f71f59df51b7350a0616f1a"), looks := true }, kinds := [], alts := [], laidByText := true, laidKinds := [.data, .pinned], laidTests := true, laidLooks := .later }
def FilterReachesCardSaid : Prop := Claim7.holds Tryz.pinned (.plain (OpenSpec.ofChange filterReachesSpec)) filterReachesCard

/-- THE TIED CARD OF 'docketlaw04.FilterParses'. -/
def filterParsesCard : Claim7 := { stood := { row := filterParsesRow, standIns := [], harness := (true, "694d8b1210f77c5b6a3dabbf1b8defebab7ff86f1f71f59df51b7350a0616f1a"), looks := true }, kinds := [], alts := [], laidByText := true, laidKinds := [.data, .pinned], laidTests := true, laidLooks := .later }
def FilterParsesCardSaid : Prop := Claim7.holds Tryz.pinned (.plain (OpenSpec.ofChange filterParsesSpec)) filterParsesCard

/-- THE TIED CARD OF 'docketlaw04.FilterNeeds'. -/
def filterNeedsCard : Claim7 := { stood := { row := filterNeedsRow, standIns := [], harness := (true, "694d8b1210f77c5b6a3dabbf1b8defebab7ff86f1f71f59df51b7350a0616f1a"), looks := true }, kinds := [], alts := [], laidByText := true, laidKinds := [.data, .pinned], laidTests := true, laidLooks := .later }
def FilterNeedsCardSaid : Prop := Claim7.holds Tryz.pinned (.plain (OpenSpec.ofChange filterNeedsSpec)) filterNeedsCard

/-- THE TIED CARD OF 'docketlaw06.ShapeOrders'. -/
def shapeOrdersCard : Claim7 := { stood := { row := shapeOrdersRow, standIns := [], harness := (true, "694d8b1210f77c5b6a3dabbf1b8defebab7ff86f1f71f59df51b7350a0616f1a"), looks := true }, kinds := [], alts := [], laidByText := true, laidKinds := [.data, .data, .data, .data, .sentinel, .sentinel, .pinned], laidTests := true, laidLooks := .later }
def ShapeOrdersCardSaid : Prop := Claim7.holds Tryz.pinned (.plain (OpenSpec.ofChange shapeOrdersSpec)) shapeOrdersCard

/-- THE TIED CARD OF 'docketlaw06.ShapeTotal'. -/
def shapeTotalCard : Claim7 := { stood := { row := shapeTotalRow, standIns := [], harness := (true, "694d8b1210f77c5b6a3dabbf1b8defebab7ff86f1f71f59df51b7350a0616f1a"), looks := true }, kinds := [], alts := [], laidByText := true, laidKinds := [.data, .data, .data, .data, .sentinel, .sentinel, .pinned], laidTests := true, laidLooks := .later }
def ShapeTotalCardSaid : Prop := Claim7.holds Tryz.pinned (.plain (OpenSpec.ofChange shapeTotalSpec)) shapeTotalCard

/-- THE TIED CARD OF 'docketlaw06.ShapeHalves'. -/
def shapeHalvesCard : Claim7 := { stood := { row := shapeHalvesRow, standIns := [], harness := (true, "694d8b1210f77c5b6a3dabbf1b8defebab7ff86f1f71f59df51b7350a0616f1a"), looks := true }, kinds := [], alts := [], laidByText := true, laidKinds := [.data, .data, .data, .data, .sentinel, .sentinel, .pinned], laidTests := true, laidLooks := .later }
def ShapeHalvesCardSaid : Prop := Claim7.holds Tryz.pinned (.plain (OpenSpec.ofChange shapeHalvesSpec)) shapeHalvesCard

/-- THE TIED CARD OF 'docketlaw06.ShapeNil'. -/
def shapeNilCard : Claim7 := { stood := { row := shapeNilRow, standIns := [], harness := (true, "694d8b1210f77c5b6a3dabbf1b8defebab7ff86f1f71f59df51b7350a0616f1a"), looks := true }, kinds := [], alts := [], laidByText := true, laidKinds := [.data, .data, .data, .data, .sentinel, .sentinel, .pinned], laidTests := true, laidLooks := .later }
def ShapeNilCardSaid : Prop := Claim7.holds Tryz.pinned (.plain (OpenSpec.ofChange shapeNilSpec)) shapeNilCard

/-- THE TIED CARD OF 'docketlaw06.ShapeDistincts'. -/
def shapeDistinctsCard : Claim7 := { stood := { row := shapeDistinctsRow, standIns := [], harness := (true, "694d8b1210f77c5b6a3dabbf1b8defebab7ff86f1f71f59df51b7350a0616f1a"), looks := true }, kinds := [], alts := [], laidByText := true, laidKinds := [.data, .data, .data, .data, .sentinel, .sentinel, .pinned], laidTests := true, laidLooks := .later }
def ShapeDistinctsCardSaid : Prop := Claim7.holds Tryz.pinned (.plain (OpenSpec.ofChange shapeDistinctsSpec)) shapeDistinctsCard

/-- THE SECOND FORM's CARD OF 'docketlaw04.FilterMatches'. -/
def filterMatchesUptoCard : Claim7 := { stood := { row := filterMatchesUptoRow, standIns := [], harness := (true, "694d8b1210f77c5b6a3dabbf1b8defebab7ff86f1f71f59df51b7350a0616f1a"), looks := true }, kinds := [], alts := [], laidByText := true, laidKinds := [.data, .pinned], laidTests := true, laidLooks := .later }
def FilterMatchesUptoCardSaid : Prop := Claim7.holds Tryz.pinned (.plain (OpenSpec.upto filterMatchesSpec)) filterMatchesUptoCard

/-- THE SECOND FORM's CARD OF 'docketlaw04.FilterOpposites'. -/
def filterOppositesUptoCard : Claim7 := { stood := { row := filterOppositesUptoRow, standIns := [], harness := (true, "694d8b1210f77c5b6a3dabbf1b8defebab7ff86f1f71f59df51b7350a0616f1a"), looks := true }, kinds := [], alts := [], laidByText := true, laidKinds := [.data, .pinned], laidTests := true, laidLooks := .later }
def FilterOppositesUptoCardSaid : Prop := Claim7.holds Tryz.pinned (.plain (OpenSpec.upto filterOppositesSpec)) filterOppositesUptoCard

/-- THE SECOND FORM's CARD OF 'docketlaw04.FilterOrder'. -/
def filterOrderUptoCard : Claim7 := { stood := { row := filterOrderUptoRow, standIns := [], harness := (true, "694d8b1210f77c5b6a3dabbf1b8defebab7ff86f1f71f59df51b7350a0616f1a"), looks := true }, kinds := [], alts := [], laidByText := true, laidKinds := [.data, .pinned], laidTests := true, laidLooks := .later }
def FilterOrderUptoCardSaid : Prop := Claim7.holds Tryz.pinned (.plain (OpenSpec.upto filterOrderSpec)) filterOrderUptoCard

/-- THE SECOND FORM's CARD OF 'docketlaw04.FilterReaches'. -/
def filterReachesUptoCard : Claim7 := { stood := { row := filterReachesUptoRow, standIns := [], harness := (true, "694d8b1210f77c5b6a3dabbf1b8defebab7ff86f1f71f59df51b7350a0616f1a"), looks := true }, kinds := [], alts := [], laidByText := true, laidKinds := [.data, .pinned], laidTests := true, laidLooks := .later }
def FilterReachesUptoCardSaid : Prop := Claim7.holds Tryz.pinned (.plain (OpenSpec.upto filterReachesSpec)) filterReachesUptoCard

/-- THE SECOND FORM's CARD OF 'docketlaw04.FilterParses'. -/
def filterParsesUptoCard : Claim7 := { stood := { row := filterParsesUptoRow, standIns := [], harness := (true, "694d8b1210f77c5b6a3dabbf1b8defebab7ff86f1f71f59df51b7350a0616f1a"), looks := true }, kinds := [], alts := [], laidByText := true, laidKinds := [.data, .pinned], laidTests := true, laidLooks := .later }
def FilterParsesUptoCardSaid : Prop := Claim7.holds Tryz.pinned (.plain (OpenSpec.upto filterParsesSpec)) filterParsesUptoCard

/-- THE SECOND FORM's CARD OF 'docketlaw04.FilterNeeds'. -/
def filterNeedsUptoCard : Claim7 := { stood := { row := filterNeedsUptoRow, standIns := [], harness := (true, "694d8b1210f77c5b6a3dabbf1b8defebab7ff86f1f71f59df51b7350a0616f1a"), looks := true }, kinds := [], alts := [], laidByText := true, laidKinds := [.data, .pinned], laidTests := true, laidLooks := .later }
def FilterNeedsUptoCardSaid : Prop := Claim7.holds Tryz.pinned (.plain (OpenSpec.upto filterNeedsSpec)) filterNeedsUptoCard

/-- THE SECOND FORM's CARD OF 'docketlaw06.ShapeOrders'. -/
def shapeOrdersUptoCard : Claim7 := { stood := { row := shapeOrdersUptoRow, standIns := [], harness := (true, "694d8b1210f77c5b6a3dabbf1b8defebab7ff86f1f71f59df51b7350a0616f1a"), looks := true }, kinds := [], alts := [], laidByText := true, laidKinds := [.data, .data, .data, .data, .sentinel, .sentinel, .pinned], laidTests := true, laidLooks := .later }
def ShapeOrdersUptoCardSaid : Prop := Claim7.holds Tryz.pinned (.plain (OpenSpec.upto shapeOrdersSpec)) shapeOrdersUptoCard

/-- THE SECOND FORM's CARD OF 'docketlaw06.ShapeTotal'. -/
def shapeTotalUptoCard : Claim7 := { stood := { row := shapeTotalUptoRow, standIns := [], harness := (true, "694d8b1210f77c5b6a3dabbf1b8defebab7ff86f1f71f59df51b7350a0616f1a"), looks := true }, kinds := [], alts := [], laidByText := true, laidKinds := [.data, .data, .data, .data, .sentinel, .sentinel, .pinned], laidTests := true, laidLooks := .later }
def ShapeTotalUptoCardSaid : Prop := Claim7.holds Tryz.pinned (.plain (OpenSpec.upto shapeTotalSpec)) shapeTotalUptoCard

/-- THE SECOND FORM's CARD OF 'docketlaw06.ShapeHalves'. -/
def shapeHalvesUptoCard : Claim7 := { stood := { row := shapeHalvesUptoRow, standIns := [], harness := (true, "694d8b1210f77c5b6a3dabbf1b8defebab7ff86f1f71f59df51b7350a0616f1a"), looks := true }, kinds := [], alts := [], laidByText := true, laidKinds := [.data, .data, .data, .data, .sentinel, .sentinel, .pinned], laidTests := true, laidLooks := .later }
def ShapeHalvesUptoCardSaid : Prop := Claim7.holds Tryz.pinned (.plain (OpenSpec.upto shapeHalvesSpec)) shapeHalvesUptoCard

/-- THE SECOND FORM's CARD OF 'docketlaw06.ShapeNil'. -/
def shapeNilUptoCard : Claim7 := { stood := { row := shapeNilUptoRow, standIns := [], harness := (true, "694d8b1210f77c5b6a3dabbf1b8defebab7ff86f1f71f59df51b7350a0616f1a"), looks := true }, kinds := [], alts := [], laidByText := true, laidKinds := [.data, .data, .data, .data, .sentinel, .sentinel, .pinned], laidTests := true, laidLooks := .later }
def ShapeNilUptoCardSaid : Prop := Claim7.holds Tryz.pinned (.plain (OpenSpec.upto shapeNilSpec)) shapeNilUptoCard

/-- THE SECOND FORM's CARD OF 'docketlaw06.ShapeDistincts'. -/
def shapeDistinctsUptoCard : Claim7 := { stood := { row := shapeDistinctsUptoRow, standIns := [], harness := (true, "694d8b1210f77c5b6a3dabbf1b8defebab7ff86f1f71f59df51b7350a0616f1a"), looks := true }, kinds := [], alts := [], laidByText := true, laidKinds := [.data, .data, .data, .data, .sentinel, .sentinel, .pinned], laidTests := true, laidLooks := .later }
def ShapeDistinctsUptoCardSaid : Prop := Claim7.holds Tryz.pinned (.plain (OpenSpec.upto shapeDistinctsSpec)) shapeDistinctsUptoCard
end Rows
end Go.Proofs.YtohlmhkiejpkgaaGreatDoor
