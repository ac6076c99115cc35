/-
  DERIVED. GIVEN WITH THE SEED: THE CARDS: each row of YtlppehancgjpbaaGreatDoorRows.lean that lists a variable, with what it lists TIED to the program's text (the seventh form; the later family's looks); each row that meets fmt, with fmt's text TOLD by the authors' own Lean function (tested against real Go, not proved from fmt's source: count such statements apart). THE CARD IS WHAT COUNTS. Prove the row's statement (the work); the ties are given (YtlppehancgjpbaaGreatDoorTie.lean); close each card by the builder's one call (the guide's Derived/Test/ToyasCard.lean, 'card_holds'). Laid BY PROGRAM, IN A SANDBOX (cutbox-door.mjs). By AI agents, Wed Nov 11 2026. No macro, syntax, notation, axiom, sorry.
-/
import Derived.Test.YtlppehancgjpbaaGreatDoorRows
import GoSem.ClaimSeven
namespace Go.Proofs.YtlppehancgjpbaaGreatDoor
namespace Rows

/-- THE TIED CARD OF 'docketlaw04.FilterNil'. -/
def filterNilCard : Claim7 := { stood := { row := filterNilRow, standIns := [], harness := (true, "38828196c3efb36e552daf6bdaac5ec65ddac1ad22e85eb8d9f81dc44dfd0ef0"), looks := true }, kinds := [], alts := [], laidByText := true, laidKinds := [.data, .pinned], laidTests := true, laidLooks := .later }
def FilterNilCardSaid : Prop := Claim7.holds Tryz.pinned (.plain (OpenSpec.ofChange filterNilSpec)) filterNilCard

/-- THE TIED CARD OF 'docketlaw06.ShapeNil'. -/
def shapeNilCard : Claim7 := { stood := { row := shapeNilRow, standIns := [], harness := (true, "38828196c3efb36e552daf6bdaac5ec65ddac1ad22e85eb8d9f81dc44dfd0ef0"), looks := true }, kinds := [], alts := [], laidByText := true, laidKinds := [.data, .data, .data, .data, .sentinel, .sentinel, .pinned], laidTests := true, laidLooks := .later }
def ShapeNilCardSaid : Prop := Claim7.holds Tryz.pinned (.plain (OpenSpec.ofChange shapeNilSpec)) shapeNilCard

/-- THE TIED CARD OF 'docketlaw06.ShapeWindows'. -/
def shapeWindowsCard : Claim7 := { stood := { row := shapeWindowsRow, standIns := [], harness := (true, "38828196c3efb36e552daf6bdaac5ec65ddac1ad22e85eb8d9f81dc44dfd0ef0"), looks := true }, kinds := [], alts := [], laidByText := true, laidKinds := [.data, .data, .data, .data, .sentinel, .sentinel, .pinned], laidTests := true, laidLooks := .later }
def ShapeWindowsCardSaid : Prop := Claim7.holds Tryz.pinned (.plain (OpenSpec.ofChange shapeWindowsSpec)) shapeWindowsCard

/-- THE TIED CARD OF 'docketlaw05.UpdateNames'. -/
def updateNamesCard : Claim7 := { stood := { row := updateNamesRow, standIns := [], harness := (true, "38828196c3efb36e552daf6bdaac5ec65ddac1ad22e85eb8d9f81dc44dfd0ef0"), looks := true }, kinds := [], alts := [], laidByText := true, laidKinds := [.data, .data, .data, .data, .handle, .sentinel, .sentinel, .pinned], laidTests := true, laidLooks := .later }
def UpdateNamesCardSaid : Prop := Claim7.holds Tryz.pinned (.plain (OpenSpec.ofChange updateNamesSpec)) updateNamesCard

/-- THE TIED CARD OF 'docketlaw05.UpdateNil'. -/
def updateNilCard : Claim7 := { stood := { row := updateNilRow, standIns := [], harness := (true, "38828196c3efb36e552daf6bdaac5ec65ddac1ad22e85eb8d9f81dc44dfd0ef0"), looks := true }, kinds := [], alts := [], laidByText := true, laidKinds := [.data, .data, .data, .data, .handle, .sentinel, .sentinel, .pinned], laidTests := true, laidLooks := .later }
def UpdateNilCardSaid : Prop := Claim7.holds Tryz.pinned (.plain (OpenSpec.ofChange updateNilSpec)) updateNilCard

/-- THE TIED CARD OF 'docketlaw07.PipeNames'. -/
def pipeNamesCard : Claim7 := { stood := { row := pipeNamesRow, standIns := [], harness := (true, "38828196c3efb36e552daf6bdaac5ec65ddac1ad22e85eb8d9f81dc44dfd0ef0"), looks := true }, kinds := [], alts := [], laidByText := true, laidKinds := [.data, .data, .data, .data, .sentinel, .sentinel, .pinned], laidTests := true, laidLooks := .later }
def PipeNamesCardSaid : Prop := Claim7.holds Tryz.pinned (.plain (OpenSpec.ofChange pipeNamesSpec)) pipeNamesCard

/-- THE TIED CARD OF 'docketlaw07.PipeNil'. -/
def pipeNilCard : Claim7 := { stood := { row := pipeNilRow, standIns := [], harness := (true, "38828196c3efb36e552daf6bdaac5ec65ddac1ad22e85eb8d9f81dc44dfd0ef0"), looks := true }, kinds := [], alts := [], laidByText := true, laidKinds := [.data, .data, .data, .data, .sentinel, .sentinel, .pinned], laidTests := true, laidLooks := .later }
def PipeNilCardSaid : Prop := Claim7.holds Tryz.pinned (.plain (OpenSpec.ofChange pipeNilSpec)) pipeNilCard

/-- THE SECOND FORM's CARD OF 'docketlaw04.FilterNil'. -/
def filterNilUptoCard : Claim7 := { stood := { row := filterNilUptoRow, standIns := [], harness := (true, "38828196c3efb36e552daf6bdaac5ec65ddac1ad22e85eb8d9f81dc44dfd0ef0"), looks := true }, kinds := [], alts := [], laidByText := true, laidKinds := [.data, .pinned], laidTests := true, laidLooks := .later }
def FilterNilUptoCardSaid : Prop := Claim7.holds Tryz.pinned (.plain (OpenSpec.upto filterNilSpec)) filterNilUptoCard

/-- THE SECOND FORM's CARD OF 'docketlaw06.ShapeNil'. -/
def shapeNilUptoCard : Claim7 := { stood := { row := shapeNilUptoRow, standIns := [], harness := (true, "38828196c3efb36e552daf6bdaac5ec65ddac1ad22e85eb8d9f81dc44dfd0ef0"), looks := true }, kinds := [], alts := [], laidByText := true, laidKinds := [.data, .data, .data, .data, .sentinel, .sentinel, .pinned], laidTests := true, laidLooks := .later }
def ShapeNilUptoCardSaid : Prop := Claim7.holds Tryz.pinned (.plain (OpenSpec.upto shapeNilSpec)) shapeNilUptoCard

/-- THE SECOND FORM's CARD OF 'docketlaw06.ShapeWindows'. -/
def shapeWindowsUptoCard : Claim7 := { stood := { row := shapeWindowsUptoRow, standIns := [], harness := (true, "38828196c3efb36e552daf6bdaac5ec65ddac1ad22e85eb8d9f81dc44dfd0ef0"), looks := true }, kinds := [], alts := [], laidByText := true, laidKinds := [.data, .data, .data, .data, .sentinel, .sentinel, .pinned], laidTests := true, laidLooks := .later }
def ShapeWindowsUptoCardSaid : Prop := Claim7.holds Tryz.pinned (.plain (OpenSpec.upto shapeWindowsSpec)) shapeWindowsUptoCard

/-- THE SECOND FORM's CARD OF 'docketlaw05.UpdateNames'. -/
def updateNamesUptoCard : Claim7 := { stood := { row := updateNamesUptoRow, standIns := [], harness := (true, "38828196c3efb36e552daf6bdaac5ec65ddac1ad22e85eb8d9f81dc44dfd0ef0"), looks := true }, kinds := [], alts := [], laidByText := true, laidKinds := [.data, .data, .data, .data, .handle, .sentinel, .sentinel, .pinned], laidTests := true, laidLooks := .later }
def UpdateNamesUptoCardSaid : Prop := Claim7.holds Tryz.pinned (.plain (OpenSpec.upto updateNamesSpec)) updateNamesUptoCard

/-- THE SECOND FORM's CARD OF 'docketlaw05.UpdateNil'. -/
def updateNilUptoCard : Claim7 := { stood := { row := updateNilUptoRow, standIns := [], harness := (true, "38828196c3efb36e552daf6bdaac5ec65ddac1ad22e85eb8d9f81dc44dfd0ef0"), looks := true }, kinds := [], alts := [], laidByText := true, laidKinds := [.data, .data, .data, .data, .handle, .sentinel, .sentinel, .pinned], laidTests := true, laidLooks := .later }
def UpdateNilUptoCardSaid : Prop := Claim7.holds Tryz.pinned (.plain (OpenSpec.upto updateNilSpec)) updateNilUptoCard

/-- THE SECOND FORM's CARD OF 'docketlaw07.PipeNames'. -/
def pipeNamesUptoCard : Claim7 := { stood := { row := pipeNamesUptoRow, standIns := [], harness := (true, "38828196c3efb36e552daf6bdaac5ec65ddac1ad22e85eb8d9f81dc44dfd0ef0"), looks := true }, kinds := [], alts := [], laidByText := true, laidKinds := [.data, .data, .data, .data, .sentinel, .sentinel, .pinned], laidTests := true, laidLooks := .later }
def PipeNamesUptoCardSaid : Prop := Claim7.holds Tryz.pinned (.plain (OpenSpec.upto pipeNamesSpec)) pipeNamesUptoCard

/-- THE SECOND FORM's CARD OF 'docketlaw07.PipeNil'. -/
def pipeNilUptoCard : Claim7 := { stood := { row := pipeNilUptoRow, standIns := [], harness := (true, "38828196c3efb36e552daf6bdaac5ec65ddac1ad22e85eb8d9f81dc44dfd0ef0"), looks := true }, kinds := [], alts := [], laidByText := true, laidKinds := [.data, .data, .data, .data, .sentinel, .sentinel, .pinned], laidTests := true, laidLooks := .later }
def PipeNilUptoCardSaid : Prop := Claim7.holds Tryz.pinned (.plain (OpenSpec.upto pipeNilSpec)) pipeNilUptoCard
end Rows
end Go.Proofs.YtlppehancgjpbaaGreatDoor
