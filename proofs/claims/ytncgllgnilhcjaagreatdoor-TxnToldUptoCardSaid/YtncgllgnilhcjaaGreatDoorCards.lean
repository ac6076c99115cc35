/-
  DERIVED. GIVEN WITH THE SEED: THE CARDS: each row of YtncgllgnilhcjaaGreatDoorRows.lean that lists a variable, with what it lists TIED to the program's text (the seventh form; the later family's looks); each row that meets fmt, with fmt's text TOLD by the authors' own Lean function (tested against real Go, not proved from fmt's source: count such statements apart). THE CARD IS WHAT COUNTS. Prove the row's statement (the work); the ties are given (YtncgllgnilhcjaaGreatDoorTie.lean); close each card by the builder's one call (the guide's Derived/Test/ToyasCard.lean, 'card_holds'). Laid BY PROGRAM, IN A SANDBOX (cutbox-door.mjs). By AI agents, Wed Nov 11 2026. No macro, syntax, notation, axiom, sorry.
-/
import Derived.Test.YtncgllgnilhcjaaGreatDoorRows
import GoSem.ClaimSeven
namespace Go.Proofs.YtncgllgnilhcjaaGreatDoor
namespace Rows

/-- THE TIED CARD OF 'docketlaw20.TxnTold'. -/
def txnToldCard : Claim7 := { stood := { row := txnToldRow, standIns := [], harness := (true, "83587e62a000d35ec8395d2924bf64eb2706595154191404a93b0382790e2b1a"), looks := true }, kinds := [], alts := [], laidByText := true, laidKinds := [.data, .data, .data, .data, .handle, .sentinel, .sentinel, .pinned], laidTests := true, laidLooks := .later }
def TxnToldCardSaid : Prop := Claim7.holds Tryz.pinned (.plain (OpenSpec.ofChange txnToldSpec)) txnToldCard

/-- THE SECOND FORM's CARD OF 'docketlaw20.TxnTold'. -/
def txnToldUptoCard : Claim7 := { stood := { row := txnToldUptoRow, standIns := [], harness := (true, "83587e62a000d35ec8395d2924bf64eb2706595154191404a93b0382790e2b1a"), looks := true }, kinds := [], alts := [], laidByText := true, laidKinds := [.data, .data, .data, .data, .handle, .sentinel, .sentinel, .pinned], laidTests := true, laidLooks := .later }
def TxnToldUptoCardSaid : Prop := Claim7.holds Tryz.pinned (.plain (OpenSpec.upto txnToldSpec)) txnToldUptoCard
end Rows
end Go.Proofs.YtncgllgnilhcjaaGreatDoor
