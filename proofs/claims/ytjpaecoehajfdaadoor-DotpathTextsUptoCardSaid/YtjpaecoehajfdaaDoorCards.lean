/-
  DERIVED. GIVEN WITH THE SEED: THE CARDS: each row of YtjpaecoehajfdaaDoorRows.lean that lists a variable, with what it lists TIED to the program's text (the seventh form; the later family's looks); each row that meets fmt, with fmt's text TOLD by the authors' own Lean function (tested against real Go, not proved from fmt's source: count such statements apart). THE CARD IS WHAT COUNTS. Prove the row's statement (the work); the ties are given (YtjpaecoehajfdaaDoorTie.lean); close each card by the builder's one call (the guide's Derived/Test/ToyasCard.lean, 'card_holds'). Laid BY PROGRAM, IN A SANDBOX (cutbox-door.mjs). By AI agents, Wed Nov 11 2026. No macro, syntax, notation, axiom, sorry.
-/
import Derived.Test.YtjpaecoehajfdaaDoorRows
import GoSem.ClaimSeven
namespace Go.Proofs.YtjpaecoehajfdaaDoor
namespace Rows

/-- THE TIED CARD OF 'docketlaw02.DotpathLooks'. -/
def dotpathLooksCard : Claim7 := { stood := { row := dotpathLooksRow, standIns := [], harness := (true, "5ee902bff818bc17caffb8999916b1faf545329fd5468e10789f6d848781279e"), looks := true }, kinds := [], alts := [], laidByText := true, laidKinds := [.data, .data, .data, .data, .sentinel, .sentinel, .pinned], laidTests := true, laidLooks := .later }
def DotpathLooksCardSaid : Prop := Claim7.holds Tryd.pinned (.plain (OpenSpec.ofChange dotpathLooksSpec)) dotpathLooksCard

/-- THE TIED CARD OF 'docketlaw02.DotpathSets'. -/
def dotpathSetsCard : Claim7 := { stood := { row := dotpathSetsRow, standIns := [], harness := (true, "5ee902bff818bc17caffb8999916b1faf545329fd5468e10789f6d848781279e"), looks := true }, kinds := [], alts := [], laidByText := true, laidKinds := [.data, .data, .data, .data, .sentinel, .sentinel, .pinned], laidTests := true, laidLooks := .later }
def DotpathSetsCardSaid : Prop := Claim7.holds Tryd.pinned (.plain (OpenSpec.ofChange dotpathSetsSpec)) dotpathSetsCard

/-- THE TIED CARD OF 'docketlaw02.DotpathKeeps'. -/
def dotpathKeepsCard : Claim7 := { stood := { row := dotpathKeepsRow, standIns := [], harness := (true, "5ee902bff818bc17caffb8999916b1faf545329fd5468e10789f6d848781279e"), looks := true }, kinds := [], alts := [], laidByText := true, laidKinds := [.data, .data, .data, .data, .sentinel, .sentinel, .pinned], laidTests := true, laidLooks := .later }
def DotpathKeepsCardSaid : Prop := Claim7.holds Tryd.pinned (.plain (OpenSpec.ofChange dotpathKeepsSpec)) dotpathKeepsCard

/-- THE TIED CARD OF 'docketlaw02.DotpathOrder'. -/
def dotpathOrderCard : Claim7 := { stood := { row := dotpathOrderRow, standIns := [], harness := (true, "5ee902bff818bc17caffb8999916b1faf545329fd5468e10789f6d848781279e"), looks := true }, kinds := [], alts := [], laidByText := true, laidKinds := [.data, .data, .data, .data, .sentinel, .sentinel, .pinned], laidTests := true, laidLooks := .later }
def DotpathOrderCardSaid : Prop := Claim7.holds Tryd.pinned (.plain (OpenSpec.ofChange dotpathOrderSpec)) dotpathOrderCard

/-- THE TIED CARD OF 'docketlaw02.DotpathMeets'. -/
def dotpathMeetsCard : Claim7 := { stood := { row := dotpathMeetsRow, standIns := [], harness := (true, "5ee902bff818bc17caffb8999916b1faf545329fd5468e10789f6d848781279e"), looks := true }, kinds := [], alts := [], laidByText := true, laidKinds := [.data, .data, .data, .data, .sentinel, .sentinel, .pinned], laidTests := true, laidLooks := .later }
def DotpathMeetsCardSaid : Prop := Claim7.holds Tryd.pinned (.plain (OpenSpec.ofChange dotpathMeetsSpec)) dotpathMeetsCard

/-- THE TIED CARD OF 'docketlaw02.DotpathClashes'. -/
def dotpathClashesCard : Claim7 := { stood := { row := dotpathClashesRow, standIns := [], harness := (true, "5ee902bff818bc17caffb8999916b1faf545329fd5468e10789f6d848781279e"), looks := true }, kinds := [], alts := [], laidByText := true, laidKinds := [.data, .data, .data, .data, .sentinel, .sentinel, .pinned], laidTests := true, laidLooks := .later }
def DotpathClashesCardSaid : Prop := Claim7.holds Tryd.pinned (.plain (OpenSpec.ofChange dotpathClashesSpec)) dotpathClashesCard

/-- THE TIED CARD OF 'docketlaw02.DotpathWalks'. -/
def dotpathWalksCard : Claim7 := { stood := { row := dotpathWalksRow, standIns := [], harness := (true, "5ee902bff818bc17caffb8999916b1faf545329fd5468e10789f6d848781279e"), looks := true }, kinds := [], alts := [], laidByText := true, laidKinds := [.data, .data, .data, .data, .sentinel, .sentinel, .pinned], laidTests := true, laidLooks := .later }
def DotpathWalksCardSaid : Prop := Claim7.holds Tryd.pinned (.plain (OpenSpec.ofChange dotpathWalksSpec)) dotpathWalksCard

/-- THE TIED CARD OF 'docketlaw02.DotpathTexts'. -/
def dotpathTextsCard : Claim7 := { stood := { row := dotpathTextsRow, standIns := [], harness := (true, "5ee902bff818bc17caffb8999916b1faf545329fd5468e10789f6d848781279e"), looks := true }, kinds := [], alts := [], laidByText := true, laidKinds := [.data, .data, .data, .data, .sentinel, .sentinel, .pinned], laidTests := true, laidLooks := .later }
def DotpathTextsCardSaid : Prop := Claim7.holds Tryd.pinned (.plain (OpenSpec.ofChange dotpathTextsSpec)) dotpathTextsCard

/-- THE SECOND FORM's CARD OF 'docketlaw02.DotpathLooks'. -/
def dotpathLooksUptoCard : Claim7 := { stood := { row := dotpathLooksUptoRow, standIns := [], harness := (true, "5ee902bff818bc17caffb8999916b1faf545329fd5468e10789f6d848781279e"), looks := true }, kinds := [], alts := [], laidByText := true, laidKinds := [.data, .data, .data, .data, .sentinel, .sentinel, .pinned], laidTests := true, laidLooks := .later }
def DotpathLooksUptoCardSaid : Prop := Claim7.holds Tryd.pinned (.plain (OpenSpec.upto dotpathLooksSpec)) dotpathLooksUptoCard

/-- THE SECOND FORM's CARD OF 'docketlaw02.DotpathSets'. -/
def dotpathSetsUptoCard : Claim7 := { stood := { row := dotpathSetsUptoRow, standIns := [], harness := (true, "5ee902bff818bc17caffb8999916b1faf545329fd5468e10789f6d848781279e"), looks := true }, kinds := [], alts := [], laidByText := true, laidKinds := [.data, .data, .data, .data, .sentinel, .sentinel, .pinned], laidTests := true, laidLooks := .later }
def DotpathSetsUptoCardSaid : Prop := Claim7.holds Tryd.pinned (.plain (OpenSpec.upto dotpathSetsSpec)) dotpathSetsUptoCard

/-- THE SECOND FORM's CARD OF 'docketlaw02.DotpathKeeps'. -/
def dotpathKeepsUptoCard : Claim7 := { stood := { row := dotpathKeepsUptoRow, standIns := [], harness := (true, "5ee902bff818bc17caffb8999916b1faf545329fd5468e10789f6d848781279e"), looks := true }, kinds := [], alts := [], laidByText := true, laidKinds := [.data, .data, .data, .data, .sentinel, .sentinel, .pinned], laidTests := true, laidLooks := .later }
def DotpathKeepsUptoCardSaid : Prop := Claim7.holds Tryd.pinned (.plain (OpenSpec.upto dotpathKeepsSpec)) dotpathKeepsUptoCard

/-- THE SECOND FORM's CARD OF 'docketlaw02.DotpathOrder'. -/
def dotpathOrderUptoCard : Claim7 := { stood := { row := dotpathOrderUptoRow, standIns := [], harness := (true, "5ee902bff818bc17caffb8999916b1faf545329fd5468e10789f6d848781279e"), looks := true }, kinds := [], alts := [], laidByText := true, laidKinds := [.data, .data, .data, .data, .sentinel, .sentinel, .pinned], laidTests := true, laidLooks := .later }
def DotpathOrderUptoCardSaid : Prop := Claim7.holds Tryd.pinned (.plain (OpenSpec.upto dotpathOrderSpec)) dotpathOrderUptoCard

/-- THE SECOND FORM's CARD OF 'docketlaw02.DotpathMeets'. -/
def dotpathMeetsUptoCard : Claim7 := { stood := { row := dotpathMeetsUptoRow, standIns := [], harness := (true, "5ee902bff818bc17caffb8999916b1faf545329fd5468e10789f6d848781279e"), looks := true }, kinds := [], alts := [], laidByText := true, laidKinds := [.data, .data, .data, .data, .sentinel, .sentinel, .pinned], laidTests := true, laidLooks := .later }
def DotpathMeetsUptoCardSaid : Prop := Claim7.holds Tryd.pinned (.plain (OpenSpec.upto dotpathMeetsSpec)) dotpathMeetsUptoCard

/-- THE SECOND FORM's CARD OF 'docketlaw02.DotpathClashes'. -/
def dotpathClashesUptoCard : Claim7 := { stood := { row := dotpathClashesUptoRow, standIns := [], harness := (true, "5ee902bff818bc17caffb8999916b1faf545329fd5468e10789f6d848781279e"), looks := true }, kinds := [], alts := [], laidByText := true, laidKinds := [.data, .data, .data, .data, .sentinel, .sentinel, .pinned], laidTests := true, laidLooks := .later }
def DotpathClashesUptoCardSaid : Prop := Claim7.holds Tryd.pinned (.plain (OpenSpec.upto dotpathClashesSpec)) dotpathClashesUptoCard

/-- THE SECOND FORM's CARD OF 'docketlaw02.DotpathWalks'. -/
def dotpathWalksUptoCard : Claim7 := { stood := { row := dotpathWalksUptoRow, standIns := [], harness := (true, "5ee902bff818bc17caffb8999916b1faf545329fd5468e10789f6d848781279e"), looks := true }, kinds := [], alts := [], laidByText := true, laidKinds := [.data, .data, .data, .data, .sentinel, .sentinel, .pinned], laidTests := true, laidLooks := .later }
def DotpathWalksUptoCardSaid : Prop := Claim7.holds Tryd.pinned (.plain (OpenSpec.upto dotpathWalksSpec)) dotpathWalksUptoCard

/-- THE SECOND FORM's CARD OF 'docketlaw02.DotpathTexts'. -/
def dotpathTextsUptoCard : Claim7 := { stood := { row := dotpathTextsUptoRow, standIns := [], harness := (true, "5ee902bff818bc17caffb8999916b1faf545329fd5468e10789f6d848781279e"), looks := true }, kinds := [], alts := [], laidByText := true, laidKinds := [.data, .data, .data, .data, .sentinel, .sentinel, .pinned], laidTests := true, laidLooks := .later }
def DotpathTextsUptoCardSaid : Prop := Claim7.holds Tryd.pinned (.plain (OpenSpec.upto dotpathTextsSpec)) dotpathTextsUptoCard
end Rows
end Go.Proofs.YtjpaecoehajfdaaDoor
