/-
  DERIVED. GIVEN WITH THE SEED: THE CARDS: each row of YtadileniakikeaaGreatDoorRows.lean that lists a variable, with what it lists TIED to the program's text (the seventh form; the later family's looks); each row that meets fmt, with fmt's text TOLD by the authors' own Lean function (tested against real Go, not proved from fmt's source: count such statements apart). THE CARD IS WHAT COUNTS. Prove the row's statement (the work); the ties are given (YtadileniakikeaaGreatDoorTie.lean); close each card by the builder's one call (the guide's Derived/Test/ToyasCard.lean, 'card_holds'). Laid BY PROGRAM, IN A SANDBOX (cutbox-door.mjs). By AI agents, Wed Nov 11 2026. No macro, syntax, notation, axiom, sorry.
-/
import Derived.Test.YtadileniakikeaaGreatDoorRows
import GoSem.ClaimSeven
namespace Go.Proofs.YtadileniakikeaaGreatDoor
namespace Rows

/-- THE TIED CARD OF 'voussoirlaw01.SortsValid'. -/
def sortsValidCard : Claim7 := { stood := { row := sortsValidRow, standIns := [], harness := (true, "b7e32f9b71bb8c249e7c8668f81efac2541d21f73091f07ccd5ffff02139b00f"), looks := false }, kinds := [], alts := [], laidByText := true, laidKinds := [.listed, .data], laidTests := true, laidLooks := .later }
def SortsValidCardSaid : Prop := Claim7.holds Tryz.pinned (.plain (OpenSpec.ofChange sortsValidSpec)) sortsValidCard

/-- THE TIED CARD OF 'voussoirlaw01.SortsFinds'. -/
def sortsFindsCard : Claim7 := { stood := { row := sortsFindsRow, standIns := [], harness := (true, "b7e32f9b71bb8c249e7c8668f81efac2541d21f73091f07ccd5ffff02139b00f"), looks := false }, kinds := [], alts := [], laidByText := true, laidKinds := [.listed, .data], laidTests := true, laidLooks := .later }
def SortsFindsCardSaid : Prop := Claim7.holds Tryz.pinned (.plain (OpenSpec.ofChange sortsFindsSpec)) sortsFindsCard

/-- THE TIED CARD OF 'voussoirlaw01.SortsOrdered'. -/
def sortsOrderedCard : Claim7 := { stood := { row := sortsOrderedRow, standIns := [], harness := (true, "b7e32f9b71bb8c249e7c8668f81efac2541d21f73091f07ccd5ffff02139b00f"), looks := false }, kinds := [], alts := [], laidByText := true, laidKinds := [.listed, .data], laidTests := true, laidLooks := .later }
def SortsOrderedCardSaid : Prop := Claim7.holds Tryz.pinned (.plain (OpenSpec.ofChange sortsOrderedSpec)) sortsOrderedCard

/-- THE TIED CARD OF 'voussoirlaw01.SortsSets'. -/
def sortsSetsCard : Claim7 := { stood := { row := sortsSetsRow, standIns := [], harness := (true, "b7e32f9b71bb8c249e7c8668f81efac2541d21f73091f07ccd5ffff02139b00f"), looks := false }, kinds := [], alts := [], laidByText := true, laidKinds := [.listed, .data], laidTests := true, laidLooks := .later }
def SortsSetsCardSaid : Prop := Claim7.holds Tryz.pinned (.plain (OpenSpec.ofChange sortsSetsSpec)) sortsSetsCard

/-- THE TIED CARD OF 'voussoirlaw01.SortsRenamed'. -/
def sortsRenamedCard : Claim7 := { stood := { row := sortsRenamedRow, standIns := [], harness := (true, "b7e32f9b71bb8c249e7c8668f81efac2541d21f73091f07ccd5ffff02139b00f"), looks := false }, kinds := [], alts := [], laidByText := true, laidKinds := [.listed, .data], laidTests := true, laidLooks := .later }
def SortsRenamedCardSaid : Prop := Claim7.holds Tryz.pinned (.plain (OpenSpec.ofChange sortsRenamedSpec)) sortsRenamedCard

/-- THE TIED CARD OF 'voussoirlaw01.SortsOrders'. -/
def sortsOrdersCard : Claim7 := { stood := { row := sortsOrdersRow, standIns := [], harness := (true, "b7e32f9b71bb8c249e7c8668f81efac2541d21f73091f07ccd5ffff02139b00f"), looks := false }, kinds := [], alts := [], laidByText := true, laidKinds := [.listed, .data], laidTests := true, laidLooks := .later }
def SortsOrdersCardSaid : Prop := Claim7.holds Tryz.pinned (.plain (OpenSpec.ofChange sortsOrdersSpec)) sortsOrdersCard

/-- THE TIED CARD OF 'voussoirlaw01.SortsNames'. -/
def sortsNamesCard : Claim7 := { stood := { row := sortsNamesRow, standIns := [], harness := (true, "b7e32f9b71bb8c249e7c8668f81efac2541d21f73091f07ccd5ffff02139b00f"), looks := false }, kinds := [], alts := [], laidByText := true, laidKinds := [.listed, .data], laidTests := true, laidLooks := .later }
def SortsNamesCardSaid : Prop := Claim7.holds Tryz.pinned (.plain (OpenSpec.ofChange sortsNamesSpec)) sortsNamesCard

/-- THE SECOND FORM's CARD OF 'voussoirlaw01.SortsValid'. -/
def sortsValidUptoCard : Claim7 := { stood := { row := sortsValidUptoRow, standIns := [], harness := (true, "b7e32f9b71bb8c249e7c8668f81efac2541d21f73091f07ccd5ffff02139b00f"), looks := false }, kinds := [], alts := [], laidByText := true, laidKinds := [.listed, .data], laidTests := true, laidLooks := .later }
def SortsValidUptoCardSaid : Prop := Claim7.holds Tryz.pinned (.plain (OpenSpec.upto sortsValidSpec)) sortsValidUptoCard

/-- THE SECOND FORM's CARD OF 'voussoirlaw01.SortsFinds'. -/
def sortsFindsUptoCard : Claim7 := { stood := { row := sortsFindsUptoRow, standIns := [], harness := (true, "b7e32f9b71bb8c249e7c8668f81efac2541d21f73091f07ccd5ffff02139b00f"), looks := false }, kinds := [], alts := [], laidByText := true, laidKinds := [.listed, .data], laidTests := true, laidLooks := .later }
def SortsFindsUptoCardSaid : Prop := Claim7.holds Tryz.pinned (.plain (OpenSpec.upto sortsFindsSpec)) sortsFindsUptoCard

/-- THE SECOND FORM's CARD OF 'voussoirlaw01.SortsOrdered'. -/
def sortsOrderedUptoCard : Claim7 := { stood := { row := sortsOrderedUptoRow, standIns := [], harness := (true, "b7e32f9b71bb8c249e7c8668f81efac2541d21f73091f07ccd5ffff02139b00f"), looks := false }, kinds := [], alts := [], laidByText := true, laidKinds := [.listed, .data], laidTests := true, laidLooks := .later }
def SortsOrderedUptoCardSaid : Prop := Claim7.holds Tryz.pinned (.plain (OpenSpec.upto sortsOrderedSpec)) sortsOrderedUptoCard

/-- THE SECOND FORM's CARD OF 'voussoirlaw01.SortsSets'. -/
def sortsSetsUptoCard : Claim7 := { stood := { row := sortsSetsUptoRow, standIns := [], harness := (true, "b7e32f9b71bb8c249e7c8668f81efac2541d21f73091f07ccd5ffff02139b00f"), looks := false }, kinds := [], alts := [], laidByText := true, laidKinds := [.listed, .data], laidTests := true, laidLooks := .later }
def SortsSetsUptoCardSaid : Prop := Claim7.holds Tryz.pinned (.plain (OpenSpec.upto sortsSetsSpec)) sortsSetsUptoCard

/-- THE SECOND FORM's CARD OF 'voussoirlaw01.SortsRenamed'. -/
def sortsRenamedUptoCard : Claim7 := { stood := { row := sortsRenamedUptoRow, standIns := [], harness := (true, "b7e32f9b71bb8c249e7c8668f81efac2541d21f73091f07ccd5ffff02139b00f"), looks := false }, kinds := [], alts := [], laidByText := true, laidKinds := [.listed, .data], laidTests := true, laidLooks := .later }
def SortsRenamedUptoCardSaid : Prop := Claim7.holds Tryz.pinned (.plain (OpenSpec.upto sortsRenamedSpec)) sortsRenamedUptoCard

/-- THE SECOND FORM's CARD OF 'voussoirlaw01.SortsOrders'. -/
def sortsOrdersUptoCard : Claim7 := { stood := { row := sortsOrdersUptoRow, standIns := [], harness := (true, "b7e32f9b71bb8c249e7c8668f81efac2541d21f73091f07ccd5ffff02139b00f"), looks := false }, kinds := [], alts := [], laidByText := true, laidKinds := [.listed, .data], laidTests := true, laidLooks := .later }
def SortsOrdersUptoCardSaid : Prop := Claim7.holds Tryz.pinned (.plain (OpenSpec.upto sortsOrdersSpec)) sortsOrdersUptoCard

/-- THE SECOND FORM's CARD OF 'voussoirlaw01.SortsNames'. -/
def sortsNamesUptoCard : Claim7 := { stood := { row := sortsNamesUptoRow, standIns := [], harness := (true, "b7e32f9b71bb8c249e7c8668f81efac2541d21f73091f07ccd5ffff02139b00f"), looks := false }, kinds := [], alts := [], laidByText := true, laidKinds := [.listed, .data], laidTests := true, laidLooks := .later }
def SortsNamesUptoCardSaid : Prop := Claim7.holds Tryz.pinned (.plain (OpenSpec.upto sortsNamesSpec)) sortsNamesUptoCard
end Rows
end Go.Proofs.YtadileniakikeaaGreatDoor
