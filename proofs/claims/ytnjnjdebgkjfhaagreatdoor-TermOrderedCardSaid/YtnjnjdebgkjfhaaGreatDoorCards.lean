/-
  DERIVED. GIVEN WITH THE SEED: THE CARDS: each row of YtnjnjdebgkjfhaaGreatDoorRows.lean that lists a variable, with what it lists TIED to the program's text (the seventh form; the later family's looks); each row that meets fmt, with fmt's text TOLD by the authors' own Lean function (tested against real Go, not proved from fmt's source: count such statements apart). THE CARD IS WHAT COUNTS. Prove the row's statement (the work); the ties are given (YtnjnjdebgkjfhaaGreatDoorTie.lean); close each card by the builder's one call (the guide's Derived/Test/ToyasCard.lean, 'card_holds'). Laid BY PROGRAM, IN A SANDBOX (cutbox-door.mjs). By AI agents, Wed Nov 11 2026. No macro, syntax, notation, axiom, sorry.
-/
import Derived.Test.YtnjnjdebgkjfhaaGreatDoorRows
import GoSem.ClaimSeven
namespace Go.Proofs.YtnjnjdebgkjfhaaGreatDoor
namespace Rows

/-- THE TIED CARD OF 'voussoirlaw02.TermForms'. -/
def termFormsCard : Claim7 := { stood := { row := termFormsRow, standIns := [], harness := (true, "dc999b04bccec51ecf6bb4c1be8c6451221e8ef2e246f6950faaec90db72298b"), looks := false }, kinds := [], alts := [], laidByText := true, laidKinds := [.data, .data, .data, .listed, .data], laidTests := true, laidLooks := .later }
def TermFormsCardSaid : Prop := Claim7.holds Tryz.pinned (.plain (OpenSpec.ofChange termFormsSpec)) termFormsCard

/-- THE TIED CARD OF 'voussoirlaw02.TermOrders'. -/
def termOrdersCard : Claim7 := { stood := { row := termOrdersRow, standIns := [], harness := (true, "dc999b04bccec51ecf6bb4c1be8c6451221e8ef2e246f6950faaec90db72298b"), looks := false }, kinds := [], alts := [], laidByText := true, laidKinds := [.data, .data, .data, .listed, .data], laidTests := true, laidLooks := .later }
def TermOrdersCardSaid : Prop := Claim7.holds Tryz.pinned (.plain (OpenSpec.ofChange termOrdersSpec)) termOrdersCard

/-- THE TIED CARD OF 'voussoirlaw02.TermTells'. -/
def termTellsCard : Claim7 := { stood := { row := termTellsRow, standIns := [], harness := (true, "dc999b04bccec51ecf6bb4c1be8c6451221e8ef2e246f6950faaec90db72298b"), looks := false }, kinds := [], alts := [], laidByText := true, laidKinds := [.data, .data, .data, .listed, .data], laidTests := true, laidLooks := .later }
def TermTellsCardSaid : Prop := Claim7.holds Tryz.pinned (.plain (OpenSpec.ofChange termTellsSpec)) termTellsCard

/-- THE TIED CARD OF 'voussoirlaw02.TermParts'. -/
def termPartsCard : Claim7 := { stood := { row := termPartsRow, standIns := [], harness := (true, "dc999b04bccec51ecf6bb4c1be8c6451221e8ef2e246f6950faaec90db72298b"), looks := false }, kinds := [], alts := [], laidByText := true, laidKinds := [.data, .data, .data, .listed, .data], laidTests := true, laidLooks := .later }
def TermPartsCardSaid : Prop := Claim7.holds Tryz.pinned (.plain (OpenSpec.ofChange termPartsSpec)) termPartsCard

/-- THE TIED CARD OF 'voussoirlaw02.TermLimits'. -/
def termLimitsCard : Claim7 := { stood := { row := termLimitsRow, standIns := [], harness := (true, "dc999b04bccec51ecf6bb4c1be8c6451221e8ef2e246f6950faaec90db72298b"), looks := false }, kinds := [], alts := [], laidByText := true, laidKinds := [.data, .data, .data, .listed, .data], laidTests := true, laidLooks := .later }
def TermLimitsCardSaid : Prop := Claim7.holds Tryz.pinned (.plain (OpenSpec.ofChange termLimitsSpec)) termLimitsCard

/-- THE TIED CARD OF 'voussoirlaw02.TermOrdered'. -/
def termOrderedCard : Claim7 := { stood := { row := termOrderedRow, standIns := [], harness := (true, "dc999b04bccec51ecf6bb4c1be8c6451221e8ef2e246f6950faaec90db72298b"), looks := false }, kinds := [], alts := [], laidByText := true, laidKinds := [.data, .data, .data, .listed, .data], laidTests := true, laidLooks := .later }
def TermOrderedCardSaid : Prop := Claim7.holds Tryz.pinned (.plain (OpenSpec.ofChange termOrderedSpec)) termOrderedCard

/-- THE TIED CARD OF 'voussoirlaw02.TermStrings'. -/
def termStringsCard : Claim7 := { stood := { row := termStringsRow, standIns := [], harness := (true, "dc999b04bccec51ecf6bb4c1be8c6451221e8ef2e246f6950faaec90db72298b"), looks := false }, kinds := [], alts := [], laidByText := true, laidKinds := [.data, .data, .data, .listed, .data], laidTests := true, laidLooks := .later }
def TermStringsCardSaid : Prop := Claim7.holds Tryz.pinned (.plain (OpenSpec.ofChange termStringsSpec)) termStringsCard

/-- THE TIED CARD OF 'voussoirlaw02.TermWith'. -/
def termWithCard : Claim7 := { stood := { row := termWithRow, standIns := [], harness := (true, "dc999b04bccec51ecf6bb4c1be8c6451221e8ef2e246f6950faaec90db72298b"), looks := false }, kinds := [], alts := [], laidByText := true, laidKinds := [.data, .data, .data, .listed, .data], laidTests := true, laidLooks := .later }
def TermWithCardSaid : Prop := Claim7.holds Tryz.pinned (.plain (OpenSpec.ofChange termWithSpec)) termWithCard

/-- THE TIED CARD OF 'voussoirlaw02.TermRenamed'. -/
def termRenamedCard : Claim7 := { stood := { row := termRenamedRow, standIns := [], harness := (true, "dc999b04bccec51ecf6bb4c1be8c6451221e8ef2e246f6950faaec90db72298b"), looks := false }, kinds := [], alts := [], laidByText := true, laidKinds := [.data, .data, .data, .listed, .data], laidTests := true, laidLooks := .later }
def TermRenamedCardSaid : Prop := Claim7.holds Tryz.pinned (.plain (OpenSpec.ofChange termRenamedSpec)) termRenamedCard

/-- THE TIED CARD OF 'voussoirlaw02.TermPlain'. -/
def termPlainCard : Claim7 := { stood := { row := termPlainRow, standIns := [], harness := (true, "dc999b04bccec51ecf6bb4c1be8c6451221e8ef2e246f6950faaec90db72298b"), looks := false }, kinds := [], alts := [], laidByText := true, laidKinds := [.data, .data, .data, .listed, .data], laidTests := true, laidLooks := .later }
def TermPlainCardSaid : Prop := Claim7.holds Tryz.pinned (.plain (OpenSpec.ofChange termPlainSpec)) termPlainCard

/-- THE SECOND FORM's CARD OF 'voussoirlaw02.TermForms'. -/
def termFormsUptoCard : Claim7 := { stood := { row := termFormsUptoRow, standIns := [], harness := (true, "dc999b04bccec51ecf6bb4c1be8c6451221e8ef2e246f6950faaec90db72298b"), looks := false }, kinds := [], alts := [], laidByText := true, laidKinds := [.data, .data, .data, .listed, .data], laidTests := true, laidLooks := .later }
def TermFormsUptoCardSaid : Prop := Claim7.holds Tryz.pinned (.plain (OpenSpec.upto termFormsSpec)) termFormsUptoCard

/-- THE SECOND FORM's CARD OF 'voussoirlaw02.TermOrders'. -/
def termOrdersUptoCard : Claim7 := { stood := { row := termOrdersUptoRow, standIns := [], harness := (true, "dc999b04bccec51ecf6bb4c1be8c6451221e8ef2e246f6950faaec90db72298b"), looks := false }, kinds := [], alts := [], laidByText := true, laidKinds := [.data, .data, .data, .listed, .data], laidTests := true, laidLooks := .later }
def TermOrdersUptoCardSaid : Prop := Claim7.holds Tryz.pinned (.plain (OpenSpec.upto termOrdersSpec)) termOrdersUptoCard

/-- THE SECOND FORM's CARD OF 'voussoirlaw02.TermTells'. -/
def termTellsUptoCard : Claim7 := { stood := { row := termTellsUptoRow, standIns := [], harness := (true, "dc999b04bccec51ecf6bb4c1be8c6451221e8ef2e246f6950faaec90db72298b"), looks := false }, kinds := [], alts := [], laidByText := true, laidKinds := [.data, .data, .data, .listed, .data], laidTests := true, laidLooks := .later }
def TermTellsUptoCardSaid : Prop := Claim7.holds Tryz.pinned (.plain (OpenSpec.upto termTellsSpec)) termTellsUptoCard

/-- THE SECOND FORM's CARD OF 'voussoirlaw02.TermParts'. -/
def termPartsUptoCard : Claim7 := { stood := { row := termPartsUptoRow, standIns := [], harness := (true, "dc999b04bccec51ecf6bb4c1be8c6451221e8ef2e246f6950faaec90db72298b"), looks := false }, kinds := [], alts := [], laidByText := true, laidKinds := [.data, .data, .data, .listed, .data], laidTests := true, laidLooks := .later }
def TermPartsUptoCardSaid : Prop := Claim7.holds Tryz.pinned (.plain (OpenSpec.upto termPartsSpec)) termPartsUptoCard

/-- THE SECOND FORM's CARD OF 'voussoirlaw02.TermLimits'. -/
def termLimitsUptoCard : Claim7 := { stood := { row := termLimitsUptoRow, standIns := [], harness := (true, "dc999b04bccec51ecf6bb4c1be8c6451221e8ef2e246f6950faaec90db72298b"), looks := false }, kinds := [], alts := [], laidByText := true, laidKinds := [.data, .data, .data, .listed, .data], laidTests := true, laidLooks := .later }
def TermLimitsUptoCardSaid : Prop := Claim7.holds Tryz.pinned (.plain (OpenSpec.upto termLimitsSpec)) termLimitsUptoCard

/-- THE SECOND FORM's CARD OF 'voussoirlaw02.TermOrdered'. -/
def termOrderedUptoCard : Claim7 := { stood := { row := termOrderedUptoRow, standIns := [], harness := (true, "dc999b04bccec51ecf6bb4c1be8c6451221e8ef2e246f6950faaec90db72298b"), looks := false }, kinds := [], alts := [], laidByText := true, laidKinds := [.data, .data, .data, .listed, .data], laidTests := true, laidLooks := .later }
def TermOrderedUptoCardSaid : Prop := Claim7.holds Tryz.pinned (.plain (OpenSpec.upto termOrderedSpec)) termOrderedUptoCard

/-- THE SECOND FORM's CARD OF 'voussoirlaw02.TermStrings'. -/
def termStringsUptoCard : Claim7 := { stood := { row := termStringsUptoRow, standIns := [], harness := (true, "dc999b04bccec51ecf6bb4c1be8c6451221e8ef2e246f6950faaec90db72298b"), looks := false }, kinds := [], alts := [], laidByText := true, laidKinds := [.data, .data, .data, .listed, .data], laidTests := true, laidLooks := .later }
def TermStringsUptoCardSaid : Prop := Claim7.holds Tryz.pinned (.plain (OpenSpec.upto termStringsSpec)) termStringsUptoCard

/-- THE SECOND FORM's CARD OF 'voussoirlaw02.TermWith'. -/
def termWithUptoCard : Claim7 := { stood := { row := termWithUptoRow, standIns := [], harness := (true, "dc999b04bccec51ecf6bb4c1be8c6451221e8ef2e246f6950faaec90db72298b"), looks := false }, kinds := [], alts := [], laidByText := true, laidKinds := [.data, .data, .data, .listed, .data], laidTests := true, laidLooks := .later }
def TermWithUptoCardSaid : Prop := Claim7.holds Tryz.pinned (.plain (OpenSpec.upto termWithSpec)) termWithUptoCard

/-- THE SECOND FORM's CARD OF 'voussoirlaw02.TermRenamed'. -/
def termRenamedUptoCard : Claim7 := { stood := { row := termRenamedUptoRow, standIns := [], harness := (true, "dc999b04bccec51ecf6bb4c1be8c6451221e8ef2e246f6950faaec90db72298b"), looks := false }, kinds := [], alts := [], laidByText := true, laidKinds := [.data, .data, .data, .listed, .data], laidTests := true, laidLooks := .later }
def TermRenamedUptoCardSaid : Prop := Claim7.holds Tryz.pinned (.plain (OpenSpec.upto termRenamedSpec)) termRenamedUptoCard

/-- THE SECOND FORM's CARD OF 'voussoirlaw02.TermPlain'. -/
def termPlainUptoCard : Claim7 := { stood := { row := termPlainUptoRow, standIns := [], harness := (true, "dc999b04bccec51ecf6bb4c1be8c6451221e8ef2e246f6950faaec90db72298b"), looks := false }, kinds := [], alts := [], laidByText := true, laidKinds := [.data, .data, .data, .listed, .data], laidTests := true, laidLooks := .later }
def TermPlainUptoCardSaid : Prop := Claim7.holds Tryz.pinned (.plain (OpenSpec.upto termPlainSpec)) termPlainUptoCard
end Rows
end Go.Proofs.YtnjnjdebgkjfhaaGreatDoor
