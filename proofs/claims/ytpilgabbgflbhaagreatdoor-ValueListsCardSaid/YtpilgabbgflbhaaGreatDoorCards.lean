/-
  DERIVED. GIVEN WITH THE SEED: THE CARDS: each row of YtpilgabbgflbhaaGreatDoorRows.lean that lists a variable, with what it lists TIED to the program's text (the seventh form; the later family's looks); each row that meets fmt, with fmt's text TOLD by the authors' own Lean function (tested against real Go, not proved from fmt's source: count such statements apart). THE CARD IS WHAT COUNTS. Prove the row's statement (the work); the ties are given (YtpilgabbgflbhaaGreatDoorTie.lean); close each card by the builder's one call (the guide's Derived/Test/ToyasCard.lean, 'card_holds'). Laid BY PROGRAM, IN A SANDBOX (cutbox-door.mjs). By AI agents, Wed Nov 11 2026. No macro, syntax, notation, axiom, sorry.
-/
import Derived.Test.YtpilgabbgflbhaaGreatDoorRows
import GoSem.ClaimSeven
namespace Go.Proofs.YtpilgabbgflbhaaGreatDoor
namespace Rows

/-- THE TIED CARD OF 'voussoirlaw03.ValueApplies'. -/
def valueAppliesCard : Claim7 := { stood := { row := valueAppliesRow, standIns := [], harness := (true, "5127de5e7a4cdc7710cb9ac9c1eafbf4d6b160bb7b8088fb28e543aeb042a7a8"), looks := false }, kinds := [], alts := [], laidByText := true, laidKinds := [.data, .data, .data, .listed, .data], laidTests := true, laidLooks := .later }
def ValueAppliesCardSaid : Prop := Claim7.holds Tryz.pinned (.plain (OpenSpec.ofChange valueAppliesSpec)) valueAppliesCard

/-- THE TIED CARD OF 'voussoirlaw03.ValueTells'. -/
def valueTellsCard : Claim7 := { stood := { row := valueTellsRow, standIns := [], harness := (true, "5127de5e7a4cdc7710cb9ac9c1eafbf4d6b160bb7b8088fb28e543aeb042a7a8"), looks := false }, kinds := [], alts := [], laidByText := true, laidKinds := [.data, .data, .data, .listed, .data], laidTests := true, laidLooks := .later }
def ValueTellsCardSaid : Prop := Claim7.holds Tryz.pinned (.plain (OpenSpec.ofChange valueTellsSpec)) valueTellsCard

/-- THE TIED CARD OF 'voussoirlaw03.ValueNumbers'. -/
def valueNumbersCard : Claim7 := { stood := { row := valueNumbersRow, standIns := [], harness := (true, "5127de5e7a4cdc7710cb9ac9c1eafbf4d6b160bb7b8088fb28e543aeb042a7a8"), looks := false }, kinds := [], alts := [], laidByText := true, laidKinds := [.data, .data, .data, .listed, .data], laidTests := true, laidLooks := .later }
def ValueNumbersCardSaid : Prop := Claim7.holds Tryz.pinned (.plain (OpenSpec.ofChange valueNumbersSpec)) valueNumbersCard

/-- THE TIED CARD OF 'voussoirlaw03.ValueCompares'. -/
def valueComparesCard : Claim7 := { stood := { row := valueComparesRow, standIns := [], harness := (true, "5127de5e7a4cdc7710cb9ac9c1eafbf4d6b160bb7b8088fb28e543aeb042a7a8"), looks := false }, kinds := [], alts := [], laidByText := true, laidKinds := [.data, .data, .data, .listed, .data], laidTests := true, laidLooks := .later }
def ValueComparesCardSaid : Prop := Claim7.holds Tryz.pinned (.plain (OpenSpec.ofChange valueComparesSpec)) valueComparesCard

/-- THE TIED CARD OF 'voussoirlaw03.ValueMaps'. -/
def valueMapsCard : Claim7 := { stood := { row := valueMapsRow, standIns := [], harness := (true, "5127de5e7a4cdc7710cb9ac9c1eafbf4d6b160bb7b8088fb28e543aeb042a7a8"), looks := false }, kinds := [], alts := [], laidByText := true, laidKinds := [.data, .data, .data, .listed, .data], laidTests := true, laidLooks := .later }
def ValueMapsCardSaid : Prop := Claim7.holds Tryz.pinned (.plain (OpenSpec.ofChange valueMapsSpec)) valueMapsCard

/-- THE TIED CARD OF 'voussoirlaw03.ValueLists'. -/
def valueListsCard : Claim7 := { stood := { row := valueListsRow, standIns := [], harness := (true, "5127de5e7a4cdc7710cb9ac9c1eafbf4d6b160bb7b8088fb28e543aeb042a7a8"), looks := false }, kinds := [], alts := [], laidByText := true, laidKinds := [.data, .data, .data, .listed, .data], laidTests := true, laidLooks := .later }
def ValueListsCardSaid : Prop := Claim7.holds Tryz.pinned (.plain (OpenSpec.ofChange valueListsSpec)) valueListsCard

/-- THE TIED CARD OF 'voussoirlaw03.ValuePlain'. -/
def valuePlainCard : Claim7 := { stood := { row := valuePlainRow, standIns := [], harness := (true, "5127de5e7a4cdc7710cb9ac9c1eafbf4d6b160bb7b8088fb28e543aeb042a7a8"), looks := false }, kinds := [], alts := [], laidByText := true, laidKinds := [.data, .data, .data, .listed, .data], laidTests := true, laidLooks := .later }
def ValuePlainCardSaid : Prop := Claim7.holds Tryz.pinned (.plain (OpenSpec.ofChange valuePlainSpec)) valuePlainCard

/-- THE SECOND FORM's CARD OF 'voussoirlaw03.ValueApplies'. -/
def valueAppliesUptoCard : Claim7 := { stood := { row := valueAppliesUptoRow, standIns := [], harness := (true, "5127de5e7a4cdc7710cb9ac9c1eafbf4d6b160bb7b8088fb28e543aeb042a7a8"), looks := false }, kinds := [], alts := [], laidByText := true, laidKinds := [.data, .data, .data, .listed, .data], laidTests := true, laidLooks := .later }
def ValueAppliesUptoCardSaid : Prop := Claim7.holds Tryz.pinned (.plain (OpenSpec.upto valueAppliesSpec)) valueAppliesUptoCard

/-- THE SECOND FORM's CARD OF 'voussoirlaw03.ValueTells'. -/
def valueTellsUptoCard : Claim7 := { stood := { row := valueTellsUptoRow, standIns := [], harness := (true, "5127de5e7a4cdc7710cb9ac9c1eafbf4d6b160bb7b8088fb28e543aeb042a7a8"), looks := false }, kinds := [], alts := [], laidByText := true, laidKinds := [.data, .data, .data, .listed, .data], laidTests := true, laidLooks := .later }
def ValueTellsUptoCardSaid : Prop := Claim7.holds Tryz.pinned (.plain (OpenSpec.upto valueTellsSpec)) valueTellsUptoCard

/-- THE SECOND FORM's CARD OF 'voussoirlaw03.ValueNumbers'. -/
def valueNumbersUptoCard : Claim7 := { stood := { row := valueNumbersUptoRow, standIns := [], harness := (true, "5127de5e7a4cdc7710cb9ac9c1eafbf4d6b160bb7b8088fb28e543aeb042a7a8"), looks := false }, kinds := [], alts := [], laidByText := true, laidKinds := [.data, .data, .data, .listed, .data], laidTests := true, laidLooks := .later }
def ValueNumbersUptoCardSaid : Prop := Claim7.holds Tryz.pinned (.plain (OpenSpec.upto valueNumbersSpec)) valueNumbersUptoCard

/-- THE SECOND FORM's CARD OF 'voussoirlaw03.ValueCompares'. -/
def valueComparesUptoCard : Claim7 := { stood := { row := valueComparesUptoRow, standIns := [], harness := (true, "5127de5e7a4cdc7710cb9ac9c1eafbf4d6b160bb7b8088fb28e543aeb042a7a8"), looks := false }, kinds := [], alts := [], laidByText := true, laidKinds := [.data, .data, .data, .listed, .data], laidTests := true, laidLooks := .later }
def ValueComparesUptoCardSaid : Prop := Claim7.holds Tryz.pinned (.plain (OpenSpec.upto valueComparesSpec)) valueComparesUptoCard

/-- THE SECOND FORM's CARD OF 'voussoirlaw03.ValueMaps'. -/
def valueMapsUptoCard : Claim7 := { stood := { row := valueMapsUptoRow, standIns := [], harness := (true, "5127de5e7a4cdc7710cb9ac9c1eafbf4d6b160bb7b8088fb28e543aeb042a7a8"), looks := false }, kinds := [], alts := [], laidByText := true, laidKinds := [.data, .data, .data, .listed, .data], laidTests := true, laidLooks := .later }
def ValueMapsUptoCardSaid : Prop := Claim7.holds Tryz.pinned (.plain (OpenSpec.upto valueMapsSpec)) valueMapsUptoCard

/-- THE SECOND FORM's CARD OF 'voussoirlaw03.ValueLists'. -/
def valueListsUptoCard : Claim7 := { stood := { row := valueListsUptoRow, standIns := [], harness := (true, "5127de5e7a4cdc7710cb9ac9c1eafbf4d6b160bb7b8088fb28e543aeb042a7a8"), looks := false }, kinds := [], alts := [], laidByText := true, laidKinds := [.data, .data, .data, .listed, .data], laidTests := true, laidLooks := .later }
def ValueListsUptoCardSaid : Prop := Claim7.holds Tryz.pinned (.plain (OpenSpec.upto valueListsSpec)) valueListsUptoCard

/-- THE SECOND FORM's CARD OF 'voussoirlaw03.ValuePlain'. -/
def valuePlainUptoCard : Claim7 := { stood := { row := valuePlainUptoRow, standIns := [], harness := (true, "5127de5e7a4cdc7710cb9ac9c1eafbf4d6b160bb7b8088fb28e543aeb042a7a8"), looks := false }, kinds := [], alts := [], laidByText := true, laidKinds := [.data, .data, .data, .listed, .data], laidTests := true, laidLooks := .later }
def ValuePlainUptoCardSaid : Prop := Claim7.holds Tryz.pinned (.plain (OpenSpec.upto valuePlainSpec)) valuePlainUptoCard
end Rows
end Go.Proofs.YtpilgabbgflbhaaGreatDoor
