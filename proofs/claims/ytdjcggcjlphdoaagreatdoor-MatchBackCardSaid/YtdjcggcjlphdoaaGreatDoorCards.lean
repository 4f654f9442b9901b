/-
  DERIVED. GIVEN WITH THE SEED: THE CARDS: each row of YtdjcggcjlphdoaaGreatDoorRows.lean that lists a variable, with what it lists TIED to the program's text (the seventh form; the later family's looks); each row that meets fmt, with fmt's text TOLD by the authors' own Lean function (tested against real Go, not proved from fmt's source: count such statements apart). THE CARD IS WHAT COUNTS. Prove the row's statement (the work); the ties are given (YtdjcggcjlphdoaaGreatDoorTie.lean); close each card by the builder's one call (the guide's Derived/Test/ToyasCard.lean, 'card_holds'). Laid BY PROGRAM, IN A SANDBOX (cutbox-door.mjs). By AI agents, Wed Nov 11 2026. No macro, syntax, notation, axiom, sorry.
-/
import Derived.Test.YtdjcggcjlphdoaaGreatDoorRows
import GoSem.ClaimSeven
namespace Go.Proofs.YtdjcggcjlphdoaaGreatDoor
namespace Rows

/-- THE TIED CARD OF 'voussoirlaw04.MatchMatches'. -/
def matchMatchesCard : Claim7 := { stood := { row := matchMatchesRow, standIns := [], harness := (true, "970b0876774997ef45a291f49d5ef84a6759e7c0711f1c10682bf49c0e7578fd"), looks := true }, kinds := [], alts := [], laidByText := true, laidKinds := [.data, .data, .data, .listed, .data], laidTests := true, laidLooks := .later }
def MatchMatchesCardSaid : Prop := Claim7.holds Tryz.pinned (.plain (OpenSpec.ofChange matchMatchesSpec)) matchMatchesCard

/-- THE TIED CARD OF 'voussoirlaw04.MatchPuts'. -/
def matchPutsCard : Claim7 := { stood := { row := matchPutsRow, standIns := [], harness := (true, "970b0876774997ef45a291f49d5ef84a6759e7c0711f1c10682bf49c0e7578fd"), looks := true }, kinds := [], alts := [], laidByText := true, laidKinds := [.data, .data, .data, .listed, .data], laidTests := true, laidLooks := .later }
def MatchPutsCardSaid : Prop := Claim7.holds Tryz.pinned (.plain (OpenSpec.ofChange matchPutsSpec)) matchPutsCard

/-- THE TIED CARD OF 'voussoirlaw04.MatchCovers'. -/
def matchCoversCard : Claim7 := { stood := { row := matchCoversRow, standIns := [], harness := (true, "970b0876774997ef45a291f49d5ef84a6759e7c0711f1c10682bf49c0e7578fd"), looks := true }, kinds := [], alts := [], laidByText := true, laidKinds := [.data, .data, .data, .listed, .data], laidTests := true, laidLooks := .later }
def MatchCoversCardSaid : Prop := Claim7.holds Tryz.pinned (.plain (OpenSpec.ofChange matchCoversSpec)) matchCoversCard

/-- THE TIED CARD OF 'voussoirlaw04.MatchBack'. -/
def matchBackCard : Claim7 := { stood := { row := matchBackRow, standIns := [], harness := (true, "970b0876774997ef45a291f49d5ef84a6759e7c0711f1c10682bf49c0e7578fd"), looks := true }, kinds := [], alts := [], laidByText := true, laidKinds := [.data, .data, .data, .listed, .data], laidTests := true, laidLooks := .later }
def MatchBackCardSaid : Prop := Claim7.holds Tryz.pinned (.plain (OpenSpec.ofChange matchBackSpec)) matchBackCard

/-- THE TIED CARD OF 'voussoirlaw04.MatchAll'. -/
def matchAllCard : Claim7 := { stood := { row := matchAllRow, standIns := [], harness := (true, "970b0876774997ef45a291f49d5ef84a6759e7c0711f1c10682bf49c0e7578fd"), looks := true }, kinds := [], alts := [], laidByText := true, laidKinds := [.data, .data, .data, .listed, .data], laidTests := true, laidLooks := .later }
def MatchAllCardSaid : Prop := Claim7.holds Tryz.pinned (.plain (OpenSpec.ofChange matchAllSpec)) matchAllCard

/-- THE TIED CARD OF 'voussoirlaw04.MatchHigher'. -/
def matchHigherCard : Claim7 := { stood := { row := matchHigherRow, standIns := [], harness := (true, "970b0876774997ef45a291f49d5ef84a6759e7c0711f1c10682bf49c0e7578fd"), looks := true }, kinds := [], alts := [], laidByText := true, laidKinds := [.data, .data, .data, .listed, .data], laidTests := true, laidLooks := .later }
def MatchHigherCardSaid : Prop := Claim7.holds Tryz.pinned (.plain (OpenSpec.ofChange matchHigherSpec)) matchHigherCard

/-- THE TIED CARD OF 'voussoirlaw04.MatchCovered'. -/
def matchCoveredCard : Claim7 := { stood := { row := matchCoveredRow, standIns := [], harness := (true, "970b0876774997ef45a291f49d5ef84a6759e7c0711f1c10682bf49c0e7578fd"), looks := true }, kinds := [], alts := [], laidByText := true, laidKinds := [.data, .data, .data, .listed, .data], laidTests := true, laidLooks := .later }
def MatchCoveredCardSaid : Prop := Claim7.holds Tryz.pinned (.plain (OpenSpec.ofChange matchCoveredSpec)) matchCoveredCard

/-- THE SECOND FORM's CARD OF 'voussoirlaw04.MatchMatches'. -/
def matchMatchesUptoCard : Claim7 := { stood := { row := matchMatchesUptoRow, standIns := [], harness := (true, "970b0876774997ef45a291f49d5ef84a6759e7c0711f1c10682bf49c0e7578fd"), looks := true }, kinds := [], alts := [], laidByText := true, laidKinds := [.data, .data, .data, .listed, .data], laidTests := true, laidLooks := .later }
def MatchMatchesUptoCardSaid : Prop := Claim7.holds Tryz.pinned (.plain (OpenSpec.upto matchMatchesSpec)) matchMatchesUptoCard

/-- THE SECOND FORM's CARD OF 'voussoirlaw04.MatchPuts'. -/
def matchPutsUptoCard : Claim7 := { stood := { row := matchPutsUptoRow, standIns := [], harness := (true, "970b0876774997ef45a291f49d5ef84a6759e7c0711f1c10682bf49c0e7578fd"), looks := true }, kinds := [], alts := [], laidByText := true, laidKinds := [.data, .data, .data, .listed, .data], laidTests := true, laidLooks := .later }
def MatchPutsUptoCardSaid : Prop := Claim7.holds Tryz.pinned (.plain (OpenSpec.upto matchPutsSpec)) matchPutsUptoCard

/-- THE SECOND FORM's CARD OF 'voussoirlaw04.MatchCovers'. -/
def matchCoversUptoCard : Claim7 := { stood := { row := matchCoversUptoRow, standIns := [], harness := (true, "970b0876774997ef45a291f49d5ef84a6759e7c0711f1c10682bf49c0e7578fd"), looks := true }, kinds := [], alts := [], laidByText := true, laidKinds := [.data, .data, .data, .listed, .data], laidTests := true, laidLooks := .later }
def MatchCoversUptoCardSaid : Prop := Claim7.holds Tryz.pinned (.plain (OpenSpec.upto matchCoversSpec)) matchCoversUptoCard

/-- THE SECOND FORM's CARD OF 'voussoirlaw04.MatchBack'. -/
def matchBackUptoCard : Claim7 := { stood := { row := matchBackUptoRow, standIns := [], harness := (true, "970b0876774997ef45a291f49d5ef84a6759e7c0711f1c10682bf49c0e7578fd"), looks := true }, kinds := [], alts := [], laidByText := true, laidKinds := [.data, .data, .data, .listed, .data], laidTests := true, laidLooks := .later }
def MatchBackUptoCardSaid : Prop := Claim7.holds Tryz.pinned (.plain (OpenSpec.upto matchBackSpec)) matchBackUptoCard

/-- THE SECOND FORM's CARD OF 'voussoirlaw04.MatchAll'. -/
def matchAllUptoCard : Claim7 := { stood := { row := matchAllUptoRow, standIns := [], harness := (true, "970b0876774997ef45a291f49d5ef84a6759e7c0711f1c10682bf49c0e7578fd"), looks := true }, kinds := [], alts := [], laidByText := true, laidKinds := [.data, .data, .data, .listed, .data], laidTests := true, laidLooks := .later }
def MatchAllUptoCardSaid : Prop := Claim7.holds Tryz.pinned (.plain (OpenSpec.upto matchAllSpec)) matchAllUptoCard

/-- THE SECOND FORM's CARD OF 'voussoirlaw04.MatchHigher'. -/
def matchHigherUptoCard : Claim7 := { stood := { row := matchHigherUptoRow, standIns := [], harness := (true, "970b0876774997ef45a291f49d5ef84a6759e7c0711f1c10682bf49c0e7578fd"), looks := true }, kinds := [], alts := [], laidByText := true, laidKinds := [.data, .data, .data, .listed, .data], laidTests := true, laidLooks := .later }
def MatchHigherUptoCardSaid : Prop := Claim7.holds Tryz.pinned (.plain (OpenSpec.upto matchHigherSpec)) matchHigherUptoCard

/-- THE SECOND FORM's CARD OF 'voussoirlaw04.MatchCovered'. -/
def matchCoveredUptoCard : Claim7 := { stood := { row := matchCoveredUptoRow, standIns := [], harness := (true, "970b0876774997ef45a291f49d5ef84a6759e7c0711f1c10682bf49c0e7578fd"), looks := true }, kinds := [], alts := [], laidByText := true, laidKinds := [.data, .data, .data, .listed, .data], laidTests := true, laidLooks := .later }
def MatchCoveredUptoCardSaid : Prop := Claim7.holds Tryz.pinned (.plain (OpenSpec.upto matchCoveredSpec)) matchCoveredUptoCard
end Rows
end Go.Proofs.YtdjcggcjlphdoaaGreatDoor
