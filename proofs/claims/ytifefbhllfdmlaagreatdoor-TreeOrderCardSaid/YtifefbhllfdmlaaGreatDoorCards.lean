/-
  DERIVED. GIVEN WITH THE SEED: THE CARDS: each row of YtifefbhllfdmlaaGreatDoorRows.lean that lists a variable, with what it lists TIED to the program's text (the seventh form; the later family's looks); each row that meets fmt, with fmt's text TOLD by the authors' own Lean function (tested against real Go, not proved from fmt's source: count such statements apart). THE CARD IS WHAT COUNTS. Prove the row's statement (the work); the ties are given (YtifefbhllfdmlaaGreatDoorTie.lean); close each card by the builder's one call (the guide's Derived/Test/ToyasCard.lean, 'card_holds'). Laid BY PROGRAM, IN A SANDBOX (cutbox-door.mjs). By AI agents, Wed Nov 11 2026. No macro, syntax, notation, axiom, sorry.
-/
import Derived.Test.YtifefbhllfdmlaaGreatDoorRows
import GoSem.ClaimSeven
namespace Go.Proofs.YtifefbhllfdmlaaGreatDoor
namespace Rows

/-- THE TIED CARD OF 'voussoirlaw16.TreeTests'. -/
def treeTestsCard : Claim7 := { stood := { row := treeTestsRow, standIns := [], harness := (true, "a61605d047b871443710716f2980eaad418a6a8ef3ff2df9d34646afb65fbaf6"), looks := false }, kinds := [], alts := [], laidByText := true, laidKinds := [.data, .data, .data, .listed, .data], laidTests := true, laidLooks := .later }
def TreeTestsCardSaid : Prop := Claim7.holds Tryz.pinned (.plain (OpenSpec.ofChange treeTestsSpec)) treeTestsCard

/-- THE TIED CARD OF 'voussoirlaw16.TreeCandidates'. -/
def treeCandidatesCard : Claim7 := { stood := { row := treeCandidatesRow, standIns := [], harness := (true, "a61605d047b871443710716f2980eaad418a6a8ef3ff2df9d34646afb65fbaf6"), looks := false }, kinds := [], alts := [], laidByText := true, laidKinds := [.data, .data, .data, .listed, .data], laidTests := true, laidLooks := .later }
def TreeCandidatesCardSaid : Prop := Claim7.holds Tryz.pinned (.plain (OpenSpec.ofChange treeCandidatesSpec)) treeCandidatesCard

/-- THE TIED CARD OF 'voussoirlaw16.TreePicks'. -/
def treePicksCard : Claim7 := { stood := { row := treePicksRow, standIns := [], harness := (true, "a61605d047b871443710716f2980eaad418a6a8ef3ff2df9d34646afb65fbaf6"), looks := false }, kinds := [], alts := [], laidByText := true, laidKinds := [.data, .data, .data, .listed, .data], laidTests := true, laidLooks := .later }
def TreePicksCardSaid : Prop := Claim7.holds Tryz.pinned (.plain (OpenSpec.ofChange treePicksSpec)) treePicksCard

/-- THE TIED CARD OF 'voussoirlaw16.TreeBuilds'. -/
def treeBuildsCard : Claim7 := { stood := { row := treeBuildsRow, standIns := [], harness := (true, "a61605d047b871443710716f2980eaad418a6a8ef3ff2df9d34646afb65fbaf6"), looks := false }, kinds := [], alts := [], laidByText := true, laidKinds := [.data, .data, .data, .listed, .data], laidTests := true, laidLooks := .later }
def TreeBuildsCardSaid : Prop := Claim7.holds Tryz.pinned (.plain (OpenSpec.ofChange treeBuildsSpec)) treeBuildsCard

/-- THE TIED CARD OF 'voussoirlaw16.TreeMatches'. -/
def treeMatchesCard : Claim7 := { stood := { row := treeMatchesRow, standIns := [], harness := (true, "a61605d047b871443710716f2980eaad418a6a8ef3ff2df9d34646afb65fbaf6"), looks := false }, kinds := [], alts := [], laidByText := true, laidKinds := [.data, .data, .data, .listed, .data], laidTests := true, laidLooks := .later }
def TreeMatchesCardSaid : Prop := Claim7.holds Tryz.pinned (.plain (OpenSpec.ofChange treeMatchesSpec)) treeMatchesCard

/-- THE TIED CARD OF 'voussoirlaw16.TreeOrder'. -/
def treeOrderCard : Claim7 := { stood := { row := treeOrderRow, standIns := [], harness := (true, "a61605d047b871443710716f2980eaad418a6a8ef3ff2df9d34646afb65fbaf6"), looks := false }, kinds := [], alts := [], laidByText := true, laidKinds := [.data, .data, .data, .listed, .data], laidTests := true, laidLooks := .later }
def TreeOrderCardSaid : Prop := Claim7.holds Tryz.pinned (.plain (OpenSpec.ofChange treeOrderSpec)) treeOrderCard

/-- THE TIED CARD OF 'voussoirlaw16.TreeOwn'. -/
def treeOwnCard : Claim7 := { stood := { row := treeOwnRow, standIns := [], harness := (true, "a61605d047b871443710716f2980eaad418a6a8ef3ff2df9d34646afb65fbaf6"), looks := false }, kinds := [], alts := [], laidByText := true, laidKinds := [.data, .data, .data, .listed, .data], laidTests := true, laidLooks := .later }
def TreeOwnCardSaid : Prop := Claim7.holds Tryz.pinned (.plain (OpenSpec.ofChange treeOwnSpec)) treeOwnCard

/-- THE SECOND FORM's CARD OF 'voussoirlaw16.TreeTests'. -/
def treeTestsUptoCard : Claim7 := { stood := { row := treeTestsUptoRow, standIns := [], harness := (true, "a61605d047b871443710716f2980eaad418a6a8ef3ff2df9d34646afb65fbaf6"), looks := false }, kinds := [], alts := [], laidByText := true, laidKinds := [.data, .data, .data, .listed, .data], laidTests := true, laidLooks := .later }
def TreeTestsUptoCardSaid : Prop := Claim7.holds Tryz.pinned (.plain (OpenSpec.upto treeTestsSpec)) treeTestsUptoCard

/-- THE SECOND FORM's CARD OF 'voussoirlaw16.TreeCandidates'. -/
def treeCandidatesUptoCard : Claim7 := { stood := { row := treeCandidatesUptoRow, standIns := [], harness := (true, "a61605d047b871443710716f2980eaad418a6a8ef3ff2df9d34646afb65fbaf6"), looks := false }, kinds := [], alts := [], laidByText := true, laidKinds := [.data, .data, .data, .listed, .data], laidTests := true, laidLooks := .later }
def TreeCandidatesUptoCardSaid : Prop := Claim7.holds Tryz.pinned (.plain (OpenSpec.upto treeCandidatesSpec)) treeCandidatesUptoCard

/-- THE SECOND FORM's CARD OF 'voussoirlaw16.TreePicks'. -/
def treePicksUptoCard : Claim7 := { stood := { row := treePicksUptoRow, standIns := [], harness := (true, "a61605d047b871443710716f2980eaad418a6a8ef3ff2df9d34646afb65fbaf6"), looks := false }, kinds := [], alts := [], laidByText := true, laidKinds := [.data, .data, .data, .listed, .data], laidTests := true, laidLooks := .later }
def TreePicksUptoCardSaid : Prop := Claim7.holds Tryz.pinned (.plain (OpenSpec.upto treePicksSpec)) treePicksUptoCard

/-- THE SECOND FORM's CARD OF 'voussoirlaw16.TreeBuilds'. -/
def treeBuildsUptoCard : Claim7 := { stood := { row := treeBuildsUptoRow, standIns := [], harness := (true, "a61605d047b871443710716f2980eaad418a6a8ef3ff2df9d34646afb65fbaf6"), looks := false }, kinds := [], alts := [], laidByText := true, laidKinds := [.data, .data, .data, .listed, .data], laidTests := true, laidLooks := .later }
def TreeBuildsUptoCardSaid : Prop := Claim7.holds Tryz.pinned (.plain (OpenSpec.upto treeBuildsSpec)) treeBuildsUptoCard

/-- THE SECOND FORM's CARD OF 'voussoirlaw16.TreeMatches'. -/
def treeMatchesUptoCard : Claim7 := { stood := { row := treeMatchesUptoRow, standIns := [], harness := (true, "a61605d047b871443710716f2980eaad418a6a8ef3ff2df9d34646afb65fbaf6"), looks := false }, kinds := [], alts := [], laidByText := true, laidKinds := [.data, .data, .data, .listed, .data], laidTests := true, laidLooks := .later }
def TreeMatchesUptoCardSaid : Prop := Claim7.holds Tryz.pinned (.plain (OpenSpec.upto treeMatchesSpec)) treeMatchesUptoCard

/-- THE SECOND FORM's CARD OF 'voussoirlaw16.TreeOrder'. -/
def treeOrderUptoCard : Claim7 := { stood := { row := treeOrderUptoRow, standIns := [], harness := (true, "a61605d047b871443710716f2980eaad418a6a8ef3ff2df9d34646afb65fbaf6"), looks := false }, kinds := [], alts := [], laidByText := true, laidKinds := [.data, .data, .data, .listed, .data], laidTests := true, laidLooks := .later }
def TreeOrderUptoCardSaid : Prop := Claim7.holds Tryz.pinned (.plain (OpenSpec.upto treeOrderSpec)) treeOrderUptoCard

/-- THE SECOND FORM's CARD OF 'voussoirlaw16.TreeOwn'. -/
def treeOwnUptoCard : Claim7 := { stood := { row := treeOwnUptoRow, standIns := [], harness := (true, "a61605d047b871443710716f2980eaad418a6a8ef3ff2df9d34646afb65fbaf6"), looks := false }, kinds := [], alts := [], laidByText := true, laidKinds := [.data, .data, .data, .listed, .data], laidTests := true, laidLooks := .later }
def TreeOwnUptoCardSaid : Prop := Claim7.holds Tryz.pinned (.plain (OpenSpec.upto treeOwnSpec)) treeOwnUptoCard
end Rows
end Go.Proofs.YtifefbhllfdmlaaGreatDoor
