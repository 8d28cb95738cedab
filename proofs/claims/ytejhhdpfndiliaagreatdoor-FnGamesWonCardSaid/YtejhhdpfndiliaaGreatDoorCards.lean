/-
  DERIVED. GIVEN WITH THE SEED: THE CARDS: each row of YtejhhdpfndiliaaGreatDoorRows.lean that lists a variable, with what it lists TIED to the program's text (the seventh form; the later family's looks); each row that meets fmt, with fmt's text TOLD by the authors' own Lean function (tested against real Go, not proved from fmt's source: count such statements apart). THE CARD IS WHAT COUNTS. Prove the row's statement (the work); the ties are given (YtejhhdpfndiliaaGreatDoorTie.lean); close each card by the builder's one call (the guide's Derived/Test/ToyasCard.lean, 'card_holds'). Laid BY PROGRAM, IN A SANDBOX (cutbox-door.mjs). By AI agents, Wed Nov 11 2026. No macro, syntax, notation, axiom, sorry.
-/
import Derived.Test.YtejhhdpfndiliaaGreatDoorRows
import GoSem.ClaimSeven
namespace Go.Proofs.YtejhhdpfndiliaaGreatDoor
namespace Rows

/-- THE TIED CARD OF 'laws.FnLinesRanked'. -/
def fnLinesRankedCard : Claim7 := { stood := { row := fnLinesRankedRow, standIns := [], harness := (true, "51663ef16bb6a511e04dd1bb8bc0ab13b909668ec2ab49cad590d1daa817aea2"), looks := false }, kinds := [], alts := [], laidByText := true, laidKinds := [.data, .pinned], laidTests := true, laidLooks := .later }
def FnLinesRankedCardSaid : Prop := Claim7.holds Tryz.pinned (.plain (OpenSpec.ofChange fnLinesRankedSpec)) fnLinesRankedCard

/-- THE TIED CARD OF 'laws.FnGamesWonOfAll'. -/
def fnGamesWonOfAllCard : Claim7 := { stood := { row := fnGamesWonOfAllRow, standIns := [], harness := (true, "51663ef16bb6a511e04dd1bb8bc0ab13b909668ec2ab49cad590d1daa817aea2"), looks := false }, kinds := [], alts := [], laidByText := true, laidKinds := [.data, .pinned], laidTests := true, laidLooks := .later }
def FnGamesWonOfAllCardSaid : Prop := Claim7.holds Tryz.pinned (.plain (OpenSpec.ofChange fnGamesWonOfAllSpec)) fnGamesWonOfAllCard

/-- THE TIED CARD OF 'laws.FnGamesWon'. -/
def fnGamesWonCard : Claim7 := { stood := { row := fnGamesWonRow, standIns := [], harness := (true, "51663ef16bb6a511e04dd1bb8bc0ab13b909668ec2ab49cad590d1daa817aea2"), looks := false }, kinds := [], alts := [], laidByText := true, laidKinds := [.data, .pinned], laidTests := true, laidLooks := .later }
def FnGamesWonCardSaid : Prop := Claim7.holds Tryz.pinned (.plain (OpenSpec.ofChange fnGamesWonSpec)) fnGamesWonCard

/-- THE SECOND FORM's CARD OF 'laws.FnLinesRanked'. -/
def fnLinesRankedUptoCard : Claim7 := { stood := { row := fnLinesRankedUptoRow, standIns := [], harness := (true, "51663ef16bb6a511e04dd1bb8bc0ab13b909668ec2ab49cad590d1daa817aea2"), looks := false }, kinds := [], alts := [], laidByText := true, laidKinds := [.data, .pinned], laidTests := true, laidLooks := .later }
def FnLinesRankedUptoCardSaid : Prop := Claim7.holds Tryz.pinned (.plain (OpenSpec.upto fnLinesRankedSpec)) fnLinesRankedUptoCard

/-- THE SECOND FORM's CARD OF 'laws.FnGamesWonOfAll'. -/
def fnGamesWonOfAllUptoCard : Claim7 := { stood := { row := fnGamesWonOfAllUptoRow, standIns := [], harness := (true, "51663ef16bb6a511e04dd1bb8bc0ab13b909668ec2ab49cad590d1daa817aea2"), looks := false }, kinds := [], alts := [], laidByText := true, laidKinds := [.data, .pinned], laidTests := true, laidLooks := .later }
def FnGamesWonOfAllUptoCardSaid : Prop := Claim7.holds Tryz.pinned (.plain (OpenSpec.upto fnGamesWonOfAllSpec)) fnGamesWonOfAllUptoCard

/-- THE SECOND FORM's CARD OF 'laws.FnGamesWon'. -/
def fnGamesWonUptoCard : Claim7 := { stood := { row := fnGamesWonUptoRow, standIns := [], harness := (true, "51663ef16bb6a511e04dd1bb8bc0ab13b909668ec2ab49cad590d1daa817aea2"), looks := false }, kinds := [], alts := [], laidByText := true, laidKinds := [.data, .pinned], laidTests := true, laidLooks := .later }
def FnGamesWonUptoCardSaid : Prop := Claim7.holds Tryz.pinned (.plain (OpenSpec.upto fnGamesWonSpec)) fnGamesWonUptoCard
end Rows
end Go.Proofs.YtejhhdpfndiliaaGreatDoor
