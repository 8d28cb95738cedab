/-
  DERIVED. GIVEN WITH THE SEED: THE CARDS: each row of YtoacbgjdflcceaaGreatDoorRows.lean that lists a variable, with what it lists TIED to the program's text (the seventh form; the later family's looks); each row that meets fmt, with fmt's text TOLD by the authors' own Lean function (tested against real Go, not proved from fmt's source: count such statements apart). THE CARD IS WHAT COUNTS. Prove the row's statement (the work); the ties are given (YtoacbgjdflcceaaGreatDoorTie.lean); close each card by the builder's one call (the guide's Derived/Test/ToyasCard.lean, 'card_holds'). Laid BY PROGRAM, IN A SANDBOX (cutbox-door.mjs). By AI agents, Wed Nov 11 2026. No macro, syntax, notation, axiom, sorry.
-/
import Derived.Test.YtoacbgjdflcceaaGreatDoorRows
import GoSem.ClaimSeven
namespace Go.Proofs.YtoacbgjdflcceaaGreatDoor
namespace Rows

/-- THE TIED CARD OF 'laws.FnMovesMade'. -/
def fnMovesMadeCard : Claim7 := { stood := { row := fnMovesMadeRow, standIns := [], harness := (true, "6f42aeec911afffaf7331ffeca40aaaec2d9e3c304ed52d0be53bf3cb96e8272"), looks := false }, kinds := [], alts := [], laidByText := true, laidKinds := [.data, .pinned], laidTests := true, laidLooks := .later }
def FnMovesMadeCardSaid : Prop := Claim7.holds Tryz.pinned (.plain (OpenSpec.ofChange fnMovesMadeSpec)) fnMovesMadeCard

/-- THE TIED CARD OF 'laws.FnLinesRanked'. -/
def fnLinesRankedCard : Claim7 := { stood := { row := fnLinesRankedRow, standIns := [], harness := (true, "6f42aeec911afffaf7331ffeca40aaaec2d9e3c304ed52d0be53bf3cb96e8272"), looks := false }, kinds := [], alts := [], laidByText := true, laidKinds := [.data, .pinned], laidTests := true, laidLooks := .later }
def FnLinesRankedCardSaid : Prop := Claim7.holds Tryz.pinned (.plain (OpenSpec.ofChange fnLinesRankedSpec)) fnLinesRankedCard

/-- THE TIED CARD OF 'laws.FnGamesWonOfAll'. -/
def fnGamesWonOfAllCard : Claim7 := { stood := { row := fnGamesWonOfAllRow, standIns := [], harness := (true, "6f42aeec911afffaf7331ffeca40aaaec2d9e3c304ed52d0be53bf3cb96e8272"), looks := false }, kinds := [], alts := [], laidByText := true, laidKinds := [.data, .pinned], laidTests := true, laidLooks := .later }
def FnGamesWonOfAllCardSaid : Prop := Claim7.holds Tryz.pinned (.plain (OpenSpec.ofChange fnGamesWonOfAllSpec)) fnGamesWonOfAllCard

/-- THE TIED CARD OF 'laws.FnGamesWon'. -/
def fnGamesWonCard : Claim7 := { stood := { row := fnGamesWonRow, standIns := [], harness := (true, "6f42aeec911afffaf7331ffeca40aaaec2d9e3c304ed52d0be53bf3cb96e8272"), looks := false }, kinds := [], alts := [], laidByText := true, laidKinds := [.data, .pinned], laidTests := true, laidLooks := .later }
def FnGamesWonCardSaid : Prop := Claim7.holds Tryz.pinned (.plain (OpenSpec.ofChange fnGamesWonSpec)) fnGamesWonCard

/-- THE SECOND FORM's CARD OF 'laws.FnMovesMade'. -/
def fnMovesMadeUptoCard : Claim7 := { stood := { row := fnMovesMadeUptoRow, standIns := [], harness := (true, "6f42aeec911afffaf7331ffeca40aaaec2d9e3c304ed52d0be53bf3cb96e8272"), looks := false }, kinds := [], alts := [], laidByText := true, laidKinds := [.data, .pinned], laidTests := true, laidLooks := .later }
def FnMovesMadeUptoCardSaid : Prop := Claim7.holds Tryz.pinned (.plain (OpenSpec.upto fnMovesMadeSpec)) fnMovesMadeUptoCard

/-- THE SECOND FORM's CARD OF 'laws.FnLinesRanked'. -/
def fnLinesRankedUptoCard : Claim7 := { stood := { row := fnLinesRankedUptoRow, standIns := [], harness := (true, "6f42aeec911afffaf7331ffeca40aaaec2d9e3c304ed52d0be53bf3cb96e8272"), looks := false }, kinds := [], alts := [], laidByText := true, laidKinds := [.data, .pinned], laidTests := true, laidLooks := .later }
def FnLinesRankedUptoCardSaid : Prop := Claim7.holds Tryz.pinned (.plain (OpenSpec.upto fnLinesRankedSpec)) fnLinesRankedUptoCard

/-- THE SECOND FORM's CARD OF 'laws.FnGamesWonOfAll'. -/
def fnGamesWonOfAllUptoCard : Claim7 := { stood := { row := fnGamesWonOfAllUptoRow, standIns := [], harness := (true, "6f42aeec911afffaf7331ffeca40aaaec2d9e3c304ed52d0be53bf3cb96e8272"), looks := false }, kinds := [], alts := [], laidByText := true, laidKinds := [.data, .pinned], laidTests := true, laidLooks := .later }
def FnGamesWonOfAllUptoCardSaid : Prop := Claim7.holds Tryz.pinned (.plain (OpenSpec.upto fnGamesWonOfAllSpec)) fnGamesWonOfAllUptoCard

/-- THE SECOND FORM's CARD OF 'laws.FnGamesWon'. -/
def fnGamesWonUptoCard : Claim7 := { stood := { row := fnGamesWonUptoRow, standIns := [], harness := (true, "6f42aeec911afffaf7331ffeca40aaaec2d9e3c304ed52d0be53bf3cb96e8272"), looks := false }, kinds := [], alts := [], laidByText := true, laidKinds := [.data, .pinned], laidTests := true, laidLooks := .later }
def FnGamesWonUptoCardSaid : Prop := Claim7.holds Tryz.pinned (.plain (OpenSpec.upto fnGamesWonSpec)) fnGamesWonUptoCard
end Rows
end Go.Proofs.YtoacbgjdflcceaaGreatDoor
