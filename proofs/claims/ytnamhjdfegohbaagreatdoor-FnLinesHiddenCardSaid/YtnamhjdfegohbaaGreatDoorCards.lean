/-
  DERIVED. GIVEN WITH THE SEED: THE CARDS: each row of YtnamhjdfegohbaaGreatDoorRows.lean that lists a variable, with what it lists TIED to the program's text (the seventh form; the later family's looks); each row that meets fmt, with fmt's text TOLD by the authors' own Lean function (tested against real Go, not proved from fmt's source: count such statements apart). THE CARD IS WHAT COUNTS. Prove the row's statement (the work); the ties are given (YtnamhjdfegohbaaGreatDoorTie.lean); close each card by the builder's one call (the guide's Derived/Test/ToyasCard.lean, 'card_holds'). Laid BY PROGRAM, IN A SANDBOX (cutbox-door.mjs). By AI agents, Wed Nov 11 2026. No macro, syntax, notation, axiom, sorry.
-/
import Derived.Test.YtnamhjdfegohbaaGreatDoorRows
import GoSem.ClaimSeven
namespace Go.Proofs.YtnamhjdfegohbaaGreatDoor
namespace Rows

/-- THE TIED CARD OF 'laws.FnLinesHiddenOfAll'. -/
def fnLinesHiddenOfAllCard : Claim7 := { stood := { row := fnLinesHiddenOfAllRow, standIns := [], harness := (true, "2557a191b555cb8a1ac5b35f5a1b359d35901c3eb331464dadabf84612c4c592"), looks := false }, kinds := [], alts := [], laidByText := true, laidKinds := [.data, .pinned], laidTests := true, laidLooks := .later }
def FnLinesHiddenOfAllCardSaid : Prop := Claim7.holds Tryz.pinned (.plain (OpenSpec.ofChange fnLinesHiddenOfAllSpec)) fnLinesHiddenOfAllCard

/-- THE TIED CARD OF 'laws.FnGamesComparedOfAll'. -/
def fnGamesComparedOfAllCard : Claim7 := { stood := { row := fnGamesComparedOfAllRow, standIns := [], harness := (true, "2557a191b555cb8a1ac5b35f5a1b359d35901c3eb331464dadabf84612c4c592"), looks := false }, kinds := [], alts := [], laidByText := true, laidKinds := [.data, .pinned], laidTests := true, laidLooks := .later }
def FnGamesComparedOfAllCardSaid : Prop := Claim7.holds Tryz.pinned (.plain (OpenSpec.ofChange fnGamesComparedOfAllSpec)) fnGamesComparedOfAllCard

/-- THE TIED CARD OF 'laws.FnLinesHidden'. -/
def fnLinesHiddenCard : Claim7 := { stood := { row := fnLinesHiddenRow, standIns := [], harness := (true, "2557a191b555cb8a1ac5b35f5a1b359d35901c3eb331464dadabf84612c4c592"), looks := false }, kinds := [], alts := [], laidByText := true, laidKinds := [.data, .pinned], laidTests := true, laidLooks := .later }
def FnLinesHiddenCardSaid : Prop := Claim7.holds Tryz.pinned (.plain (OpenSpec.ofChange fnLinesHiddenSpec)) fnLinesHiddenCard

/-- THE TIED CARD OF 'laws.FnGamesCompared'. -/
def fnGamesComparedCard : Claim7 := { stood := { row := fnGamesComparedRow, standIns := [], harness := (true, "2557a191b555cb8a1ac5b35f5a1b359d35901c3eb331464dadabf84612c4c592"), looks := false }, kinds := [], alts := [], laidByText := true, laidKinds := [.data, .pinned], laidTests := true, laidLooks := .later }
def FnGamesComparedCardSaid : Prop := Claim7.holds Tryz.pinned (.plain (OpenSpec.ofChange fnGamesComparedSpec)) fnGamesComparedCard

/-- THE TIED CARD OF 'laws.FnBoardsMoveOfAll'. -/
def fnBoardsMoveOfAllCard : Claim7 := { stood := { row := fnBoardsMoveOfAllRow, standIns := [], harness := (true, "2557a191b555cb8a1ac5b35f5a1b359d35901c3eb331464dadabf84612c4c592"), looks := false }, kinds := [], alts := [], laidByText := true, laidKinds := [.data, .pinned], laidTests := true, laidLooks := .later }
def FnBoardsMoveOfAllCardSaid : Prop := Claim7.holds Tryz.pinned (.plain (OpenSpec.ofChange fnBoardsMoveOfAllSpec)) fnBoardsMoveOfAllCard

/-- THE TIED CARD OF 'laws.FnBoardsMove'. -/
def fnBoardsMoveCard : Claim7 := { stood := { row := fnBoardsMoveRow, standIns := [], harness := (true, "2557a191b555cb8a1ac5b35f5a1b359d35901c3eb331464dadabf84612c4c592"), looks := false }, kinds := [], alts := [], laidByText := true, laidKinds := [.data, .pinned], laidTests := true, laidLooks := .later }
def FnBoardsMoveCardSaid : Prop := Claim7.holds Tryz.pinned (.plain (OpenSpec.ofChange fnBoardsMoveSpec)) fnBoardsMoveCard

/-- THE SECOND FORM's CARD OF 'laws.FnLinesHiddenOfAll'. -/
def fnLinesHiddenOfAllUptoCard : Claim7 := { stood := { row := fnLinesHiddenOfAllUptoRow, standIns := [], harness := (true, "2557a191b555cb8a1ac5b35f5a1b359d35901c3eb331464dadabf84612c4c592"), looks := false }, kinds := [], alts := [], laidByText := true, laidKinds := [.data, .pinned], laidTests := true, laidLooks := .later }
def FnLinesHiddenOfAllUptoCardSaid : Prop := Claim7.holds Tryz.pinned (.plain (OpenSpec.upto fnLinesHiddenOfAllSpec)) fnLinesHiddenOfAllUptoCard

/-- THE SECOND FORM's CARD OF 'laws.FnGamesComparedOfAll'. -/
def fnGamesComparedOfAllUptoCard : Claim7 := { stood := { row := fnGamesComparedOfAllUptoRow, standIns := [], harness := (true, "2557a191b555cb8a1ac5b35f5a1b359d35901c3eb331464dadabf84612c4c592"), looks := false }, kinds := [], alts := [], laidByText := true, laidKinds := [.data, .pinned], laidTests := true, laidLooks := .later }
def FnGamesComparedOfAllUptoCardSaid : Prop := Claim7.holds Tryz.pinned (.plain (OpenSpec.upto fnGamesComparedOfAllSpec)) fnGamesComparedOfAllUptoCard

/-- THE SECOND FORM's CARD OF 'laws.FnLinesHidden'. -/
def fnLinesHiddenUptoCard : Claim7 := { stood := { row := fnLinesHiddenUptoRow, standIns := [], harness := (true, "2557a191b555cb8a1ac5b35f5a1b359d35901c3eb331464dadabf84612c4c592"), looks := false }, kinds := [], alts := [], laidByText := true, laidKinds := [.data, .pinned], laidTests := true, laidLooks := .later }
def FnLinesHiddenUptoCardSaid : Prop := Claim7.holds Tryz.pinned (.plain (OpenSpec.upto fnLinesHiddenSpec)) fnLinesHiddenUptoCard

/-- THE SECOND FORM's CARD OF 'laws.FnGamesCompared'. -/
def fnGamesComparedUptoCard : Claim7 := { stood := { row := fnGamesComparedUptoRow, standIns := [], harness := (true, "2557a191b555cb8a1ac5b35f5a1b359d35901c3eb331464dadabf84612c4c592"), looks := false }, kinds := [], alts := [], laidByText := true, laidKinds := [.data, .pinned], laidTests := true, laidLooks := .later }
def FnGamesComparedUptoCardSaid : Prop := Claim7.holds Tryz.pinned (.plain (OpenSpec.upto fnGamesComparedSpec)) fnGamesComparedUptoCard

/-- THE SECOND FORM's CARD OF 'laws.FnBoardsMoveOfAll'. -/
def fnBoardsMoveOfAllUptoCard : Claim7 := { stood := { row := fnBoardsMoveOfAllUptoRow, standIns := [], harness := (true, "2557a191b555cb8a1ac5b35f5a1b359d35901c3eb331464dadabf84612c4c592"), looks := false }, kinds := [], alts := [], laidByText := true, laidKinds := [.data, .pinned], laidTests := true, laidLooks := .later }
def FnBoardsMoveOfAllUptoCardSaid : Prop := Claim7.holds Tryz.pinned (.plain (OpenSpec.upto fnBoardsMoveOfAllSpec)) fnBoardsMoveOfAllUptoCard

/-- THE SECOND FORM's CARD OF 'laws.FnBoardsMove'. -/
def fnBoardsMoveUptoCard : Claim7 := { stood := { row := fnBoardsMoveUptoRow, standIns := [], harness := (true, "2557a191b555cb8a1ac5b35f5a1b359d35901c3eb331464dadabf84612c4c592"), looks := false }, kinds := [], alts := [], laidByText := true, laidKinds := [.data, .pinned], laidTests := true, laidLooks := .later }
def FnBoardsMoveUptoCardSaid : Prop := Claim7.holds Tryz.pinned (.plain (OpenSpec.upto fnBoardsMoveSpec)) fnBoardsMoveUptoCard
end Rows
end Go.Proofs.YtnamhjdfegohbaaGreatDoor
