/-
  DERIVED. GIVEN WITH THE SEED: THE CARDS: each row of YtgdlaopjabjkbaaDoorRows.lean that lists a variable, with what it lists TIED to the program's text (the seventh form; the later family's looks); each row that meets fmt, with fmt's text TOLD by the authors' own Lean function (tested against real Go, not proved from fmt's source: count such statements apart). THE CARD IS WHAT COUNTS. Prove the row's statement (the work); the ties are given (YtgdlaopjabjkbaaDoorTie.lean); close each card by the builder's one call (the guide's Derived/Test/ToyasCard.lean, 'card_holds'). Laid BY PROGRAM, IN A SANDBOX (cutbox-door.mjs). By AI agents, Wed Nov 11 2026. No macro, syntax, notation, axiom, sorry.
-/
import Derived.Test.YtgdlaopjabjkbaaDoorRows
import GoSem.ClaimSeven
namespace Go.Proofs.YtgdlaopjabjkbaaDoor
namespace Rows

/-- THE TIED CARD OF 'laws.FnExactIsBoardBlocked'. -/
def fnExactIsBoardBlockedCard : Claim7 := { stood := { row := fnExactIsBoardBlockedRow, standIns := [], harness := (true, "d4009b542c4b15f6f313128f14c863948f91a2dbf58205d042ea77a4a377d45b"), looks := false }, kinds := [], alts := [], laidByText := true, laidKinds := [.data, .pinned], laidTests := true, laidLooks := .later }
def FnExactIsBoardBlockedCardSaid : Prop := Claim7.holds Tryd.pinned (.plain (OpenSpec.ofChange fnExactIsBoardBlockedSpec)) fnExactIsBoardBlockedCard

/-- THE TIED CARD OF 'laws.FnExactBoardMoves'. -/
def fnExactBoardMovesCard : Claim7 := { stood := { row := fnExactBoardMovesRow, standIns := [], harness := (true, "d4009b542c4b15f6f313128f14c863948f91a2dbf58205d042ea77a4a377d45b"), looks := false }, kinds := [], alts := [], laidByText := true, laidKinds := [.data, .pinned], laidTests := true, laidLooks := .later }
def FnExactBoardMovesCardSaid : Prop := Claim7.holds Tryd.pinned (.plain (OpenSpec.ofChange fnExactBoardMovesSpec)) fnExactBoardMovesCard

/-- THE TIED CARD OF 'laws.FnExactMakeOnBoard'. -/
def fnExactMakeOnBoardCard : Claim7 := { stood := { row := fnExactMakeOnBoardRow, standIns := [], harness := (true, "d4009b542c4b15f6f313128f14c863948f91a2dbf58205d042ea77a4a377d45b"), looks := false }, kinds := [], alts := [], laidByText := true, laidKinds := [.data, .pinned], laidTests := true, laidLooks := .later }
def FnExactMakeOnBoardCardSaid : Prop := Claim7.holds Tryd.pinned (.plain (OpenSpec.ofChange fnExactMakeOnBoardSpec)) fnExactMakeOnBoardCard

/-- THE SECOND FORM's CARD OF 'laws.FnExactIsBoardBlocked'. -/
def fnExactIsBoardBlockedUptoCard : Claim7 := { stood := { row := fnExactIsBoardBlockedUptoRow, standIns := [], harness := (true, "d4009b542c4b15f6f313128f14c863948f91a2dbf58205d042ea77a4a377d45b"), looks := false }, kinds := [], alts := [], laidByText := true, laidKinds := [.data, .pinned], laidTests := true, laidLooks := .later }
def FnExactIsBoardBlockedUptoCardSaid : Prop := Claim7.holds Tryd.pinned (.plain (OpenSpec.upto fnExactIsBoardBlockedSpec)) fnExactIsBoardBlockedUptoCard

/-- THE SECOND FORM's CARD OF 'laws.FnExactBoardMoves'. -/
def fnExactBoardMovesUptoCard : Claim7 := { stood := { row := fnExactBoardMovesUptoRow, standIns := [], harness := (true, "d4009b542c4b15f6f313128f14c863948f91a2dbf58205d042ea77a4a377d45b"), looks := false }, kinds := [], alts := [], laidByText := true, laidKinds := [.data, .pinned], laidTests := true, laidLooks := .later }
def FnExactBoardMovesUptoCardSaid : Prop := Claim7.holds Tryd.pinned (.plain (OpenSpec.upto fnExactBoardMovesSpec)) fnExactBoardMovesUptoCard

/-- THE SECOND FORM's CARD OF 'laws.FnExactMakeOnBoard'. -/
def fnExactMakeOnBoardUptoCard : Claim7 := { stood := { row := fnExactMakeOnBoardUptoRow, standIns := [], harness := (true, "d4009b542c4b15f6f313128f14c863948f91a2dbf58205d042ea77a4a377d45b"), looks := false }, kinds := [], alts := [], laidByText := true, laidKinds := [.data, .pinned], laidTests := true, laidLooks := .later }
def FnExactMakeOnBoardUptoCardSaid : Prop := Claim7.holds Tryd.pinned (.plain (OpenSpec.upto fnExactMakeOnBoardSpec)) fnExactMakeOnBoardUptoCard
end Rows
end Go.Proofs.YtgdlaopjabjkbaaDoor
