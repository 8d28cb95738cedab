/-
  DERIVED. GIVEN WITH THE SEED: THE CARDS: each row of YtcflenomogpdbaaDoorRows.lean that lists a variable, with what it lists TIED to the program's text (the seventh form; the later family's looks); each row that meets fmt, with fmt's text TOLD by the authors' own Lean function (tested against real Go, not proved from fmt's source: count such statements apart). THE CARD IS WHAT COUNTS. Prove the row's statement (the work); the ties are given (YtcflenomogpdbaaDoorTie.lean); close each card by the builder's one call (the guide's Derived/Test/ToyasCard.lean, 'card_holds'). Laid BY PROGRAM, IN A SANDBOX (cutbox-door.mjs). By AI agents, Wed Nov 11 2026. No macro, syntax, notation, axiom, sorry.
-/
import Derived.Test.YtcflenomogpdbaaDoorRows
import GoSem.ClaimSeven
namespace Go.Proofs.YtcflenomogpdbaaDoor
namespace Rows

/-- THE TIED CARD OF 'laws.FnExactLiveMoves'. -/
def fnExactLiveMovesCard : Claim7 := { stood := { row := fnExactLiveMovesRow, standIns := [], harness := (true, "bd255301affd6e9d80a483c41f6d13c1e72600618e7d7e9f1c6cf639bcf84ba3"), looks := false }, kinds := [], alts := [], laidByText := true, laidKinds := [.data, .pinned], laidTests := true, laidLooks := .later }
def FnExactLiveMovesCardSaid : Prop := Claim7.holds Tryd.pinned (.plain (OpenSpec.ofChange fnExactLiveMovesSpec)) fnExactLiveMovesCard

/-- THE TIED CARD OF 'laws.FnExactNearestLine'. -/
def fnExactNearestLineCard : Claim7 := { stood := { row := fnExactNearestLineRow, standIns := [], harness := (true, "bd255301affd6e9d80a483c41f6d13c1e72600618e7d7e9f1c6cf639bcf84ba3"), looks := false }, kinds := [], alts := [], laidByText := true, laidKinds := [.data, .pinned], laidTests := true, laidLooks := .later }
def FnExactNearestLineCardSaid : Prop := Claim7.holds Tryd.pinned (.plain (OpenSpec.ofChange fnExactNearestLineSpec)) fnExactNearestLineCard

/-- THE SECOND FORM's CARD OF 'laws.FnExactLiveMoves'. -/
def fnExactLiveMovesUptoCard : Claim7 := { stood := { row := fnExactLiveMovesUptoRow, standIns := [], harness := (true, "bd255301affd6e9d80a483c41f6d13c1e72600618e7d7e9f1c6cf639bcf84ba3"), looks := false }, kinds := [], alts := [], laidByText := true, laidKinds := [.data, .pinned], laidTests := true, laidLooks := .later }
def FnExactLiveMovesUptoCardSaid : Prop := Claim7.holds Tryd.pinned (.plain (OpenSpec.upto fnExactLiveMovesSpec)) fnExactLiveMovesUptoCard

/-- THE SECOND FORM's CARD OF 'laws.FnExactNearestLine'. -/
def fnExactNearestLineUptoCard : Claim7 := { stood := { row := fnExactNearestLineUptoRow, standIns := [], harness := (true, "bd255301affd6e9d80a483c41f6d13c1e72600618e7d7e9f1c6cf639bcf84ba3"), looks := false }, kinds := [], alts := [], laidByText := true, laidKinds := [.data, .pinned], laidTests := true, laidLooks := .later }
def FnExactNearestLineUptoCardSaid : Prop := Claim7.holds Tryd.pinned (.plain (OpenSpec.upto fnExactNearestLineSpec)) fnExactNearestLineUptoCard
end Rows
end Go.Proofs.YtcflenomogpdbaaDoor
