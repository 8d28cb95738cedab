/-
  DERIVED. GIVEN WITH THE SEED: THE CARDS: each row of YtbpenpikaehloaaDoorRows.lean that lists a variable, with what it lists TIED to the program's text (the seventh form; the later family's looks); each row that meets fmt, with fmt's text TOLD by the authors' own Lean function (tested against real Go, not proved from fmt's source: count such statements apart). THE CARD IS WHAT COUNTS. Prove the row's statement (the work); the ties are given (YtbpenpikaehloaaDoorTie.lean); close each card by the builder's one call (the guide's Derived/Test/ToyasCard.lean, 'card_holds'). Laid BY PROGRAM, IN A SANDBOX (cutbox-door.mjs). By AI agents, Wed Nov 11 2026. No macro, syntax, notation, axiom, sorry.
-/
import Derived.Test.YtbpenpikaehloaaDoorRows
import GoSem.ClaimSeven
namespace Go.Proofs.YtbpenpikaehloaaDoor
namespace Rows

/-- THE TIED CARD OF 'laws.FnExactWholeValue'. -/
def fnExactWholeValueCard : Claim7 := { stood := { row := fnExactWholeValueRow, standIns := [], harness := (true, "dd04f6a4b2bb07bc3e149fe8e70ee8d8adf0787e8b40eaaa473bcb1515119874"), looks := false }, kinds := [], alts := [], laidByText := true, laidKinds := [.data, .pinned], laidTests := true, laidLooks := .later }
def FnExactWholeValueCardSaid : Prop := Claim7.holds Tryd.pinned (.plain (OpenSpec.ofChange fnExactWholeValueSpec)) fnExactWholeValueCard

/-- THE TIED CARD OF 'laws.FnExactLiveMoves'. -/
def fnExactLiveMovesCard : Claim7 := { stood := { row := fnExactLiveMovesRow, standIns := [], harness := (true, "dd04f6a4b2bb07bc3e149fe8e70ee8d8adf0787e8b40eaaa473bcb1515119874"), looks := false }, kinds := [], alts := [], laidByText := true, laidKinds := [.data, .pinned], laidTests := true, laidLooks := .later }
def FnExactLiveMovesCardSaid : Prop := Claim7.holds Tryd.pinned (.plain (OpenSpec.ofChange fnExactLiveMovesSpec)) fnExactLiveMovesCard

/-- THE SECOND FORM's CARD OF 'laws.FnExactWholeValue'. -/
def fnExactWholeValueUptoCard : Claim7 := { stood := { row := fnExactWholeValueUptoRow, standIns := [], harness := (true, "dd04f6a4b2bb07bc3e149fe8e70ee8d8adf0787e8b40eaaa473bcb1515119874"), looks := false }, kinds := [], alts := [], laidByText := true, laidKinds := [.data, .pinned], laidTests := true, laidLooks := .later }
def FnExactWholeValueUptoCardSaid : Prop := Claim7.holds Tryd.pinned (.plain (OpenSpec.upto fnExactWholeValueSpec)) fnExactWholeValueUptoCard

/-- THE SECOND FORM's CARD OF 'laws.FnExactLiveMoves'. -/
def fnExactLiveMovesUptoCard : Claim7 := { stood := { row := fnExactLiveMovesUptoRow, standIns := [], harness := (true, "dd04f6a4b2bb07bc3e149fe8e70ee8d8adf0787e8b40eaaa473bcb1515119874"), looks := false }, kinds := [], alts := [], laidByText := true, laidKinds := [.data, .pinned], laidTests := true, laidLooks := .later }
def FnExactLiveMovesUptoCardSaid : Prop := Claim7.holds Tryd.pinned (.plain (OpenSpec.upto fnExactLiveMovesSpec)) fnExactLiveMovesUptoCard
end Rows
end Go.Proofs.YtbpenpikaehloaaDoor
