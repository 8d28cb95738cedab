/-
  DERIVED. GIVEN WITH THE SEED: THE CARDS: each row of YthoibdfcaejgbaaDoorRows.lean that lists a variable, with what it lists TIED to the program's text (the seventh form; the later family's looks); each row that meets fmt, with fmt's text TOLD by the authors' own Lean function (tested against real Go, not proved from fmt's source: count such statements apart). THE CARD IS WHAT COUNTS. Prove the row's statement (the work); the ties are given (YthoibdfcaejgbaaDoorTie.lean); close each card by the builder's one call (the guide's Derived/Test/ToyasCard.lean, 'card_holds'). Laid BY PROGRAM, IN A SANDBOX (cutbox-door.mjs). By AI agents, Wed Nov 11 2026. No macro, syntax, notation, axiom, sorry.
-/
import Derived.Test.YthoibdfcaejgbaaDoorRows
import GoSem.ClaimSeven
namespace Go.Proofs.YthoibdfcaejgbaaDoor
namespace Rows

/-- THE TIED CARD OF 'laws.FnExactAllWordsOf'. -/
def fnExactAllWordsOfCard : Claim7 := { stood := { row := fnExactAllWordsOfRow, standIns := [], harness := (true, "74d2a345c66f211bbc65d216e5d241553caeacf40707bcc3d6cb949403f4bae6"), looks := false }, kinds := [], alts := [], laidByText := true, laidKinds := [.data, .pinned], laidTests := true, laidLooks := .later }
def FnExactAllWordsOfCardSaid : Prop := Claim7.holds Tryd.pinned (.plain (OpenSpec.ofChange fnExactAllWordsOfSpec)) fnExactAllWordsOfCard

/-- THE TIED CARD OF 'laws.FnExactLiveMoves'. -/
def fnExactLiveMovesCard : Claim7 := { stood := { row := fnExactLiveMovesRow, standIns := [], harness := (true, "74d2a345c66f211bbc65d216e5d241553caeacf40707bcc3d6cb949403f4bae6"), looks := false }, kinds := [], alts := [], laidByText := true, laidKinds := [.data, .pinned], laidTests := true, laidLooks := .later }
def FnExactLiveMovesCardSaid : Prop := Claim7.holds Tryd.pinned (.plain (OpenSpec.ofChange fnExactLiveMovesSpec)) fnExactLiveMovesCard

/-- THE SECOND FORM's CARD OF 'laws.FnExactAllWordsOf'. -/
def fnExactAllWordsOfUptoCard : Claim7 := { stood := { row := fnExactAllWordsOfUptoRow, standIns := [], harness := (true, "74d2a345c66f211bbc65d216e5d241553caeacf40707bcc3d6cb949403f4bae6"), looks := false }, kinds := [], alts := [], laidByText := true, laidKinds := [.data, .pinned], laidTests := true, laidLooks := .later }
def FnExactAllWordsOfUptoCardSaid : Prop := Claim7.holds Tryd.pinned (.plain (OpenSpec.upto fnExactAllWordsOfSpec)) fnExactAllWordsOfUptoCard

/-- THE SECOND FORM's CARD OF 'laws.FnExactLiveMoves'. -/
def fnExactLiveMovesUptoCard : Claim7 := { stood := { row := fnExactLiveMovesUptoRow, standIns := [], harness := (true, "74d2a345c66f211bbc65d216e5d241553caeacf40707bcc3d6cb949403f4bae6"), looks := false }, kinds := [], alts := [], laidByText := true, laidKinds := [.data, .pinned], laidTests := true, laidLooks := .later }
def FnExactLiveMovesUptoCardSaid : Prop := Claim7.holds Tryd.pinned (.plain (OpenSpec.upto fnExactLiveMovesSpec)) fnExactLiveMovesUptoCard
end Rows
end Go.Proofs.YthoibdfcaejgbaaDoor
