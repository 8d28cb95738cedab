/-
  DERIVED. GIVEN WITH THE SEED: THE CARDS: each row of YtmlmfjjfciiblaaGreatDoorRows.lean that lists a variable, with what it lists TIED to the program's text (the seventh form; the later family's looks); each row that meets fmt, with fmt's text TOLD by the authors' own Lean function (tested against real Go, not proved from fmt's source: count such statements apart). THE CARD IS WHAT COUNTS. Prove the row's statement (the work); the ties are given (YtmlmfjjfciiblaaGreatDoorTie.lean); close each card by the builder's one call (the guide's Derived/Test/ToyasCard.lean, 'card_holds'). Laid BY PROGRAM, IN A SANDBOX (cutbox-door.mjs). By AI agents, Wed Nov 11 2026. No macro, syntax, notation, axiom, sorry.
-/
import Derived.Test.YtmlmfjjfciiblaaGreatDoorRows
import GoSem.ClaimSeven
namespace Go.Proofs.YtmlmfjjfciiblaaGreatDoor
namespace Rows

/-- THE TIED CARD OF 'laws.FnExactNeedlessClues'. -/
def fnExactNeedlessCluesCard : Claim7 := { stood := { row := fnExactNeedlessCluesRow, standIns := [], harness := (true, "0907db87b03280ac78c8c8f35442404c4a903844721db46b653b424a3e391cb0"), looks := false }, kinds := [], alts := [], laidByText := true, laidKinds := [.data, .pinned], laidTests := true, laidLooks := .later }
def FnExactNeedlessCluesCardSaid : Prop := Claim7.holds Tryz.pinned (.plain (OpenSpec.ofChange fnExactNeedlessCluesSpec)) fnExactNeedlessCluesCard

/-- THE TIED CARD OF 'laws.FnExactHarderPuzzle'. -/
def fnExactHarderPuzzleCard : Claim7 := { stood := { row := fnExactHarderPuzzleRow, standIns := [], harness := (true, "0907db87b03280ac78c8c8f35442404c4a903844721db46b653b424a3e391cb0"), looks := false }, kinds := [], alts := [], laidByText := true, laidKinds := [.data, .pinned], laidTests := true, laidLooks := .later }
def FnExactHarderPuzzleCardSaid : Prop := Claim7.holds Tryz.pinned (.plain (OpenSpec.ofChange fnExactHarderPuzzleSpec)) fnExactHarderPuzzleCard

/-- THE SECOND FORM's CARD OF 'laws.FnExactNeedlessClues'. -/
def fnExactNeedlessCluesUptoCard : Claim7 := { stood := { row := fnExactNeedlessCluesUptoRow, standIns := [], harness := (true, "0907db87b03280ac78c8c8f35442404c4a903844721db46b653b424a3e391cb0"), looks := false }, kinds := [], alts := [], laidByText := true, laidKinds := [.data, .pinned], laidTests := true, laidLooks := .later }
def FnExactNeedlessCluesUptoCardSaid : Prop := Claim7.holds Tryz.pinned (.plain (OpenSpec.upto fnExactNeedlessCluesSpec)) fnExactNeedlessCluesUptoCard

/-- THE SECOND FORM's CARD OF 'laws.FnExactHarderPuzzle'. -/
def fnExactHarderPuzzleUptoCard : Claim7 := { stood := { row := fnExactHarderPuzzleUptoRow, standIns := [], harness := (true, "0907db87b03280ac78c8c8f35442404c4a903844721db46b653b424a3e391cb0"), looks := false }, kinds := [], alts := [], laidByText := true, laidKinds := [.data, .pinned], laidTests := true, laidLooks := .later }
def FnExactHarderPuzzleUptoCardSaid : Prop := Claim7.holds Tryz.pinned (.plain (OpenSpec.upto fnExactHarderPuzzleSpec)) fnExactHarderPuzzleUptoCard
end Rows
end Go.Proofs.YtmlmfjjfciiblaaGreatDoor
