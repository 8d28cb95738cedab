/-
  DERIVED. GIVEN WITH THE SEED: THE CARDS: each row of YtgdlaopjabjkbaaGreatDoorRows.lean that lists a variable, with what it lists TIED to the program's text (the seventh form; the later family's looks); each row that meets fmt, with fmt's text TOLD by the authors' own Lean function (tested against real Go, not proved from fmt's source: count such statements apart). THE CARD IS WHAT COUNTS. Prove the row's statement (the work); the ties are given (YtgdlaopjabjkbaaGreatDoorTie.lean); close each card by the builder's one call (the guide's Derived/Test/ToyasCard.lean, 'card_holds'). Laid BY PROGRAM, IN A SANDBOX (cutbox-door.mjs). By AI agents, Wed Nov 11 2026. No macro, syntax, notation, axiom, sorry.
-/
import Derived.Test.YtgdlaopjabjkbaaGreatDoorRows
import GoSem.ClaimSeven
namespace Go.Proofs.YtgdlaopjabjkbaaGreatDoor
namespace Rows

/-- THE TIED CARD OF 'laws.FnExactBoardMoveThatFails'. -/
def fnExactBoardMoveThatFailsCard : Claim7 := { stood := { row := fnExactBoardMoveThatFailsRow, standIns := [], harness := (true, "fceaa234e37829b2071d13650674df08b733cc9de88488fd8062ceface3e4808"), looks := false }, kinds := [], alts := [], laidByText := true, laidKinds := [.data, .pinned], laidTests := true, laidLooks := .later }
def FnExactBoardMoveThatFailsCardSaid : Prop := Claim7.holds Tryz.pinned (.plain (OpenSpec.ofChange fnExactBoardMoveThatFailsSpec)) fnExactBoardMoveThatFailsCard

/-- THE TIED CARD OF 'laws.FnExactPlayOnBoard'. -/
def fnExactPlayOnBoardCard : Claim7 := { stood := { row := fnExactPlayOnBoardRow, standIns := [], harness := (true, "fceaa234e37829b2071d13650674df08b733cc9de88488fd8062ceface3e4808"), looks := false }, kinds := [], alts := [], laidByText := true, laidKinds := [.data, .pinned], laidTests := true, laidLooks := .later }
def FnExactPlayOnBoardCardSaid : Prop := Claim7.holds Tryz.pinned (.plain (OpenSpec.ofChange fnExactPlayOnBoardSpec)) fnExactPlayOnBoardCard

/-- THE SECOND FORM's CARD OF 'laws.FnExactBoardMoveThatFails'. -/
def fnExactBoardMoveThatFailsUptoCard : Claim7 := { stood := { row := fnExactBoardMoveThatFailsUptoRow, standIns := [], harness := (true, "fceaa234e37829b2071d13650674df08b733cc9de88488fd8062ceface3e4808"), looks := false }, kinds := [], alts := [], laidByText := true, laidKinds := [.data, .pinned], laidTests := true, laidLooks := .later }
def FnExactBoardMoveThatFailsUptoCardSaid : Prop := Claim7.holds Tryz.pinned (.plain (OpenSpec.upto fnExactBoardMoveThatFailsSpec)) fnExactBoardMoveThatFailsUptoCard

/-- THE SECOND FORM's CARD OF 'laws.FnExactPlayOnBoard'. -/
def fnExactPlayOnBoardUptoCard : Claim7 := { stood := { row := fnExactPlayOnBoardUptoRow, standIns := [], harness := (true, "fceaa234e37829b2071d13650674df08b733cc9de88488fd8062ceface3e4808"), looks := false }, kinds := [], alts := [], laidByText := true, laidKinds := [.data, .pinned], laidTests := true, laidLooks := .later }
def FnExactPlayOnBoardUptoCardSaid : Prop := Claim7.holds Tryz.pinned (.plain (OpenSpec.upto fnExactPlayOnBoardSpec)) fnExactPlayOnBoardUptoCard
end Rows
end Go.Proofs.YtgdlaopjabjkbaaGreatDoor
