/-
  DERIVED. GIVEN WITH THE SEED: THE CARDS: each row of YtnkkgghpfgihfabDoorRows.lean that lists a variable, with what it lists TIED to the program's text (the seventh form; the later family's looks); each row that meets fmt, with fmt's text TOLD by the authors' own Lean function (tested against real Go, not proved from fmt's source: count such statements apart). THE CARD IS WHAT COUNTS. Prove the row's statement (the work); the ties are given (YtnkkgghpfgihfabDoorTie.lean); close each card by the builder's one call (the guide's Derived/Test/ToyasCard.lean, 'card_holds'). Laid BY PROGRAM, IN A SANDBOX (cutbox-door.mjs). By AI agents, Wed Nov 11 2026. No macro, syntax, notation, axiom, sorry.
-/
import Derived.Test.YtnkkgghpfgihfabDoorRows
import GoSem.ClaimSeven
namespace Go.Proofs.YtnkkgghpfgihfabDoor
namespace Rows

/-- THE TIED CARD OF 'laws.FnExactSolutions'. -/
def fnExactSolutionsCard : Claim7 := { stood := { row := fnExactSolutionsRow, standIns := [], harness := (true, "eb34ed53570f202652c701cb26bb0ceed8808afb08b81978d12852be3bde910b"), looks := false }, kinds := [], alts := [], laidByText := true, laidKinds := [.data, .pinned], laidTests := true, laidLooks := .later }
def FnExactSolutionsCardSaid : Prop := Claim7.holds Tryd.pinned (.plain (OpenSpec.ofChange fnExactSolutionsSpec)) fnExactSolutionsCard

/-- THE SECOND FORM's CARD OF 'laws.FnExactSolutions'. -/
def fnExactSolutionsUptoCard : Claim7 := { stood := { row := fnExactSolutionsUptoRow, standIns := [], harness := (true, "eb34ed53570f202652c701cb26bb0ceed8808afb08b81978d12852be3bde910b"), looks := false }, kinds := [], alts := [], laidByText := true, laidKinds := [.data, .pinned], laidTests := true, laidLooks := .later }
def FnExactSolutionsUptoCardSaid : Prop := Claim7.holds Tryd.pinned (.plain (OpenSpec.upto fnExactSolutionsSpec)) fnExactSolutionsUptoCard
end Rows
end Go.Proofs.YtnkkgghpfgihfabDoor
