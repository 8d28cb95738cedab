/-
  DERIVED. GIVEN WITH THE SEED: THE CARDS: each row of YthiafpdackiglaaDoorRows.lean that lists a variable, with what it lists TIED to the program's text (the seventh form; the later family's looks); each row that meets fmt, with fmt's text TOLD by the authors' own Lean function (tested against real Go, not proved from fmt's source: count such statements apart). THE CARD IS WHAT COUNTS. Prove the row's statement (the work); the ties are given (YthiafpdackiglaaDoorTie.lean); close each card by the builder's one call (the guide's Derived/Test/ToyasCard.lean, 'card_holds'). Laid BY PROGRAM, IN A SANDBOX (cutbox-door.mjs). By AI agents, Wed Nov 11 2026. No macro, syntax, notation, axiom, sorry.
-/
import Derived.Test.YthiafpdackiglaaDoorRows
import GoSem.ClaimSeven
namespace Go.Proofs.YthiafpdackiglaaDoor
namespace Rows

/-- THE TIED CARD OF 'laws.FnExactCountReached'. -/
def fnExactCountReachedCard : Claim7 := { stood := { row := fnExactCountReachedRow, standIns := [], harness := (true, "4043ae5442672e1305e7c6beb2be0b6f3be0d70e1f9c1e562eb092367d3f650c"), looks := false }, kinds := [], alts := [], laidByText := true, laidKinds := [.data, .pinned], laidTests := true, laidLooks := .later }
def FnExactCountReachedCardSaid : Prop := Claim7.holds Tryd.pinned (.plain (OpenSpec.ofChange fnExactCountReachedSpec)) fnExactCountReachedCard

/-- THE TIED CARD OF 'laws.FnExactReachedAfter'. -/
def fnExactReachedAfterCard : Claim7 := { stood := { row := fnExactReachedAfterRow, standIns := [], harness := (true, "4043ae5442672e1305e7c6beb2be0b6f3be0d70e1f9c1e562eb092367d3f650c"), looks := false }, kinds := [], alts := [], laidByText := true, laidKinds := [.data, .pinned], laidTests := true, laidLooks := .later }
def FnExactReachedAfterCardSaid : Prop := Claim7.holds Tryd.pinned (.plain (OpenSpec.ofChange fnExactReachedAfterSpec)) fnExactReachedAfterCard

/-- THE TIED CARD OF 'laws.FnExactReachedFrom'. -/
def fnExactReachedFromCard : Claim7 := { stood := { row := fnExactReachedFromRow, standIns := [], harness := (true, "4043ae5442672e1305e7c6beb2be0b6f3be0d70e1f9c1e562eb092367d3f650c"), looks := false }, kinds := [], alts := [], laidByText := true, laidKinds := [.data, .pinned], laidTests := true, laidLooks := .later }
def FnExactReachedFromCardSaid : Prop := Claim7.holds Tryd.pinned (.plain (OpenSpec.ofChange fnExactReachedFromSpec)) fnExactReachedFromCard

/-- THE TIED CARD OF 'laws.FnExactDeadEnds'. -/
def fnExactDeadEndsCard : Claim7 := { stood := { row := fnExactDeadEndsRow, standIns := [], harness := (true, "4043ae5442672e1305e7c6beb2be0b6f3be0d70e1f9c1e562eb092367d3f650c"), looks := false }, kinds := [], alts := [], laidByText := true, laidKinds := [.data, .pinned], laidTests := true, laidLooks := .later }
def FnExactDeadEndsCardSaid : Prop := Claim7.holds Tryd.pinned (.plain (OpenSpec.ofChange fnExactDeadEndsSpec)) fnExactDeadEndsCard

/-- THE SECOND FORM's CARD OF 'laws.FnExactCountReached'. -/
def fnExactCountReachedUptoCard : Claim7 := { stood := { row := fnExactCountReachedUptoRow, standIns := [], harness := (true, "4043ae5442672e1305e7c6beb2be0b6f3be0d70e1f9c1e562eb092367d3f650c"), looks := false }, kinds := [], alts := [], laidByText := true, laidKinds := [.data, .pinned], laidTests := true, laidLooks := .later }
def FnExactCountReachedUptoCardSaid : Prop := Claim7.holds Tryd.pinned (.plain (OpenSpec.upto fnExactCountReachedSpec)) fnExactCountReachedUptoCard

/-- THE SECOND FORM's CARD OF 'laws.FnExactReachedAfter'. -/
def fnExactReachedAfterUptoCard : Claim7 := { stood := { row := fnExactReachedAfterUptoRow, standIns := [], harness := (true, "4043ae5442672e1305e7c6beb2be0b6f3be0d70e1f9c1e562eb092367d3f650c"), looks := false }, kinds := [], alts := [], laidByText := true, laidKinds := [.data, .pinned], laidTests := true, laidLooks := .later }
def FnExactReachedAfterUptoCardSaid : Prop := Claim7.holds Tryd.pinned (.plain (OpenSpec.upto fnExactReachedAfterSpec)) fnExactReachedAfterUptoCard

/-- THE SECOND FORM's CARD OF 'laws.FnExactReachedFrom'. -/
def fnExactReachedFromUptoCard : Claim7 := { stood := { row := fnExactReachedFromUptoRow, standIns := [], harness := (true, "4043ae5442672e1305e7c6beb2be0b6f3be0d70e1f9c1e562eb092367d3f650c"), looks := false }, kinds := [], alts := [], laidByText := true, laidKinds := [.data, .pinned], laidTests := true, laidLooks := .later }
def FnExactReachedFromUptoCardSaid : Prop := Claim7.holds Tryd.pinned (.plain (OpenSpec.upto fnExactReachedFromSpec)) fnExactReachedFromUptoCard

/-- THE SECOND FORM's CARD OF 'laws.FnExactDeadEnds'. -/
def fnExactDeadEndsUptoCard : Claim7 := { stood := { row := fnExactDeadEndsUptoRow, standIns := [], harness := (true, "4043ae5442672e1305e7c6beb2be0b6f3be0d70e1f9c1e562eb092367d3f650c"), looks := false }, kinds := [], alts := [], laidByText := true, laidKinds := [.data, .pinned], laidTests := true, laidLooks := .later }
def FnExactDeadEndsUptoCardSaid : Prop := Claim7.holds Tryd.pinned (.plain (OpenSpec.upto fnExactDeadEndsSpec)) fnExactDeadEndsUptoCard
end Rows
end Go.Proofs.YthiafpdackiglaaDoor
