/-
  DERIVED. GIVEN WITH THE SEED: THE CARDS: each row of YtejhhdpfndiliaaDoorRows.lean that lists a variable, with what it lists TIED to the program's text (the seventh form; the later family's looks); each row that meets fmt, with fmt's text TOLD by the authors' own Lean function (tested against real Go, not proved from fmt's source: count such statements apart). THE CARD IS WHAT COUNTS. Prove the row's statement (the work); the ties are given (YtejhhdpfndiliaaDoorTie.lean); close each card by the builder's one call (the guide's Derived/Test/ToyasCard.lean, 'card_holds'). Laid BY PROGRAM, IN A SANDBOX (cutbox-door.mjs). By AI agents, Wed Nov 11 2026. No macro, syntax, notation, axiom, sorry.
-/
import Derived.Test.YtejhhdpfndiliaaDoorRows
import GoSem.ClaimSeven
namespace Go.Proofs.YtejhhdpfndiliaaDoor
namespace Rows

/-- THE TIED CARD OF 'laws.FnRulesMove'. -/
def fnRulesMoveCard : Claim7 := { stood := { row := fnRulesMoveRow, standIns := [], harness := (true, "0fcbd5037c47b36ba41c1ec2759409baaf0b3145c18f826e121a41ee7897a631"), looks := false }, kinds := [], alts := [], laidByText := true, laidKinds := [.data, .pinned], laidTests := true, laidLooks := .later }
def FnRulesMoveCardSaid : Prop := Claim7.holds Tryd.pinned (.plain (OpenSpec.ofChange fnRulesMoveSpec)) fnRulesMoveCard

/-- THE TIED CARD OF 'laws.FnExactNearestLine'. -/
def fnExactNearestLineCard : Claim7 := { stood := { row := fnExactNearestLineRow, standIns := [], harness := (true, "0fcbd5037c47b36ba41c1ec2759409baaf0b3145c18f826e121a41ee7897a631"), looks := false }, kinds := [], alts := [], laidByText := true, laidKinds := [.data, .pinned], laidTests := true, laidLooks := .later }
def FnExactNearestLineCardSaid : Prop := Claim7.holds Tryd.pinned (.plain (OpenSpec.ofChange fnExactNearestLineSpec)) fnExactNearestLineCard

/-- THE TIED CARD OF 'laws.FnPlaysEndOfAll'. -/
def fnPlaysEndOfAllCard : Claim7 := { stood := { row := fnPlaysEndOfAllRow, standIns := [], harness := (true, "0fcbd5037c47b36ba41c1ec2759409baaf0b3145c18f826e121a41ee7897a631"), looks := false }, kinds := [], alts := [], laidByText := true, laidKinds := [.data, .pinned], laidTests := true, laidLooks := .later }
def FnPlaysEndOfAllCardSaid : Prop := Claim7.holds Tryd.pinned (.plain (OpenSpec.ofChange fnPlaysEndOfAllSpec)) fnPlaysEndOfAllCard

/-- THE SECOND FORM's CARD OF 'laws.FnRulesMove'. -/
def fnRulesMoveUptoCard : Claim7 := { stood := { row := fnRulesMoveUptoRow, standIns := [], harness := (true, "0fcbd5037c47b36ba41c1ec2759409baaf0b3145c18f826e121a41ee7897a631"), looks := false }, kinds := [], alts := [], laidByText := true, laidKinds := [.data, .pinned], laidTests := true, laidLooks := .later }
def FnRulesMoveUptoCardSaid : Prop := Claim7.holds Tryd.pinned (.plain (OpenSpec.upto fnRulesMoveSpec)) fnRulesMoveUptoCard

/-- THE SECOND FORM's CARD OF 'laws.FnExactNearestLine'. -/
def fnExactNearestLineUptoCard : Claim7 := { stood := { row := fnExactNearestLineUptoRow, standIns := [], harness := (true, "0fcbd5037c47b36ba41c1ec2759409baaf0b3145c18f826e121a41ee7897a631"), looks := false }, kinds := [], alts := [], laidByText := true, laidKinds := [.data, .pinned], laidTests := true, laidLooks := .later }
def FnExactNearestLineUptoCardSaid : Prop := Claim7.holds Tryd.pinned (.plain (OpenSpec.upto fnExactNearestLineSpec)) fnExactNearestLineUptoCard

/-- THE SECOND FORM's CARD OF 'laws.FnPlaysEndOfAll'. -/
def fnPlaysEndOfAllUptoCard : Claim7 := { stood := { row := fnPlaysEndOfAllUptoRow, standIns := [], harness := (true, "0fcbd5037c47b36ba41c1ec2759409baaf0b3145c18f826e121a41ee7897a631"), looks := false }, kinds := [], alts := [], laidByText := true, laidKinds := [.data, .pinned], laidTests := true, laidLooks := .later }
def FnPlaysEndOfAllUptoCardSaid : Prop := Claim7.holds Tryd.pinned (.plain (OpenSpec.upto fnPlaysEndOfAllSpec)) fnPlaysEndOfAllUptoCard
end Rows
end Go.Proofs.YtejhhdpfndiliaaDoor
