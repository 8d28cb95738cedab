/-
  NARROWER THAN 'FOR EVERY INPUT', by the rows' own cells (each row's printed sentence says how): FnLinesHiddenOfAll: laid · FnGamesComparedOfAll: laid · FnLinesHidden: laid · FnGamesCompared: laid · FnBoardsMoveOfAll: laid · FnBoardsMove: laid.
  DERIVED. THE GIVEN ROWS OF THIS SEAT. 6 by the template 'for every input the law returns true; each argument reads behind the call as it read before'; 0 by the template 'total and deterministic' (their statements: YtnamhjdfegohbaaGreatDoorTotals.lean).
  GIVEN WITH THE SEED: the statements are not yours to turn. If you find one false, say at which input.
  Laid BY PROGRAM, IN A SANDBOX (cutbox-rows.mjs): the forced cells as the released guide's own fill.sh prints them over the translation faaca7ca3d5c5d7b… (all of the seat's roots in one cut). By AI agents, Wed Nov 11 2026. No macro, syntax, notation, axiom, sorry.
-/
import Derived.Test.YtnamhjdfegohbaaGreatDoorChecked
import GoSem.PinnedTables
import GoSem.Claim
import GoSem.ClaimJoined
import GoSem.ClaimMapViews
import Derived.JoinedTies
import Derived.KernelRfl
namespace Go.Proofs.YtnamhjdfegohbaaGreatDoor
/- THE CELL 'sum', in the pinned program and in every row, IS THE sha256 OF THE DUMP (.gsa) THAT YtnamhjdfegohbaaGreatDoorProg.lean LOADS. Nothing in Lean hashes anything: it is a label: what it is worth is what the hold of that sum in a sandbox is worth. -/
noncomputable def Tryz.pinned : Pinned := { name := "ytnamhjdfegohbaagreatdoor", sum := "faaca7ca3d5c5d7b924bbcef18825e20af4b6810f0cb0284445c58fadb185d72", checked := Tryz.checked }
namespace Rows
def none {H : Type} : Left H := { results := [], args := [] }

/- WHAT THE LISTED PACKAGE-LEVEL VARIABLES READ AS WHEN THE CALL BEGINS. Each datum BY PROGRAM (the guide's laid-datum.mjs) off the statement by which the dump's own 'gosem.cut.vars' lays the variable. In a bare row this is a premise. The card (YtnamhjdfegohbaaGreatDoorCards.lean) ties it to the program's text. -/
def laid_unicode_utf8_acceptRanges {H : Type} : DataW H := .agg [.agg [.lit (.int .u8 128), .lit (.int .u8 191)], .agg [.lit (.int .u8 160), .lit (.int .u8 191)], .agg [.lit (.int .u8 128), .lit (.int .u8 159)], .agg [.lit (.int .u8 144), .lit (.int .u8 191)], .agg [.lit (.int .u8 128), .lit (.int .u8 143)], .agg [.lit (.int .u8 0), .lit (.int .u8 0)], .agg [.lit (.int .u8 0), .lit (.int .u8 0)], .agg [.lit (.int .u8 0), .lit (.int .u8 0)], .agg [.lit (.int .u8 0), .lit (.int .u8 0)], .agg [.lit (.int .u8 0), .lit (.int .u8 0)], .agg [.lit (.int .u8 0), .lit (.int .u8 0)], .agg [.lit (.int .u8 0), .lit (.int .u8 0)], .agg [.lit (.int .u8 0), .lit (.int .u8 0)], .agg [.lit (.int .u8 0), .lit (.int .u8 0)], .agg [.lit (.int .u8 0), .lit (.int .u8 0)], .agg [.lit (.int .u8 0), .lit (.int .u8 0)]]
/-- One of Go's own tables, pinned by name: the form's constant. -/
def laid_unicode_utf8_first : DataW Unit := Go.Pinned.utf8First

/-- 'laws.FnLinesHiddenOfAll': WHATEVER THE INPUT: true; the input reads as it did. -/
def fnLinesHiddenOfAllSpec : ChangeSpec := { name := "fnLinesHiddenOfAll", fn := fun _ => fun
  | [d1, d2, d3, d4, d5, d6, d7, d8, d9, d10, d11, d12] => { results := [.lit (.bool true)], args := [d1, d2, d3, d4, d5, d6, d7, d8, d9, d10, d11, d12] }
  | _ => none }
def fnLinesHiddenOfAllRow : OpenClaim := { program := "ytnamhjdfegohbaagreatdoor", sum := "faaca7ca3d5c5d7b924bbcef18825e20af4b6810f0cb0284445c58fadb185d72", func := "loop.example/g01271/laws.FnLinesHiddenOfAll", spec := "fnLinesHiddenOfAll", inPlace := ["internal/bytealg.IndexByteString", "internal/bytealg.IndexString", "internal/bytealg.CountString"], unfollowed := true, recurses := true, named := ["unicode/utf8.first", "unicode/utf8.acceptRanges", "internal/bytealg.MaxLen"], apart := false, laid := [("unicode/utf8.acceptRanges", laid_unicode_utf8_acceptRanges), ("unicode/utf8.first", laid_unicode_utf8_first)] }
def FnLinesHiddenOfAllSaid : Prop := fnLinesHiddenOfAllRow.holds Tryz.pinned (OpenSpec.ofChange fnLinesHiddenOfAllSpec)

/-- ITS FALSE NEIGHBOUR: 'it returns false'. Refute it at one input. -/
def fnLinesHiddenOfAllWrong : ChangeSpec := { name := "fnLinesHiddenOfAll", fn := fun _ => fun
  | [d1, d2, d3, d4, d5, d6, d7, d8, d9, d10, d11, d12] => { results := [.lit (.bool false)], args := [d1, d2, d3, d4, d5, d6, d7, d8, d9, d10, d11, d12] }
  | _ => none }
def FnLinesHiddenOfAllWrongFalsely : Prop := fnLinesHiddenOfAllRow.holds Tryz.pinned (OpenSpec.ofChange fnLinesHiddenOfAllWrong)

/-- 'laws.FnGamesComparedOfAll': WHATEVER THE INPUT: true; the input reads as it did. -/
def fnGamesComparedOfAllSpec : ChangeSpec := { name := "fnGamesComparedOfAll", fn := fun _ => fun
  | [d1, d2, d3, d4, d5, d6, d7, d8, d9] => { results := [.lit (.bool true)], args := [d1, d2, d3, d4, d5, d6, d7, d8, d9] }
  | _ => none }
def fnGamesComparedOfAllRow : OpenClaim := { program := "ytnamhjdfegohbaagreatdoor", sum := "faaca7ca3d5c5d7b924bbcef18825e20af4b6810f0cb0284445c58fadb185d72", func := "loop.example/g01271/laws.FnGamesComparedOfAll", spec := "fnGamesComparedOfAll", inPlace := ["internal/bytealg.IndexByteString", "internal/bytealg.IndexString", "internal/abi.NoEscape", "internal/bytealg.MakeNoZero"], unfollowed := true, recurses := true, named := ["unicode/utf8.first", "unicode/utf8.acceptRanges", "internal/bytealg.MaxLen"], apart := false, laid := [("unicode/utf8.acceptRanges", laid_unicode_utf8_acceptRanges), ("unicode/utf8.first", laid_unicode_utf8_first)] }
def FnGamesComparedOfAllSaid : Prop := fnGamesComparedOfAllRow.holds Tryz.pinned (OpenSpec.ofChange fnGamesComparedOfAllSpec)

/-- ITS FALSE NEIGHBOUR: 'it returns false'. Refute it at one input. -/
def fnGamesComparedOfAllWrong : ChangeSpec := { name := "fnGamesComparedOfAll", fn := fun _ => fun
  | [d1, d2, d3, d4, d5, d6, d7, d8, d9] => { results := [.lit (.bool false)], args := [d1, d2, d3, d4, d5, d6, d7, d8, d9] }
  | _ => none }
def FnGamesComparedOfAllWrongFalsely : Prop := fnGamesComparedOfAllRow.holds Tryz.pinned (OpenSpec.ofChange fnGamesComparedOfAllWrong)

/-- 'laws.FnLinesHidden': WHATEVER THE INPUT: true; the input reads as it did. -/
def fnLinesHiddenSpec : ChangeSpec := { name := "fnLinesHidden", fn := fun _ => fun
  | [d1, d2] => { results := [.lit (.bool true)], args := [d1, d2] }
  | _ => none }
def fnLinesHiddenRow : OpenClaim := { program := "ytnamhjdfegohbaagreatdoor", sum := "faaca7ca3d5c5d7b924bbcef18825e20af4b6810f0cb0284445c58fadb185d72", func := "loop.example/g01271/laws.FnLinesHidden", spec := "fnLinesHidden", inPlace := ["internal/bytealg.IndexByteString", "internal/bytealg.IndexString", "internal/bytealg.CountString"], unfollowed := true, recurses := true, named := ["unicode/utf8.first", "unicode/utf8.acceptRanges", "internal/bytealg.MaxLen"], apart := false, laid := [("unicode/utf8.acceptRanges", laid_unicode_utf8_acceptRanges), ("unicode/utf8.first", laid_unicode_utf8_first)] }
def FnLinesHiddenSaid : Prop := fnLinesHiddenRow.holds Tryz.pinned (OpenSpec.ofChange fnLinesHiddenSpec)

/-- ITS FALSE NEIGHBOUR: 'it returns false'. Refute it at one input. -/
def fnLinesHiddenWrong : ChangeSpec := { name := "fnLinesHidden", fn := fun _ => fun
  | [d1, d2] => { results := [.lit (.bool false)], args := [d1, d2] }
  | _ => none }
def FnLinesHiddenWrongFalsely : Prop := fnLinesHiddenRow.holds Tryz.pinned (OpenSpec.ofChange fnLinesHiddenWrong)

/-- 'laws.FnGamesCompared': WHATEVER THE INPUT: true; the input reads as it did. -/
def fnGamesComparedSpec : ChangeSpec := { name := "fnGamesCompared", fn := fun _ => fun
  | [d1, d2] => { results := [.lit (.bool true)], args := [d1, d2] }
  | _ => none }
def fnGamesComparedRow : OpenClaim := { program := "ytnamhjdfegohbaagreatdoor", sum := "faaca7ca3d5c5d7b924bbcef18825e20af4b6810f0cb0284445c58fadb185d72", func := "loop.example/g01271/laws.FnGamesCompared", spec := "fnGamesCompared", inPlace := ["internal/bytealg.IndexByteString", "internal/bytealg.IndexString", "internal/abi.NoEscape", "internal/bytealg.MakeNoZero"], unfollowed := true, recurses := true, named := ["unicode/utf8.first", "unicode/utf8.acceptRanges", "internal/bytealg.MaxLen"], apart := false, laid := [("unicode/utf8.acceptRanges", laid_unicode_utf8_acceptRanges), ("unicode/utf8.first", laid_unicode_utf8_first)] }
def FnGamesComparedSaid : Prop := fnGamesComparedRow.holds Tryz.pinned (OpenSpec.ofChange fnGamesComparedSpec)

/-- ITS FALSE NEIGHBOUR: 'it returns false'. Refute it at one input. -/
def fnGamesComparedWrong : ChangeSpec := { name := "fnGamesCompared", fn := fun _ => fun
  | [d1, d2] => { results := [.lit (.bool false)], args := [d1, d2] }
  | _ => none }
def FnGamesComparedWrongFalsely : Prop := fnGamesComparedRow.holds Tryz.pinned (OpenSpec.ofChange fnGamesComparedWrong)

/-- 'laws.FnBoardsMoveOfAll': WHATEVER THE INPUT: true; the input reads as it did. -/
def fnBoardsMoveOfAllSpec : ChangeSpec := { name := "fnBoardsMoveOfAll", fn := fun _ => fun
  | [d1, d2, d3, d4, d5] => { results := [.lit (.bool true)], args := [d1, d2, d3, d4, d5] }
  | _ => none }
def fnBoardsMoveOfAllRow : OpenClaim := { program := "ytnamhjdfegohbaagreatdoor", sum := "faaca7ca3d5c5d7b924bbcef18825e20af4b6810f0cb0284445c58fadb185d72", func := "loop.example/g01271/laws.FnBoardsMoveOfAll", spec := "fnBoardsMoveOfAll", inPlace := ["internal/bytealg.CountString", "internal/bytealg.IndexByteString", "internal/bytealg.IndexString", "internal/abi.NoEscape", "internal/bytealg.MakeNoZero"], unfollowed := true, recurses := true, named := ["unicode/utf8.first", "unicode/utf8.acceptRanges", "internal/bytealg.MaxLen"], apart := false, laid := [("unicode/utf8.acceptRanges", laid_unicode_utf8_acceptRanges), ("unicode/utf8.first", laid_unicode_utf8_first)] }
def FnBoardsMoveOfAllSaid : Prop := fnBoardsMoveOfAllRow.holds Tryz.pinned (OpenSpec.ofChange fnBoardsMoveOfAllSpec)

/-- ITS FALSE NEIGHBOUR: 'it returns false'. Refute it at one input. -/
def fnBoardsMoveOfAllWrong : ChangeSpec := { name := "fnBoardsMoveOfAll", fn := fun _ => fun
  | [d1, d2, d3, d4, d5] => { results := [.lit (.bool false)], args := [d1, d2, d3, d4, d5] }
  | _ => none }
def FnBoardsMoveOfAllWrongFalsely : Prop := fnBoardsMoveOfAllRow.holds Tryz.pinned (OpenSpec.ofChange fnBoardsMoveOfAllWrong)

/-- 'laws.FnBoardsMove': WHATEVER THE INPUT: true; the input reads as it did. -/
def fnBoardsMoveSpec : ChangeSpec := { name := "fnBoardsMove", fn := fun _ => fun
  | [d1, d2] => { results := [.lit (.bool true)], args := [d1, d2] }
  | _ => none }
def fnBoardsMoveRow : OpenClaim := { program := "ytnamhjdfegohbaagreatdoor", sum := "faaca7ca3d5c5d7b924bbcef18825e20af4b6810f0cb0284445c58fadb185d72", func := "loop.example/g01271/laws.FnBoardsMove", spec := "fnBoardsMove", inPlace := ["internal/bytealg.CountString", "internal/bytealg.IndexByteString", "internal/bytealg.IndexString", "internal/abi.NoEscape", "internal/bytealg.MakeNoZero"], unfollowed := true, recurses := true, named := ["unicode/utf8.first", "unicode/utf8.acceptRanges", "internal/bytealg.MaxLen"], apart := false, laid := [("unicode/utf8.acceptRanges", laid_unicode_utf8_acceptRanges), ("unicode/utf8.first", laid_unicode_utf8_first)] }
def FnBoardsMoveSaid : Prop := fnBoardsMoveRow.holds Tryz.pinned (OpenSpec.ofChange fnBoardsMoveSpec)

/-- ITS FALSE NEIGHBOUR: 'it returns false'. Refute it at one input. -/
def fnBoardsMoveWrong : ChangeSpec := { name := "fnBoardsMove", fn := fun _ => fun
  | [d1, d2] => { results := [.lit (.bool false)], args := [d1, d2] }
  | _ => none }
def FnBoardsMoveWrongFalsely : Prop := fnBoardsMoveRow.holds Tryz.pinned (OpenSpec.ofChange fnBoardsMoveWrong)

/- THE SECOND FORM. 'bulk': how many values and letters a reading holds, each counted each time it is reached (what is shared counts as often as it is met; a slice's spare places count too). A statement '..UptoSaid' is the law's where the arguments, and the package variables that the reading takes, are together of bulk at most 1048576: NARROWER than '..Said'. Prove '..Said' where nothing that the law and all that it calls make is longer than what came in: it says more and counts as full. Else prove '..UptoSaid'. A law counts once. -/
mutual
def uptoBulk {H : Type} : DataW H → Nat
  | .lit (.string bytes) => bytes.length + 1
  | .lit _ => 1
  | .nil => 1
  | .ptr d => uptoBulk d + 1
  | .slice elems spare => uptoBulkAll elems + uptoBulkAll spare + 1
  | .agg parts => uptoBulkAll parts + 1
  | .iface _ d => uptoBulk d + 1
  | .map entries => uptoBulkEntries entries + 1
  | .held _ => 1
def uptoBulkAll {H : Type} : List (DataW H) → Nat
  | [] => 0
  | d :: r => uptoBulk d + uptoBulkAll r
def uptoBulkEntries {H : Type} : List (Lit × DataW H) → Nat
  | [] => 0
  | x :: r => uptoBulkEntry x + uptoBulkEntries r
def uptoBulkEntry {H : Type} : Lit × DataW H → Nat
  | (.string bytes, d) => bytes.length + uptoBulk d + 1
  | (_, d) => uptoBulk d + 1
 end
def uptoSmall : (H : Type) → List (DataW H) → Bool := fun _ ds => decide (uptoBulkAll ds ≤ 1048576)
def OpenSpec.upto (s : _root_.Go.ChangeSpec) : _root_.Go.OpenSpec := { _root_.Go.OpenSpec.ofChange s with cond := some uptoSmall }

/-- 'laws.FnLinesHiddenOfAll', WHERE WHAT IT READS IS OF BULK AT MOST 1048576: true; the input reads as it did. -/
def fnLinesHiddenOfAllUptoRow : OpenClaim := { program := "ytnamhjdfegohbaagreatdoor", sum := "faaca7ca3d5c5d7b924bbcef18825e20af4b6810f0cb0284445c58fadb185d72", func := "loop.example/g01271/laws.FnLinesHiddenOfAll", spec := "fnLinesHiddenOfAll", inPlace := ["internal/bytealg.IndexByteString", "internal/bytealg.IndexString", "internal/bytealg.CountString"], unfollowed := true, recurses := true, named := ["unicode/utf8.first", "unicode/utf8.acceptRanges", "internal/bytealg.MaxLen"], apart := false, laid := [("unicode/utf8.acceptRanges", laid_unicode_utf8_acceptRanges), ("unicode/utf8.first", laid_unicode_utf8_first)], narrowed := true }
def FnLinesHiddenOfAllUptoSaid : Prop := fnLinesHiddenOfAllUptoRow.holds Tryz.pinned (OpenSpec.upto fnLinesHiddenOfAllSpec)

/-- 'laws.FnGamesComparedOfAll', WHERE WHAT IT READS IS OF BULK AT MOST 1048576: true; the input reads as it did. -/
def fnGamesComparedOfAllUptoRow : OpenClaim := { program := "ytnamhjdfegohbaagreatdoor", sum := "faaca7ca3d5c5d7b924bbcef18825e20af4b6810f0cb0284445c58fadb185d72", func := "loop.example/g01271/laws.FnGamesComparedOfAll", spec := "fnGamesComparedOfAll", inPlace := ["internal/bytealg.IndexByteString", "internal/bytealg.IndexString", "internal/abi.NoEscape", "internal/bytealg.MakeNoZero"], unfollowed := true, recurses := true, named := ["unicode/utf8.first", "unicode/utf8.acceptRanges", "internal/bytealg.MaxLen"], apart := false, laid := [("unicode/utf8.acceptRanges", laid_unicode_utf8_acceptRanges), ("unicode/utf8.first", laid_unicode_utf8_first)], narrowed := true }
def FnGamesComparedOfAllUptoSaid : Prop := fnGamesComparedOfAllUptoRow.holds Tryz.pinned (OpenSpec.upto fnGamesComparedOfAllSpec)

/-- 'laws.FnLinesHidden', WHERE WHAT IT READS IS OF BULK AT MOST 1048576: true; the input reads as it did. -/
def fnLinesHiddenUptoRow : OpenClaim := { program := "ytnamhjdfegohbaagreatdoor", sum := "faaca7ca3d5c5d7b924bbcef18825e20af4b6810f0cb0284445c58fadb185d72", func := "loop.example/g01271/laws.FnLinesHidden", spec := "fnLinesHidden", inPlace := ["internal/bytealg.IndexByteString", "internal/bytealg.IndexString", "internal/bytealg.CountString"], unfollowed := true, recurses := true, named := ["unicode/utf8.first", "unicode/utf8.acceptRanges", "internal/bytealg.MaxLen"], apart := false, laid := [("unicode/utf8.acceptRanges", laid_unicode_utf8_acceptRanges), ("unicode/utf8.first", laid_unicode_utf8_first)], narrowed := true }
def FnLinesHiddenUptoSaid : Prop := fnLinesHiddenUptoRow.holds Tryz.pinned (OpenSpec.upto fnLinesHiddenSpec)

/-- 'laws.FnGamesCompared', WHERE WHAT IT READS IS OF BULK AT MOST 1048576: true; the input reads as it did. -/
def fnGamesComparedUptoRow : OpenClaim := { program := "ytnamhjdfegohbaagreatdoor", sum := "faaca7ca3d5c5d7b924bbcef18825e20af4b6810f0cb0284445c58fadb185d72", func := "loop.example/g01271/laws.FnGamesCompared", spec := "fnGamesCompared", inPlace := ["internal/bytealg.IndexByteString", "internal/bytealg.IndexString", "internal/abi.NoEscape", "internal/bytealg.MakeNoZero"], unfollowed := true, recurses := true, named := ["unicode/utf8.first", "unicode/utf8.acceptRanges", "internal/bytealg.MaxLen"], apart := false, laid := [("unicode/utf8.acceptRanges", laid_unicode_utf8_acceptRanges), ("unicode/utf8.first", laid_unicode_utf8_first)], narrowed := true }
def FnGamesComparedUptoSaid : Prop := fnGamesComparedUptoRow.holds Tryz.pinned (OpenSpec.upto fnGamesComparedSpec)

/-- 'laws.FnBoardsMoveOfAll', WHERE WHAT IT READS IS OF BULK AT MOST 1048576: true; the input reads as it did. -/
def fnBoardsMoveOfAllUptoRow : OpenClaim := { program := "ytnamhjdfegohbaagreatdoor", sum := "faaca7ca3d5c5d7b924bbcef18825e20af4b6810f0cb0284445c58fadb185d72", func := "loop.example/g01271/laws.FnBoardsMoveOfAll", spec := "fnBoardsMoveOfAll", inPlace := ["internal/bytealg.CountString", "internal/bytealg.IndexByteString", "internal/bytealg.IndexString", "internal/abi.NoEscape", "internal/bytealg.MakeNoZero"], unfollowed := true, recurses := true, named := ["unicode/utf8.first", "unicode/utf8.acceptRanges", "internal/bytealg.MaxLen"], apart := false, laid := [("unicode/utf8.acceptRanges", laid_unicode_utf8_acceptRanges), ("unicode/utf8.first", laid_unicode_utf8_first)], narrowed := true }
def FnBoardsMoveOfAllUptoSaid : Prop := fnBoardsMoveOfAllUptoRow.holds Tryz.pinned (OpenSpec.upto fnBoardsMoveOfAllSpec)

/-- 'laws.FnBoardsMove', WHERE WHAT IT READS IS OF BULK AT MOST 1048576: true; the input reads as it did. -/
def fnBoardsMoveUptoRow : OpenClaim := { program := "ytnamhjdfegohbaagreatdoor", sum := "faaca7ca3d5c5d7b924bbcef18825e20af4b6810f0cb0284445c58fadb185d72", func := "loop.example/g01271/laws.FnBoardsMove", spec := "fnBoardsMove", inPlace := ["internal/bytealg.CountString", "internal/bytealg.IndexByteString", "internal/bytealg.IndexString", "internal/abi.NoEscape", "internal/bytealg.MakeNoZero"], unfollowed := true, recurses := true, named := ["unicode/utf8.first", "unicode/utf8.acceptRanges", "internal/bytealg.MaxLen"], apart := false, laid := [("unicode/utf8.acceptRanges", laid_unicode_utf8_acceptRanges), ("unicode/utf8.first", laid_unicode_utf8_first)], narrowed := true }
def FnBoardsMoveUptoSaid : Prop := fnBoardsMoveUptoRow.holds Tryz.pinned (OpenSpec.upto fnBoardsMoveSpec)

end Rows
end Go.Proofs.YtnamhjdfegohbaaGreatDoor
