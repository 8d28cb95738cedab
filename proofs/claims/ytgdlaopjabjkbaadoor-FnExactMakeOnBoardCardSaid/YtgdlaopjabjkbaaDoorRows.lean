/-
  NARROWER THAN 'FOR EVERY INPUT', by the rows' own cells (each row's printed sentence says how): FnExactIsBoardBlocked: laid · FnExactBoardMoves: laid · FnExactMakeOnBoard: laid.
  DERIVED. THE GIVEN ROWS OF THIS SEAT. 3 by the template 'for every input the law returns true; each argument reads behind the call as it read before'; 0 by the template 'total and deterministic' (their statements: YtgdlaopjabjkbaaDoorTotals.lean).
  GIVEN WITH THE SEED: the statements are not yours to turn. If you find one false, say at which input.
  Laid BY PROGRAM, IN A SANDBOX (cutbox-rows.mjs): the forced cells as the released guide's own fill.sh prints them over the translation 619b026f69ce0aa7… (all of the seat's roots in one cut). By AI agents, Wed Nov 11 2026. No macro, syntax, notation, axiom, sorry.
-/
import Derived.Test.YtgdlaopjabjkbaaDoorChecked
import GoSem.PinnedTables
import GoSem.Claim
import GoSem.ClaimJoined
import GoSem.ClaimMapViews
import Derived.JoinedTies
import Derived.KernelRfl
namespace Go.Proofs.YtgdlaopjabjkbaaDoor
/- THE CELL 'sum', in the pinned program and in every row, IS THE sha256 OF THE DUMP (.gsa) THAT YtgdlaopjabjkbaaDoorProg.lean LOADS. Nothing in Lean hashes anything: it is a label: what it is worth is what the hold of that sum in a sandbox is worth. -/
noncomputable def Tryd.pinned : Pinned := { name := "ytgdlaopjabjkbaadoor", sum := "619b026f69ce0aa7afc98a73891d670a73ce58850664435aefcffd3bacebe388", checked := Tryd.checked }
namespace Rows
def none {H : Type} : Left H := { results := [], args := [] }

/- WHAT THE LISTED PACKAGE-LEVEL VARIABLES READ AS WHEN THE CALL BEGINS. Each datum BY PROGRAM (the guide's laid-datum.mjs) off the statement by which the dump's own 'gosem.cut.vars' lays the variable. In a bare row this is a premise. The card (YtgdlaopjabjkbaaDoorCards.lean) ties it to the program's text. -/
def laid_unicode_utf8_acceptRanges {H : Type} : DataW H := .agg [.agg [.lit (.int .u8 128), .lit (.int .u8 191)], .agg [.lit (.int .u8 160), .lit (.int .u8 191)], .agg [.lit (.int .u8 128), .lit (.int .u8 159)], .agg [.lit (.int .u8 144), .lit (.int .u8 191)], .agg [.lit (.int .u8 128), .lit (.int .u8 143)], .agg [.lit (.int .u8 0), .lit (.int .u8 0)], .agg [.lit (.int .u8 0), .lit (.int .u8 0)], .agg [.lit (.int .u8 0), .lit (.int .u8 0)], .agg [.lit (.int .u8 0), .lit (.int .u8 0)], .agg [.lit (.int .u8 0), .lit (.int .u8 0)], .agg [.lit (.int .u8 0), .lit (.int .u8 0)], .agg [.lit (.int .u8 0), .lit (.int .u8 0)], .agg [.lit (.int .u8 0), .lit (.int .u8 0)], .agg [.lit (.int .u8 0), .lit (.int .u8 0)], .agg [.lit (.int .u8 0), .lit (.int .u8 0)], .agg [.lit (.int .u8 0), .lit (.int .u8 0)]]
/-- One of Go's own tables, pinned by name: the form's constant. -/
def laid_unicode_utf8_first : DataW Unit := Go.Pinned.utf8First

/-- 'laws.FnExactIsBoardBlocked': WHATEVER THE INPUT: true; the input reads as it did. -/
def fnExactIsBoardBlockedSpec : ChangeSpec := { name := "fnExactIsBoardBlocked", fn := fun _ => fun
  | [d] => { results := [.lit (.bool true)], args := [d] }
  | _ => none }
def fnExactIsBoardBlockedRow : OpenClaim := { program := "ytgdlaopjabjkbaadoor", sum := "619b026f69ce0aa7afc98a73891d670a73ce58850664435aefcffd3bacebe388", func := "loop.example/g01271/laws.FnExactIsBoardBlocked", spec := "fnExactIsBoardBlocked", inPlace := ["internal/bytealg.CountString", "internal/bytealg.IndexByteString", "internal/bytealg.IndexString", "internal/abi.NoEscape", "internal/bytealg.MakeNoZero"], unfollowed := true, recurses := true, named := ["unicode/utf8.first", "unicode/utf8.acceptRanges", "internal/bytealg.MaxLen"], apart := false, laid := [("unicode/utf8.acceptRanges", laid_unicode_utf8_acceptRanges), ("unicode/utf8.first", laid_unicode_utf8_first)] }
def FnExactIsBoardBlockedSaid : Prop := fnExactIsBoardBlockedRow.holds Tryd.pinned (OpenSpec.ofChange fnExactIsBoardBlockedSpec)

/-- ITS FALSE NEIGHBOUR: 'it returns false'. Refute it at one input. -/
def fnExactIsBoardBlockedWrong : ChangeSpec := { name := "fnExactIsBoardBlocked", fn := fun _ => fun
  | [d] => { results := [.lit (.bool false)], args := [d] }
  | _ => none }
def FnExactIsBoardBlockedWrongFalsely : Prop := fnExactIsBoardBlockedRow.holds Tryd.pinned (OpenSpec.ofChange fnExactIsBoardBlockedWrong)

/-- 'laws.FnExactBoardMoves': WHATEVER THE INPUT: true; the input reads as it did. -/
def fnExactBoardMovesSpec : ChangeSpec := { name := "fnExactBoardMoves", fn := fun _ => fun
  | [d] => { results := [.lit (.bool true)], args := [d] }
  | _ => none }
def fnExactBoardMovesRow : OpenClaim := { program := "ytgdlaopjabjkbaadoor", sum := "619b026f69ce0aa7afc98a73891d670a73ce58850664435aefcffd3bacebe388", func := "loop.example/g01271/laws.FnExactBoardMoves", spec := "fnExactBoardMoves", inPlace := ["internal/bytealg.CountString", "internal/bytealg.IndexByteString", "internal/bytealg.IndexString", "internal/abi.NoEscape", "internal/bytealg.MakeNoZero"], unfollowed := true, recurses := true, named := ["unicode/utf8.first", "unicode/utf8.acceptRanges", "internal/bytealg.MaxLen"], apart := false, laid := [("unicode/utf8.acceptRanges", laid_unicode_utf8_acceptRanges), ("unicode/utf8.first", laid_unicode_utf8_first)] }
def FnExactBoardMovesSaid : Prop := fnExactBoardMovesRow.holds Tryd.pinned (OpenSpec.ofChange fnExactBoardMovesSpec)

/-- ITS FALSE NEIGHBOUR: 'it returns false'. Refute it at one input. -/
def fnExactBoardMovesWrong : ChangeSpec := { name := "fnExactBoardMoves", fn := fun _ => fun
  | [d] => { results := [.lit (.bool false)], args := [d] }
  | _ => none }
def FnExactBoardMovesWrongFalsely : Prop := fnExactBoardMovesRow.holds Tryd.pinned (OpenSpec.ofChange fnExactBoardMovesWrong)

/-- 'laws.FnExactMakeOnBoard': WHATEVER THE INPUT: true; the input reads as it did. -/
def fnExactMakeOnBoardSpec : ChangeSpec := { name := "fnExactMakeOnBoard", fn := fun _ => fun
  | [d1, d2] => { results := [.lit (.bool true)], args := [d1, d2] }
  | _ => none }
def fnExactMakeOnBoardRow : OpenClaim := { program := "ytgdlaopjabjkbaadoor", sum := "619b026f69ce0aa7afc98a73891d670a73ce58850664435aefcffd3bacebe388", func := "loop.example/g01271/laws.FnExactMakeOnBoard", spec := "fnExactMakeOnBoard", inPlace := ["internal/bytealg.CountString", "internal/bytealg.IndexByteString", "internal/bytealg.IndexString", "internal/abi.NoEscape", "internal/bytealg.MakeNoZero"], unfollowed := true, recurses := true, named := ["unicode/utf8.first", "unicode/utf8.acceptRanges", "internal/bytealg.MaxLen"], apart := false, laid := [("unicode/utf8.acceptRanges", laid_unicode_utf8_acceptRanges), ("unicode/utf8.first", laid_unicode_utf8_first)] }
def FnExactMakeOnBoardSaid : Prop := fnExactMakeOnBoardRow.holds Tryd.pinned (OpenSpec.ofChange fnExactMakeOnBoardSpec)

/-- ITS FALSE NEIGHBOUR: 'it returns false'. Refute it at one input. -/
def fnExactMakeOnBoardWrong : ChangeSpec := { name := "fnExactMakeOnBoard", fn := fun _ => fun
  | [d1, d2] => { results := [.lit (.bool false)], args := [d1, d2] }
  | _ => none }
def FnExactMakeOnBoardWrongFalsely : Prop := fnExactMakeOnBoardRow.holds Tryd.pinned (OpenSpec.ofChange fnExactMakeOnBoardWrong)

/- THE SECOND FORM. 'bulk': how many values and letters a reading holds, each counted each time it is reached (what is shared counts as often as it is met; a slice's spare places count too). A statement '..UptoSaid' is the law's where the arguments, and the package variables that the reading takes, are together of bulk at most 1048576: NARROWER than '..Said'. Prove '..Said' where nothing that the law and all that it calls make is longer than what came in: it says more and counts as full. Else prove '..UptoSaid'. A law counts once. -/
mutual
def uptoBulk {H : Type} : DataW H → Nat
  | .lit (.string bytes) => bytes.length + 1
  | .lit _ => 1
  | .nil => 1
  | .ptr d => uptoBulk d + 1
  | .slice elems spare => uptoBulkAll elems + uptoBulkAll spare + 1
  | .agg parts => uptoBulkAll parts + 1
  | .iface _ d => uptoBulk d + 1
  | .map entries => uptoBulkEntries entries + 1
  | .held _ => 1
def uptoBulkAll {H : Type} : List (DataW H) → Nat
  | [] => 0
  | d :: r => uptoBulk d + uptoBulkAll r
def uptoBulkEntries {H : Type} : List (Lit × DataW H) → Nat
  | [] => 0
  | x :: r => uptoBulkEntry x + uptoBulkEntries r
def uptoBulkEntry {H : Type} : Lit × DataW H → Nat
  | (.string bytes, d) => bytes.length + uptoBulk d + 1
  | (_, d) => uptoBulk d + 1
 end
def uptoSmall : (H : Type) → List (DataW H) → Bool := fun _ ds => decide (uptoBulkAll ds ≤ 1048576)
def OpenSpec.upto (s : _root_.Go.ChangeSpec) : _root_.Go.OpenSpec := { _root_.Go.OpenSpec.ofChange s with cond := some uptoSmall }

/-- 'laws.FnExactIsBoardBlocked', WHERE WHAT IT READS IS OF BULK AT MOST 1048576: true; the input reads as it did. -/
def fnExactIsBoardBlockedUptoRow : OpenClaim := { program := "ytgdlaopjabjkbaadoor", sum := "619b026f69ce0aa7afc98a73891d670a73ce58850664435aefcffd3bacebe388", func := "loop.example/g01271/laws.FnExactIsBoardBlocked", spec := "fnExactIsBoardBlocked", inPlace := ["internal/bytealg.CountString", "internal/bytealg.IndexByteString", "internal/bytealg.IndexString", "internal/abi.NoEscape", "internal/bytealg.MakeNoZero"], unfollowed := true, recurses := true, named := ["unicode/utf8.first", "unicode/utf8.acceptRanges", "internal/bytealg.MaxLen"], apart := false, laid := [("unicode/utf8.acceptRanges", laid_unicode_utf8_acceptRanges), ("unicode/utf8.first", laid_unicode_utf8_first)], narrowed := true }
def FnExactIsBoardBlockedUptoSaid : Prop := fnExactIsBoardBlockedUptoRow.holds Tryd.pinned (OpenSpec.upto fnExactIsBoardBlockedSpec)

/-- 'laws.FnExactBoardMoves', WHERE WHAT IT READS IS OF BULK AT MOST 1048576: true; the input reads as it did. -/
def fnExactBoardMovesUptoRow : OpenClaim := { program := "ytgdlaopjabjkbaadoor", sum := "619b026f69ce0aa7afc98a73891d670a73ce58850664435aefcffd3bacebe388", func := "loop.example/g01271/laws.FnExactBoardMoves", spec := "fnExactBoardMoves", inPlace := ["internal/bytealg.CountString", "internal/bytealg.IndexByteString", "internal/bytealg.IndexString", "internal/abi.NoEscape", "internal/bytealg.MakeNoZero"], unfollowed := true, recurses := true, named := ["unicode/utf8.first", "unicode/utf8.acceptRanges", "internal/bytealg.MaxLen"], apart := false, laid := [("unicode/utf8.acceptRanges", laid_unicode_utf8_acceptRanges), ("unicode/utf8.first", laid_unicode_utf8_first)], narrowed := true }
def FnExactBoardMovesUptoSaid : Prop := fnExactBoardMovesUptoRow.holds Tryd.pinned (OpenSpec.upto fnExactBoardMovesSpec)

/-- 'laws.FnExactMakeOnBoard', WHERE WHAT IT READS IS OF BULK AT MOST 1048576: true; the input reads as it did. -/
def fnExactMakeOnBoardUptoRow : OpenClaim := { program := "ytgdlaopjabjkbaadoor", sum := "619b026f69ce0aa7afc98a73891d670a73ce58850664435aefcffd3bacebe388", func := "loop.example/g01271/laws.FnExactMakeOnBoard", spec := "fnExactMakeOnBoard", inPlace := ["internal/bytealg.CountString", "internal/bytealg.IndexByteString", "internal/bytealg.IndexString", "internal/abi.NoEscape", "internal/bytealg.MakeNoZero"], unfollowed := true, recurses := true, named := ["unicode/utf8.first", "unicode/utf8.acceptRanges", "internal/bytealg.MaxLen"], apart := false, laid := [("unicode/utf8.acceptRanges", laid_unicode_utf8_acceptRanges), ("unicode/utf8.first", laid_unicode_utf8_first)], narrowed := true }
def FnExactMakeOnBoardUptoSaid : Prop := fnExactMakeOnBoardUptoRow.holds Tryd.pinned (OpenSpec.upto fnExactMakeOnBoardSpec)

end Rows
end Go.Proofs.YtgdlaopjabjkbaaDoor
