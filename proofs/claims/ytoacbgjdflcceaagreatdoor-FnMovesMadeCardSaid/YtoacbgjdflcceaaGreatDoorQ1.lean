/- Part 2 of the proof of a law of the given program: the rules that it leans on, and what the functions that it reaches answer; the conditions stand with each theorem. -/
import Derived.Lib.Bytealg
import Derived.Lib.SlTrimSet
import Derived.Lib.Join
import Derived.Lib.Repeat
import Derived.Test.YtoacbgjdflcceaaGreatDoorQ0
set_option linter.unusedSimpArgs false
set_option linter.unusedVariables false
namespace Go.Proofs.YtoacbgjdflcceaaGreatDoor.Ab
open Go

/-- spec.PlayMoves -/
def fi411 : FI := ⟨.seq (.reg [⟨some 4, .mov (.c (.str [])), none⟩, ⟨some 5, .mov (.c (.bool false)), none⟩]) (.kl [4, 5] (.seq (.seq (.reg [⟨some 8, .mov (.t 0), none⟩, ⟨some 9, .mov (.t 1), none⟩, ⟨some 10, .call 444 [.t 8, .t 9], none⟩, ⟨some 11, .un .not (.t 10), none⟩]) (.kl [8, 9, 10] (.cond (.t 11) (.kl [0, 1, 11] (.seq (.reg [⟨some 4, .mov (.c (.str [])), none⟩, ⟨some 5, .mov (.c (.bool false)), none⟩]) (.ret))) (.skip)))) (.kl [11] (.seq (.reg [⟨some 13, .mov (.t 0), none⟩, ⟨some 14, .mov (.t 1), none⟩, ⟨some 15, .call 445 [.t 13, .t 14], none⟩, ⟨some 12, .mov (.t 15), none⟩, ⟨some 16, .prj 0 (.t 12), none⟩, ⟨some 17, .prj 1 (.t 12), none⟩, ⟨some 6, .mov (.t 16), none⟩, ⟨some 7, .mov (.t 17), none⟩]) (.kl [0, 12, 13, 14, 15, 16, 17] (.seq (.seq (.reg [⟨some 18, .mov (.t 7), none⟩, ⟨some 19, .mov (.t 1), none⟩, ⟨some 20, .lenV (.t 19), none⟩, ⟨some 21, .bin .lss (.t 18) (.t 20), none⟩]) (.kl [1, 7, 18, 19, 20] (.cond (.t 21) (.kl [6, 21] (.seq (.reg [⟨some 4, .mov (.c (.str [])), none⟩, ⟨some 5, .mov (.c (.bool false)), none⟩]) (.ret))) (.skip)))) (.kl [21] (.seq (.reg [⟨some 22, .mov (.t 6), none⟩, ⟨some 4, .mov (.t 22), none⟩, ⟨some 5, .mov (.c (.bool true)), none⟩]) (.kl [6, 22] (.ret)))))))))), [.tmp 4, .tmp 5]⟩
/-- impl.MoveThatFails -/
def fi412 : FI := ⟨.seq (.reg [⟨some 4, .mov (.c (.int .i64 0)), none⟩, ⟨some 5, .mov (.c (.bool false)), none⟩]) (.kl [4, 5] (.seq (.seq (.reg [⟨some 8, .mov (.t 0), none⟩, ⟨some 9, .call 106 [.t 8], none⟩, ⟨some 10, .un .not (.t 9), none⟩, ⟨some 11, .mov (.t 10), none⟩, ⟨some 12, .mov (.t 1), some (11, false)⟩, ⟨some 13, .lenV (.t 12), some (11, false)⟩, ⟨some 14, .bin .gtr (.t 13) (.c (.int .i64 100)), some (11, false)⟩, ⟨some 15, .pick (.t 11) (.c (.bool true)) (.t 14), none⟩]) (.kl [8, 9, 10, 11, 12, 13, 14] (.cond (.t 15) (.kl [0, 1, 15] (.seq (.reg [⟨some 4, .mov (.c (.int .i64 0)), none⟩, ⟨some 5, .mov (.c (.bool false)), none⟩]) (.ret))) (.skip)))) (.kl [15] (.seq (.reg [⟨some 17, .mov (.t 0), none⟩, ⟨some 18, .mov (.t 1), none⟩, ⟨some 19, .call 68 [.t 17, .t 18, .c (.fn 435 [])], none⟩, ⟨some 16, .mov (.t 19), none⟩, ⟨some 20, .prj 0 (.t 16), none⟩, ⟨some 21, .prj 1 (.t 16), none⟩, ⟨some 6, .mov (.t 20), none⟩, ⟨some 7, .mov (.t 21), none⟩]) (.kl [0, 6, 16, 17, 18, 19, 20, 21] (.seq (.seq (.reg [⟨some 22, .mov (.t 7), none⟩, ⟨some 23, .mov (.t 1), none⟩, ⟨some 24, .lenV (.t 23), none⟩, ⟨some 25, .bin .eql (.t 22) (.t 24), none⟩]) (.kl [1, 22, 23, 24] (.cond (.t 25) (.kl [7, 25] (.seq (.reg [⟨some 4, .mov (.c (.int .i64 0)), none⟩, ⟨some 5, .mov (.c (.bool false)), none⟩]) (.ret))) (.skip)))) (.kl [25] (.seq (.reg [⟨some 26, .mov (.t 7), none⟩, ⟨some 4, .mov (.t 26), none⟩, ⟨some 5, .mov (.c (.bool true)), none⟩]) (.kl [7, 26] (.ret)))))))))), [.tmp 4, .tmp 5]⟩
/-- spec.MoveThatFails -/
def fi413 : FI := ⟨.seq (.reg [⟨some 4, .mov (.c (.int .i64 0)), none⟩, ⟨some 5, .mov (.c (.bool false)), none⟩]) (.kl [4, 5] (.seq (.seq (.reg [⟨some 8, .mov (.t 0), none⟩, ⟨some 9, .mov (.t 1), none⟩, ⟨some 10, .call 444 [.t 8, .t 9], none⟩, ⟨some 11, .un .not (.t 10), none⟩]) (.kl [8, 9, 10] (.cond (.t 11) (.kl [0, 1, 11] (.seq (.reg [⟨some 4, .mov (.c (.int .i64 0)), none⟩, ⟨some 5, .mov (.c (.bool false)), none⟩]) (.ret))) (.skip)))) (.kl [11] (.seq (.reg [⟨some 13, .mov (.t 0), none⟩, ⟨some 14, .mov (.t 1), none⟩, ⟨some 15, .call 445 [.t 13, .t 14], none⟩, ⟨some 12, .mov (.t 15), none⟩, ⟨some 16, .prj 0 (.t 12), none⟩, ⟨some 17, .prj 1 (.t 12), none⟩, ⟨some 6, .mov (.t 16), none⟩, ⟨some 7, .mov (.t 17), none⟩]) (.kl [0, 6, 12, 13, 14, 15, 16, 17] (.seq (.seq (.reg [⟨some 18, .mov (.t 7), none⟩, ⟨some 19, .mov (.t 1), none⟩, ⟨some 20, .lenV (.t 19), none⟩, ⟨some 21, .bin .eql (.t 18) (.t 20), none⟩]) (.kl [1, 18, 19, 20] (.cond (.t 21) (.kl [7, 21] (.seq (.reg [⟨some 4, .mov (.c (.int .i64 0)), none⟩, ⟨some 5, .mov (.c (.bool false)), none⟩]) (.ret))) (.skip)))) (.kl [21] (.seq (.reg [⟨some 22, .mov (.t 7), none⟩, ⟨some 4, .mov (.t 22), none⟩, ⟨some 5, .mov (.c (.bool true)), none⟩]) (.kl [7, 22] (.ret)))))))))), [.tmp 4, .tmp 5]⟩
/-- impl.WinsMoving -/
def fi415 : FI := ⟨.seq (.reg [⟨some 4, .mov (.c (.bool false)), none⟩, ⟨some 5, .mov (.c (.bool false)), none⟩]) (.kl [4, 5] (.seq (.reg [⟨some 6, .mov (.t 0), none⟩, ⟨some 7, .lit 1 1 [.str []] [(0, 1, .t 6)], none⟩, ⟨some 8, .mov (.t 1), none⟩, ⟨some 9, .call 446 [.t 7, .t 8], none⟩, ⟨some 10, .prj 0 (.t 9), none⟩, ⟨some 11, .prj 1 (.t 9), none⟩, ⟨some 4, .mov (.t 10), none⟩, ⟨some 5, .mov (.t 11), none⟩]) (.kl [0, 1, 6, 7, 8, 9, 10, 11] (.ret)))), [.tmp 4, .tmp 5]⟩
/-- spec.WinsMoving -/
def fi416 : FI := ⟨.seq (.reg [⟨some 4, .mov (.c (.bool false)), none⟩, ⟨some 5, .mov (.c (.bool false)), none⟩]) (.kl [4, 5] (.seq (.seq (.reg [⟨some 6, .mov (.t 0), none⟩, ⟨some 7, .call 447 [.t 6], none⟩, ⟨some 8, .un .not (.t 7), none⟩]) (.kl [6, 7] (.cond (.t 8) (.kl [0, 1, 8] (.seq (.reg [⟨some 4, .mov (.c (.bool false)), none⟩, ⟨some 5, .mov (.c (.bool false)), none⟩]) (.ret))) (.skip)))) (.kl [8] (.seq (.reg [⟨some 9, .build [.nilS, .nilS] [], none⟩, ⟨some 10, .box (.t 9), none⟩, ⟨some 11, .mov (.t 0), none⟩, ⟨some 12, .lit 1 1 [.str []] [(0, 1, .t 11)], none⟩, ⟨some 13, .mov (.t 1), none⟩, ⟨some 14, .call 199 [.t 10, .t 12, .t 13], none⟩, ⟨some 4, .mov (.t 14), none⟩, ⟨some 5, .mov (.c (.bool true)), none⟩]) (.kl [0, 1, 9, 10, 11, 12, 13, 14] (.ret)))))), [.tmp 4, .tmp 5]⟩
/-- impl.BestMoves -/
def fi417 : FI := ⟨.seq (.reg [⟨some 4, .mov (.c (.nilS)), none⟩, ⟨some 5, .mov (.c (.bool false)), none⟩]) (.kl [4, 5] (.seq (.seq (.reg [⟨some 6, .mov (.t 0), none⟩, ⟨some 7, .call 254 [.t 6], none⟩, ⟨some 8, .un .not (.t 7), none⟩]) (.kl [6, 7] (.cond (.t 8) (.kl [0, 1, 8] (.seq (.reg [⟨some 4, .mov (.c (.nilS)), none⟩, ⟨some 5, .mov (.c (.bool false)), none⟩]) (.ret))) (.skip)))) (.kl [8] (.seq (.reg [⟨some 9, .call 192 [], none⟩, ⟨some 10, .mov (.t 0), none⟩, ⟨some 11, .mov (.t 1), none⟩, ⟨some 12, .call 448 [.t 9, .t 10, .t 11], none⟩, ⟨some 4, .mov (.t 12), none⟩, ⟨some 5, .mov (.c (.bool true)), none⟩]) (.kl [0, 1, 9, 10, 11, 12] (.ret)))))), [.tmp 4, .tmp 5]⟩
/-- spec.BestMoves -/
def fi418 : FI := ⟨.seq (.reg [⟨some 4, .mov (.c (.nilS)), none⟩, ⟨some 5, .mov (.c (.bool false)), none⟩]) (.kl [4, 5] (.seq (.seq (.reg [⟨some 6, .mov (.t 0), none⟩, ⟨some 7, .call 447 [.t 6], none⟩, ⟨some 8, .un .not (.t 7), none⟩]) (.kl [6, 7] (.cond (.t 8) (.kl [0, 1, 8] (.seq (.reg [⟨some 4, .mov (.c (.nilS)), none⟩, ⟨some 5, .mov (.c (.bool false)), none⟩]) (.ret))) (.skip)))) (.kl [8] (.seq (.reg [⟨some 9, .build [.nilS, .nilS] [], none⟩, ⟨some 10, .box (.t 9), none⟩, ⟨some 11, .mov (.t 0), none⟩, ⟨some 12, .mov (.t 1), none⟩, ⟨some 13, .call 449 [.t 10, .t 11, .t 12], none⟩, ⟨some 4, .mov (.t 13), none⟩, ⟨some 5, .mov (.c (.bool true)), none⟩]) (.kl [0, 1, 9, 10, 11, 12, 13] (.ret)))))), [.tmp 4, .tmp 5]⟩
/-- impl.GameMove -/
def fi419 : FI := ⟨.seq (.reg [⟨some 4, .new [.int .i64 0, .int .i64 0], none⟩, ⟨some 5, .mov (.c (.bool false)), none⟩]) (.kl [5] (.seq (.seq (.reg [⟨some 6, .mov (.t 0), none⟩, ⟨some 7, .call 254 [.t 6], none⟩, ⟨some 8, .un .not (.t 7), none⟩]) (.kl [6, 7] (.cond (.t 8) (.kl [0, 1, 8] (.seq (.reg [⟨some 9, .build [.int .i64 0, .int .i64 0] [], none⟩, ⟨none, .store 2 (.t 4) (.t 9), none⟩, ⟨some 5, .mov (.c (.bool false)), none⟩]) (.kl [9] (.ret)))) (.skip)))) (.kl [8] (.seq (.reg [⟨some 10, .call 192 [], none⟩, ⟨some 11, .mov (.t 0), none⟩, ⟨some 12, .mov (.t 1), none⟩, ⟨some 13, .call 450 [.t 10, .t 11, .t 12], none⟩, ⟨some 14, .prj 0 (.t 13), none⟩, ⟨some 15, .prj 1 (.t 13), none⟩, ⟨none, .store 2 (.t 4) (.t 14), none⟩, ⟨some 5, .mov (.t 15), none⟩]) (.kl [0, 1, 10, 11, 12, 13, 14, 15] (.ret)))))), [.cell true 2 4, .tmp 5]⟩
/-- spec.GameMove -/
def fi420 : FI := ⟨.seq (.reg [⟨some 4, .new [.int .i64 0, .int .i64 0], none⟩, ⟨some 5, .mov (.c (.bool false)), none⟩]) (.kl [5] (.seq (.seq (.reg [⟨some 6, .mov (.t 0), none⟩, ⟨some 7, .call 447 [.t 6], none⟩, ⟨some 8, .un .not (.t 7), none⟩]) (.kl [6, 7] (.cond (.t 8) (.kl [0, 1, 8] (.seq (.reg [⟨some 9, .build [.int .i64 0, .int .i64 0] [], none⟩, ⟨none, .store 2 (.t 4) (.t 9), none⟩, ⟨some 5, .mov (.c (.bool false)), none⟩]) (.kl [9] (.ret)))) (.skip)))) (.kl [8] (.seq (.reg [⟨some 10, .build [.nilS, .nilS] [], none⟩, ⟨some 11, .box (.t 10), none⟩, ⟨some 12, .mov (.t 0), none⟩, ⟨some 13, .mov (.t 1), none⟩, ⟨some 14, .call 451 [.t 11, .t 12, .t 13], none⟩, ⟨some 15, .prj 0 (.t 14), none⟩, ⟨some 16, .prj 1 (.t 14), none⟩, ⟨none, .store 2 (.t 4) (.t 15), none⟩, ⟨some 5, .mov (.t 16), none⟩]) (.kl [0, 1, 10, 11, 12, 13, 14, 15, 16] (.ret)))))), [.cell true 2 4, .tmp 5]⟩
-- lp421_0 HEAD [0, 1, 6, 7] | ret: [4, 5]
/-- impl.GamePlay -/
def lb421_0 : C := .kl [8, 29, 30, 31, 32, 33] (.blk 1 (.seq (.reg [⟨some 16, .load true 1 (.t 6), none⟩, ⟨some 17, .mov (.t 0), none⟩, ⟨some 18, .mov (.t 1), none⟩, ⟨some 19, .call 450 [.t 16, .t 17, .t 18], none⟩, ⟨some 15, .mov (.t 19), none⟩, ⟨some 20, .prj 0 (.t 15), none⟩, ⟨some 21, .prj 1 (.t 15), none⟩, ⟨some 8, .new [.int .i64 0, .int .i64 0], none⟩, ⟨none, .store 2 (.t 8) (.t 20), none⟩, ⟨some 9, .mov (.t 21), none⟩]) (.kl [15, 16, 17, 18, 19, 20, 21] (.seq (.seq (.reg [⟨some 22, .mov (.t 9), none⟩, ⟨some 23, .un .not (.t 22), none⟩]) (.kl [9, 22] (.cond (.t 23) (.kl [0, 1, 6, 8, 23] (.seq (.reg [⟨some 24, .mov (.t 7), none⟩, ⟨some 4, .mov (.t 24), none⟩, ⟨some 5, .mov (.c (.bool true)), none⟩]) (.kl [7, 24] (.ret)))) (.skip)))) (.kl [23] (.seq (.reg [⟨some 25, .mov (.t 7), none⟩, ⟨some 26, .load true 2 (.t 8), none⟩, ⟨some 27, .lit 2 1 [.int .i64 0, .int .i64 0] [(0, 2, .t 26)], none⟩, ⟨some 28, .app 2 (.t 25) (.t 27), none⟩, ⟨some 7, .mov (.t 28), none⟩]) (.kl [25, 26, 27, 28] (.reg [⟨some 29, .mov (.t 0), none⟩, ⟨some 30, .load true 2 (.t 8), none⟩, ⟨some 31, .call 61 [.t 29, .t 30], none⟩, ⟨some 32, .mov (.t 1), none⟩, ⟨some 33, .un .not (.t 32), none⟩, ⟨some 0, .mov (.t 31), none⟩, ⟨some 1, .mov (.t 33), none⟩]))))))))
def lp421_0 : C := lb421_0
def fi421 : FI := ⟨.seq (.reg [⟨some 4, .mov (.c (.nilS)), none⟩, ⟨some 5, .mov (.c (.bool false)), none⟩]) (.kl [4, 5] (.seq (.seq (.reg [⟨some 10, .mov (.t 0), none⟩, ⟨some 11, .call 254 [.t 10], none⟩, ⟨some 12, .un .not (.t 11), none⟩]) (.kl [10, 11] (.cond (.t 12) (.kl [0, 1, 12] (.seq (.reg [⟨some 4, .mov (.c (.nilS)), none⟩, ⟨some 5, .mov (.c (.bool false)), none⟩]) (.ret))) (.skip)))) (.kl [12] (.seq (.reg [⟨some 13, .call 192 [], none⟩, ⟨some 14, .lit0, none⟩, ⟨some 6, .new [.nilM], none⟩, ⟨none, .store 1 (.t 6) (.t 13), none⟩, ⟨some 7, .mov (.t 14), none⟩]) (.kl [13, 14] (.blk 0 (.loop lp421_0))))))), [.tmp 4, .tmp 5]⟩
-- lp422_0 HEAD [0, 1, 6, 7] | ret: [4, 5]
/-- spec.GamePlay -/
def lb422_0 : C := .kl [32, 33] (.blk 1 (.seq (.reg [⟨some 16, .mov (.t 6), none⟩, ⟨some 17, .mov (.t 0), none⟩, ⟨some 18, .mov (.t 1), none⟩, ⟨some 19, .call 451 [.t 16, .t 17, .t 18], none⟩, ⟨some 15, .mov (.t 19), none⟩, ⟨some 20, .prj 0 (.t 15), none⟩, ⟨some 21, .prj 1 (.t 15), none⟩, ⟨some 8, .new [.int .i64 0, .int .i64 0], none⟩, ⟨none, .store 2 (.t 8) (.t 20), none⟩, ⟨some 9, .mov (.t 21), none⟩]) (.kl [15, 16, 17, 18, 19, 20, 21] (.seq (.seq (.reg [⟨some 22, .mov (.t 9), none⟩, ⟨some 23, .un .not (.t 22), none⟩]) (.kl [9, 22] (.cond (.t 23) (.kl [0, 1, 6, 8, 23] (.seq (.reg [⟨some 24, .mov (.t 7), none⟩, ⟨some 4, .mov (.t 24), none⟩, ⟨some 5, .mov (.c (.bool true)), none⟩]) (.kl [7, 24] (.ret)))) (.skip)))) (.kl [23] (.seq (.reg [⟨some 25, .mov (.t 7), none⟩, ⟨some 26, .load true 2 (.t 8), none⟩, ⟨some 27, .lit 2 1 [.int .i64 0, .int .i64 0] [(0, 2, .t 26)], none⟩, ⟨some 28, .app 2 (.t 25) (.t 27), none⟩, ⟨some 7, .mov (.t 28), none⟩]) (.kl [25, 26, 27, 28] (.seq (.reg [⟨some 29, .mov (.t 0), none⟩, ⟨some 30, .load true 2 (.t 8), none⟩, ⟨some 31, .call 66 [.t 29, .t 30], none⟩, ⟨some 0, .mov (.t 31), none⟩]) (.kl [8, 29, 30, 31] (.reg [⟨some 32, .mov (.t 1), none⟩, ⟨some 33, .un .not (.t 32), none⟩, ⟨some 1, .mov (.t 33), none⟩]))))))))))
def lp422_0 : C := lb422_0
def fi422 : FI := ⟨.seq (.reg [⟨some 4, .mov (.c (.nilS)), none⟩, ⟨some 5, .mov (.c (.bool false)), none⟩]) (.kl [4, 5] (.seq (.seq (.reg [⟨some 10, .mov (.t 0), none⟩, ⟨some 11, .call 447 [.t 10], none⟩, ⟨some 12, .un .not (.t 11), none⟩]) (.kl [10, 11] (.cond (.t 12) (.kl [0, 1, 12] (.seq (.reg [⟨some 4, .mov (.c (.nilS)), none⟩, ⟨some 5, .mov (.c (.bool false)), none⟩]) (.ret))) (.skip)))) (.kl [12] (.seq (.reg [⟨some 13, .build [.nilS, .nilS] [], none⟩, ⟨some 14, .box (.t 13), none⟩, ⟨some 6, .mov (.t 14), none⟩]) (.kl [13, 14] (.seq (.reg [⟨some 7, .mov (.c (.nilS)), none⟩]) (.blk 0 (.loop lp422_0)))))))), [.tmp 4, .tmp 5]⟩
/-- impl.LongestGame -/
def fi423 : FI := ⟨.seq (.reg [⟨some 4, .mov (.c (.int .i64 0)), none⟩, ⟨some 5, .mov (.c (.bool false)), none⟩]) (.kl [4, 5] (.seq (.reg [⟨some 9, .mov (.t 0), none⟩, ⟨some 10, .mov (.t 1), none⟩, ⟨some 11, .call 452 [.t 9, .t 10], none⟩, ⟨some 8, .mov (.t 11), none⟩, ⟨some 12, .prj 0 (.t 8), none⟩, ⟨some 13, .prj 1 (.t 8), none⟩, ⟨some 6, .new [.int .i64 0, .int .i64 0, .int .i64 0], none⟩, ⟨none, .store 3 (.t 6) (.t 12), none⟩, ⟨some 7, .mov (.t 13), none⟩]) (.kl [0, 1, 8, 9, 10, 11, 12, 13] (.seq (.reg [⟨some 14, .faddr 0 1 (.t 6), none⟩, ⟨some 15, .load false 1 (.t 14), none⟩, ⟨some 16, .mov (.t 7), none⟩, ⟨some 4, .mov (.t 15), none⟩, ⟨some 5, .mov (.t 16), none⟩]) (.kl [6, 7, 14, 15, 16] (.ret)))))), [.tmp 4, .tmp 5]⟩
/-- spec.LongestGame -/
def fi424 : FI := ⟨.seq (.reg [⟨some 4, .mov (.c (.int .i64 0)), none⟩, ⟨some 5, .mov (.c (.bool false)), none⟩]) (.kl [4, 5] (.seq (.seq (.reg [⟨some 8, .mov (.t 0), none⟩, ⟨some 9, .call 447 [.t 8], none⟩, ⟨some 10, .un .not (.t 9), none⟩]) (.kl [8, 9] (.cond (.t 10) (.kl [0, 1, 10] (.seq (.reg [⟨some 4, .mov (.c (.int .i64 0)), none⟩, ⟨some 5, .mov (.c (.bool false)), none⟩]) (.ret))) (.skip)))) (.kl [10] (.seq (.reg [⟨some 11, .build [.nilS, .nilS, .nilS, .nilS] [], none⟩, ⟨some 12, .box (.t 11), none⟩, ⟨some 6, .mov (.t 12), none⟩]) (.kl [11, 12] (.seq (.reg [⟨some 13, .mov (.t 6), none⟩, ⟨some 14, .mov (.t 0), none⟩, ⟨some 15, .mov (.t 1), none⟩, ⟨some 16, .call 453 [.t 13, .t 14, .t 15], none⟩, ⟨some 7, .mov (.t 16), none⟩]) (.kl [0, 1, 13, 14, 15, 16] (.seq (.reg [⟨some 17, .mov (.t 6), none⟩, ⟨some 18, .nck (.t 17), none⟩, ⟨some 19, .faddr 1 1 (.t 18), none⟩, ⟨some 20, .load false 1 (.t 19), none⟩, ⟨some 21, .mov (.t 7), none⟩, ⟨some 22, .iaddr 1 (.t 20) (.t 21), none⟩, ⟨some 23, .load false 1 (.t 22), none⟩, ⟨some 4, .mov (.t 23), none⟩, ⟨some 5, .mov (.c (.bool true)), none⟩]) (.kl [6, 7, 17, 18, 19, 20, 21, 22, 23] (.ret)))))))))), [.tmp 4, .tmp 5]⟩
/-- impl.ShortestGame -/
def fi425 : FI := ⟨.seq (.reg [⟨some 4, .mov (.c (.int .i64 0)), none⟩, ⟨some 5, .mov (.c (.bool false)), none⟩]) (.kl [4, 5] (.seq (.reg [⟨some 9, .mov (.t 0), none⟩, ⟨some 10, .mov (.t 1), none⟩, ⟨some 11, .call 452 [.t 9, .t 10], none⟩, ⟨some 8, .mov (.t 11), none⟩, ⟨some 12, .prj 0 (.t 8), none⟩, ⟨some 13, .prj 1 (.t 8), none⟩, ⟨some 6, .new [.int .i64 0, .int .i64 0, .int .i64 0], none⟩, ⟨none, .store 3 (.t 6) (.t 12), none⟩, ⟨some 7, .mov (.t 13), none⟩]) (.kl [0, 1, 8, 9, 10, 11, 12, 13] (.seq (.reg [⟨some 14, .faddr 1 1 (.t 6), none⟩, ⟨some 15, .load false 1 (.t 14), none⟩, ⟨some 16, .mov (.t 7), none⟩, ⟨some 4, .mov (.t 15), none⟩, ⟨some 5, .mov (.t 16), none⟩]) (.kl [6, 7, 14, 15, 16] (.ret)))))), [.tmp 4, .tmp 5]⟩
/-- spec.ShortestGame -/
def fi426 : FI := ⟨.seq (.reg [⟨some 4, .mov (.c (.int .i64 0)), none⟩, ⟨some 5, .mov (.c (.bool false)), none⟩]) (.kl [4, 5] (.seq (.seq (.reg [⟨some 8, .mov (.t 0), none⟩, ⟨some 9, .call 447 [.t 8], none⟩, ⟨some 10, .un .not (.t 9), none⟩]) (.kl [8, 9] (.cond (.t 10) (.kl [0, 1, 10] (.seq (.reg [⟨some 4, .mov (.c (.int .i64 0)), none⟩, ⟨some 5, .mov (.c (.bool false)), none⟩]) (.ret))) (.skip)))) (.kl [10] (.seq (.reg [⟨some 11, .build [.nilS, .nilS, .nilS, .nilS] [], none⟩, ⟨some 12, .box (.t 11), none⟩, ⟨some 6, .mov (.t 12), none⟩]) (.kl [11, 12] (.seq (.reg [⟨some 13, .mov (.t 6), none⟩, ⟨some 14, .mov (.t 0), none⟩, ⟨some 15, .mov (.t 1), none⟩, ⟨some 16, .call 453 [.t 13, .t 14, .t 15], none⟩, ⟨some 7, .mov (.t 16), none⟩]) (.kl [0, 1, 13, 14, 15, 16] (.seq (.reg [⟨some 17, .mov (.t 6), none⟩, ⟨some 18, .nck (.t 17), none⟩, ⟨some 19, .faddr 2 1 (.t 18), none⟩, ⟨some 20, .load false 1 (.t 19), none⟩, ⟨some 21, .mov (.t 7), none⟩, ⟨some 22, .iaddr 1 (.t 20) (.t 21), none⟩, ⟨some 23, .load false 1 (.t 22), none⟩, ⟨some 4, .mov (.t 23), none⟩, ⟨some 5, .mov (.c (.bool true)), none⟩]) (.kl [6, 7, 17, 18, 19, 20, 21, 22, 23] (.ret)))))))))), [.tmp 4, .tmp 5]⟩
/-- impl.CountGames -/
def fi427 : FI := ⟨.seq (.reg [⟨some 4, .mov (.c (.int .i64 0)), none⟩, ⟨some 5, .mov (.c (.bool false)), none⟩]) (.kl [4, 5] (.seq (.reg [⟨some 9, .mov (.t 0), none⟩, ⟨some 10, .mov (.t 1), none⟩, ⟨some 11, .call 452 [.t 9, .t 10], none⟩, ⟨some 8, .mov (.t 11), none⟩, ⟨some 12, .prj 0 (.t 8), none⟩, ⟨some 13, .prj 1 (.t 8), none⟩, ⟨some 6, .new [.int .i64 0, .int .i64 0, .int .i64 0], none⟩, ⟨none, .store 3 (.t 6) (.t 12), none⟩, ⟨some 7, .mov (.t 13), none⟩]) (.kl [0, 1, 8, 9, 10, 11, 12, 13] (.seq (.reg [⟨some 14, .faddr 2 1 (.t 6), none⟩, ⟨some 15, .load false 1 (.t 14), none⟩, ⟨some 16, .mov (.t 7), none⟩, ⟨some 4, .mov (.t 15), none⟩, ⟨some 5, .mov (.t 16), none⟩]) (.kl [6, 7, 14, 15, 16] (.ret)))))), [.tmp 4, .tmp 5]⟩
/-- spec.CountGames -/
def fi428 : FI := ⟨.seq (.reg [⟨some 4, .mov (.c (.int .i64 0)), none⟩, ⟨some 5, .mov (.c (.bool false)), none⟩]) (.kl [4, 5] (.seq (.seq (.reg [⟨some 8, .mov (.t 0), none⟩, ⟨some 9, .call 447 [.t 8], none⟩, ⟨some 10, .un .not (.t 9), none⟩]) (.kl [8, 9] (.cond (.t 10) (.kl [0, 1, 10] (.seq (.reg [⟨some 4, .mov (.c (.int .i64 0)), none⟩, ⟨some 5, .mov (.c (.bool false)), none⟩]) (.ret))) (.skip)))) (.kl [10] (.seq (.reg [⟨some 11, .build [.nilS, .nilS, .nilS, .nilS] [], none⟩, ⟨some 12, .box (.t 11), none⟩, ⟨some 6, .mov (.t 12), none⟩]) (.kl [11, 12] (.seq (.reg [⟨some 13, .mov (.t 6), none⟩, ⟨some 14, .mov (.t 0), none⟩, ⟨some 15, .mov (.t 1), none⟩, ⟨some 16, .call 453 [.t 13, .t 14, .t 15], none⟩, ⟨some 7, .mov (.t 16), none⟩]) (.kl [0, 1, 13, 14, 15, 16] (.seq (.reg [⟨some 17, .mov (.t 6), none⟩, ⟨some 18, .nck (.t 17), none⟩, ⟨some 19, .faddr 3 1 (.t 18), none⟩, ⟨some 20, .load false 1 (.t 19), none⟩, ⟨some 21, .mov (.t 7), none⟩, ⟨some 22, .iaddr 1 (.t 20) (.t 21), none⟩, ⟨some 23, .load false 1 (.t 22), none⟩, ⟨some 4, .mov (.t 23), none⟩, ⟨some 5, .mov (.c (.bool true)), none⟩]) (.kl [6, 7, 17, 18, 19, 20, 21, 22, 23] (.ret)))))))))), [.tmp 4, .tmp 5]⟩
-- lp429_0 HEAD [0, 1, 12, 13] | exit 0: [] | ret: [4]
/-- laws.nMoves -/
def lb429_0 : C := .kl [25] (.seq (.reg [⟨some 14, .bin .lss (.t 13) (.t 12), none⟩]) (.seq (.cond (.t 14) (.skip) (.kl [0, 1, 12, 13, 14] (.exit 0))) (.kl [14] (.seq (.blk 1 (.seq (.reg [⟨some 15, .mov (.t 13), none⟩, ⟨some 5, .mov (.t 15), none⟩]) (.kl [15] (.seq (.drw [⟨some 16, .mov (.t 0), none⟩, ⟨some 17, .mov (.t 5), none⟩, ⟨some 18, .iaddr 2 (.t 16) (.t 17), none⟩, ⟨some 19, .load true 2 (.t 18), none⟩, ⟨some 20, .mov (.t 1), none⟩, ⟨some 21, .mov (.t 5), none⟩, ⟨some 22, .iaddr 2 (.t 20) (.t 21), none⟩, ⟨some 23, .load true 2 (.t 22), none⟩, ⟨some 24, .aeq true [0, 0] (.t 19) (.t 23), none⟩] []) (.kl [5, 16, 17, 18, 19, 20, 21, 22, 23] (.cond (.t 24) (.kl [0, 1, 12, 13, 24] (.seq (.reg [⟨some 4, .mov (.c (.bool false)), none⟩]) (.ret))) (.skip))))))) (.kl [24] (.reg [⟨some 25, .bin .add (.t 13) (.c (.int .i64 1)), none⟩, ⟨some 13, .mov (.t 25), none⟩]))))))
def lp429_0 : C := lb429_0
def fi429 : FI := ⟨.seq (.reg [⟨some 4, .mov (.c (.bool false)), none⟩]) (.kl [4] (.seq (.seq (.reg [⟨some 6, .mov (.t 0), none⟩, ⟨some 7, .lenV (.t 6), none⟩, ⟨some 8, .mov (.t 1), none⟩, ⟨some 9, .lenV (.t 8), none⟩, ⟨some 10, .bin .neq (.t 7) (.t 9), none⟩]) (.kl [6, 7, 8, 9] (.cond (.t 10) (.kl [0, 1, 10] (.seq (.reg [⟨some 4, .mov (.c (.bool false)), none⟩]) (.ret))) (.skip)))) (.kl [10] (.seq (.seq (.reg [⟨some 11, .mov (.t 0), none⟩, ⟨some 12, .lenV (.t 11), none⟩, ⟨some 13, .mov (.c (.int .i64 0)), none⟩]) (.kl [11] (.blk 0 (.loop lp429_0)))) (.seq (.reg [⟨some 4, .mov (.c (.bool true)), none⟩]) (.ret)))))), [.tmp 4]⟩
/-- impl.OutcomeOf -/
def fi430 : FI := ⟨.seq (.reg [⟨some 2, .mov (.c (.str [])), none⟩, ⟨some 3, .mov (.c (.bool false)), none⟩]) (.kl [2, 3] (.seq (.reg [⟨some 4, .mov (.t 0), none⟩, ⟨some 5, .lit 1 1 [.str []] [(0, 1, .t 4)], none⟩, ⟨some 6, .call 241 [.t 5], none⟩, ⟨some 7, .prj 0 (.t 6), none⟩, ⟨some 8, .prj 1 (.t 6), none⟩, ⟨some 2, .mov (.t 7), none⟩, ⟨some 3, .mov (.t 8), none⟩]) (.kl [0, 4, 5, 6, 7, 8] (.ret)))), [.tmp 2, .tmp 3]⟩
/-- impl.IsNothing -/
def fi431 : FI := ⟨.seq (.reg [⟨some 2, .mov (.c (.bool false)), none⟩, ⟨some 3, .mov (.c (.bool false)), none⟩]) (.kl [2, 3] (.seq (.reg [⟨some 7, .mov (.t 0), none⟩, ⟨some 8, .call 430 [.t 7], none⟩, ⟨some 6, .mov (.t 8), none⟩, ⟨some 9, .prj 0 (.t 6), none⟩, ⟨some 10, .prj 1 (.t 6), none⟩, ⟨some 4, .mov (.t 9), none⟩, ⟨some 5, .mov (.t 10), none⟩]) (.kl [0, 6, 7, 8, 9, 10] (.seq (.reg [⟨some 11, .mov (.t 4), none⟩, ⟨some 12, .bin .eql (.t 11) (.c (.str [50])), none⟩, ⟨some 13, .mov (.t 5), none⟩, ⟨some 2, .mov (.t 12), none⟩, ⟨some 3, .mov (.t 13), none⟩]) (.kl [4, 5, 11, 12, 13] (.ret)))))), [.tmp 2, .tmp 3]⟩
-- lp35_0 HEAD [3, 7, 8, 9] | exit 0: [] | ret: [4]
/-- laws.nMove -/
def lb35_0 : C := .kl [16] (.seq (.reg [⟨some 10, .bin .lss (.t 9) (.t 8), none⟩]) (.seq (.cond (.t 10) (.skip) (.kl [3, 7, 8, 9, 10] (.exit 0))) (.kl [10] (.seq (.blk 1 (.seq (.reg [⟨some 11, .iaddr 2 (.t 7) (.t 9), none⟩, ⟨some 12, .load true 2 (.t 11), none⟩, ⟨some 6, .new [.int .i64 0, .int .i64 0], none⟩, ⟨none, .store 2 (.t 6) (.t 12), none⟩]) (.kl [11, 12] (.seq (.reg [⟨some 13, .load true 2 (.t 6), none⟩, ⟨some 14, .load true 2 (.t 3), none⟩, ⟨some 15, .aeq false [0, 0] (.t 13) (.t 14), none⟩]) (.kl [6, 13, 14] (.cond (.t 15) (.kl [3, 7, 8, 9, 15] (.seq (.reg [⟨some 4, .mov (.c (.bool true)), none⟩]) (.ret))) (.skip))))))) (.kl [15] (.reg [⟨some 16, .bin .add (.t 9) (.c (.int .i64 1)), none⟩, ⟨some 9, .mov (.t 16), none⟩]))))))
def lp35_0 : C := lb35_0
def fi35 : FI := ⟨.seq (.reg [⟨some 3, .box (.t 1), none⟩, ⟨some 4, .mov (.c (.bool false)), none⟩]) (.kl [1, 4] (.seq (.seq (.reg [⟨some 7, .mov (.t 0), none⟩, ⟨some 8, .lenV (.t 7), none⟩, ⟨some 9, .mov (.c (.int .i64 0)), none⟩]) (.kl [0] (.blk 0 (.loop lp35_0)))) (.seq (.reg [⟨some 4, .mov (.c (.bool false)), none⟩]) (.ret)))), [.tmp 4]⟩
/-- spec.DrawWinsMoving -/
def fi433 : FI := ⟨.seq (.reg [⟨some 2, .mov (.c (.str [])), none⟩, ⟨some 3, .mov (.c (.bool false)), none⟩]) (.kl [2, 3] (.seq (.reg [⟨some 5, .mov (.t 0), none⟩, ⟨some 6, .build [.nilS, .int .i64 0, .int .u64 0] [(0, 1, .t 5)], none⟩, ⟨some 7, .box (.t 6), none⟩, ⟨some 4, .mov (.t 7), none⟩]) (.kl [0, 5, 6, 7] (.seq (.reg [⟨some 8, .mov (.t 4), none⟩, ⟨some 9, .call 454 [.t 8], none⟩, ⟨some 10, .mov (.t 4), none⟩, ⟨some 11, .call 64 [.t 10, .c (.int .i64 2)], none⟩, ⟨some 2, .mov (.t 9), none⟩, ⟨some 3, .mov (.t 11), none⟩]) (.kl [4, 8, 9, 10, 11] (.ret)))))), [.tmp 2, .tmp 3]⟩
/-- spec.DrawIsLine -/
def fi434 : FI := ⟨.seq (.reg [⟨some 2, .mov (.c (.str [])), none⟩]) (.kl [2] (.seq (.reg [⟨some 4, .mov (.t 0), none⟩, ⟨some 5, .build [.nilS, .int .i64 0, .int .u64 0] [(0, 1, .t 4)], none⟩, ⟨some 6, .box (.t 5), none⟩, ⟨some 3, .mov (.t 6), none⟩]) (.kl [0, 4, 5, 6] (.seq (.reg [⟨some 7, .mov (.t 3), none⟩, ⟨some 8, .call 101 [.t 7], none⟩, ⟨some 2, .mov (.t 8), none⟩]) (.kl [3, 7, 8] (.ret)))))), [.tmp 2]⟩
/-- impl.movesIn -/
def fi59 : FI := ⟨.seq (.reg [⟨some 4, .mov (.c (.nilS)), none⟩, ⟨some 5, .mov (.c (.bool false)), none⟩]) (.kl [4, 5] (.seq (.seq (.reg [⟨some 6, .mov (.t 0), none⟩, ⟨some 7, .call 106 [.t 6], none⟩, ⟨some 8, .un .not (.t 7), none⟩]) (.kl [6, 7] (.cond (.t 8) (.kl [0, 1, 8] (.seq (.reg [⟨some 4, .mov (.c (.nilS)), none⟩, ⟨some 5, .mov (.c (.bool false)), none⟩]) (.ret))) (.skip)))) (.kl [8] (.seq (.reg [⟨some 9, .mov (.t 0), none⟩, ⟨some 10, .mov (.t 1), none⟩, ⟨some 11, .call 105 [.t 9, .t 10], none⟩, ⟨some 4, .mov (.t 11), none⟩, ⟨some 5, .mov (.c (.bool true)), none⟩]) (.kl [0, 1, 9, 10, 11] (.ret)))))), [.tmp 4, .tmp 5]⟩
-- lp104_0 HEAD [0, 3] | exit 0: [] | ret: [2]
/-- spec.liGood -/
def lb104_0 : C := .kl [12, 13] (.seq (.seq (.reg [⟨some 8, .mov (.t 3), none⟩, ⟨some 9, .mov (.t 0), none⟩, ⟨some 10, .lenS (.t 9), none⟩, ⟨some 11, .bin .lss (.t 8) (.t 10), none⟩]) (.kl [8, 9, 10] (.cond (.t 11) (.skip) (.kl [0, 3, 11] (.exit 0))))) (.kl [11] (.seq (.blk 1 (.seq (.reg [⟨some 14, .mov (.t 0), none⟩, ⟨some 15, .mov (.t 3), none⟩, ⟨some 16, .idxS (.t 14) (.t 15), none⟩, ⟨some 17, .bin .neq (.t 16) (.c (.int .u8 84)), none⟩, ⟨some 18, .mov (.t 17), none⟩, ⟨some 19, .mov (.t 0), some (18, true)⟩, ⟨some 20, .mov (.t 3), some (18, true)⟩, ⟨some 21, .idxS (.t 19) (.t 20), some (18, true)⟩, ⟨some 22, .bin .neq (.t 21) (.c (.int .u8 70)), some (18, true)⟩, ⟨some 23, .pick (.t 18) (.t 22) (.c (.bool false)), none⟩, ⟨some 24, .mov (.t 23), none⟩, ⟨some 25, .mov (.t 0), some (24, true)⟩, ⟨some 26, .mov (.t 3), some (24, true)⟩, ⟨some 27, .idxS (.t 25) (.t 26), some (24, true)⟩, ⟨some 28, .bin .neq (.t 27) (.c (.int .u8 46)), some (24, true)⟩, ⟨some 29, .pick (.t 24) (.t 28) (.c (.bool false)), none⟩]) (.kl [14, 15, 16, 17, 18, 19, 20, 21, 22, 23, 24, 25, 26, 27, 28] (.cond (.t 29) (.kl [0, 3, 29] (.seq (.reg [⟨some 2, .mov (.c (.bool false)), none⟩]) (.ret))) (.skip))))) (.kl [29] (.reg [⟨some 12, .mov (.t 3), none⟩, ⟨some 13, .bin .add (.t 12) (.c (.int .i64 1)), none⟩, ⟨some 3, .mov (.t 13), none⟩])))))
def lp104_0 : C := lb104_0
def fi104 : FI := ⟨.seq (.reg [⟨some 2, .mov (.c (.bool false)), none⟩]) (.kl [2] (.seq (.seq (.reg [⟨some 4, .mov (.t 0), none⟩, ⟨some 5, .lenS (.t 4), none⟩, ⟨some 6, .call 77 [.t 5, .c (.int .i64 1), .c (.int .i64 12)], none⟩, ⟨some 7, .un .not (.t 6), none⟩]) (.kl [4, 5, 6] (.cond (.t 7) (.kl [0, 7] (.seq (.reg [⟨some 2, .mov (.c (.bool false)), none⟩]) (.ret))) (.skip)))) (.kl [7] (.seq (.seq (.reg [⟨some 3, .mov (.c (.int .i64 0)), none⟩]) (.blk 0 (.loop lp104_0))) (.seq (.reg [⟨some 2, .mov (.c (.bool true)), none⟩]) (.ret)))))), [.tmp 2]⟩
-- lp119_0 HEAD [0, 1, 2, 7, 12] | exit 0: [7] | exit 1: [0, 1, 2, 7, 12] | exit 2: [0, 1, 2, 7, 12]
-- lp119_1 HEAD [0, 1, 2, 7, 8, 9, 12] | exit 2: [0, 1, 2, 7, 12]
/-- spec.liMoves -/
def lb119_1 : C := .kl [40, 41] (.seq (.seq (.reg [⟨some 36, .mov (.t 9), none⟩, ⟨some 37, .mov (.t 8), none⟩, ⟨some 38, .bin .add (.t 37) (.c (.int .i64 2)), none⟩, ⟨some 39, .bin .leq (.t 36) (.t 38), none⟩]) (.kl [36, 37, 38] (.cond (.t 39) (.skip) (.kl [8, 9, 39] (.exit 2))))) (.kl [39] (.seq (.blk 3 (.seq (.reg [⟨some 42, .mov (.t 8), none⟩, ⟨some 43, .mov (.t 9), none⟩, ⟨some 44, .build [.int .i64 0, .int .i64 0] [(0, 1, .t 42), (1, 1, .t 43)], none⟩, ⟨some 10, .new [.int .i64 0, .int .i64 0], none⟩, ⟨none, .store 2 (.t 10) (.t 44), none⟩]) (.kl [42, 43, 44] (.seq (.reg [⟨some 45, .mov (.t 0), none⟩, ⟨some 46, .load true 2 (.t 10), none⟩, ⟨some 47, .call 130 [.t 45, .t 46], none⟩]) (.kl [45, 46] (.cond (.t 47) (.kl [47] (.reg [⟨some 48, .mov (.t 7), none⟩, ⟨some 49, .load true 2 (.t 10), none⟩, ⟨some 50, .lit 2 1 [.int .i64 0, .int .i64 0] [(0, 2, .t 49)], none⟩, ⟨some 51, .app 2 (.t 48) (.t 50), none⟩, ⟨some 7, .mov (.t 51), none⟩])) (.skip))))))) (.kl [10, 47, 48, 49, 50, 51] (.reg [⟨some 40, .mov (.t 9), none⟩, ⟨some 41, .bin .add (.t 40) (.c (.int .i64 1)), none⟩, ⟨some 9, .mov (.t 41), none⟩])))))
def lp119_1 : C := lb119_1
def lb119_0 : C := .kl [] (.seq (.reg [⟨some 13, .nxt (.t 12), none⟩, ⟨some 14, .prj 0 (.t 13), none⟩]) (.seq (.cond (.t 14) (.skip) (.kl [0, 1, 2, 12, 13, 14] (.exit 0))) (.kl [14] (.blk 1 (.seq (.reg [⟨some 15, .prj 1 (.t 13), none⟩, ⟨some 8, .mov (.t 15), none⟩]) (.kl [13, 15] (.seq (.seq (.reg [⟨some 16, .mov (.t 0), none⟩, ⟨some 17, .mov (.t 8), none⟩, ⟨some 18, .idxS (.t 16) (.t 17), none⟩, ⟨some 19, .bin .eql (.t 18) (.c (.int .u8 84)), none⟩, ⟨some 20, .mov (.t 19), none⟩, ⟨some 21, .mov (.t 1), some (20, true)⟩, ⟨some 22, .un .not (.t 21), some (20, true)⟩, ⟨some 23, .pick (.t 20) (.t 22) (.c (.bool false)), none⟩, ⟨some 24, .mov (.t 23), none⟩, ⟨some 25, .mov (.t 0), some (24, false)⟩, ⟨some 26, .mov (.t 8), some (24, false)⟩, ⟨some 27, .idxS (.t 25) (.t 26), some (24, false)⟩, ⟨some 28, .bin .eql (.t 27) (.c (.int .u8 70)), some (24, false)⟩, ⟨some 29, .mov (.t 28), some (24, false)⟩, ⟨some 30, .mov (.t 2), some (29, true)⟩, ⟨some 31, .un .not (.t 30), some (29, true)⟩, ⟨some 32, .pick (.t 29) (.t 31) (.c (.bool false)), some (24, false)⟩, ⟨some 33, .pick (.t 24) (.c (.bool true)) (.t 32), none⟩]) (.kl [16, 17, 18, 19, 20, 21, 22, 23, 24, 25, 26, 27, 28, 29, 30, 31, 32] (.cond (.t 33) (.kl [8, 33] (.exit 1)) (.skip)))) (.kl [33] (.seq (.reg [⟨some 34, .mov (.t 8), none⟩, ⟨some 35, .bin .sub (.t 34) (.c (.int .i64 2)), none⟩, ⟨some 9, .mov (.t 35), none⟩]) (.kl [34, 35] (.blk 2 (.loop lp119_1))))))))))))
def lp119_0 : C := lb119_0
def fi119 : FI := ⟨.seq (.reg [⟨some 6, .mov (.c (.nilS)), none⟩]) (.kl [6] (.seq (.reg [⟨some 7, .mov (.c (.nilS)), none⟩]) (.seq (.seq (.reg [⟨some 11, .mov (.t 0), none⟩, ⟨some 12, .rng (.t 11), none⟩]) (.kl [11] (.blk 0 (.loop lp119_0)))) (.seq (.reg [⟨some 52, .mov (.t 7), none⟩, ⟨some 6, .mov (.t 52), none⟩]) (.kl [7, 52] (.ret)))))), [.tmp 6]⟩
-- lp305_0 HEAD [0, 6, 7, 8, 21, 22] | exit 0: [6]
/-- impl.way -/
def lb305_0 : C := .kl [46] (.seq (.reg [⟨some 23, .bin .lss (.t 22) (.t 21), none⟩]) (.seq (.cond (.t 23) (.skip) (.kl [0, 7, 8, 21, 22, 23] (.exit 0))) (.kl [23] (.seq (.blk 1 (.seq (.reg [⟨some 24, .mov (.t 22), none⟩, ⟨some 9, .mov (.t 24), none⟩]) (.kl [24] (.seq (.reg [⟨some 25, .mov (.t 0), none⟩, ⟨some 26, .mov (.t 9), none⟩, ⟨some 27, .idxS (.t 25) (.t 26), none⟩]) (.kl [25, 26] (.blk 2 (.seq (.reg [⟨some 29, .bin .eql (.t 27) (.c (.int .u8 84)), none⟩, ⟨some 28, .mov (.t 29), none⟩]) (.kl [29] (.cond (.t 28) (.kl [27, 28] (.seq (.reg [⟨some 30, .mov (.t 6), none⟩, ⟨some 31, .mov (.t 7), none⟩, ⟨some 32, .mov (.t 9), none⟩, ⟨some 33, .bin .sub (.t 31) (.t 32), none⟩, ⟨some 34, .bin .add (.t 30) (.t 33), none⟩, ⟨some 6, .mov (.t 34), none⟩]) (.kl [9, 30, 31, 32, 33, 34] (.reg [⟨some 35, .mov (.t 7), none⟩, ⟨some 36, .bin .add (.t 35) (.c (.int .i64 1)), none⟩, ⟨some 7, .mov (.t 36), none⟩])))) (.kl [28] (.seq (.reg [⟨some 38, .bin .eql (.t 27) (.c (.int .u8 70)), none⟩, ⟨some 37, .mov (.t 38), none⟩]) (.kl [27, 38] (.cond (.t 37) (.kl [37] (.seq (.reg [⟨some 39, .mov (.t 6), none⟩, ⟨some 40, .mov (.t 9), none⟩, ⟨some 41, .mov (.t 8), none⟩, ⟨some 42, .bin .sub (.t 40) (.t 41), none⟩, ⟨some 43, .bin .add (.t 39) (.t 42), none⟩, ⟨some 6, .mov (.t 43), none⟩]) (.kl [9, 39, 40, 41, 42, 43] (.reg [⟨some 44, .mov (.t 8), none⟩, ⟨some 45, .bin .add (.t 44) (.c (.int .i64 1)), none⟩, ⟨some 8, .mov (.t 45), none⟩])))) (.skip)))))))))))))) (.kl [9, 35, 36, 37, 44, 45] (.reg [⟨some 46, .bin .add (.t 22) (.c (.int .i64 1)), none⟩, ⟨some 22, .mov (.t 46), none⟩]))))))
def lp305_0 : C := lb305_0
def fi305 : FI := ⟨.seq (.reg [⟨some 2, .mov (.c (.int .i64 0)), none⟩]) (.kl [2] (.seq (.reg [⟨some 11, .mov (.t 0), none⟩, ⟨some 12, .call 189 [.t 11], none⟩, ⟨some 10, .mov (.t 12), none⟩, ⟨some 13, .prj 0 (.t 10), none⟩, ⟨some 14, .prj 1 (.t 10), none⟩, ⟨some 15, .prj 2 (.t 10), none⟩, ⟨some 3, .mov (.t 13), none⟩, ⟨some 4, .mov (.t 14), none⟩, ⟨some 5, .mov (.t 15), none⟩]) (.kl [4, 5, 10, 11, 12, 13, 14, 15] (.seq (.reg [⟨some 16, .mov (.t 0), none⟩, ⟨some 17, .lenS (.t 16), none⟩, ⟨some 18, .mov (.t 3), none⟩, ⟨some 19, .bin .sub (.t 17) (.t 18), none⟩, ⟨some 6, .mov (.c (.int .i64 0)), none⟩, ⟨some 7, .mov (.t 19), none⟩, ⟨some 8, .mov (.c (.int .i64 0)), none⟩]) (.kl [3, 16, 17, 18, 19] (.seq (.seq (.reg [⟨some 20, .mov (.t 0), none⟩, ⟨some 21, .lenS (.t 20), none⟩, ⟨some 22, .mov (.c (.int .i64 0)), none⟩]) (.kl [20] (.blk 0 (.loop lp305_0)))) (.seq (.reg [⟨some 47, .mov (.t 6), none⟩, ⟨some 2, .mov (.t 47), none⟩]) (.kl [6, 47] (.ret))))))))), [.tmp 2]⟩
/-- spec.liWay -/
def fi297 : FI := ⟨.seq (.reg [⟨some 2, .mov (.c (.int .i64 0)), none⟩]) (.kl [2] (.seq (.reg [⟨some 4, .mov (.t 0), none⟩, ⟨some 5, .call 251 [.t 4], none⟩, ⟨some 3, .mov (.t 5), none⟩]) (.kl [4, 5] (.seq (.reg [⟨some 6, .mov (.t 3), none⟩, ⟨some 7, .call 302 [.t 6, .c (.int .u8 84)], none⟩, ⟨some 8, .mov (.t 0), none⟩, ⟨some 9, .call 302 [.t 8, .c (.int .u8 84)], none⟩, ⟨some 10, .bin .sub (.t 7) (.t 9), none⟩, ⟨some 11, .mov (.t 0), none⟩, ⟨some 12, .call 302 [.t 11, .c (.int .u8 70)], none⟩, ⟨some 13, .bin .add (.t 10) (.t 12), none⟩, ⟨some 14, .mov (.t 3), none⟩, ⟨some 15, .call 302 [.t 14, .c (.int .u8 70)], none⟩, ⟨some 16, .bin .sub (.t 13) (.t 15), none⟩, ⟨some 2, .mov (.t 16), none⟩]) (.kl [0, 3, 6, 7, 8, 9, 10, 11, 12, 13, 14, 15, 16] (.ret)))))), [.tmp 2]⟩
-- lp191_0 HEAD [0, 3, 4, 7, 8] | exit 0: [3]
/-- impl.pairs -/
def lb191_0 : C := .kl [23] (.seq (.reg [⟨some 9, .bin .lss (.t 8) (.t 7), none⟩]) (.seq (.cond (.t 9) (.skip) (.kl [0, 4, 7, 8, 9] (.exit 0))) (.kl [9] (.seq (.blk 1 (.seq (.reg [⟨some 10, .mov (.t 8), none⟩, ⟨some 5, .mov (.t 10), none⟩]) (.kl [10] (.seq (.reg [⟨some 11, .mov (.t 0), none⟩, ⟨some 12, .mov (.t 5), none⟩, ⟨some 13, .idxS (.t 11) (.t 12), none⟩]) (.kl [5, 11, 12] (.blk 2 (.seq (.reg [⟨some 15, .bin .eql (.t 13) (.c (.int .u8 84)), none⟩, ⟨some 14, .mov (.t 15), none⟩]) (.kl [15] (.cond (.t 14) (.kl [13, 14] (.reg [⟨some 16, .mov (.t 4), none⟩, ⟨some 17, .bin .add (.t 16) (.c (.int .i64 1)), none⟩, ⟨some 4, .mov (.t 17), none⟩])) (.kl [14] (.seq (.reg [⟨some 19, .bin .eql (.t 13) (.c (.int .u8 70)), none⟩, ⟨some 18, .mov (.t 19), none⟩]) (.kl [13, 19] (.cond (.t 18) (.kl [18] (.reg [⟨some 20, .mov (.t 3), none⟩, ⟨some 21, .mov (.t 4), none⟩, ⟨some 22, .bin .add (.t 20) (.t 21), none⟩, ⟨some 3, .mov (.t 22), none⟩])) (.skip)))))))))))))) (.kl [16, 17, 18, 20, 21, 22] (.reg [⟨some 23, .bin .add (.t 8) (.c (.int .i64 1)), none⟩, ⟨some 8, .mov (.t 23), none⟩]))))))
def lp191_0 : C := lb191_0
def fi191 : FI := ⟨.seq (.reg [⟨some 2, .mov (.c (.int .i64 0)), none⟩]) (.kl [2] (.seq (.reg [⟨some 3, .mov (.c (.int .i64 0)), none⟩, ⟨some 4, .mov (.c (.int .i64 0)), none⟩]) (.seq (.seq (.reg [⟨some 6, .mov (.t 0), none⟩, ⟨some 7, .lenS (.t 6), none⟩, ⟨some 8, .mov (.c (.int .i64 0)), none⟩]) (.kl [6] (.blk 0 (.loop lp191_0)))) (.seq (.reg [⟨some 24, .mov (.t 3), none⟩, ⟨some 2, .mov (.t 24), none⟩]) (.kl [3, 24] (.ret)))))), [.tmp 2]⟩
-- lp196_0 HEAD [0, 3, 4, 5] | exit 0: [3]
/-- spec.liPairs -/
def lb196_0 : C := .kl [10, 11] (.seq (.seq (.reg [⟨some 6, .mov (.t 5), none⟩, ⟨some 7, .mov (.t 0), none⟩, ⟨some 8, .lenS (.t 7), none⟩, ⟨some 9, .bin .lss (.t 6) (.t 8), none⟩]) (.kl [6, 7, 8] (.cond (.t 9) (.skip) (.kl [0, 4, 5, 9] (.exit 0))))) (.kl [9] (.seq (.blk 1 (.seq (.reg [⟨some 12, .mov (.t 0), none⟩, ⟨some 13, .mov (.t 5), none⟩, ⟨some 14, .idxS (.t 12) (.t 13), none⟩]) (.kl [12, 13] (.blk 2 (.seq (.reg [⟨some 16, .bin .eql (.t 14) (.c (.int .u8 84)), none⟩, ⟨some 15, .mov (.t 16), none⟩]) (.kl [16] (.cond (.t 15) (.kl [14, 15] (.reg [⟨some 17, .mov (.t 4), none⟩, ⟨some 18, .bin .add (.t 17) (.c (.int .i64 1)), none⟩, ⟨some 4, .mov (.t 18), none⟩])) (.kl [15] (.seq (.reg [⟨some 20, .bin .eql (.t 14) (.c (.int .u8 70)), none⟩, ⟨some 19, .mov (.t 20), none⟩]) (.kl [14, 20] (.cond (.t 19) (.kl [19] (.reg [⟨some 21, .mov (.t 3), none⟩, ⟨some 22, .mov (.t 4), none⟩, ⟨some 23, .bin .add (.t 21) (.t 22), none⟩, ⟨some 3, .mov (.t 23), none⟩])) (.skip)))))))))))) (.kl [17, 18, 19, 21, 22, 23] (.reg [⟨some 10, .mov (.t 5), none⟩, ⟨some 11, .bin .add (.t 10) (.c (.int .i64 1)), none⟩, ⟨some 5, .mov (.t 11), none⟩])))))
def lp196_0 : C := lb196_0
def fi196 : FI := ⟨.seq (.reg [⟨some 2, .mov (.c (.int .i64 0)), none⟩]) (.kl [2] (.seq (.reg [⟨some 3, .mov (.c (.int .i64 0)), none⟩, ⟨some 4, .mov (.c (.int .i64 0)), none⟩]) (.seq (.seq (.reg [⟨some 5, .mov (.c (.int .i64 0)), none⟩]) (.blk 0 (.loop lp196_0))) (.seq (.reg [⟨some 24, .mov (.t 3), none⟩, ⟨some 2, .mov (.t 24), none⟩]) (.kl [3, 24] (.ret)))))), [.tmp 2]⟩
/-- impl.isBlocked -/
def fi274 : FI := ⟨.seq (.reg [⟨some 2, .mov (.c (.bool false)), none⟩]) (.kl [2] (.seq (.reg [⟨some 3, .mov (.t 0), none⟩, ⟨some 4, .call 105 [.t 3, .c (.str [84, 70])], none⟩, ⟨some 5, .lenV (.t 4), none⟩, ⟨some 6, .bin .eql (.t 5) (.c (.int .i64 0)), none⟩, ⟨some 2, .mov (.t 6), none⟩]) (.kl [0, 3, 4, 5, 6] (.ret)))), [.tmp 2]⟩
-- lp80_0 HEAD [3, 10, 11, 12] | exit 0: [3]
/-- impl.turned -/
def lb80_0 : C := .kl [22] (.seq (.reg [⟨some 13, .bin .lss (.t 12) (.t 11), none⟩]) (.seq (.cond (.t 13) (.skip) (.kl [10, 11, 12, 13] (.exit 0))) (.kl [13] (.seq (.blk 1 (.seq (.reg [⟨some 14, .mov (.t 12), none⟩, ⟨some 15, .iaddr 1 (.t 10) (.t 12), none⟩, ⟨some 16, .load false 1 (.t 15), none⟩, ⟨some 4, .mov (.t 14), none⟩, ⟨some 5, .mov (.t 16), none⟩]) (.kl [14, 15, 16] (.reg [⟨some 17, .mov (.t 3), none⟩, ⟨some 18, .mov (.t 4), none⟩, ⟨some 19, .mov (.t 5), none⟩, ⟨some 20, .call 109 [.t 19], none⟩, ⟨some 21, .iaddr 1 (.t 17) (.t 18), none⟩, ⟨none, .store 1 (.t 21) (.t 20), none⟩])))) (.kl [4, 5, 17, 18, 19, 20, 21] (.reg [⟨some 22, .bin .add (.t 12) (.c (.int .i64 1)), none⟩, ⟨some 12, .mov (.t 22), none⟩]))))))
def lp80_0 : C := lb80_0
def fi80 : FI := ⟨.seq (.reg [⟨some 2, .mov (.c (.str [])), none⟩]) (.kl [2] (.seq (.reg [⟨some 6, .mov (.t 0), none⟩, ⟨some 7, .toB (.t 6), none⟩, ⟨some 3, .mov (.t 7), none⟩]) (.kl [0, 6, 7] (.seq (.reg [⟨some 8, .mov (.t 3), none⟩, ⟨some 9, .call 110 [.t 8], none⟩]) (.kl [8, 9] (.seq (.seq (.reg [⟨some 10, .mov (.t 3), none⟩, ⟨some 11, .lenV (.t 10), none⟩, ⟨some 12, .mov (.c (.int .i64 0)), none⟩]) (.blk 0 (.loop lp80_0))) (.seq (.reg [⟨some 23, .mov (.t 3), none⟩, ⟨some 24, .ofB (.t 23), none⟩, ⟨some 2, .mov (.t 24), none⟩]) (.kl [3, 23, 24] (.ret))))))))), [.tmp 2]⟩
-- lp81_0 HEAD [0, 3, 4] | exit 0: [3]
/-- spec.liOther -/
def lb81_0 : C := .kl [10, 11] (.seq (.seq (.reg [⟨some 8, .mov (.t 4), none⟩, ⟨some 9, .bin .geq (.t 8) (.c (.int .i64 0)), none⟩]) (.kl [8] (.cond (.t 9) (.skip) (.kl [0, 4, 9] (.exit 0))))) (.kl [9] (.seq (.blk 1 (.seq (.reg [⟨some 12, .mov (.t 0), none⟩, ⟨some 13, .mov (.t 4), none⟩, ⟨some 14, .idxS (.t 12) (.t 13), none⟩]) (.kl [12, 13] (.blk 2 (.seq (.reg [⟨some 18, .bin .eql (.t 14) (.c (.int .u8 84)), none⟩, ⟨some 17, .mov (.t 18), none⟩]) (.kl [18] (.cond (.t 17) (.kl [14, 17] (.reg [⟨some 19, .mov (.t 3), none⟩, ⟨some 20, .bin .add (.t 19) (.c (.str [70])), none⟩, ⟨some 3, .mov (.t 20), none⟩])) (.kl [17] (.seq (.reg [⟨some 22, .bin .eql (.t 14) (.c (.int .u8 70)), none⟩, ⟨some 21, .mov (.t 22), none⟩]) (.kl [14, 22] (.cond (.t 21) (.kl [21] (.reg [⟨some 23, .mov (.t 3), none⟩, ⟨some 24, .bin .add (.t 23) (.c (.str [84])), none⟩, ⟨some 3, .mov (.t 24), none⟩])) (.kl [21] (.reg [⟨some 15, .mov (.t 3), none⟩, ⟨some 16, .bin .add (.t 15) (.c (.str [46])), none⟩, ⟨some 3, .mov (.t 16), none⟩]))))))))))))) (.kl [15, 16, 19, 20, 23, 24] (.reg [⟨some 10, .mov (.t 4), none⟩, ⟨some 11, .bin .sub (.t 10) (.c (.int .i64 1)), none⟩, ⟨some 4, .mov (.t 11), none⟩])))))
def lp81_0 : C := lb81_0
def fi81 : FI := ⟨.seq (.reg [⟨some 2, .mov (.c (.str [])), none⟩]) (.kl [2] (.seq (.reg [⟨some 3, .mov (.c (.str [])), none⟩]) (.seq (.seq (.reg [⟨some 5, .mov (.t 0), none⟩, ⟨some 6, .lenS (.t 5), none⟩, ⟨some 7, .bin .sub (.t 6) (.c (.int .i64 1)), none⟩, ⟨some 4, .mov (.t 7), none⟩]) (.kl [5, 6, 7] (.blk 0 (.loop lp81_0)))) (.seq (.reg [⟨some 25, .mov (.t 3), none⟩, ⟨some 2, .mov (.t 25), none⟩]) (.kl [3, 25] (.ret)))))), [.tmp 2]⟩
/-- impl.isLineOf -/
def fi82 : FI := ⟨.seq (.reg [⟨some 4, .mov (.c (.bool false)), none⟩]) (.kl [4] (.seq (.reg [⟨some 5, .mov (.t 0), none⟩, ⟨some 6, .lenS (.t 5), none⟩, ⟨some 7, .mov (.t 1), none⟩, ⟨some 8, .call 74 [.t 6, .c (.int .i64 1), .t 7], none⟩, ⟨some 9, .mov (.t 8), none⟩, ⟨some 10, .mov (.t 0), some (9, true)⟩, ⟨some 11, .call 111 [.t 10, .c (.str [46, 70, 84])], some (9, true)⟩, ⟨some 12, .bin .eql (.t 11) (.c (.str [])), some (9, true)⟩, ⟨some 13, .pick (.t 9) (.t 12) (.c (.bool false)), none⟩, ⟨some 4, .mov (.t 13), none⟩]) (.kl [0, 1, 5, 6, 7, 8, 9, 10, 11, 12, 13] (.ret)))), [.tmp 4]⟩
/-- impl.can -/
def fi435 : FI := ⟨.seq (.reg [⟨some 3, .box (.t 1), none⟩, ⟨some 4, .mov (.c (.bool false)), none⟩]) (.kl [1, 4] (.seq (.seq (.reg [⟨some 7, .faddr 0 1 (.t 3), none⟩, ⟨some 8, .load false 1 (.t 7), none⟩, ⟨some 9, .mov (.t 0), none⟩, ⟨some 10, .lenS (.t 9), none⟩, ⟨some 11, .bin .sub (.t 10) (.c (.int .i64 1)), none⟩, ⟨some 12, .call 74 [.t 8, .c (.int .i64 0), .t 11], none⟩, ⟨some 13, .un .not (.t 12), none⟩]) (.kl [7, 8, 9, 10, 11, 12] (.cond (.t 13) (.kl [0, 3, 13] (.seq (.reg [⟨some 4, .mov (.c (.bool false)), none⟩]) (.ret))) (.skip)))) (.kl [13] (.seq (.reg [⟨some 15, .mov (.t 0), none⟩, ⟨some 16, .faddr 0 1 (.t 3), none⟩, ⟨some 17, .load false 1 (.t 16), none⟩, ⟨some 18, .call 127 [.t 15, .t 17], none⟩, ⟨some 14, .mov (.t 18), none⟩, ⟨some 19, .prj 0 (.t 14), none⟩, ⟨some 20, .prj 1 (.t 14), none⟩, ⟨some 5, .mov (.t 19), none⟩, ⟨some 6, .mov (.t 20), none⟩]) (.kl [0, 14, 15, 16, 17, 18, 19, 20] (.seq (.reg [⟨some 21, .mov (.t 6), none⟩, ⟨some 22, .mov (.t 21), none⟩, ⟨some 23, .mov (.t 5), some (22, true)⟩, ⟨some 24, .faddr 1 1 (.t 3), some (22, true)⟩, ⟨some 25, .load false 1 (.t 24), some (22, true)⟩, ⟨some 26, .bin .eql (.t 23) (.t 25), some (22, true)⟩, ⟨some 27, .pick (.t 22) (.t 26) (.c (.bool false)), none⟩, ⟨some 4, .mov (.t 27), none⟩]) (.kl [3, 5, 6, 21, 22, 23, 24, 25, 26, 27] (.ret)))))))), [.tmp 4]⟩
/-- impl.made -/
def fi61 : FI := ⟨.seq (.reg [⟨some 3, .box (.t 1), none⟩, ⟨some 4, .mov (.c (.str [])), none⟩]) (.kl [1, 4] (.seq (.reg [⟨some 6, .mov (.t 0), none⟩, ⟨some 7, .toB (.t 6), none⟩, ⟨some 5, .mov (.t 7), none⟩]) (.kl [0, 6, 7] (.seq (.drw [⟨some 8, .mov (.t 5), none⟩, ⟨some 9, .faddr 1 1 (.t 3), none⟩, ⟨some 10, .load false 1 (.t 9), none⟩, ⟨some 11, .mov (.t 5), none⟩, ⟨some 12, .faddr 0 1 (.t 3), none⟩, ⟨some 13, .load false 1 (.t 12), none⟩, ⟨some 14, .mov (.t 5), none⟩, ⟨some 15, .faddr 0 1 (.t 3), none⟩, ⟨some 16, .load false 1 (.t 15), none⟩, ⟨some 17, .iaddr 1 (.t 14) (.t 16), none⟩, ⟨some 18, .load false 1 (.t 17), none⟩, ⟨some 19, .iaddr 1 (.t 8) (.t 10), none⟩, ⟨none, .store 1 (.t 19) (.t 18), none⟩, ⟨some 20, .iaddr 1 (.t 11) (.t 13), none⟩, ⟨none, .store 1 (.t 20) (.c (.int .u8 46)), none⟩] [(5, 12)]) (.kl [3, 8, 9, 10, 11, 12, 13, 14, 15, 16, 17, 18, 19, 20] (.seq (.reg [⟨some 21, .mov (.t 5), none⟩, ⟨some 22, .ofB (.t 21), none⟩, ⟨some 4, .mov (.t 22), none⟩]) (.kl [5, 21, 22] (.ret)))))))), [.tmp 4]⟩
/-- (impl.Move).isJump -/
def fi436 : FI := ⟨.seq (.reg [⟨some 1, .box (.t 0), none⟩, ⟨some 2, .mov (.c (.bool false)), none⟩]) (.kl [0, 2] (.seq (.reg [⟨some 3, .faddr 1 1 (.t 1), none⟩, ⟨some 4, .load false 1 (.t 3), none⟩, ⟨some 5, .faddr 0 1 (.t 1), none⟩, ⟨some 6, .load false 1 (.t 5), none⟩, ⟨some 7, .bin .sub (.t 4) (.t 6), none⟩, ⟨some 8, .bin .neq (.t 7) (.c (.int .i64 1)), none⟩, ⟨some 9, .mov (.t 8), none⟩, ⟨some 10, .faddr 0 1 (.t 1), some (9, true)⟩, ⟨some 11, .load false 1 (.t 10), some (9, true)⟩, ⟨some 12, .faddr 1 1 (.t 1), some (9, true)⟩, ⟨some 13, .load false 1 (.t 12), some (9, true)⟩, ⟨some 14, .bin .sub (.t 11) (.t 13), some (9, true)⟩, ⟨some 15, .bin .neq (.t 14) (.c (.int .i64 1)), some (9, true)⟩, ⟨some 16, .pick (.t 9) (.t 15) (.c (.bool false)), none⟩, ⟨some 2, .mov (.t 16), none⟩]) (.kl [1, 3, 4, 5, 6, 7, 8, 9, 10, 11, 12, 13, 14, 15, 16] (.ret)))), [.tmp 2]⟩
/-- spec.DrawCanMove -/
def fi437 : FI := ⟨.seq (.reg [⟨some 2, .mov (.c (.str [])), none⟩, ⟨some 3, .new [.int .i64 0, .int .i64 0], none⟩]) (.kl [2] (.seq (.reg [⟨some 8, .mov (.t 0), none⟩, ⟨some 9, .build [.nilS, .int .i64 0, .int .u64 0] [(0, 1, .t 8)], none⟩, ⟨some 10, .box (.t 9), none⟩, ⟨some 4, .mov (.t 10), none⟩]) (.kl [0, 8, 9, 10] (.seq (.reg [⟨some 11, .mov (.t 4), none⟩, ⟨some 12, .call 101 [.t 11], none⟩, ⟨some 5, .mov (.t 12), none⟩]) (.kl [11, 12] (.seq (.seq (.reg [⟨some 14, .mov (.t 5), none⟩, ⟨some 15, .call 374 [.t 14], none⟩, ⟨some 13, .mov (.t 15), none⟩, ⟨some 16, .prj 0 (.t 13), none⟩, ⟨some 17, .prj 1 (.t 13), none⟩, ⟨some 6, .mov (.t 16), none⟩, ⟨some 7, .mov (.t 17), none⟩]) (.kl [13, 14, 15, 16, 17] (.seq (.reg [⟨some 18, .mov (.t 7), none⟩, ⟨some 19, .mov (.t 18), none⟩, ⟨some 20, .mov (.t 6), some (19, true)⟩, ⟨some 21, .lenV (.t 20), some (19, true)⟩, ⟨some 22, .bin .gtr (.t 21) (.c (.int .i64 0)), some (19, true)⟩, ⟨some 23, .pick (.t 19) (.t 22) (.c (.bool false)), none⟩, ⟨some 24, .mov (.t 23), none⟩, ⟨some 25, .mov (.t 4), some (24, true)⟩, ⟨some 26, .call 64 [.t 25, .c (.int .i64 3)], some (24, true)⟩, ⟨some 27, .un .not (.t 26), some (24, true)⟩, ⟨some 28, .pick (.t 24) (.t 27) (.c (.bool false)), none⟩]) (.kl [7, 18, 19, 20, 21, 22, 23, 24, 25, 26, 27] (.cond (.t 28) (.kl [28] (.seq (.drw [⟨some 29, .mov (.t 5), none⟩, ⟨some 30, .mov (.t 6), none⟩, ⟨some 31, .mov (.t 4), none⟩, ⟨some 32, .mov (.t 6), none⟩, ⟨some 33, .lenV (.t 32), none⟩, ⟨some 34, .call 63 [.t 31, .t 33], none⟩, ⟨some 35, .iaddr 2 (.t 30) (.t 34), none⟩, ⟨some 36, .load true 2 (.t 35), none⟩, ⟨some 2, .mov (.t 29), none⟩, ⟨none, .store 2 (.t 3) (.t 36), none⟩] []) (.kl [4, 5, 6, 29, 30, 31, 32, 33, 34, 35, 36] (.ret)))) (.skip)))))) (.kl [6, 28] (.seq (.reg [⟨some 37, .mov (.t 5), none⟩, ⟨some 38, .mov (.t 4), none⟩, ⟨some 39, .lit 1 7 [.int .i64 0, .int .i64 0, .int .i64 0, .int .i64 0, .int .i64 0, .int .i64 0, .int .i64 0] [(0, 1, .c (.int .i64 0)), (1, 1, .c (.int .i64 1)), (2, 1, .c (.int .i64 2)), (3, 1, .c (.int .i64 3)), (4, 1, .c (.int .i64 (-1))), (5, 1, .c (.int .i64 12)), (6, 1, .c (.int .i64 4611686018427387904))], none⟩, ⟨some 40, .call 62 [.t 38, .t 39], none⟩, ⟨some 41, .mov (.t 4), none⟩, ⟨some 42, .lit 1 7 [.int .i64 0, .int .i64 0, .int .i64 0, .int .i64 0, .int .i64 0, .int .i64 0, .int .i64 0] [(0, 1, .c (.int .i64 0)), (1, 1, .c (.int .i64 1)), (2, 1, .c (.int .i64 2)), (3, 1, .c (.int .i64 3)), (4, 1, .c (.int .i64 (-1))), (5, 1, .c (.int .i64 12)), (6, 1, .c (.int .i64 (-9223372036854775808)))], none⟩, ⟨some 43, .call 62 [.t 41, .t 42], none⟩, ⟨some 44, .build [.int .i64 0, .int .i64 0] [(0, 1, .t 40), (1, 1, .t 43)], none⟩, ⟨some 2, .mov (.t 37), none⟩, ⟨none, .store 2 (.t 3) (.t 44), none⟩]) (.kl [4, 5, 37, 38, 39, 40, 41, 42, 43, 44] (.ret)))))))))), [.tmp 2, .cell true 2 3]⟩
/-- spec.liCan -/
def fi130 : FI := ⟨.seq (.reg [⟨some 3, .box (.t 1), none⟩, ⟨some 4, .mov (.c (.bool false)), none⟩]) (.kl [1, 4] (.seq (.seq (.reg [⟨some 7, .faddr 0 1 (.t 3), none⟩, ⟨some 8, .load false 1 (.t 7), none⟩, ⟨some 9, .mov (.t 0), none⟩, ⟨some 10, .lenS (.t 9), none⟩, ⟨some 11, .bin .sub (.t 10) (.c (.int .i64 1)), none⟩, ⟨some 12, .call 77 [.t 8, .c (.int .i64 0), .t 11], none⟩, ⟨some 13, .un .not (.t 12), none⟩, ⟨some 14, .mov (.t 13), none⟩, ⟨some 15, .faddr 1 1 (.t 3), some (14, false)⟩, ⟨some 16, .load false 1 (.t 15), some (14, false)⟩, ⟨some 17, .mov (.t 0), some (14, false)⟩, ⟨some 18, .lenS (.t 17), some (14, false)⟩, ⟨some 19, .bin .sub (.t 18) (.c (.int .i64 1)), some (14, false)⟩, ⟨some 20, .call 77 [.t 16, .c (.int .i64 0), .t 19], some (14, false)⟩, ⟨some 21, .un .not (.t 20), some (14, false)⟩, ⟨some 22, .pick (.t 14) (.c (.bool true)) (.t 21), none⟩, ⟨some 23, .mov (.t 22), none⟩, ⟨some 24, .mov (.t 0), some (23, false)⟩, ⟨some 25, .faddr 1 1 (.t 3), some (23, false)⟩, ⟨some 26, .load false 1 (.t 25), some (23, false)⟩, ⟨some 27, .idxS (.t 24) (.t 26), some (23, false)⟩, ⟨some 28, .bin .neq (.t 27) (.c (.int .u8 46)), some (23, false)⟩, ⟨some 29, .pick (.t 23) (.c (.bool true)) (.t 28), none⟩]) (.kl [7, 8, 9, 10, 11, 12, 13, 14, 15, 16, 17, 18, 19, 20, 21, 22, 23, 24, 25, 26, 27, 28] (.cond (.t 29) (.kl [0, 3, 29] (.seq (.reg [⟨some 4, .mov (.c (.bool false)), none⟩]) (.ret))) (.skip)))) (.kl [29] (.seq (.reg [⟨some 5, .mov (.c (.int .i64 1)), none⟩, ⟨some 6, .mov (.c (.int .u8 70)), none⟩]) (.seq (.seq (.reg [⟨some 30, .mov (.t 0), none⟩, ⟨some 31, .faddr 0 1 (.t 3), none⟩, ⟨some 32, .load false 1 (.t 31), none⟩, ⟨some 33, .idxS (.t 30) (.t 32), none⟩]) (.kl [30, 31, 32] (.blk 0 (.seq (.reg [⟨some 35, .bin .eql (.t 33) (.c (.int .u8 84)), none⟩, ⟨some 34, .mov (.t 35), none⟩]) (.kl [35] (.cond (.t 34) (.skip) (.kl [5, 6, 34] (.seq (.reg [⟨some 37, .bin .eql (.t 33) (.c (.int .u8 70)), none⟩, ⟨some 36, .mov (.t 37), none⟩]) (.kl [33, 37] (.cond (.t 36) (.kl [36] (.seq (.reg [⟨some 5, .mov (.c (.int .i64 (-1))), none⟩]) (.reg [⟨some 6, .mov (.c (.int .u8 84)), none⟩]))) (.kl [0, 3, 36] (.seq (.reg [⟨some 4, .mov (.c (.bool false)), none⟩]) (.ret))))))))))))) (.kl [33, 34] (.seq (.reg [⟨some 38, .faddr 1 1 (.t 3), none⟩, ⟨some 39, .load false 1 (.t 38), none⟩, ⟨some 40, .faddr 0 1 (.t 3), none⟩, ⟨some 41, .load false 1 (.t 40), none⟩, ⟨some 42, .mov (.t 5), none⟩, ⟨some 43, .bin .add (.t 41) (.t 42), none⟩, ⟨some 44, .bin .eql (.t 39) (.t 43), none⟩, ⟨some 45, .mov (.t 44), none⟩, ⟨some 46, .faddr 1 1 (.t 3), some (45, false)⟩, ⟨some 47, .load false 1 (.t 46), some (45, false)⟩, ⟨some 48, .faddr 0 1 (.t 3), some (45, false)⟩, ⟨some 49, .load false 1 (.t 48), some (45, false)⟩, ⟨some 50, .mov (.t 5), some (45, false)⟩, ⟨some 51, .bin .mul (.c (.int .i64 2)) (.t 50), some (45, false)⟩, ⟨some 52, .bin .add (.t 49) (.t 51), some (45, false)⟩, ⟨some 53, .bin .eql (.t 47) (.t 52), some (45, false)⟩, ⟨some 54, .mov (.t 53), some (45, false)⟩, ⟨some 55, .mov (.t 0), some (54, true)⟩, ⟨some 56, .faddr 0 1 (.t 3), some (54, true)⟩, ⟨some 57, .load false 1 (.t 56), some (54, true)⟩, ⟨some 58, .mov (.t 5), some (54, true)⟩, ⟨some 59, .bin .add (.t 57) (.t 58), some (54, true)⟩, ⟨some 60, .idxS (.t 55) (.t 59), some (54, true)⟩, ⟨some 61, .mov (.t 6), some (54, true)⟩, ⟨some 62, .bin .eql (.t 60) (.t 61), some (54, true)⟩, ⟨some 63, .pick (.t 54) (.t 62) (.c (.bool false)), some (45, false)⟩, ⟨some 64, .pick (.t 45) (.c (.bool true)) (.t 63), none⟩, ⟨some 4, .mov (.t 64), none⟩]) (.kl [0, 3, 5, 6, 38, 39, 40, 41, 42, 43, 44, 45, 46, 47, 48, 49, 50, 51, 52, 53, 54, 55, 56, 57, 58, 59, 60, 61, 62, 63, 64] (.ret))))))))), [.tmp 4]⟩
/-- spec.liMake -/
def fi66 : FI := ⟨.seq (.reg [⟨some 3, .box (.t 1), none⟩, ⟨some 4, .mov (.c (.str [])), none⟩]) (.kl [1, 4] (.seq (.reg [⟨some 6, .mov (.t 0), none⟩, ⟨some 7, .faddr 0 1 (.t 3), none⟩, ⟨some 8, .load false 1 (.t 7), none⟩, ⟨some 9, .faddr 0 1 (.t 3), none⟩, ⟨some 10, .load false 1 (.t 9), none⟩, ⟨some 11, .bin .add (.t 10) (.c (.int .i64 1)), none⟩, ⟨some 12, .subS (.t 6) (some (.t 8)) (some (.t 11)), none⟩, ⟨some 5, .mov (.t 12), none⟩]) (.kl [6, 7, 8, 9, 10, 11, 12] (.seq (.drw [⟨some 13, .mov (.t 0), none⟩, ⟨some 14, .faddr 0 1 (.t 3), none⟩, ⟨some 15, .load false 1 (.t 14), none⟩, ⟨some 16, .call 108 [.t 13, .t 15, .c (.str [46])], none⟩, ⟨some 17, .faddr 1 1 (.t 3), none⟩, ⟨some 18, .load false 1 (.t 17), none⟩, ⟨some 19, .mov (.t 5), none⟩, ⟨some 20, .call 108 [.t 16, .t 18, .t 19], none⟩, ⟨some 4, .mov (.t 20), none⟩] [(5, 3)]) (.kl [0, 3, 5, 13, 14, 15, 16, 17, 18, 19, 20] (.ret)))))), [.tmp 4]⟩
/-- spec.l1Abs -/
def fi438 : FI := ⟨.seq (.reg [⟨some 2, .mov (.c (.int .i64 0)), none⟩]) (.kl [2] (.seq (.reg [⟨some 3, .mov (.t 0), none⟩, ⟨some 4, .mov (.t 0), none⟩, ⟨some 5, .un .neg (.t 4), none⟩, ⟨some 6, .call 455 [.t 3, .t 5], none⟩, ⟨some 2, .mov (.t 6), none⟩]) (.kl [0, 3, 4, 5, 6] (.ret)))), [.tmp 2]⟩
/-- impl.count -/
def fi189 : FI := ⟨.seq (.reg [⟨some 2, .mov (.c (.int .i64 0)), none⟩, ⟨some 3, .mov (.c (.int .i64 0)), none⟩, ⟨some 4, .mov (.c (.int .i64 0)), none⟩]) (.kl [2, 3, 4] (.seq (.reg [⟨some 5, .mov (.t 0), none⟩, ⟨some 6, .call 131 [.t 5, .c (.str [84])], none⟩, ⟨some 7, .mov (.t 0), none⟩, ⟨some 8, .call 131 [.t 7, .c (.str [46])], none⟩, ⟨some 9, .mov (.t 0), none⟩, ⟨some 10, .call 131 [.t 9, .c (.str [70])], none⟩, ⟨some 2, .mov (.t 6), none⟩, ⟨some 3, .mov (.t 8), none⟩, ⟨some 4, .mov (.t 10), none⟩]) (.kl [0, 5, 6, 7, 8, 9, 10] (.ret)))), [.tmp 2, .tmp 3, .tmp 4]⟩
-- lp439_0 HEAD [2, 5, 7, 8] | exit 0: [5]
/-- impl.below -/
def lb439_0 : C := .kl [34] (.seq (.reg [⟨some 9, .bin .lss (.t 8) (.t 7), none⟩]) (.seq (.cond (.t 9) (.skip) (.kl [2, 7, 8, 9] (.exit 0))) (.kl [9] (.seq (.blk 1 (.seq (.reg [⟨some 10, .mov (.t 8), none⟩, ⟨some 6, .mov (.t 10), none⟩]) (.kl [10] (.seq (.reg [⟨some 11, .mov (.t 6), none⟩, ⟨some 12, .iaddrA 3 1 (.t 2) (.t 11), none⟩, ⟨some 13, .load false 1 (.t 12), none⟩, ⟨some 14, .bin .gtr (.t 13) (.c (.int .i64 0)), none⟩]) (.kl [11, 12, 13] (.cond (.t 14) (.kl [14] (.seq (.reg [⟨some 15, .mov (.t 6), none⟩, ⟨some 16, .iaddrA 3 1 (.t 2) (.t 15), none⟩, ⟨some 17, .load false 1 (.t 16), none⟩, ⟨some 18, .bin .sub (.t 17) (.c (.int .i64 1)), none⟩, ⟨some 19, .iaddrA 3 1 (.t 2) (.t 15), none⟩, ⟨none, .store 1 (.t 19) (.t 18), none⟩]) (.kl [15, 16, 17, 18, 19] (.seq (.reg [⟨some 20, .mov (.t 5), none⟩, ⟨some 21, .iaddrA 3 1 (.t 2) (.c (.int .i64 2)), none⟩, ⟨some 22, .load false 1 (.t 21), none⟩, ⟨some 23, .iaddrA 3 1 (.t 2) (.c (.int .i64 0)), none⟩, ⟨some 24, .load false 1 (.t 23), none⟩, ⟨some 25, .iaddrA 3 1 (.t 2) (.c (.int .i64 1)), none⟩, ⟨some 26, .load false 1 (.t 25), none⟩, ⟨some 27, .call 91 [.t 22, .t 24, .t 26], none⟩, ⟨some 28, .bin .add (.t 20) (.t 27), none⟩, ⟨some 5, .mov (.t 28), none⟩]) (.kl [20, 21, 22, 23, 24, 25, 26, 27, 28] (.reg [⟨some 29, .mov (.t 6), none⟩, ⟨some 30, .iaddrA 3 1 (.t 2) (.t 29), none⟩, ⟨some 31, .load false 1 (.t 30), none⟩, ⟨some 32, .bin .add (.t 31) (.c (.int .i64 1)), none⟩, ⟨some 33, .iaddrA 3 1 (.t 2) (.t 29), none⟩, ⟨none, .store 1 (.t 33) (.t 32), none⟩])))))) (.skip))))))) (.kl [6, 14, 29, 30, 31, 32, 33] (.reg [⟨some 34, .bin .add (.t 8) (.c (.int .i64 1)), none⟩, ⟨some 8, .mov (.t 34), none⟩]))))))
def lp439_0 : C := lb439_0
def fi439 : FI := ⟨.seq (.reg [⟨some 2, .box (.t 0), none⟩, ⟨some 4, .mov (.c (.int .i64 0)), none⟩]) (.kl [0, 4] (.seq (.reg [⟨some 5, .mov (.c (.int .i64 0)), none⟩]) (.seq (.seq (.reg [⟨some 7, .mov (.t 1), none⟩, ⟨some 8, .mov (.c (.int .i64 0)), none⟩]) (.kl [1] (.blk 0 (.loop lp439_0)))) (.seq (.reg [⟨some 35, .mov (.t 5), none⟩, ⟨some 4, .mov (.t 35), none⟩]) (.kl [5, 35] (.ret)))))), [.tmp 4]⟩
-- lp116_0 HEAD [0, 1, 5, 6] | exit 0: [5]
/-- spec.liCount -/
def lb116_0 : C := .kl [11, 12] (.seq (.seq (.reg [⟨some 7, .mov (.t 6), none⟩, ⟨some 8, .mov (.t 0), none⟩, ⟨some 9, .lenS (.t 8), none⟩, ⟨some 10, .bin .lss (.t 7) (.t 9), none⟩]) (.kl [7, 8, 9] (.cond (.t 10) (.skip) (.kl [0, 1, 6, 10] (.exit 0))))) (.kl [10] (.seq (.blk 1 (.seq (.reg [⟨some 13, .mov (.t 0), none⟩, ⟨some 14, .mov (.t 6), none⟩, ⟨some 15, .idxS (.t 13) (.t 14), none⟩, ⟨some 16, .mov (.t 1), none⟩, ⟨some 17, .bin .eql (.t 15) (.t 16), none⟩]) (.kl [13, 14, 15, 16] (.cond (.t 17) (.kl [17] (.reg [⟨some 18, .mov (.t 5), none⟩, ⟨some 19, .bin .add (.t 18) (.c (.int .i64 1)), none⟩, ⟨some 5, .mov (.t 19), none⟩])) (.skip))))) (.kl [17, 18, 19] (.reg [⟨some 11, .mov (.t 6), none⟩, ⟨some 12, .bin .add (.t 11) (.c (.int .i64 1)), none⟩, ⟨some 6, .mov (.t 12), none⟩])))))
def lp116_0 : C := lb116_0
def fi116 : FI := ⟨.seq (.reg [⟨some 4, .mov (.c (.int .i64 0)), none⟩]) (.kl [4] (.seq (.reg [⟨some 5, .mov (.c (.int .i64 0)), none⟩]) (.seq (.seq (.reg [⟨some 6, .mov (.c (.int .i64 0)), none⟩]) (.blk 0 (.loop lp116_0))) (.seq (.reg [⟨some 20, .mov (.t 5), none⟩, ⟨some 4, .mov (.t 20), none⟩]) (.kl [5, 20] (.ret)))))), [.tmp 4]⟩
-- lp440_0 HEAD [0, 1, 2, 7, 8] | exit 0: [1, 2, 7]
-- lp440_1 HEAD [1, 2, 7, 9] | exit 2: [7]
/-- spec.liMany -/
def lb440_1 : C := .kl [37, 38] (.seq (.seq (.reg [⟨some 34, .mov (.t 9), none⟩, ⟨some 35, .mov (.t 2), none⟩, ⟨some 36, .bin .leq (.t 34) (.t 35), none⟩]) (.kl [34, 35] (.cond (.t 36) (.skip) (.kl [1, 2, 9, 36] (.exit 2))))) (.kl [36] (.seq (.blk 3 (.reg [⟨some 39, .mov (.t 7), none⟩, ⟨some 40, .mov (.t 1), none⟩, ⟨some 41, .mov (.t 9), none⟩, ⟨some 42, .bin .add (.t 40) (.t 41), none⟩, ⟨some 43, .bin .mul (.t 39) (.t 42), none⟩, ⟨some 44, .mov (.t 9), none⟩, ⟨some 45, .bin .quo (.t 43) (.t 44), none⟩, ⟨some 7, .mov (.t 45), none⟩])) (.kl [39, 40, 41, 42, 43, 44, 45] (.reg [⟨some 37, .mov (.t 9), none⟩, ⟨some 38, .bin .add (.t 37) (.c (.int .i64 1)), none⟩, ⟨some 9, .mov (.t 38), none⟩])))))
def lp440_1 : C := lb440_1
def lb440_0 : C := .kl [23, 24] (.seq (.seq (.reg [⟨some 20, .mov (.t 8), none⟩, ⟨some 21, .mov (.t 0), none⟩, ⟨some 22, .bin .leq (.t 20) (.t 21), none⟩]) (.kl [20, 21] (.cond (.t 22) (.skip) (.kl [0, 8, 22] (.exit 0))))) (.kl [22] (.seq (.blk 1 (.reg [⟨some 25, .mov (.t 7), none⟩, ⟨some 26, .mov (.t 1), none⟩, ⟨some 27, .mov (.t 2), none⟩, ⟨some 28, .bin .add (.t 26) (.t 27), none⟩, ⟨some 29, .mov (.t 8), none⟩, ⟨some 30, .bin .add (.t 28) (.t 29), none⟩, ⟨some 31, .bin .mul (.t 25) (.t 30), none⟩, ⟨some 32, .mov (.t 8), none⟩, ⟨some 33, .bin .quo (.t 31) (.t 32), none⟩, ⟨some 7, .mov (.t 33), none⟩])) (.kl [25, 26, 27, 28, 29, 30, 31, 32, 33] (.reg [⟨some 23, .mov (.t 8), none⟩, ⟨some 24, .bin .add (.t 23) (.c (.int .i64 1)), none⟩, ⟨some 8, .mov (.t 24), none⟩])))))
def lp440_0 : C := lb440_0
def fi440 : FI := ⟨.seq (.reg [⟨some 6, .mov (.c (.int .i64 0)), none⟩]) (.kl [6] (.seq (.seq (.reg [⟨some 10, .mov (.t 0), none⟩, ⟨some 11, .bin .lss (.t 10) (.c (.int .i64 0)), none⟩, ⟨some 12, .mov (.t 11), none⟩, ⟨some 13, .mov (.t 1), some (12, false)⟩, ⟨some 14, .bin .lss (.t 13) (.c (.int .i64 0)), some (12, false)⟩, ⟨some 15, .pick (.t 12) (.c (.bool true)) (.t 14), none⟩, ⟨some 16, .mov (.t 15), none⟩, ⟨some 17, .mov (.t 2), some (16, false)⟩, ⟨some 18, .bin .lss (.t 17) (.c (.int .i64 0)), some (16, false)⟩, ⟨some 19, .pick (.t 16) (.c (.bool true)) (.t 18), none⟩]) (.kl [10, 11, 12, 13, 14, 15, 16, 17, 18] (.cond (.t 19) (.kl [0, 1, 2, 19] (.seq (.reg [⟨some 6, .mov (.c (.int .i64 0)), none⟩]) (.ret))) (.skip)))) (.kl [19] (.seq (.reg [⟨some 7, .mov (.c (.int .i64 1)), none⟩]) (.seq (.seq (.reg [⟨some 8, .mov (.c (.int .i64 1)), none⟩]) (.blk 0 (.loop lp440_0))) (.seq (.seq (.reg [⟨some 9, .mov (.c (.int .i64 1)), none⟩]) (.blk 2 (.loop lp440_1))) (.seq (.reg [⟨some 46, .mov (.t 7), none⟩, ⟨some 6, .mov (.t 46), none⟩]) (.kl [7, 46] (.ret))))))))), [.tmp 6]⟩
/-- impl.last -/
def fi237 : FI := ⟨.seq (.reg [⟨some 2, .mov (.c (.str [])), none⟩]) (.kl [2] (.seq (.reg [⟨some 7, .mov (.t 0), none⟩, ⟨some 8, .call 189 [.t 7], none⟩, ⟨some 6, .mov (.t 8), none⟩, ⟨some 9, .prj 0 (.t 6), none⟩, ⟨some 10, .prj 1 (.t 6), none⟩, ⟨some 11, .prj 2 (.t 6), none⟩, ⟨some 3, .mov (.t 9), none⟩, ⟨some 4, .mov (.t 10), none⟩, ⟨some 5, .mov (.t 11), none⟩]) (.kl [0, 6, 7, 8, 9, 10, 11] (.seq (.reg [⟨some 12, .mov (.t 5), none⟩, ⟨some 13, .mov (.t 4), none⟩, ⟨some 14, .mov (.t 3), none⟩, ⟨some 15, .call 246 [.c (.int .u8 70), .t 12, .t 13, .c (.int .u8 84), .t 14], none⟩, ⟨some 2, .mov (.t 15), none⟩]) (.kl [3, 4, 5, 12, 13, 14, 15] (.ret)))))), [.tmp 2]⟩
/-- spec.liLast -/
def fi251 : FI := ⟨.seq (.reg [⟨some 2, .mov (.c (.str [])), none⟩]) (.kl [2] (.seq (.reg [⟨some 3, .mov (.t 0), none⟩, ⟨some 4, .call 116 [.t 3, .c (.int .u8 70)], none⟩, ⟨some 5, .call 124 [.c (.str [70]), .t 4], none⟩, ⟨some 6, .mov (.t 0), none⟩, ⟨some 7, .call 116 [.t 6, .c (.int .u8 46)], none⟩, ⟨some 8, .call 124 [.c (.str [46]), .t 7], none⟩, ⟨some 9, .bin .add (.t 5) (.t 8), none⟩, ⟨some 10, .mov (.t 0), none⟩, ⟨some 11, .call 116 [.t 10, .c (.int .u8 84)], none⟩, ⟨some 12, .call 124 [.c (.str [84]), .t 11], none⟩, ⟨some 13, .bin .add (.t 9) (.t 12), none⟩, ⟨some 2, .mov (.t 13), none⟩]) (.kl [0, 3, 4, 5, 6, 7, 8, 9, 10, 11, 12, 13] (.ret)))), [.tmp 2]⟩
/-- impl.areCounts -/
def fi92 : FI := ⟨.seq (.reg [⟨some 8, .mov (.c (.bool false)), none⟩]) (.kl [8] (.seq (.reg [⟨some 9, .mov (.t 0), none⟩, ⟨some 10, .mov (.t 3), none⟩, ⟨some 11, .call 74 [.t 9, .c (.int .i64 0), .t 10], none⟩, ⟨some 12, .mov (.t 11), none⟩, ⟨some 13, .mov (.t 1), some (12, true)⟩, ⟨some 14, .mov (.t 3), some (12, true)⟩, ⟨some 15, .call 74 [.t 13, .c (.int .i64 0), .t 14], some (12, true)⟩, ⟨some 16, .pick (.t 12) (.t 15) (.c (.bool false)), none⟩, ⟨some 17, .mov (.t 16), none⟩, ⟨some 18, .mov (.t 2), some (17, true)⟩, ⟨some 19, .mov (.t 3), some (17, true)⟩, ⟨some 20, .call 74 [.t 18, .c (.int .i64 0), .t 19], some (17, true)⟩, ⟨some 21, .pick (.t 17) (.t 20) (.c (.bool false)), none⟩, ⟨some 22, .mov (.t 21), none⟩, ⟨some 23, .mov (.t 0), some (22, true)⟩, ⟨some 24, .mov (.t 1), some (22, true)⟩, ⟨some 25, .bin .add (.t 23) (.t 24), some (22, true)⟩, ⟨some 26, .mov (.t 2), some (22, true)⟩, ⟨some 27, .bin .add (.t 25) (.t 26), some (22, true)⟩, ⟨some 28, .mov (.t 3), some (22, true)⟩, ⟨some 29, .call 74 [.t 27, .c (.int .i64 1), .t 28], some (22, true)⟩, ⟨some 30, .pick (.t 22) (.t 29) (.c (.bool false)), none⟩, ⟨some 8, .mov (.t 30), none⟩]) (.kl [0, 1, 2, 3, 9, 10, 11, 12, 13, 14, 15, 16, 17, 18, 19, 20, 21, 22, 23, 24, 25, 26, 27, 28, 29, 30] (.ret)))), [.tmp 8]⟩
-- lp91_0 HEAD [0, 1, 2, 7, 8] | exit 0: [0, 1, 2, 7]
-- lp91_1 HEAD [0, 1, 2, 7, 9] | exit 2: [7]
/-- impl.lines -/
def lb91_1 : C := .kl [25, 26] (.seq (.seq (.reg [⟨some 22, .mov (.t 9), none⟩, ⟨some 23, .mov (.t 2), none⟩, ⟨some 24, .bin .leq (.t 22) (.t 23), none⟩]) (.kl [22, 23] (.cond (.t 24) (.skip) (.kl [0, 1, 2, 9, 24] (.exit 2))))) (.kl [24] (.seq (.blk 3 (.reg [⟨some 27, .mov (.t 7), none⟩, ⟨some 28, .mov (.t 0), none⟩, ⟨some 29, .mov (.t 1), none⟩, ⟨some 30, .bin .add (.t 28) (.t 29), none⟩, ⟨some 31, .mov (.t 9), none⟩, ⟨some 32, .bin .add (.t 30) (.t 31), none⟩, ⟨some 33, .bin .mul (.t 27) (.t 32), none⟩, ⟨some 34, .mov (.t 9), none⟩, ⟨some 35, .bin .quo (.t 33) (.t 34), none⟩, ⟨some 7, .mov (.t 35), none⟩])) (.kl [27, 28, 29, 30, 31, 32, 33, 34, 35] (.reg [⟨some 25, .mov (.t 9), none⟩, ⟨some 26, .bin .add (.t 25) (.c (.int .i64 1)), none⟩, ⟨some 9, .mov (.t 26), none⟩])))))
def lp91_1 : C := lb91_1
def lb91_0 : C := .kl [13, 14] (.seq (.seq (.reg [⟨some 10, .mov (.t 8), none⟩, ⟨some 11, .mov (.t 1), none⟩, ⟨some 12, .bin .leq (.t 10) (.t 11), none⟩]) (.kl [10, 11] (.cond (.t 12) (.skip) (.kl [8, 12] (.exit 0))))) (.kl [12] (.seq (.blk 1 (.reg [⟨some 15, .mov (.t 7), none⟩, ⟨some 16, .mov (.t 0), none⟩, ⟨some 17, .mov (.t 8), none⟩, ⟨some 18, .bin .add (.t 16) (.t 17), none⟩, ⟨some 19, .bin .mul (.t 15) (.t 18), none⟩, ⟨some 20, .mov (.t 8), none⟩, ⟨some 21, .bin .quo (.t 19) (.t 20), none⟩, ⟨some 7, .mov (.t 21), none⟩])) (.kl [15, 16, 17, 18, 19, 20, 21] (.reg [⟨some 13, .mov (.t 8), none⟩, ⟨some 14, .bin .add (.t 13) (.c (.int .i64 1)), none⟩, ⟨some 8, .mov (.t 14), none⟩])))))
def lp91_0 : C := lb91_0
def fi91 : FI := ⟨.seq (.reg [⟨some 6, .mov (.c (.int .i64 0)), none⟩]) (.kl [6] (.seq (.reg [⟨some 7, .mov (.c (.int .i64 1)), none⟩]) (.seq (.seq (.reg [⟨some 8, .mov (.c (.int .i64 1)), none⟩]) (.blk 0 (.loop lp91_0))) (.seq (.seq (.reg [⟨some 9, .mov (.c (.int .i64 1)), none⟩]) (.blk 2 (.loop lp91_1))) (.seq (.reg [⟨some 36, .mov (.t 7), none⟩, ⟨some 6, .mov (.t 36), none⟩]) (.kl [7, 36] (.ret))))))), [.tmp 6]⟩
/-- impl.within -/
def fi74 : FI := ⟨.seq (.reg [⟨some 6, .mov (.c (.bool false)), none⟩]) (.kl [6] (.seq (.reg [⟨some 7, .mov (.t 1), none⟩, ⟨some 8, .mov (.t 0), none⟩, ⟨some 9, .bin .leq (.t 7) (.t 8), none⟩, ⟨some 10, .mov (.t 9), none⟩, ⟨some 11, .mov (.t 0), some (10, true)⟩, ⟨some 12, .mov (.t 2), some (10, true)⟩, ⟨some 13, .bin .leq (.t 11) (.t 12), some (10, true)⟩, ⟨some 14, .pick (.t 10) (.t 13) (.c (.bool false)), none⟩, ⟨some 6, .mov (.t 14), none⟩]) (.kl [0, 1, 2, 7, 8, 9, 10, 11, 12, 13, 14] (.ret)))), [.tmp 6]⟩
/-- (*spec.l1Cur).three -/
def fi441 : FI := ⟨.seq (.reg [⟨some 2, .mov (.c (.int .i64 0)), none⟩, ⟨some 3, .mov (.c (.int .i64 0)), none⟩, ⟨some 4, .mov (.c (.int .i64 0)), none⟩]) (.kl [2, 3, 4] (.seq (.seq (.reg [⟨some 5, .mov (.t 0), none⟩, ⟨some 6, .call 64 [.t 5, .c (.int .i64 10)], none⟩]) (.kl [5] (.cond (.t 6) (.kl [6] (.seq (.reg [⟨some 7, .mov (.t 0), none⟩, ⟨some 8, .lit 1 5 [.int .i64 0, .int .i64 0, .int .i64 0, .int .i64 0, .int .i64 0] [(0, 1, .c (.int .i64 (-1))), (1, 1, .c (.int .i64 0)), (2, 1, .c (.int .i64 12)), (3, 1, .c (.int .i64 13)), (4, 1, .c (.int .i64 4611686018427387904))], none⟩, ⟨some 9, .call 62 [.t 7, .t 8], none⟩, ⟨some 10, .mov (.t 0), none⟩, ⟨some 11, .lit 1 4 [.int .i64 0, .int .i64 0, .int .i64 0, .int .i64 0] [(0, 1, .c (.int .i64 0)), (1, 1, .c (.int .i64 1)), (2, 1, .c (.int .i64 12)), (3, 1, .c (.int .i64 (-1)))], none⟩, ⟨some 12, .call 62 [.t 10, .t 11], none⟩, ⟨some 13, .mov (.t 0), none⟩, ⟨some 14, .lit 1 4 [.int .i64 0, .int .i64 0, .int .i64 0, .int .i64 0] [(0, 1, .c (.int .i64 0)), (1, 1, .c (.int .i64 1)), (2, 1, .c (.int .i64 5)), (3, 1, .c (.int .i64 4611686018427387904))], none⟩, ⟨some 15, .call 62 [.t 13, .t 14], none⟩, ⟨some 2, .mov (.t 9), none⟩, ⟨some 3, .mov (.t 12), none⟩, ⟨some 4, .mov (.t 15), none⟩]) (.kl [0, 7, 8, 9, 10, 11, 12, 13, 14, 15] (.ret)))) (.skip)))) (.kl [6] (.seq (.reg [⟨some 16, .mov (.t 0), none⟩, ⟨some 17, .call 63 [.t 16, .c (.int .i64 5)], none⟩, ⟨some 18, .mov (.t 0), none⟩, ⟨some 19, .call 63 [.t 18, .c (.int .i64 4)], none⟩, ⟨some 20, .mov (.t 0), none⟩, ⟨some 21, .call 63 [.t 20, .c (.int .i64 4)], none⟩, ⟨some 2, .mov (.t 17), none⟩, ⟨some 3, .mov (.t 19), none⟩, ⟨some 4, .mov (.t 21), none⟩]) (.kl [0, 16, 17, 18, 19, 20, 21] (.ret)))))), [.tmp 2, .tmp 3, .tmp 4]⟩
/-- spec.liThree -/
def fi442 : FI := ⟨.seq (.reg [⟨some 6, .mov (.c (.bool false)), none⟩]) (.kl [6] (.seq (.reg [⟨some 7, .mov (.t 0), none⟩, ⟨some 8, .mov (.t 1), none⟩, ⟨some 9, .mov (.t 2), none⟩, ⟨some 10, .lit 1 3 [.int .i64 0, .int .i64 0, .int .i64 0] [(0, 1, .t 7), (1, 1, .t 8), (2, 1, .t 9)], none⟩, ⟨some 11, .call 114 [.t 10, .c (.int .i64 0), .c (.int .i64 12)], none⟩, ⟨some 12, .mov (.t 11), none⟩, ⟨some 13, .mov (.t 0), some (12, true)⟩, ⟨some 14, .mov (.t 1), some (12, true)⟩, ⟨some 15, .bin .add (.t 13) (.t 14), some (12, true)⟩, ⟨some 16, .mov (.t 2), some (12, true)⟩, ⟨some 17, .bin .add (.t 15) (.t 16), some (12, true)⟩, ⟨some 18, .call 77 [.t 17, .c (.int .i64 1), .c (.int .i64 12)], some (12, true)⟩, ⟨some 19, .pick (.t 12) (.t 18) (.c (.bool false)), none⟩, ⟨some 6, .mov (.t 19), none⟩]) (.kl [0, 1, 2, 7, 8, 9, 10, 11, 12, 13, 14, 15, 16, 17, 18, 19] (.ret)))), [.tmp 6]⟩
/-- (*spec.l1Cur).pick -/
def fi63 : FI := ⟨.seq (.reg [⟨some 4, .mov (.c (.int .i64 0)), none⟩]) (.kl [4] (.seq (.seq (.reg [⟨some 6, .mov (.t 1), none⟩, ⟨some 7, .bin .leq (.t 6) (.c (.int .i64 1)), none⟩]) (.kl [6] (.cond (.t 7) (.kl [0, 1, 7] (.seq (.reg [⟨some 4, .mov (.c (.int .i64 0)), none⟩]) (.ret))) (.skip)))) (.kl [7] (.seq (.reg [⟨some 8, .mov (.t 0), none⟩, ⟨some 9, .call 107 [.t 8], none⟩, ⟨some 5, .mov (.t 9), none⟩]) (.kl [8, 9] (.seq (.seq (.reg [⟨some 10, .mov (.t 1), none⟩, ⟨some 11, .bin .gtr (.t 10) (.c (.int .i64 200)), none⟩]) (.kl [10] (.cond (.t 11) (.kl [11] (.reg [⟨some 12, .mov (.t 5), none⟩, ⟨some 13, .bin .mul (.t 12) (.c (.int .i64 256)), none⟩, ⟨some 14, .mov (.t 0), none⟩, ⟨some 15, .call 107 [.t 14], none⟩, ⟨some 16, .bin .add (.t 13) (.t 15), none⟩, ⟨some 5, .mov (.t 16), none⟩])) (.skip)))) (.kl [0, 11, 12, 13, 14, 15, 16] (.seq (.reg [⟨some 17, .mov (.t 5), none⟩, ⟨some 18, .mov (.t 1), none⟩, ⟨some 19, .bin .rem (.t 17) (.t 18), none⟩, ⟨some 4, .mov (.t 19), none⟩]) (.kl [1, 5, 17, 18, 19] (.ret)))))))))), [.tmp 4]⟩
/-- spec.l1In -/
def fi77 : FI := ⟨.seq (.reg [⟨some 6, .mov (.c (.bool false)), none⟩]) (.kl [6] (.seq (.reg [⟨some 7, .mov (.t 0), none⟩, ⟨some 8, .mov (.t 1), none⟩, ⟨some 9, .bin .geq (.t 7) (.t 8), none⟩, ⟨some 10, .mov (.t 9), none⟩, ⟨some 11, .mov (.t 0), some (10, true)⟩, ⟨some 12, .mov (.t 2), some (10, true)⟩, ⟨some 13, .bin .leq (.t 11) (.t 12), some (10, true)⟩, ⟨some 14, .pick (.t 10) (.t 13) (.c (.bool false)), none⟩, ⟨some 6, .mov (.t 14), none⟩]) (.kl [0, 1, 2, 7, 8, 9, 10, 11, 12, 13, 14] (.ret)))), [.tmp 6]⟩
/-- impl.first -/
def fi253 : FI := ⟨.seq (.reg [⟨some 6, .mov (.c (.str [])), none⟩]) (.kl [6] (.seq (.reg [⟨some 7, .mov (.t 0), none⟩, ⟨some 8, .mov (.t 1), none⟩, ⟨some 9, .mov (.t 2), none⟩, ⟨some 10, .call 246 [.c (.int .u8 84), .t 7, .t 8, .c (.int .u8 70), .t 9], none⟩, ⟨some 6, .mov (.t 10), none⟩]) (.kl [0, 1, 2, 7, 8, 9, 10] (.ret)))), [.tmp 6]⟩
/-- spec.liFirst -/
def fi100 : FI := ⟨.seq (.reg [⟨some 6, .mov (.c (.str [])), none⟩]) (.kl [6] (.seq (.reg [⟨some 7, .mov (.t 0), none⟩, ⟨some 8, .call 124 [.c (.str [84]), .t 7], none⟩, ⟨some 9, .mov (.t 1), none⟩, ⟨some 10, .call 124 [.c (.str [46]), .t 9], none⟩, ⟨some 11, .bin .add (.t 8) (.t 10), none⟩, ⟨some 12, .mov (.t 2), none⟩, ⟨some 13, .call 124 [.c (.str [70]), .t 12], none⟩, ⟨some 14, .bin .add (.t 11) (.t 13), none⟩, ⟨some 6, .mov (.t 14), none⟩]) (.kl [0, 1, 2, 7, 8, 9, 10, 11, 12, 13, 14] (.ret)))), [.tmp 6]⟩
/-- (*spec.l1Cur).line -/
def fi101 : FI := ⟨.seq (.reg [⟨some 2, .mov (.c (.str [])), none⟩]) (.kl [2] (.seq (.seq (.reg [⟨some 3, .mov (.t 0), none⟩, ⟨some 4, .call 63 [.t 3, .c (.int .i64 16)], none⟩]) (.kl [3] (.blk 0 (.seq (.reg [⟨some 6, .bin .eql (.t 4) (.c (.int .i64 0)), none⟩, ⟨some 5, .mov (.t 6), none⟩]) (.kl [6] (.cond (.t 5) (.kl [4, 5] (.seq (.reg [⟨some 7, .mov (.t 0), none⟩, ⟨some 8, .lit 1 5 [.str [], .str [], .str [], .str [], .str []] [(0, 1, .c (.str [])), (1, 1, .c (.str [120])), (2, 1, .c (.str [84, 32, 70])), (3, 1, .c (.str [84, 46, 70, 46, 84, 46, 70, 46, 84, 46, 70, 46, 84])), (4, 1, .c (.str [116, 46, 102]))], none⟩, ⟨some 9, .call 71 [.t 7, .t 8], none⟩, ⟨some 2, .mov (.t 9), none⟩]) (.kl [0, 7, 8, 9] (.ret)))) (.kl [5] (.seq (.seq (.reg [⟨some 11, .bin .eql (.t 4) (.c (.int .i64 1)), none⟩, ⟨some 10, .mov (.t 11), none⟩]) (.kl [11] (.cond (.t 10) (.skip) (.kl [10] (.seq (.reg [⟨some 12, .bin .eql (.t 4) (.c (.int .i64 2)), none⟩, ⟨some 10, .mov (.t 12), none⟩]) (.kl [12] (.cond (.t 10) (.skip) (.kl [10] (.reg [⟨some 13, .bin .eql (.t 4) (.c (.int .i64 3)), none⟩, ⟨some 10, .mov (.t 13), none⟩]))))))))) (.kl [4, 13] (.cond (.t 10) (.kl [10] (.seq (.reg [⟨some 14, .mov (.t 0), none⟩, ⟨some 15, .call 63 [.t 14, .c (.int .i64 3)], none⟩, ⟨some 16, .bin .add (.c (.int .i64 1)) (.t 15), none⟩, ⟨some 17, .mov (.t 0), none⟩, ⟨some 18, .call 63 [.t 17, .c (.int .i64 2)], none⟩, ⟨some 19, .bin .add (.c (.int .i64 1)) (.t 18), none⟩, ⟨some 20, .mov (.t 0), none⟩, ⟨some 21, .call 63 [.t 20, .c (.int .i64 3)], none⟩, ⟨some 22, .bin .add (.c (.int .i64 1)) (.t 21), none⟩, ⟨some 23, .call 100 [.t 16, .t 19, .t 22], none⟩, ⟨some 2, .mov (.t 23), none⟩]) (.kl [0, 14, 15, 16, 17, 18, 19, 20, 21, 22, 23] (.ret)))) (.skip))))))))))) (.kl [10] (.seq (.reg [⟨some 24, .mov (.t 0), none⟩, ⟨some 25, .call 99 [.t 24, .c (.int .i64 9)], none⟩, ⟨some 2, .mov (.t 25), none⟩]) (.kl [0, 24, 25] (.ret)))))), [.tmp 2]⟩
-- lp443_0 HEAD [0, 1, 7, 8] | exit 0: [0, 7]
/-- (*spec.l1Cur).moves -/
def lb443_0 : C := .kl [22, 23] (.seq (.seq (.reg [⟨some 20, .mov (.t 8), none⟩, ⟨some 21, .bin .gtr (.t 20) (.c (.int .i64 0)), none⟩]) (.kl [20] (.cond (.t 21) (.skip) (.kl [1, 8, 21] (.exit 0))))) (.kl [21] (.seq (.blk 1 (.seq (.reg [⟨some 24, .mov (.t 1), none⟩, ⟨some 25, .call 119 [.t 24, .c (.bool true), .c (.bool true)], none⟩, ⟨some 9, .mov (.t 25), none⟩]) (.kl [24, 25] (.seq (.seq (.reg [⟨some 26, .mov (.t 9), none⟩, ⟨some 27, .lenV (.t 26), none⟩, ⟨some 28, .bin .eql (.t 27) (.c (.int .i64 0)), none⟩]) (.kl [26, 27] (.cond (.t 28) (.kl [1, 8, 9, 28] (.exit 0)) (.skip)))) (.kl [28] (.seq (.reg [⟨some 29, .mov (.t 9), none⟩, ⟨some 30, .mov (.t 0), none⟩, ⟨some 31, .mov (.t 9), none⟩, ⟨some 32, .lenV (.t 31), none⟩, ⟨some 33, .call 63 [.t 30, .t 32], none⟩, ⟨some 34, .iaddr 2 (.t 29) (.t 33), none⟩, ⟨some 35, .load true 2 (.t 34), none⟩, ⟨some 10, .new [.int .i64 0, .int .i64 0], none⟩, ⟨none, .store 2 (.t 10) (.t 35), none⟩]) (.kl [9, 29, 30, 31, 32, 33, 34, 35] (.seq (.reg [⟨some 36, .mov (.t 7), none⟩, ⟨some 37, .load true 2 (.t 10), none⟩, ⟨some 38, .lit 2 1 [.int .i64 0, .int .i64 0] [(0, 2, .t 37)], none⟩, ⟨some 39, .app 2 (.t 36) (.t 38), none⟩, ⟨some 7, .mov (.t 39), none⟩]) (.kl [36, 37, 38, 39] (.reg [⟨some 40, .mov (.t 1), none⟩, ⟨some 41, .load true 2 (.t 10), none⟩, ⟨some 42, .call 66 [.t 40, .t 41], none⟩, ⟨some 1, .mov (.t 42), none⟩])))))))))) (.kl [10, 40, 41, 42] (.reg [⟨some 22, .mov (.t 8), none⟩, ⟨some 23, .bin .sub (.t 22) (.c (.int .i64 1)), none⟩, ⟨some 8, .mov (.t 23), none⟩])))))
def lp443_0 : C := lb443_0
def fi443 : FI := ⟨.seq (.reg [⟨some 6, .mov (.c (.nilS)), none⟩]) (.kl [6] (.seq (.reg [⟨some 7, .mov (.c (.nilS)), none⟩]) (.seq (.seq (.reg [⟨some 11, .mov (.t 1), none⟩, ⟨some 12, .call 104 [.t 11], none⟩, ⟨some 13, .un .not (.t 12), none⟩]) (.kl [11, 12] (.cond (.t 13) (.kl [0, 1, 2, 7, 13] (.seq (.reg [⟨some 14, .build [.int .i64 0, .int .i64 0] [(0, 1, .c (.int .i64 0)), (1, 1, .c (.int .i64 1))], none⟩, ⟨some 15, .lit 2 1 [.int .i64 0, .int .i64 0] [(0, 2, .t 14)], none⟩, ⟨some 6, .mov (.t 15), none⟩]) (.kl [14, 15] (.ret)))) (.skip)))) (.kl [13] (.seq (.seq (.reg [⟨some 16, .mov (.t 0), none⟩, ⟨some 17, .mov (.t 2), none⟩, ⟨some 18, .bin .add (.t 17) (.c (.int .i64 1)), none⟩, ⟨some 19, .call 63 [.t 16, .t 18], none⟩, ⟨some 8, .mov (.t 19), none⟩]) (.kl [2, 16, 17, 18, 19] (.blk 0 (.loop lp443_0)))) (.seq (.seq (.reg [⟨some 43, .mov (.t 0), none⟩, ⟨some 44, .call 63 [.t 43, .c (.int .i64 10)], none⟩]) (.kl [43] (.blk 2 (.seq (.reg [⟨some 46, .bin .eql (.t 44) (.c (.int .i64 0)), none⟩, ⟨some 45, .mov (.t 46), none⟩]) (.kl [46] (.cond (.t 45) (.kl [44, 45] (.reg [⟨some 47, .mov (.t 7), none⟩, ⟨some 48, .mov (.t 0), none⟩, ⟨some 49, .lit 1 4 [.int .i64 0, .int .i64 0, .int .i64 0, .int .i64 0] [(0, 1, .c (.int .i64 0)), (1, 1, .c (.int .i64 1)), (2, 1, .c (.int .i64 (-1))), (3, 1, .c (.int .i64 4611686018427387904))], none⟩, ⟨some 50, .call 62 [.t 48, .t 49], none⟩, ⟨some 51, .mov (.t 0), none⟩, ⟨some 52, .lit 1 5 [.int .i64 0, .int .i64 0, .int .i64 0, .int .i64 0, .int .i64 0] [(0, 1, .c (.int .i64 0)), (1, 1, .c (.int .i64 2)), (2, 1, .c (.int .i64 (-1))), (3, 1, .c (.int .i64 12)), (4, 1, .c (.int .i64 (-9223372036854775808)))], none⟩, ⟨some 53, .call 62 [.t 51, .t 52], none⟩, ⟨some 54, .build [.int .i64 0, .int .i64 0] [(0, 1, .t 50), (1, 1, .t 53)], none⟩, ⟨some 55, .lit 2 1 [.int .i64 0, .int .i64 0] [(0, 2, .t 54)], none⟩, ⟨some 56, .app 2 (.t 47) (.t 55), none⟩, ⟨some 7, .mov (.t 56), none⟩])) (.kl [0, 45] (.seq (.reg [⟨some 58, .bin .eql (.t 44) (.c (.int .i64 1)), none⟩, ⟨some 57, .mov (.t 58), none⟩]) (.kl [44, 58] (.cond (.t 57) (.kl [57] (.seq (.reg [⟨some 59, .mov (.t 7), none⟩, ⟨some 60, .lenV (.t 59), none⟩, ⟨some 61, .bin .gtr (.t 60) (.c (.int .i64 1)), none⟩]) (.kl [59, 60] (.cond (.t 61) (.kl [61] (.reg [⟨some 62, .mov (.t 7), none⟩, ⟨some 63, .sub 2 (.t 62) (some (.c (.int .i64 1))) none, none⟩, ⟨some 7, .mov (.t 63), none⟩])) (.skip))))) (.skip))))))))))) (.kl [0, 47, 48, 49, 50, 51, 52, 53, 54, 55, 56, 57, 61, 62, 63] (.seq (.reg [⟨some 64, .mov (.t 7), none⟩, ⟨some 6, .mov (.t 64), none⟩]) (.kl [7, 64] (.ret)))))))))), [.tmp 6]⟩
-- lp68_0 HEAD [0, 1, 2, 10, 11, 12] | exit 0: [0, 1] | ret: [6, 7]
/-- impl.played -/
def lb68_0 : C := .kl [26] (.seq (.reg [⟨some 13, .bin .lss (.t 12) (.t 11), none⟩]) (.seq (.cond (.t 13) (.skip) (.kl [2, 10, 11, 12, 13] (.exit 0))) (.kl [13] (.seq (.blk 1 (.seq (.reg [⟨some 14, .mov (.t 12), none⟩, ⟨some 15, .iaddr 2 (.t 10) (.t 12), none⟩, ⟨some 16, .load true 2 (.t 15), none⟩, ⟨some 9, .new [.int .i64 0, .int .i64 0], none⟩, ⟨some 8, .mov (.t 14), none⟩, ⟨none, .store 2 (.t 9) (.t 16), none⟩]) (.kl [14, 15, 16] (.seq (.seq (.reg [⟨some 17, .mov (.t 2), none⟩, ⟨some 18, .mov (.t 0), none⟩, ⟨some 19, .load true 2 (.t 9), none⟩, ⟨some 20, .callv (.t 17) [.t 18, .t 19], none⟩, ⟨some 21, .un .not (.t 20), none⟩]) (.kl [17, 18, 19, 20] (.cond (.t 21) (.kl [0, 1, 2, 9, 10, 11, 12, 21] (.seq (.reg [⟨some 22, .mov (.t 8), none⟩, ⟨some 6, .mov (.c (.str [])), none⟩, ⟨some 7, .mov (.t 22), none⟩]) (.kl [8, 22] (.ret)))) (.skip)))) (.kl [8, 21] (.reg [⟨some 23, .mov (.t 0), none⟩, ⟨some 24, .load true 2 (.t 9), none⟩, ⟨some 25, .call 61 [.t 23, .t 24], none⟩, ⟨some 0, .mov (.t 25), none⟩])))))) (.kl [9, 23, 24, 25] (.reg [⟨some 26, .bin .add (.t 12) (.c (.int .i64 1)), none⟩, ⟨some 12, .mov (.t 26), none⟩]))))))
def lp68_0 : C := lb68_0
def fi68 : FI := ⟨.seq (.reg [⟨some 6, .mov (.c (.str [])), none⟩, ⟨some 7, .mov (.c (.int .i64 0)), none⟩]) (.kl [6, 7] (.seq (.seq (.reg [⟨some 10, .mov (.t 1), none⟩, ⟨some 11, .lenV (.t 10), none⟩, ⟨some 12, .mov (.c (.int .i64 0)), none⟩]) (.blk 0 (.loop lp68_0))) (.seq (.reg [⟨some 27, .mov (.t 0), none⟩, ⟨some 28, .mov (.t 1), none⟩, ⟨some 29, .lenV (.t 28), none⟩, ⟨some 6, .mov (.t 27), none⟩, ⟨some 7, .mov (.t 29), none⟩]) (.kl [0, 1, 27, 28, 29] (.ret))))), [.tmp 6, .tmp 7]⟩
/-- spec.liAsked -/
def fi444 : FI := ⟨.seq (.reg [⟨some 4, .mov (.c (.bool false)), none⟩]) (.kl [4] (.seq (.reg [⟨some 5, .mov (.t 0), none⟩, ⟨some 6, .call 104 [.t 5], none⟩, ⟨some 7, .mov (.t 6), none⟩, ⟨some 8, .mov (.t 1), some (7, true)⟩, ⟨some 9, .lenV (.t 8), some (7, true)⟩, ⟨some 10, .bin .leq (.t 9) (.c (.int .i64 100)), some (7, true)⟩, ⟨some 11, .pick (.t 7) (.t 10) (.c (.bool false)), none⟩, ⟨some 4, .mov (.t 11), none⟩]) (.kl [0, 1, 5, 6, 7, 8, 9, 10, 11] (.ret)))), [.tmp 4]⟩
-- lp445_0 HEAD [0, 1, 8, 9, 10] | exit 0: [0, 1] | ret: [4, 5]
/-- spec.liPlay -/
def lb445_0 : C := .kl [24] (.seq (.reg [⟨some 11, .bin .lss (.t 10) (.t 9), none⟩]) (.seq (.cond (.t 11) (.skip) (.kl [8, 9, 10, 11] (.exit 0))) (.kl [11] (.seq (.blk 1 (.seq (.reg [⟨some 12, .mov (.t 10), none⟩, ⟨some 13, .iaddr 2 (.t 8) (.t 10), none⟩, ⟨some 14, .load true 2 (.t 13), none⟩, ⟨some 7, .new [.int .i64 0, .int .i64 0], none⟩, ⟨some 6, .mov (.t 12), none⟩, ⟨none, .store 2 (.t 7) (.t 14), none⟩]) (.kl [12, 13, 14] (.seq (.seq (.reg [⟨some 15, .mov (.t 0), none⟩, ⟨some 16, .load true 2 (.t 7), none⟩, ⟨some 17, .call 130 [.t 15, .t 16], none⟩, ⟨some 18, .un .not (.t 17), none⟩]) (.kl [15, 16, 17] (.cond (.t 18) (.kl [1, 7, 8, 9, 10, 18] (.seq (.reg [⟨some 19, .mov (.t 0), none⟩, ⟨some 20, .mov (.t 6), none⟩, ⟨some 4, .mov (.t 19), none⟩, ⟨some 5, .mov (.t 20), none⟩]) (.kl [0, 6, 19, 20] (.ret)))) (.skip)))) (.kl [6, 18] (.reg [⟨some 21, .mov (.t 0), none⟩, ⟨some 22, .load true 2 (.t 7), none⟩, ⟨some 23, .call 66 [.t 21, .t 22], none⟩, ⟨some 0, .mov (.t 23), none⟩])))))) (.kl [7, 21, 22, 23] (.reg [⟨some 24, .bin .add (.t 10) (.c (.int .i64 1)), none⟩, ⟨some 10, .mov (.t 24), none⟩]))))))
def lp445_0 : C := lb445_0
def fi445 : FI := ⟨.seq (.reg [⟨some 4, .mov (.c (.str [])), none⟩, ⟨some 5, .mov (.c (.int .i64 0)), none⟩]) (.kl [4, 5] (.seq (.seq (.reg [⟨some 8, .mov (.t 1), none⟩, ⟨some 9, .lenV (.t 8), none⟩, ⟨some 10, .mov (.c (.int .i64 0)), none⟩]) (.blk 0 (.loop lp445_0))) (.seq (.reg [⟨some 25, .mov (.t 0), none⟩, ⟨some 26, .mov (.t 1), none⟩, ⟨some 27, .lenV (.t 26), none⟩, ⟨some 4, .mov (.t 25), none⟩, ⟨some 5, .mov (.t 27), none⟩]) (.kl [0, 1, 25, 26, 27] (.ret))))), [.tmp 4, .tmp 5]⟩
/-- impl.WinsSum -/
def fi446 : FI := ⟨.seq (.reg [⟨some 4, .mov (.c (.bool false)), none⟩, ⟨some 5, .mov (.c (.bool false)), none⟩]) (.kl [4, 5] (.seq (.reg [⟨some 9, .mov (.t 0), none⟩, ⟨some 10, .call 249 [.t 9], none⟩, ⟨some 8, .mov (.t 10), none⟩, ⟨some 11, .prj 0 (.t 8), none⟩, ⟨some 12, .prj 1 (.t 8), none⟩, ⟨some 6, .mov (.t 11), none⟩, ⟨some 7, .mov (.t 12), none⟩]) (.kl [0, 8, 9, 10, 11, 12] (.seq (.reg [⟨some 13, .mov (.t 7), none⟩, ⟨some 14, .mov (.t 13), none⟩, ⟨some 15, .call 192 [], some (14, true)⟩, ⟨some 16, .mov (.t 6), some (14, true)⟩, ⟨some 17, .mov (.t 1), some (14, true)⟩, ⟨some 18, .call 198 [.t 15, .t 16, .t 17], some (14, true)⟩, ⟨some 19, .pick (.t 14) (.t 18) (.c (.bool false)), none⟩, ⟨some 20, .mov (.t 7), none⟩, ⟨some 4, .mov (.t 19), none⟩, ⟨some 5, .mov (.t 20), none⟩]) (.kl [1, 6, 7, 13, 14, 15, 16, 17, 18, 19, 20] (.ret)))))), [.tmp 4, .tmp 5]⟩
/-- spec.gaFew -/
def fi447 : FI := ⟨.seq (.reg [⟨some 2, .mov (.c (.bool false)), none⟩]) (.kl [2] (.seq (.reg [⟨some 3, .mov (.t 0), none⟩, ⟨some 4, .call 104 [.t 3], none⟩, ⟨some 5, .mov (.t 4), none⟩, ⟨some 6, .mov (.t 0), some (5, true)⟩, ⟨some 7, .lenS (.t 6), some (5, true)⟩, ⟨some 8, .bin .leq (.t 7) (.c (.int .i64 10)), some (5, true)⟩, ⟨some 9, .pick (.t 5) (.t 8) (.c (.bool false)), none⟩, ⟨some 2, .mov (.t 9), none⟩]) (.kl [0, 3, 4, 5, 6, 7, 8, 9] (.ret)))), [.tmp 2]⟩
-- lp199_0 HEAD [0, 1, 2, 7, 21, 22, 23] | exit 0: [0, 1, 2, 7] | ret: [6]
-- lp199_1 HEAD [0, 1, 2, 7, 10, 39, 40, 41] | exit 2: [0, 7, 10] | exit 4: [0, 1, 2, 7, 10, 39, 40, 41]
-- lp199_2 HEAD [0, 1, 2, 7, 10, 11, 12, 39, 40, 41, 50, 51, 52] | exit 4: [0, 1, 2, 7, 10, 39, 40, 41]
/-- (*spec.gaKnown).win -/
def lb199_2 : C := .kl [67] (.seq (.reg [⟨some 53, .bin .lss (.t 52) (.t 51), none⟩]) (.seq (.cond (.t 53) (.skip) (.kl [11, 12, 50, 51, 52, 53] (.exit 4))) (.kl [53] (.seq (.blk 5 (.seq (.reg [⟨some 54, .iaddr 2 (.t 50) (.t 52), none⟩, ⟨some 55, .load true 2 (.t 54), none⟩, ⟨some 14, .new [.int .i64 0, .int .i64 0], none⟩, ⟨none, .store 2 (.t 14) (.t 55), none⟩]) (.kl [54, 55] (.seq (.reg [⟨some 56, .mov (.t 0), none⟩, ⟨some 57, .mov (.t 1), none⟩, ⟨some 58, .mov (.t 11), none⟩, ⟨some 59, .mov (.t 12), none⟩, ⟨some 60, .load true 2 (.t 14), none⟩, ⟨some 61, .call 66 [.t 59, .t 60], none⟩, ⟨some 62, .call 204 [.t 57, .t 58, .t 61], none⟩, ⟨some 63, .mov (.t 2), none⟩, ⟨some 64, .un .not (.t 63), none⟩, ⟨some 65, .call 199 [.t 56, .t 62, .t 64], none⟩, ⟨some 66, .un .not (.t 65), none⟩]) (.kl [14, 56, 57, 58, 59, 60, 61, 62, 63, 64, 65] (.cond (.t 66) (.kl [10, 11, 12, 50, 51, 52, 66] (.seq (.reg [⟨some 10, .mov (.c (.bool true)), none⟩]) (.exit 4))) (.skip))))))) (.kl [66] (.reg [⟨some 67, .bin .add (.t 52) (.c (.int .i64 1)), none⟩, ⟨some 52, .mov (.t 67), none⟩]))))))
def lp199_2 : C := lb199_2
def lb199_1 : C := .kl [69] (.seq (.reg [⟨some 42, .bin .lss (.t 41) (.t 40), none⟩]) (.seq (.cond (.t 42) (.skip) (.kl [1, 2, 39, 40, 41, 42] (.exit 2))) (.kl [42] (.seq (.blk 3 (.seq (.reg [⟨some 43, .mov (.t 41), none⟩, ⟨some 44, .iaddr 1 (.t 39) (.t 41), none⟩, ⟨some 45, .load false 1 (.t 44), none⟩, ⟨some 11, .mov (.t 43), none⟩, ⟨some 12, .mov (.t 45), none⟩]) (.kl [43, 44, 45] (.seq (.seq (.reg [⟨some 46, .mov (.t 12), none⟩, ⟨some 47, .mov (.t 2), none⟩, ⟨some 48, .mov (.t 2), none⟩, ⟨some 49, .un .not (.t 48), none⟩, ⟨some 50, .call 119 [.t 46, .t 47, .t 49], none⟩, ⟨some 51, .lenV (.t 50), none⟩, ⟨some 52, .mov (.c (.int .i64 0)), none⟩]) (.kl [46, 47, 48, 49] (.blk 4 (.loop lp199_2)))) (.seq (.reg [⟨some 68, .mov (.t 10), none⟩]) (.cond (.t 68) (.kl [1, 2, 39, 40, 41, 68] (.exit 2)) (.skip))))))) (.kl [68] (.reg [⟨some 69, .bin .add (.t 41) (.c (.int .i64 1)), none⟩, ⟨some 41, .mov (.t 69), none⟩]))))))
def lp199_1 : C := lb199_1
def lb199_0 : C := .kl [38] (.seq (.reg [⟨some 24, .bin .lss (.t 23) (.t 22), none⟩]) (.seq (.cond (.t 24) (.skip) (.kl [21, 22, 23, 24] (.exit 0))) (.kl [24] (.seq (.blk 1 (.seq (.reg [⟨some 25, .mov (.t 23), none⟩, ⟨some 26, .iaddr 1 (.t 21) (.t 23), none⟩, ⟨some 27, .load false 1 (.t 26), none⟩, ⟨some 8, .mov (.t 25), none⟩, ⟨some 9, .mov (.t 27), none⟩]) (.kl [25, 26, 27] (.seq (.reg [⟨some 28, .mov (.t 9), none⟩, ⟨some 29, .mov (.t 7), none⟩, ⟨some 30, .bin .eql (.t 28) (.t 29), none⟩]) (.kl [9, 28, 29] (.cond (.t 30) (.kl [1, 2, 7, 21, 22, 23, 30] (.seq (.reg [⟨some 31, .mov (.t 0), none⟩, ⟨some 32, .nck (.t 31), none⟩, ⟨some 33, .faddr 1 1 (.t 32), none⟩, ⟨some 34, .load false 1 (.t 33), none⟩, ⟨some 35, .mov (.t 8), none⟩, ⟨some 36, .iaddr 1 (.t 34) (.t 35), none⟩, ⟨some 37, .load false 1 (.t 36), none⟩, ⟨some 6, .mov (.t 37), none⟩]) (.kl [0, 8, 31, 32, 33, 34, 35, 36, 37] (.ret)))) (.skip))))))) (.kl [8, 30] (.reg [⟨some 38, .bin .add (.t 23) (.c (.int .i64 1)), none⟩, ⟨some 23, .mov (.t 38), none⟩]))))))
def lp199_0 : C := lb199_0
def fi199 : FI := ⟨.seq (.reg [⟨some 6, .mov (.c (.bool false)), none⟩]) (.kl [6] (.seq (.reg [⟨some 15, .mov (.t 1), none⟩, ⟨some 16, .mov (.t 2), none⟩, ⟨some 17, .call 203 [.t 15, .t 16], none⟩, ⟨some 7, .mov (.t 17), none⟩]) (.kl [15, 16, 17] (.seq (.seq (.reg [⟨some 18, .mov (.t 0), none⟩, ⟨some 19, .nck (.t 18), none⟩, ⟨some 20, .faddr 0 1 (.t 19), none⟩, ⟨some 21, .load false 1 (.t 20), none⟩, ⟨some 22, .lenV (.t 21), none⟩, ⟨some 23, .mov (.c (.int .i64 0)), none⟩]) (.kl [18, 19, 20] (.blk 0 (.loop lp199_0)))) (.seq (.reg [⟨some 10, .mov (.c (.bool false)), none⟩]) (.seq (.seq (.reg [⟨some 39, .mov (.t 1), none⟩, ⟨some 40, .lenV (.t 39), none⟩, ⟨some 41, .mov (.c (.int .i64 0)), none⟩]) (.blk 2 (.loop lp199_1))) (.seq (.reg [⟨some 70, .mov (.t 0), none⟩, ⟨some 71, .mov (.t 0), none⟩, ⟨some 72, .nck (.t 71), none⟩, ⟨some 73, .faddr 0 1 (.t 72), none⟩, ⟨some 74, .load false 1 (.t 73), none⟩, ⟨some 75, .mov (.t 7), none⟩, ⟨some 76, .lit 1 1 [.str []] [(0, 1, .t 75)], none⟩, ⟨some 77, .app 1 (.t 74) (.t 76), none⟩, ⟨some 78, .nck (.t 70), none⟩, ⟨some 79, .faddr 0 1 (.t 78), none⟩, ⟨none, .store 1 (.t 79) (.t 77), none⟩]) (.kl [7, 70, 71, 72, 73, 74, 75, 76, 77, 78, 79] (.seq (.reg [⟨some 80, .mov (.t 0), none⟩, ⟨some 81, .mov (.t 0), none⟩, ⟨some 82, .nck (.t 81), none⟩, ⟨some 83, .faddr 1 1 (.t 82), none⟩, ⟨some 84, .load false 1 (.t 83), none⟩, ⟨some 85, .mov (.t 10), none⟩, ⟨some 86, .lit 1 1 [.bool false] [(0, 1, .t 85)], none⟩, ⟨some 87, .app 1 (.t 84) (.t 86), none⟩, ⟨some 88, .nck (.t 80), none⟩, ⟨some 89, .faddr 1 1 (.t 88), none⟩, ⟨none, .store 1 (.t 89) (.t 87), none⟩]) (.kl [0, 80, 81, 82, 83, 84, 85, 86, 87, 88, 89] (.seq (.reg [⟨some 90, .mov (.t 10), none⟩, ⟨some 6, .mov (.t 90), none⟩]) (.kl [10, 90] (.ret))))))))))))), [.tmp 6]⟩
/-- impl.isPlayed -/
def fi254 : FI := ⟨.seq (.reg [⟨some 2, .mov (.c (.bool false)), none⟩]) (.kl [2] (.seq (.reg [⟨some 3, .mov (.t 0), none⟩, ⟨some 4, .call 82 [.t 3, .c (.int .i64 10)], none⟩, ⟨some 2, .mov (.t 4), none⟩]) (.kl [0, 3, 4] (.ret)))), [.tmp 2]⟩
/-- impl.newGames -/
def fi192 : FI := ⟨.seq (.reg [⟨some 0, .new [.nilM], none⟩]) (.seq (.reg [⟨some 1, .mkmap, none⟩, ⟨some 2, .build [.nilM] [(0, 1, .t 1)], none⟩, ⟨none, .store 1 (.t 0) (.t 2), none⟩]) (.kl [1, 2] (.ret))), [.cell true 1 0]⟩
/-- (impl.games).best -/
def fi448 : FI := ⟨.seq (.reg [⟨some 3, .box (.t 0), none⟩, ⟨some 4, .box (.t 1), none⟩, ⟨some 5, .box (.t 2), none⟩, ⟨some 6, .mov (.c (.nilS)), none⟩]) (.kl [0, 1, 2, 6] (.seq (.drw [⟨some 7, .load false 1 (.t 4), none⟩, ⟨some 8, .load false 1 (.t 5), none⟩, ⟨some 9, .call 200 [.t 8], none⟩, ⟨some 10, .call 105 [.t 7, .t 9], none⟩, ⟨some 11, .mkfn 456 [.t 3, .t 4, .t 5], none⟩, ⟨some 12, .call 248 [.t 10, .t 11], none⟩, ⟨some 6, .mov (.t 12), none⟩] [(0, 2)]) (.kl [3, 4, 5, 7, 8, 9, 10, 11, 12] (.ret)))), [.tmp 6]⟩
-- lp449_0 HEAD [0, 1, 2, 7, 14, 15, 16] | exit 0: [7]
/-- spec.gaBest -/
def lb449_0 : C := .kl [33] (.seq (.reg [⟨some 17, .bin .lss (.t 16) (.t 15), none⟩]) (.seq (.cond (.t 17) (.skip) (.kl [0, 1, 2, 14, 15, 16, 17] (.exit 0))) (.kl [17] (.seq (.blk 1 (.seq (.reg [⟨some 18, .iaddr 2 (.t 14) (.t 16), none⟩, ⟨some 19, .load true 2 (.t 18), none⟩, ⟨some 9, .new [.int .i64 0, .int .i64 0], none⟩, ⟨none, .store 2 (.t 9) (.t 19), none⟩]) (.kl [18, 19] (.seq (.reg [⟨some 20, .mov (.t 0), none⟩, ⟨some 21, .mov (.t 1), none⟩, ⟨some 22, .load true 2 (.t 9), none⟩, ⟨some 23, .call 66 [.t 21, .t 22], none⟩, ⟨some 24, .lit 1 1 [.str []] [(0, 1, .t 23)], none⟩, ⟨some 25, .mov (.t 2), none⟩, ⟨some 26, .un .not (.t 25), none⟩, ⟨some 27, .call 199 [.t 20, .t 24, .t 26], none⟩, ⟨some 28, .un .not (.t 27), none⟩]) (.kl [20, 21, 22, 23, 24, 25, 26, 27] (.cond (.t 28) (.kl [28] (.reg [⟨some 29, .mov (.t 7), none⟩, ⟨some 30, .load true 2 (.t 9), none⟩, ⟨some 31, .lit 2 1 [.int .i64 0, .int .i64 0] [(0, 2, .t 30)], none⟩, ⟨some 32, .app 2 (.t 29) (.t 31), none⟩, ⟨some 7, .mov (.t 32), none⟩])) (.skip))))))) (.kl [9, 28, 29, 30, 31, 32] (.reg [⟨some 33, .bin .add (.t 16) (.c (.int .i64 1)), none⟩, ⟨some 16, .mov (.t 33), none⟩]))))))
def lp449_0 : C := lb449_0
def fi449 : FI := ⟨.seq (.reg [⟨some 6, .mov (.c (.nilS)), none⟩]) (.kl [6] (.seq (.reg [⟨some 7, .mov (.c (.nilS)), none⟩]) (.seq (.seq (.reg [⟨some 10, .mov (.t 1), none⟩, ⟨some 11, .mov (.t 2), none⟩, ⟨some 12, .mov (.t 2), none⟩, ⟨some 13, .un .not (.t 12), none⟩, ⟨some 14, .call 119 [.t 10, .t 11, .t 13], none⟩, ⟨some 15, .lenV (.t 14), none⟩, ⟨some 16, .mov (.c (.int .i64 0)), none⟩]) (.kl [10, 11, 12, 13] (.blk 0 (.loop lp449_0)))) (.seq (.reg [⟨some 34, .mov (.t 7), none⟩, ⟨some 6, .mov (.t 34), none⟩]) (.kl [7, 34] (.ret)))))), [.tmp 6]⟩
/-- (impl.games).move -/
def fi450 : FI := ⟨.seq (.reg [⟨some 3, .box (.t 0), none⟩, ⟨some 6, .new [.int .i64 0, .int .i64 0], none⟩, ⟨some 7, .mov (.c (.bool false)), none⟩]) (.kl [0, 7] (.seq (.reg [⟨some 9, .load true 1 (.t 3), none⟩, ⟨some 10, .mov (.t 1), none⟩, ⟨some 11, .mov (.t 2), none⟩, ⟨some 12, .call 448 [.t 9, .t 10, .t 11], none⟩, ⟨some 13, .mov (.t 1), none⟩, ⟨some 14, .mov (.t 2), none⟩, ⟨some 15, .call 200 [.t 14], none⟩, ⟨some 16, .call 105 [.t 13, .t 15], none⟩, ⟨some 17, .app 2 (.t 12) (.t 16), none⟩, ⟨some 8, .mov (.t 17), none⟩]) (.kl [1, 2, 3, 9, 10, 11, 12, 13, 14, 15, 16, 17] (.seq (.seq (.reg [⟨some 18, .mov (.t 8), none⟩, ⟨some 19, .lenV (.t 18), none⟩, ⟨some 20, .bin .eql (.t 19) (.c (.int .i64 0)), none⟩]) (.kl [18, 19] (.cond (.t 20) (.kl [8, 20] (.seq (.reg [⟨some 21, .build [.int .i64 0, .int .i64 0] [], none⟩, ⟨none, .store 2 (.t 6) (.t 21), none⟩, ⟨some 7, .mov (.c (.bool false)), none⟩]) (.kl [21] (.ret)))) (.skip)))) (.kl [20] (.seq (.reg [⟨some 22, .mov (.t 8), none⟩, ⟨some 23, .iaddr 2 (.t 22) (.c (.int .i64 0)), none⟩, ⟨some 24, .load true 2 (.t 23), none⟩, ⟨none, .store 2 (.t 6) (.t 24), none⟩, ⟨some 7, .mov (.c (.bool true)), none⟩]) (.kl [8, 22, 23, 24] (.ret)))))))), [.cell true 2 6, .tmp 7]⟩
/-- spec.gaMove -/
def fi451 : FI := ⟨.seq (.reg [⟨some 6, .new [.int .i64 0, .int .i64 0], none⟩, ⟨some 7, .mov (.c (.bool false)), none⟩]) (.kl [7] (.seq (.seq (.reg [⟨some 10, .mov (.t 0), none⟩, ⟨some 11, .mov (.t 1), none⟩, ⟨some 12, .mov (.t 2), none⟩, ⟨some 13, .call 449 [.t 10, .t 11, .t 12], none⟩, ⟨some 8, .mov (.t 13), none⟩]) (.kl [0, 10, 11, 12, 13] (.seq (.reg [⟨some 14, .mov (.t 8), none⟩, ⟨some 15, .lenV (.t 14), none⟩, ⟨some 16, .bin .gtr (.t 15) (.c (.int .i64 0)), none⟩]) (.kl [14, 15] (.cond (.t 16) (.kl [1, 2, 16] (.seq (.reg [⟨some 17, .mov (.t 8), none⟩, ⟨some 18, .iaddr 2 (.t 17) (.c (.int .i64 0)), none⟩, ⟨some 19, .load true 2 (.t 18), none⟩, ⟨none, .store 2 (.t 6) (.t 19), none⟩, ⟨some 7, .mov (.c (.bool true)), none⟩]) (.kl [8, 17, 18, 19] (.ret)))) (.skip)))))) (.kl [8, 16] (.seq (.seq (.reg [⟨some 20, .mov (.t 1), none⟩, ⟨some 21, .mov (.t 2), none⟩, ⟨some 22, .mov (.t 2), none⟩, ⟨some 23, .un .not (.t 22), none⟩, ⟨some 24, .call 119 [.t 20, .t 21, .t 23], none⟩, ⟨some 9, .mov (.t 24), none⟩]) (.kl [1, 2, 20, 21, 22, 23, 24] (.seq (.reg [⟨some 25, .mov (.t 9), none⟩, ⟨some 26, .lenV (.t 25), none⟩, ⟨some 27, .bin .gtr (.t 26) (.c (.int .i64 0)), none⟩]) (.kl [25, 26] (.cond (.t 27) (.kl [27] (.seq (.reg [⟨some 28, .mov (.t 9), none⟩, ⟨some 29, .iaddr 2 (.t 28) (.c (.int .i64 0)), none⟩, ⟨some 30, .load true 2 (.t 29), none⟩, ⟨none, .store 2 (.t 6) (.t 30), none⟩, ⟨some 7, .mov (.c (.bool true)), none⟩]) (.kl [9, 28, 29, 30] (.ret)))) (.skip)))))) (.kl [9, 27] (.seq (.reg [⟨some 31, .build [.int .i64 0, .int .i64 0] [], none⟩, ⟨none, .store 2 (.t 6) (.t 31), none⟩, ⟨some 7, .mov (.c (.bool false)), none⟩]) (.kl [31] (.ret)))))))), [.cell true 2 6, .tmp 7]⟩
/-- impl.gamesFrom -/
def fi452 : FI := ⟨.seq (.reg [⟨some 4, .new [.int .i64 0, .int .i64 0, .int .i64 0], none⟩, ⟨some 5, .mov (.c (.bool false)), none⟩]) (.kl [5] (.seq (.seq (.reg [⟨some 8, .mov (.t 0), none⟩, ⟨some 9, .call 254 [.t 8], none⟩, ⟨some 10, .un .not (.t 9), none⟩]) (.kl [8, 9] (.cond (.t 10) (.kl [0, 1, 10] (.seq (.reg [⟨some 11, .build [.int .i64 0, .int .i64 0, .int .i64 0] [], none⟩, ⟨none, .store 3 (.t 4) (.t 11), none⟩, ⟨some 5, .mov (.c (.bool false)), none⟩]) (.kl [11] (.ret)))) (.skip)))) (.kl [10] (.seq (.reg [⟨some 12, .mkmap, none⟩, ⟨some 6, .new [.nilM], none⟩, ⟨none, .store 1 (.t 6) (.t 12), none⟩]) (.kl [12] (.seq (.reg [⟨some 7, .new [.nilF], none⟩]) (.seq (.reg [⟨some 13, .mkfn 457 [.t 6, .t 7], none⟩, ⟨none, .store 1 (.t 7) (.t 13), none⟩]) (.kl [6, 13] (.seq (.reg [⟨some 14, .load false 1 (.t 7), none⟩, ⟨some 15, .mov (.t 0), none⟩, ⟨some 16, .mov (.t 1), none⟩, ⟨some 17, .callv (.t 14) [.t 15, .t 16], none⟩, ⟨none, .store 3 (.t 4) (.t 17), none⟩, ⟨some 5, .mov (.c (.bool true)), none⟩]) (.kl [0, 1, 7, 14, 15, 16, 17] (.ret))))))))))), [.cell true 3 4, .tmp 5]⟩
-- lp453_0 HEAD [0, 1, 2, 7, 24, 25, 26] | exit 0: [0, 1, 2, 7] | ret: [6]
-- lp453_1 HEAD [0, 1, 2, 7, 10, 11, 12, 44, 45, 46] | exit 2: [0, 7, 10, 11, 12]
/-- (*spec.gaLengths).of -/
def lb453_1 : C := .kl [99] (.seq (.reg [⟨some 47, .bin .lss (.t 46) (.t 45), none⟩]) (.seq (.cond (.t 47) (.skip) (.kl [1, 2, 44, 45, 46, 47] (.exit 2))) (.kl [47] (.seq (.blk 3 (.seq (.reg [⟨some 48, .mov (.t 46), none⟩, ⟨some 49, .iaddr 2 (.t 44) (.t 46), none⟩, ⟨some 50, .load true 2 (.t 49), none⟩, ⟨some 15, .new [.int .i64 0, .int .i64 0], none⟩, ⟨some 14, .mov (.t 48), none⟩, ⟨none, .store 2 (.t 15) (.t 50), none⟩]) (.kl [48, 49, 50] (.seq (.reg [⟨some 51, .mov (.t 0), none⟩, ⟨some 52, .mov (.t 1), none⟩, ⟨some 53, .load true 2 (.t 15), none⟩, ⟨some 54, .call 66 [.t 52, .t 53], none⟩, ⟨some 55, .mov (.t 2), none⟩, ⟨some 56, .un .not (.t 55), none⟩, ⟨some 57, .call 453 [.t 51, .t 54, .t 56], none⟩, ⟨some 16, .mov (.t 57), none⟩]) (.kl [15, 51, 52, 53, 54, 55, 56, 57] (.seq (.reg [⟨some 58, .mov (.t 10), none⟩, ⟨some 59, .mov (.t 0), none⟩, ⟨some 60, .nck (.t 59), none⟩, ⟨some 61, .faddr 1 1 (.t 60), none⟩, ⟨some 62, .load false 1 (.t 61), none⟩, ⟨some 63, .mov (.t 16), none⟩, ⟨some 64, .iaddr 1 (.t 62) (.t 63), none⟩, ⟨some 65, .load false 1 (.t 64), none⟩, ⟨some 66, .bin .add (.t 65) (.c (.int .i64 1)), none⟩, ⟨some 67, .call 455 [.t 58, .t 66], none⟩, ⟨some 10, .mov (.t 67), none⟩]) (.kl [58, 59, 60, 61, 62, 63, 64, 65, 66, 67] (.seq (.seq (.reg [⟨some 68, .mov (.t 14), none⟩, ⟨some 69, .bin .eql (.t 68) (.c (.int .i64 0)), none⟩, ⟨some 70, .mov (.t 69), none⟩, ⟨some 71, .mov (.t 0), some (70, false)⟩, ⟨some 72, .nck (.t 71), some (70, false)⟩, ⟨some 73, .faddr 2 1 (.t 72), some (70, false)⟩, ⟨some 74, .load false 1 (.t 73), some (70, false)⟩, ⟨some 75, .mov (.t 16), some (70, false)⟩, ⟨some 76, .iaddr 1 (.t 74) (.t 75), some (70, false)⟩, ⟨some 77, .load false 1 (.t 76), some (70, false)⟩, ⟨some 78, .bin .add (.t 77) (.c (.int .i64 1)), some (70, false)⟩, ⟨some 79, .mov (.t 11), some (70, false)⟩, ⟨some 80, .bin .lss (.t 78) (.t 79), some (70, false)⟩, ⟨some 81, .pick (.t 70) (.c (.bool true)) (.t 80), none⟩]) (.kl [14, 68, 69, 70, 71, 72, 73, 74, 75, 76, 77, 78, 79, 80] (.cond (.t 81) (.kl [11, 81] (.reg [⟨some 82, .mov (.t 0), none⟩, ⟨some 83, .nck (.t 82), none⟩, ⟨some 84, .faddr 2 1 (.t 83), none⟩, ⟨some 85, .load false 1 (.t 84), none⟩, ⟨some 86, .mov (.t 16), none⟩, ⟨some 87, .iaddr 1 (.t 85) (.t 86), none⟩, ⟨some 88, .load false 1 (.t 87), none⟩, ⟨some 89, .bin .add (.t 88) (.c (.int .i64 1)), none⟩, ⟨some 11, .mov (.t 89), none⟩])) (.skip)))) (.kl [81, 82, 83, 84, 85, 86, 87, 88, 89] (.reg [⟨some 90, .mov (.t 12), none⟩, ⟨some 91, .mov (.t 0), none⟩, ⟨some 92, .nck (.t 91), none⟩, ⟨some 93, .faddr 3 1 (.t 92), none⟩, ⟨some 94, .load false 1 (.t 93), none⟩, ⟨some 95, .mov (.t 16), none⟩, ⟨some 96, .iaddr 1 (.t 94) (.t 95), none⟩, ⟨some 97, .load false 1 (.t 96), none⟩, ⟨some 98, .bin .add (.t 90) (.t 97), none⟩, ⟨some 12, .mov (.t 98), none⟩])))))))))) (.kl [16, 90, 91, 92, 93, 94, 95, 96, 97, 98] (.reg [⟨some 99, .bin .add (.t 46) (.c (.int .i64 1)), none⟩, ⟨some 46, .mov (.t 99), none⟩]))))))
def lp453_1 : C := lb453_1
def lb453_0 : C := .kl [35] (.seq (.reg [⟨some 27, .bin .lss (.t 26) (.t 25), none⟩]) (.seq (.cond (.t 27) (.skip) (.kl [24, 25, 26, 27] (.exit 0))) (.kl [27] (.seq (.blk 1 (.seq (.reg [⟨some 28, .mov (.t 26), none⟩, ⟨some 29, .iaddr 1 (.t 24) (.t 26), none⟩, ⟨some 30, .load false 1 (.t 29), none⟩, ⟨some 8, .mov (.t 28), none⟩, ⟨some 9, .mov (.t 30), none⟩]) (.kl [28, 29, 30] (.seq (.reg [⟨some 31, .mov (.t 9), none⟩, ⟨some 32, .mov (.t 7), none⟩, ⟨some 33, .bin .eql (.t 31) (.t 32), none⟩]) (.kl [9, 31, 32] (.cond (.t 33) (.kl [0, 1, 2, 7, 24, 25, 26, 33] (.seq (.reg [⟨some 34, .mov (.t 8), none⟩, ⟨some 6, .mov (.t 34), none⟩]) (.kl [8, 34] (.ret)))) (.skip))))))) (.kl [8, 33] (.reg [⟨some 35, .bin .add (.t 26) (.c (.int .i64 1)), none⟩, ⟨some 26, .mov (.t 35), none⟩]))))))
def lp453_0 : C := lb453_0
def fi453 : FI := ⟨.seq (.reg [⟨some 6, .mov (.c (.int .i64 0)), none⟩]) (.kl [6] (.seq (.reg [⟨some 17, .mov (.t 1), none⟩, ⟨some 18, .lit 1 1 [.str []] [(0, 1, .t 17)], none⟩, ⟨some 19, .mov (.t 2), none⟩, ⟨some 20, .call 203 [.t 18, .t 19], none⟩, ⟨some 7, .mov (.t 20), none⟩]) (.kl [17, 18, 19, 20] (.seq (.seq (.reg [⟨some 21, .mov (.t 0), none⟩, ⟨some 22, .nck (.t 21), none⟩, ⟨some 23, .faddr 0 1 (.t 22), none⟩, ⟨some 24, .load false 1 (.t 23), none⟩, ⟨some 25, .lenV (.t 24), none⟩, ⟨some 26, .mov (.c (.int .i64 0)), none⟩]) (.kl [21, 22, 23] (.blk 0 (.loop lp453_0)))) (.seq (.reg [⟨some 10, .mov (.c (.int .i64 0)), none⟩, ⟨some 11, .mov (.c (.int .i64 0)), none⟩, ⟨some 12, .mov (.c (.int .i64 0)), none⟩]) (.seq (.reg [⟨some 36, .mov (.t 1), none⟩, ⟨some 37, .mov (.t 2), none⟩, ⟨some 38, .mov (.t 2), none⟩, ⟨some 39, .un .not (.t 38), none⟩, ⟨some 40, .call 119 [.t 36, .t 37, .t 39], none⟩, ⟨some 13, .mov (.t 40), none⟩]) (.kl [36, 37, 38, 39, 40] (.seq (.seq (.reg [⟨some 41, .mov (.t 13), none⟩, ⟨some 42, .lenV (.t 41), none⟩, ⟨some 43, .bin .eql (.t 42) (.c (.int .i64 0)), none⟩]) (.kl [41, 42] (.cond (.t 43) (.kl [12, 43] (.reg [⟨some 12, .mov (.c (.int .i64 1)), none⟩])) (.skip)))) (.kl [43] (.seq (.seq (.reg [⟨some 44, .mov (.t 13), none⟩, ⟨some 45, .lenV (.t 44), none⟩, ⟨some 46, .mov (.c (.int .i64 0)), none⟩]) (.kl [13] (.blk 2 (.loop lp453_1)))) (.seq (.reg [⟨some 100, .mov (.t 0), none⟩, ⟨some 101, .mov (.t 0), none⟩, ⟨some 102, .nck (.t 101), none⟩, ⟨some 103, .faddr 0 1 (.t 102), none⟩, ⟨some 104, .load false 1 (.t 103), none⟩, ⟨some 105, .mov (.t 7), none⟩, ⟨some 106, .lit 1 1 [.str []] [(0, 1, .t 105)], none⟩, ⟨some 107, .app 1 (.t 104) (.t 106), none⟩, ⟨some 108, .nck (.t 100), none⟩, ⟨some 109, .faddr 0 1 (.t 108), none⟩, ⟨none, .store 1 (.t 109) (.t 107), none⟩]) (.kl [7, 100, 101, 102, 103, 104, 105, 106, 107, 108, 109] (.seq (.reg [⟨some 110, .mov (.t 0), none⟩, ⟨some 111, .mov (.t 0), none⟩, ⟨some 112, .nck (.t 111), none⟩, ⟨some 113, .faddr 1 1 (.t 112), none⟩, ⟨some 114, .load false 1 (.t 113), none⟩, ⟨some 115, .mov (.t 10), none⟩, ⟨some 116, .lit 1 1 [.int .i64 0] [(0, 1, .t 115)], none⟩, ⟨some 117, .app 1 (.t 114) (.t 116), none⟩, ⟨some 118, .nck (.t 110), none⟩, ⟨some 119, .faddr 1 1 (.t 118), none⟩, ⟨none, .store 1 (.t 119) (.t 117), none⟩]) (.kl [10, 110, 111, 112, 113, 114, 115, 116, 117, 118, 119] (.seq (.reg [⟨some 120, .mov (.t 0), none⟩, ⟨some 121, .mov (.t 0), none⟩, ⟨some 122, .nck (.t 121), none⟩, ⟨some 123, .faddr 2 1 (.t 122), none⟩, ⟨some 124, .load false 1 (.t 123), none⟩, ⟨some 125, .mov (.t 11), none⟩, ⟨some 126, .lit 1 1 [.int .i64 0] [(0, 1, .t 125)], none⟩, ⟨some 127, .app 1 (.t 124) (.t 126), none⟩, ⟨some 128, .nck (.t 120), none⟩, ⟨some 129, .faddr 2 1 (.t 128), none⟩, ⟨none, .store 1 (.t 129) (.t 127), none⟩]) (.kl [11, 120, 121, 122, 123, 124, 125, 126, 127, 128, 129] (.seq (.reg [⟨some 130, .mov (.t 0), none⟩, ⟨some 131, .mov (.t 0), none⟩, ⟨some 132, .nck (.t 131), none⟩, ⟨some 133, .faddr 3 1 (.t 132), none⟩, ⟨some 134, .load false 1 (.t 133), none⟩, ⟨some 135, .mov (.t 12), none⟩, ⟨some 136, .lit 1 1 [.int .i64 0] [(0, 1, .t 135)], none⟩, ⟨some 137, .app 1 (.t 134) (.t 136), none⟩, ⟨some 138, .nck (.t 130), none⟩, ⟨some 139, .faddr 3 1 (.t 138), none⟩, ⟨none, .store 1 (.t 139) (.t 137), none⟩]) (.kl [12, 130, 131, 132, 133, 134, 135, 136, 137, 138, 139] (.seq (.reg [⟨some 140, .mov (.t 0), none⟩, ⟨some 141, .nck (.t 140), none⟩, ⟨some 142, .faddr 0 1 (.t 141), none⟩, ⟨some 143, .load false 1 (.t 142), none⟩, ⟨some 144, .lenV (.t 143), none⟩, ⟨some 145, .bin .sub (.t 144) (.c (.int .i64 1)), none⟩, ⟨some 6, .mov (.t 145), none⟩]) (.kl [0, 140, 141, 142, 143, 144, 145] (.ret))))))))))))))))))))), [.tmp 6]⟩
/-- impl.OutcomeOfSum -/
def fi241 : FI := ⟨.seq (.reg [⟨some 2, .mov (.c (.str [])), none⟩, ⟨some 3, .mov (.c (.bool false)), none⟩]) (.kl [2, 3] (.seq (.reg [⟨some 7, .mov (.t 0), none⟩, ⟨some 8, .call 249 [.t 7], none⟩, ⟨some 6, .mov (.t 8), none⟩, ⟨some 9, .prj 0 (.t 6), none⟩, ⟨some 10, .prj 1 (.t 6), none⟩, ⟨some 4, .mov (.t 9), none⟩, ⟨some 5, .mov (.t 10), none⟩]) (.kl [0, 6, 7, 8, 9, 10] (.seq (.seq (.reg [⟨some 11, .mov (.t 5), none⟩, ⟨some 12, .un .not (.t 11), none⟩]) (.kl [5, 11] (.cond (.t 12) (.kl [4, 12] (.seq (.reg [⟨some 2, .mov (.c (.str [])), none⟩, ⟨some 3, .mov (.c (.bool false)), none⟩]) (.ret))) (.skip)))) (.kl [12] (.seq (.reg [⟨some 13, .call 192 [], none⟩, ⟨some 14, .mov (.t 4), none⟩, ⟨some 15, .call 193 [.t 13, .t 14], none⟩, ⟨some 2, .mov (.t 15), none⟩, ⟨some 3, .mov (.c (.bool true)), none⟩]) (.kl [4, 13, 14, 15] (.ret)))))))), [.tmp 2, .tmp 3]⟩
/-- (*spec.l1Cur).played -/
def fi454 : FI := ⟨.seq (.reg [⟨some 2, .mov (.c (.str [])), none⟩]) (.kl [2] (.seq (.seq (.reg [⟨some 3, .mov (.t 0), none⟩, ⟨some 4, .call 63 [.t 3, .c (.int .i64 16)], none⟩]) (.kl [3] (.blk 0 (.seq (.reg [⟨some 6, .bin .eql (.t 4) (.c (.int .i64 0)), none⟩, ⟨some 5, .mov (.t 6), none⟩]) (.kl [6] (.cond (.t 5) (.kl [4, 5] (.seq (.reg [⟨some 7, .mov (.t 0), none⟩, ⟨some 8, .lit 1 5 [.str [], .str [], .str [], .str [], .str []] [(0, 1, .c (.str [])), (1, 1, .c (.str [120])), (2, 1, .c (.str [84, 84, 84, 46, 46, 46, 46, 70, 70, 70])), (3, 1, .c (.str [84, 84, 46, 84, 46, 70, 46, 70, 46, 70, 70])), (4, 1, .c (.str [46]))], none⟩, ⟨some 9, .call 71 [.t 7, .t 8], none⟩, ⟨some 2, .mov (.t 9), none⟩]) (.kl [0, 7, 8, 9] (.ret)))) (.kl [5] (.seq (.seq (.reg [⟨some 11, .bin .eql (.t 4) (.c (.int .i64 1)), none⟩, ⟨some 10, .mov (.t 11), none⟩]) (.kl [11] (.cond (.t 10) (.skip) (.kl [10] (.seq (.reg [⟨some 12, .bin .eql (.t 4) (.c (.int .i64 2)), none⟩, ⟨some 10, .mov (.t 12), none⟩]) (.kl [12] (.cond (.t 10) (.skip) (.kl [10] (.reg [⟨some 13, .bin .eql (.t 4) (.c (.int .i64 3)), none⟩, ⟨some 10, .mov (.t 13), none⟩]))))))))) (.kl [4, 13] (.cond (.t 10) (.kl [10] (.seq (.reg [⟨some 14, .mov (.t 0), none⟩, ⟨some 15, .call 63 [.t 14, .c (.int .i64 3)], none⟩, ⟨some 16, .bin .add (.c (.int .i64 1)) (.t 15), none⟩, ⟨some 17, .mov (.t 0), none⟩, ⟨some 18, .call 63 [.t 17, .c (.int .i64 2)], none⟩, ⟨some 19, .bin .add (.c (.int .i64 1)) (.t 18), none⟩, ⟨some 20, .mov (.t 0), none⟩, ⟨some 21, .call 63 [.t 20, .c (.int .i64 3)], none⟩, ⟨some 22, .bin .add (.c (.int .i64 1)) (.t 21), none⟩, ⟨some 23, .call 100 [.t 16, .t 19, .t 22], none⟩, ⟨some 2, .mov (.t 23), none⟩]) (.kl [0, 14, 15, 16, 17, 18, 19, 20, 21, 22, 23] (.ret)))) (.skip))))))))))) (.kl [10] (.seq (.reg [⟨some 24, .mov (.t 0), none⟩, ⟨some 25, .call 99 [.t 24, .c (.int .i64 8)], none⟩, ⟨some 2, .mov (.t 25), none⟩]) (.kl [0, 24, 25] (.ret)))))), [.tmp 2]⟩
/-- (*spec.l1Cur).one -/
def fi64 : FI := ⟨.seq (.reg [⟨some 4, .mov (.c (.bool false)), none⟩]) (.kl [4] (.seq (.reg [⟨some 5, .mov (.t 0), none⟩, ⟨some 6, .mov (.t 1), none⟩, ⟨some 7, .call 63 [.t 5, .t 6], none⟩, ⟨some 8, .bin .eql (.t 7) (.c (.int .i64 0)), none⟩, ⟨some 4, .mov (.t 8), none⟩]) (.kl [0, 1, 5, 6, 7, 8] (.ret)))), [.tmp 4]⟩
-- lp105_0 HEAD [0, 1, 5, 11, 12] | exit 0: [5]
/-- impl.moves -/
def lb105_0 : C := .kl [37] (.seq (.reg [⟨some 13, .bin .lss (.t 12) (.t 11), none⟩]) (.seq (.cond (.t 13) (.skip) (.kl [0, 1, 11, 12, 13] (.exit 0))) (.kl [13] (.seq (.blk 1 (.seq (.reg [⟨some 14, .mov (.t 12), none⟩, ⟨some 6, .mov (.t 14), none⟩]) (.kl [14] (.seq (.reg [⟨some 16, .mov (.t 0), none⟩, ⟨some 17, .mov (.t 6), none⟩, ⟨some 18, .call 127 [.t 16, .t 17], none⟩, ⟨some 15, .mov (.t 18), none⟩, ⟨some 19, .prj 0 (.t 15), none⟩, ⟨some 20, .prj 1 (.t 15), none⟩, ⟨some 7, .mov (.t 19), none⟩, ⟨some 8, .mov (.t 20), none⟩]) (.kl [15, 16, 17, 18, 19, 20] (.seq (.reg [⟨some 21, .mov (.t 8), none⟩, ⟨some 22, .mov (.t 21), none⟩, ⟨some 23, .mov (.t 1), some (22, true)⟩, ⟨some 24, .mov (.t 0), some (22, true)⟩, ⟨some 25, .mov (.t 6), some (22, true)⟩, ⟨some 26, .mov (.t 6), some (22, true)⟩, ⟨some 27, .bin .add (.t 26) (.c (.int .i64 1)), some (22, true)⟩, ⟨some 28, .subS (.t 24) (some (.t 25)) (some (.t 27)), some (22, true)⟩, ⟨some 29, .call 126 [.t 23, .t 28], some (22, true)⟩, ⟨some 30, .pick (.t 22) (.t 29) (.c (.bool false)), none⟩]) (.kl [8, 21, 22, 23, 24, 25, 26, 27, 28, 29] (.cond (.t 30) (.kl [30] (.reg [⟨some 31, .mov (.t 5), none⟩, ⟨some 32, .mov (.t 6), none⟩, ⟨some 33, .mov (.t 7), none⟩, ⟨some 34, .build [.int .i64 0, .int .i64 0] [(0, 1, .t 32), (1, 1, .t 33)], none⟩, ⟨some 35, .lit 2 1 [.int .i64 0, .int .i64 0] [(0, 2, .t 34)], none⟩, ⟨some 36, .app 2 (.t 31) (.t 35), none⟩, ⟨some 5, .mov (.t 36), none⟩])) (.skip))))))))) (.kl [6, 7, 30, 31, 32, 33, 34, 35, 36] (.reg [⟨some 37, .bin .add (.t 12) (.c (.int .i64 1)), none⟩, ⟨some 12, .mov (.t 37), none⟩]))))))
def lp105_0 : C := lb105_0
def fi105 : FI := ⟨.seq (.reg [⟨some 4, .mov (.c (.nilS)), none⟩]) (.kl [4] (.seq (.reg [⟨some 9, .lit0, none⟩, ⟨some 5, .mov (.t 9), none⟩]) (.kl [9] (.seq (.seq (.reg [⟨some 10, .mov (.t 0), none⟩, ⟨some 11, .lenS (.t 10), none⟩, ⟨some 12, .mov (.c (.int .i64 0)), none⟩]) (.kl [10] (.blk 0 (.loop lp105_0)))) (.seq (.reg [⟨some 38, .mov (.t 5), none⟩, ⟨some 4, .mov (.t 38), none⟩]) (.kl [5, 38] (.ret))))))), [.tmp 4]⟩
-- lp302_0 HEAD [0, 1, 5, 6] | exit 0: [5]
/-- spec.liSum -/
def lb302_0 : C := .kl [11, 12] (.seq (.seq (.reg [⟨some 7, .mov (.t 6), none⟩, ⟨some 8, .mov (.t 0), none⟩, ⟨some 9, .lenS (.t 8), none⟩, ⟨some 10, .bin .lss (.t 7) (.t 9), none⟩]) (.kl [7, 8, 9] (.cond (.t 10) (.skip) (.kl [0, 1, 6, 10] (.exit 0))))) (.kl [10] (.seq (.blk 1 (.seq (.reg [⟨some 13, .mov (.t 0), none⟩, ⟨some 14, .mov (.t 6), none⟩, ⟨some 15, .idxS (.t 13) (.t 14), none⟩, ⟨some 16, .mov (.t 1), none⟩, ⟨some 17, .bin .eql (.t 15) (.t 16), none⟩]) (.kl [13, 14, 15, 16] (.cond (.t 17) (.kl [17] (.reg [⟨some 18, .mov (.t 5), none⟩, ⟨some 19, .mov (.t 6), none⟩, ⟨some 20, .bin .add (.t 18) (.t 19), none⟩, ⟨some 5, .mov (.t 20), none⟩])) (.skip))))) (.kl [17, 18, 19, 20] (.reg [⟨some 11, .mov (.t 6), none⟩, ⟨some 12, .bin .add (.t 11) (.c (.int .i64 1)), none⟩, ⟨some 6, .mov (.t 12), none⟩])))))
def lp302_0 : C := lb302_0
def fi302 : FI := ⟨.seq (.reg [⟨some 4, .mov (.c (.int .i64 0)), none⟩]) (.kl [4] (.seq (.reg [⟨some 5, .mov (.c (.int .i64 0)), none⟩]) (.seq (.seq (.reg [⟨some 6, .mov (.c (.int .i64 0)), none⟩]) (.blk 0 (.loop lp302_0))) (.seq (.reg [⟨some 21, .mov (.t 5), none⟩, ⟨some 4, .mov (.t 21), none⟩]) (.kl [5, 21] (.ret)))))), [.tmp 4]⟩
-- lp110_0 HEAD [0, 2, 3] | exit 0: []
/-- slices.Reverse[[]byte,byte] -/
def lb110_0 : C := .kl [10, 11, 12, 13] (.seq (.seq (.reg [⟨some 7, .mov (.t 2), none⟩, ⟨some 8, .mov (.t 3), none⟩, ⟨some 9, .bin .lss (.t 7) (.t 8), none⟩]) (.kl [7, 8] (.cond (.t 9) (.skip) (.kl [0, 2, 3, 9] (.exit 0))))) (.kl [9] (.seq (.blk 1 (.drw [⟨some 14, .mov (.t 0), none⟩, ⟨some 15, .mov (.t 2), none⟩, ⟨some 16, .mov (.t 0), none⟩, ⟨some 17, .mov (.t 3), none⟩, ⟨some 18, .mov (.t 0), none⟩, ⟨some 19, .mov (.t 3), none⟩, ⟨some 20, .iaddr 1 (.t 18) (.t 19), none⟩, ⟨some 21, .load false 1 (.t 20), none⟩, ⟨some 22, .mov (.t 0), none⟩, ⟨some 23, .mov (.t 2), none⟩, ⟨some 24, .iaddr 1 (.t 22) (.t 23), none⟩, ⟨some 25, .load false 1 (.t 24), none⟩, ⟨some 26, .iaddr 1 (.t 14) (.t 15), none⟩, ⟨none, .store 1 (.t 26) (.t 21), none⟩, ⟨some 27, .iaddr 1 (.t 16) (.t 17), none⟩, ⟨none, .store 1 (.t 27) (.t 25), none⟩] [])) (.kl [14, 15, 16, 17, 18, 19, 20, 21, 22, 23, 24, 25, 26, 27] (.reg [⟨some 10, .mov (.t 2), none⟩, ⟨some 11, .bin .add (.t 10) (.c (.int .i64 1)), none⟩, ⟨some 12, .mov (.t 3), none⟩, ⟨some 13, .bin .sub (.t 12) (.c (.int .i64 1)), none⟩, ⟨some 2, .mov (.t 11), none⟩, ⟨some 3, .mov (.t 13), none⟩])))))
def lp110_0 : C := lb110_0
def fi110 : FI := ⟨.seq (.reg [⟨some 4, .mov (.t 0), none⟩, ⟨some 5, .lenV (.t 4), none⟩, ⟨some 6, .bin .sub (.t 5) (.c (.int .i64 1)), none⟩, ⟨some 2, .mov (.c (.int .i64 0)), none⟩, ⟨some 3, .mov (.t 6), none⟩]) (.kl [4, 5, 6] (.blk 0 (.loop lp110_0))), []⟩
/-- impl.other -/
def fi109 : FI := ⟨.seq (.reg [⟨some 2, .mov (.c (.int .u8 0)), none⟩]) (.kl [2] (.seq (.seq (.reg [⟨some 3, .mov (.t 0), none⟩]) (.blk 0 (.seq (.reg [⟨some 5, .bin .eql (.t 3) (.c (.int .u8 84)), none⟩, ⟨some 4, .mov (.t 5), none⟩]) (.kl [5] (.cond (.t 4) (.kl [0, 3, 4] (.seq (.reg [⟨some 2, .mov (.c (.int .u8 70)), none⟩]) (.ret))) (.kl [4] (.seq (.reg [⟨some 7, .bin .eql (.t 3) (.c (.int .u8 70)), none⟩, ⟨some 6, .mov (.t 7), none⟩]) (.kl [3, 7] (.cond (.t 6) (.kl [0, 6] (.seq (.reg [⟨some 2, .mov (.c (.int .u8 84)), none⟩]) (.ret))) (.skip)))))))))) (.kl [6] (.seq (.reg [⟨some 8, .mov (.t 0), none⟩, ⟨some 2, .mov (.t 8), none⟩]) (.kl [0, 8] (.ret)))))), [.tmp 2]⟩
/-- impl.goal -/
def fi127 : FI := ⟨.seq (.reg [⟨some 4, .mov (.c (.int .i64 0)), none⟩, ⟨some 5, .mov (.c (.bool false)), none⟩]) (.kl [4, 5] (.seq (.reg [⟨some 7, .mov (.t 0), none⟩, ⟨some 8, .mov (.t 1), none⟩, ⟨some 9, .idxS (.t 7) (.t 8), none⟩, ⟨some 10, .call 103 [.t 9], none⟩, ⟨some 6, .mov (.t 10), none⟩]) (.kl [7, 8, 9, 10] (.seq (.blk 0 (.seq (.reg [⟨some 12, .mov (.t 6), none⟩, ⟨some 13, .bin .eql (.t 12) (.c (.int .i64 0)), none⟩, ⟨some 11, .mov (.t 13), none⟩]) (.kl [12, 13] (.cond (.t 11) (.skip) (.kl [11] (.seq (.reg [⟨some 15, .mov (.t 0), none⟩, ⟨some 16, .mov (.t 1), none⟩, ⟨some 17, .mov (.t 6), none⟩, ⟨some 18, .bin .add (.t 16) (.t 17), none⟩, ⟨some 19, .call 125 [.t 15, .t 18], none⟩, ⟨some 20, .bin .eql (.t 19) (.c (.int .u8 46)), none⟩, ⟨some 14, .mov (.t 20), none⟩]) (.kl [15, 16, 17, 18, 19, 20] (.cond (.t 14) (.kl [0, 14] (.seq (.reg [⟨some 21, .mov (.t 1), none⟩, ⟨some 22, .mov (.t 6), none⟩, ⟨some 23, .bin .add (.t 21) (.t 22), none⟩, ⟨some 4, .mov (.t 23), none⟩, ⟨some 5, .mov (.c (.bool true)), none⟩]) (.kl [1, 6, 21, 22, 23] (.ret)))) (.kl [14] (.seq (.drw [⟨some 25, .mov (.t 0), none⟩, ⟨some 26, .mov (.t 1), none⟩, ⟨some 27, .mov (.t 6), none⟩, ⟨some 28, .bin .add (.t 26) (.t 27), none⟩, ⟨some 29, .call 125 [.t 25, .t 28], none⟩, ⟨some 30, .mov (.t 0), none⟩, ⟨some 31, .mov (.t 1), none⟩, ⟨some 32, .idxS (.t 30) (.t 31), none⟩, ⟨some 33, .call 109 [.t 32], none⟩, ⟨some 34, .bin .eql (.t 29) (.t 33), none⟩, ⟨some 35, .mov (.t 34), none⟩, ⟨some 36, .mov (.t 0), some (35, true)⟩, ⟨some 37, .mov (.t 1), some (35, true)⟩, ⟨some 38, .mov (.t 6), some (35, true)⟩, ⟨some 39, .bin .mul (.c (.int .i64 2)) (.t 38), some (35, true)⟩, ⟨some 40, .bin .add (.t 37) (.t 39), some (35, true)⟩, ⟨some 41, .call 125 [.t 36, .t 40], some (35, true)⟩, ⟨some 42, .bin .eql (.t 41) (.c (.int .u8 46)), some (35, true)⟩, ⟨some 43, .pick (.t 35) (.t 42) (.c (.bool false)), none⟩, ⟨some 24, .mov (.t 43), none⟩] []) (.kl [0, 25, 26, 27, 28, 29, 30, 31, 32, 33, 34, 35, 36, 37, 38, 39, 40, 41, 42, 43] (.cond (.t 24) (.kl [24] (.seq (.reg [⟨some 44, .mov (.t 1), none⟩, ⟨some 45, .mov (.t 6), none⟩, ⟨some 46, .bin .mul (.c (.int .i64 2)) (.t 45), none⟩, ⟨some 47, .bin .add (.t 44) (.t 46), none⟩, ⟨some 4, .mov (.t 47), none⟩, ⟨some 5, .mov (.c (.bool true)), none⟩]) (.kl [1, 6, 44, 45, 46, 47] (.ret)))) (.skip))))))))))))) (.kl [0, 1, 6, 11, 24] (.seq (.reg [⟨some 4, .mov (.c (.int .i64 0)), none⟩, ⟨some 5, .mov (.c (.bool false)), none⟩]) (.ret))))))), [.tmp 4, .tmp 5]⟩
/-- (*spec.l1Cur).among -/
def fi62 : FI := ⟨.seq (.reg [⟨some 4, .mov (.c (.int .i64 0)), none⟩]) (.kl [4] (.seq (.reg [⟨some 5, .mov (.t 1), none⟩, ⟨some 6, .mov (.t 0), none⟩, ⟨some 7, .mov (.t 1), none⟩, ⟨some 8, .lenV (.t 7), none⟩, ⟨some 9, .call 63 [.t 6, .t 8], none⟩, ⟨some 10, .iaddr 1 (.t 5) (.t 9), none⟩, ⟨some 11, .load false 1 (.t 10), none⟩, ⟨some 4, .mov (.t 11), none⟩]) (.kl [0, 1, 5, 6, 7, 8, 9, 10, 11] (.ret)))), [.tmp 4]⟩
/-- spec.liPut -/
def fi108 : FI := ⟨.seq (.reg [⟨some 6, .mov (.c (.str [])), none⟩]) (.kl [6] (.seq (.drw [⟨some 7, .mov (.t 0), none⟩, ⟨some 8, .mov (.t 1), none⟩, ⟨some 9, .subS (.t 7) none (some (.t 8)), none⟩, ⟨some 10, .mov (.t 2), none⟩, ⟨some 11, .bin .add (.t 9) (.t 10), none⟩, ⟨some 12, .mov (.t 0), none⟩, ⟨some 13, .mov (.t 1), none⟩, ⟨some 14, .bin .add (.t 13) (.c (.int .i64 1)), none⟩, ⟨some 15, .subS (.t 12) (some (.t 14)) none, none⟩, ⟨some 16, .bin .add (.t 11) (.t 15), none⟩, ⟨some 6, .mov (.t 16), none⟩] []) (.kl [0, 1, 2, 7, 8, 9, 10, 11, 12, 13, 14, 15, 16] (.ret)))), [.tmp 6]⟩
/-- spec.l1Most -/
def fi455 : FI := ⟨.seq (.reg [⟨some 4, .mov (.c (.int .i64 0)), none⟩]) (.kl [4] (.seq (.seq (.reg [⟨some 5, .mov (.t 0), none⟩, ⟨some 6, .mov (.t 1), none⟩, ⟨some 7, .bin .gtr (.t 5) (.t 6), none⟩]) (.kl [5, 6] (.cond (.t 7) (.kl [1, 7] (.seq (.reg [⟨some 8, .mov (.t 0), none⟩, ⟨some 4, .mov (.t 8), none⟩]) (.kl [0, 8] (.ret)))) (.skip)))) (.kl [0, 7] (.seq (.reg [⟨some 9, .mov (.t 1), none⟩, ⟨some 4, .mov (.t 9), none⟩]) (.kl [1, 9] (.ret)))))), [.tmp 4]⟩
/-- impl.ordered -/
def fi246 : FI := ⟨.seq (.reg [⟨some 10, .mov (.c (.str [])), none⟩]) (.kl [10] (.seq (.reg [⟨some 11, .mov (.t 0), none⟩, ⟨some 12, .ofR (.t 11), none⟩, ⟨some 13, .mov (.t 1), none⟩, ⟨some 14, .call 123 [.t 12, .t 13], none⟩, ⟨some 15, .mov (.t 2), none⟩, ⟨some 16, .call 123 [.c (.str [46]), .t 15], none⟩, ⟨some 17, .bin .add (.t 14) (.t 16), none⟩, ⟨some 18, .mov (.t 3), none⟩, ⟨some 19, .ofR (.t 18), none⟩, ⟨some 20, .mov (.t 4), none⟩, ⟨some 21, .call 123 [.t 19, .t 20], none⟩, ⟨some 22, .bin .add (.t 17) (.t 21), none⟩, ⟨some 10, .mov (.t 22), none⟩]) (.kl [0, 1, 2, 3, 4, 11, 12, 13, 14, 15, 16, 17, 18, 19, 20, 21, 22] (.ret)))), [.tmp 10]⟩
-- lp124_0 HEAD [0, 1, 5] | exit 0: [5]
/-- spec.liTimes -/
def lb124_0 : C := .kl [8, 9] (.seq (.seq (.reg [⟨some 6, .mov (.t 1), none⟩, ⟨some 7, .bin .gtr (.t 6) (.c (.int .i64 0)), none⟩]) (.kl [6] (.cond (.t 7) (.skip) (.kl [0, 1, 7] (.exit 0))))) (.kl [7] (.seq (.blk 1 (.reg [⟨some 10, .mov (.t 5), none⟩, ⟨some 11, .mov (.t 0), none⟩, ⟨some 12, .bin .add (.t 10) (.t 11), none⟩, ⟨some 5, .mov (.t 12), none⟩])) (.kl [10, 11, 12] (.reg [⟨some 8, .mov (.t 1), none⟩, ⟨some 9, .bin .sub (.t 8) (.c (.int .i64 1)), none⟩, ⟨some 1, .mov (.t 9), none⟩])))))
def lp124_0 : C := lb124_0
def fi124 : FI := ⟨.seq (.reg [⟨some 4, .mov (.c (.str [])), none⟩]) (.kl [4] (.seq (.reg [⟨some 5, .mov (.c (.str [])), none⟩]) (.seq (.blk 0 (.loop lp124_0)) (.seq (.reg [⟨some 13, .mov (.t 5), none⟩, ⟨some 4, .mov (.t 13), none⟩]) (.kl [5, 13] (.ret)))))), [.tmp 4]⟩
-- lp114_0 HEAD [1, 2, 9, 10, 11] | exit 0: [] | ret: [6]
/-- spec.l1All -/
def lb114_0 : C := .kl [20] (.seq (.reg [⟨some 12, .bin .lss (.t 11) (.t 10), none⟩]) (.seq (.cond (.t 12) (.skip) (.kl [1, 2, 9, 10, 11, 12] (.exit 0))) (.kl [12] (.seq (.blk 1 (.seq (.reg [⟨some 13, .iaddr 1 (.t 9) (.t 11), none⟩, ⟨some 14, .load false 1 (.t 13), none⟩, ⟨some 8, .mov (.t 14), none⟩]) (.kl [13, 14] (.seq (.reg [⟨some 15, .mov (.t 8), none⟩, ⟨some 16, .mov (.t 1), none⟩, ⟨some 17, .mov (.t 2), none⟩, ⟨some 18, .call 77 [.t 15, .t 16, .t 17], none⟩, ⟨some 19, .un .not (.t 18), none⟩]) (.kl [8, 15, 16, 17, 18] (.cond (.t 19) (.kl [1, 2, 9, 10, 11, 19] (.seq (.reg [⟨some 6, .mov (.c (.bool false)), none⟩]) (.ret))) (.skip))))))) (.kl [19] (.reg [⟨some 20, .bin .add (.t 11) (.c (.int .i64 1)), none⟩, ⟨some 11, .mov (.t 20), none⟩]))))))
def lp114_0 : C := lb114_0
def fi114 : FI := ⟨.seq (.reg [⟨some 6, .mov (.c (.bool false)), none⟩]) (.kl [6] (.seq (.seq (.reg [⟨some 9, .mov (.t 0), none⟩, ⟨some 10, .lenV (.t 9), none⟩, ⟨some 11, .mov (.c (.int .i64 0)), none⟩]) (.kl [0] (.blk 0 (.loop lp114_0)))) (.seq (.reg [⟨some 6, .mov (.c (.bool true)), none⟩]) (.ret)))), [.tmp 6]⟩
/-- (*spec.l1Cur).next -/
def fi107 : FI := ⟨.seq (.reg [⟨some 2, .mov (.c (.int .i64 0)), none⟩]) (.kl [2] (.seq (.reg [⟨some 3, .mov (.c (.int .i64 0)), none⟩]) (.seq (.seq (.drw [⟨some 4, .mov (.t 0), none⟩, ⟨some 5, .nck (.t 4), none⟩, ⟨some 6, .faddr 1 1 (.t 5), none⟩, ⟨some 7, .load false 1 (.t 6), none⟩, ⟨some 8, .mov (.t 0), none⟩, ⟨some 9, .nck (.t 8), none⟩, ⟨some 10, .faddr 0 1 (.t 9), none⟩, ⟨some 11, .load false 1 (.t 10), none⟩, ⟨some 12, .lenV (.t 11), none⟩, ⟨some 13, .bin .lss (.t 7) (.t 12), none⟩] []) (.kl [4, 5, 6, 7, 8, 9, 10, 11, 12] (.cond (.t 13) (.kl [3, 13] (.drw [⟨some 14, .mov (.t 0), none⟩, ⟨some 15, .nck (.t 14), none⟩, ⟨some 16, .faddr 0 1 (.t 15), none⟩, ⟨some 17, .load false 1 (.t 16), none⟩, ⟨some 18, .mov (.t 0), none⟩, ⟨some 19, .nck (.t 18), none⟩, ⟨some 20, .faddr 1 1 (.t 19), none⟩, ⟨some 21, .load false 1 (.t 20), none⟩, ⟨some 22, .iaddr 1 (.t 17) (.t 21), none⟩, ⟨some 23, .load false 1 (.t 22), none⟩, ⟨some 24, .conv .i64 (.t 23), none⟩, ⟨some 3, .mov (.t 24), none⟩] [])) (.skip)))) (.kl [13, 14, 15, 16, 17, 18, 19, 20, 21, 22, 23, 24] (.seq (.reg [⟨some 25, .mov (.t 0), none⟩, ⟨some 26, .nck (.t 25), none⟩, ⟨some 27, .faddr 1 1 (.t 26), none⟩, ⟨some 28, .load false 1 (.t 27), none⟩, ⟨some 29, .bin .add (.t 28) (.c (.int .i64 1)), none⟩, ⟨some 30, .nck (.t 25), none⟩, ⟨some 31, .faddr 1 1 (.t 30), none⟩, ⟨none, .store 1 (.t 31) (.t 29), none⟩]) (.kl [25, 26, 27, 28, 29, 30, 31] (.seq (.reg [⟨some 32, .mov (.t 0), none⟩, ⟨some 33, .mov (.t 0), none⟩, ⟨some 34, .nck (.t 33), none⟩, ⟨some 35, .faddr 2 1 (.t 34), none⟩, ⟨some 36, .load false 1 (.t 35), none⟩, ⟨some 37, .bin .mul (.t 36) (.c (.int .u64 6364136223846793005)), none⟩, ⟨some 38, .mov (.t 3), none⟩, ⟨some 39, .conv .u64 (.t 38), none⟩, ⟨some 40, .bin .add (.t 37) (.t 39), none⟩, ⟨some 41, .bin .add (.t 40) (.c (.int .u64 1442695040888963407)), none⟩, ⟨some 42, .nck (.t 32), none⟩, ⟨some 43, .faddr 2 1 (.t 42), none⟩, ⟨none, .store 1 (.t 43) (.t 41), none⟩]) (.kl [32, 33, 34, 35, 36, 37, 38, 39, 40, 41, 42, 43] (.seq (.seq (.drw [⟨some 44, .mov (.t 0), none⟩, ⟨some 45, .nck (.t 44), none⟩, ⟨some 46, .faddr 1 1 (.t 45), none⟩, ⟨some 47, .load false 1 (.t 46), none⟩, ⟨some 48, .mov (.t 0), none⟩, ⟨some 49, .nck (.t 48), none⟩, ⟨some 50, .faddr 0 1 (.t 49), none⟩, ⟨some 51, .load false 1 (.t 50), none⟩, ⟨some 52, .lenV (.t 51), none⟩, ⟨some 53, .bin .leq (.t 47) (.t 52), none⟩] []) (.kl [44, 45, 46, 47, 48, 49, 50, 51, 52] (.cond (.t 53) (.kl [0, 53] (.seq (.reg [⟨some 54, .mov (.t 3), none⟩, ⟨some 2, .mov (.t 54), none⟩]) (.kl [3, 54] (.ret)))) (.skip)))) (.kl [3, 53] (.seq (.reg [⟨some 55, .mov (.t 0), none⟩, ⟨some 56, .nck (.t 55), none⟩, ⟨some 57, .faddr 2 1 (.t 56), none⟩, ⟨some 58, .load false 1 (.t 57), none⟩, ⟨some 59, .bin .shr (.t 58) (.c (.int .u64 40)), none⟩, ⟨some 60, .bin .and (.t 59) (.c (.int .u64 255)), none⟩, ⟨some 61, .conv .i64 (.t 60), none⟩, ⟨some 2, .mov (.t 61), none⟩]) (.kl [0, 55, 56, 57, 58, 59, 60, 61] (.ret))))))))))))), [.tmp 2]⟩
/-- (*spec.l1Cur).of -/
def fi71 : FI := ⟨.seq (.reg [⟨some 4, .mov (.c (.str [])), none⟩]) (.kl [4] (.seq (.reg [⟨some 5, .mov (.t 1), none⟩, ⟨some 6, .mov (.t 0), none⟩, ⟨some 7, .mov (.t 1), none⟩, ⟨some 8, .lenV (.t 7), none⟩, ⟨some 9, .call 63 [.t 6, .t 8], none⟩, ⟨some 10, .iaddr 1 (.t 5) (.t 9), none⟩, ⟨some 11, .load false 1 (.t 10), none⟩, ⟨some 4, .mov (.t 11), none⟩]) (.kl [0, 1, 5, 6, 7, 8, 9, 10, 11] (.ret)))), [.tmp 4]⟩
-- lp99_0 HEAD [0, 5, 6] | exit 0: [0, 5]
/-- (*spec.l1Cur).sureLine -/
def lb99_0 : C := .kl [13, 14] (.seq (.seq (.reg [⟨some 11, .mov (.t 6), none⟩, ⟨some 12, .bin .gtr (.t 11) (.c (.int .i64 0)), none⟩]) (.kl [11] (.cond (.t 12) (.skip) (.kl [6, 12] (.exit 0))))) (.kl [12] (.seq (.blk 1 (.reg [⟨some 15, .mov (.t 5), none⟩, ⟨some 16, .mov (.t 0), none⟩, ⟨some 17, .lit 1 5 [.str [], .str [], .str [], .str [], .str []] [(0, 1, .c (.str [84])), (1, 1, .c (.str [70])), (2, 1, .c (.str [46])), (3, 1, .c (.str [84])), (4, 1, .c (.str [70]))], none⟩, ⟨some 18, .call 71 [.t 16, .t 17], none⟩, ⟨some 19, .bin .add (.t 15) (.t 18), none⟩, ⟨some 5, .mov (.t 19), none⟩])) (.kl [15, 16, 17, 18, 19] (.reg [⟨some 13, .mov (.t 6), none⟩, ⟨some 14, .bin .sub (.t 13) (.c (.int .i64 1)), none⟩, ⟨some 6, .mov (.t 14), none⟩])))))
def lp99_0 : C := lb99_0
def fi99 : FI := ⟨.seq (.reg [⟨some 4, .mov (.c (.str [])), none⟩]) (.kl [4] (.seq (.reg [⟨some 5, .mov (.c (.str [])), none⟩]) (.seq (.seq (.reg [⟨some 7, .mov (.t 0), none⟩, ⟨some 8, .mov (.t 1), none⟩, ⟨some 9, .call 63 [.t 7, .t 8], none⟩, ⟨some 10, .bin .add (.c (.int .i64 1)) (.t 9), none⟩, ⟨some 6, .mov (.t 10), none⟩]) (.kl [1, 7, 8, 9, 10] (.blk 0 (.loop lp99_0)))) (.seq (.seq (.reg [⟨some 20, .mov (.t 5), none⟩, ⟨some 21, .call 116 [.t 20, .c (.int .u8 46)], none⟩, ⟨some 22, .bin .eql (.t 21) (.c (.int .i64 0)), none⟩, ⟨some 23, .mov (.t 22), none⟩, ⟨some 24, .mov (.t 0), some (23, true)⟩, ⟨some 25, .call 64 [.t 24, .c (.int .i64 8)], some (23, true)⟩, ⟨some 26, .un .not (.t 25), some (23, true)⟩, ⟨some 27, .pick (.t 23) (.t 26) (.c (.bool false)), none⟩]) (.kl [20, 21, 22, 23, 24, 25, 26] (.cond (.t 27) (.kl [27] (.seq (.reg [⟨some 28, .mov (.t 5), none⟩, ⟨some 29, .mov (.t 0), none⟩, ⟨some 30, .mov (.t 5), none⟩, ⟨some 31, .lenS (.t 30), none⟩, ⟨some 32, .call 63 [.t 29, .t 31], none⟩, ⟨some 33, .call 108 [.t 28, .t 32, .c (.str [46])], none⟩, ⟨some 4, .mov (.t 33), none⟩]) (.kl [0, 5, 28, 29, 30, 31, 32, 33] (.ret)))) (.skip)))) (.kl [0, 27] (.seq (.reg [⟨some 34, .mov (.t 5), none⟩, ⟨some 4, .mov (.t 34), none⟩]) (.kl [5, 34] (.ret)))))))), [.tmp 4]⟩
-- lp249_0 HEAD [0, 4, 7, 8, 9] | exit 0: [0, 4] | ret: [2, 3]
/-- impl.sumOf -/
def lb249_0 : C := .kl [20] (.seq (.reg [⟨some 10, .bin .lss (.t 9) (.t 8), none⟩]) (.seq (.cond (.t 10) (.skip) (.kl [7, 8, 9, 10] (.exit 0))) (.kl [10] (.seq (.blk 1 (.seq (.reg [⟨some 11, .iaddr 1 (.t 7) (.t 9), none⟩, ⟨some 12, .load false 1 (.t 11), none⟩, ⟨some 6, .mov (.t 12), none⟩]) (.kl [11, 12] (.seq (.seq (.reg [⟨some 13, .mov (.t 6), none⟩, ⟨some 14, .call 254 [.t 13], none⟩, ⟨some 15, .un .not (.t 14), none⟩]) (.kl [13, 14] (.cond (.t 15) (.kl [0, 4, 6, 7, 8, 9, 15] (.seq (.reg [⟨some 2, .mov (.c (.str [])), none⟩, ⟨some 3, .mov (.c (.bool false)), none⟩]) (.ret))) (.skip)))) (.kl [15] (.reg [⟨some 16, .mov (.t 4), none⟩, ⟨some 17, .mov (.t 6), none⟩, ⟨some 18, .lenS (.t 17), none⟩, ⟨some 19, .bin .add (.t 16) (.t 18), none⟩, ⟨some 4, .mov (.t 19), none⟩])))))) (.kl [6, 16, 17, 18, 19] (.reg [⟨some 20, .bin .add (.t 9) (.c (.int .i64 1)), none⟩, ⟨some 9, .mov (.t 20), none⟩]))))))
def lp249_0 : C := lb249_0
def fi249 : FI := ⟨.seq (.reg [⟨some 2, .mov (.c (.str [])), none⟩, ⟨some 3, .mov (.c (.bool false)), none⟩]) (.kl [2, 3] (.seq (.reg [⟨some 4, .mov (.c (.int .i64 0)), none⟩]) (.seq (.seq (.reg [⟨some 7, .mov (.t 0), none⟩, ⟨some 8, .lenV (.t 7), none⟩, ⟨some 9, .mov (.c (.int .i64 0)), none⟩]) (.blk 0 (.loop lp249_0))) (.seq (.reg [⟨some 21, .mov (.t 0), none⟩, ⟨some 22, .call 255 [.t 21, .c (.str [32])], none⟩, ⟨some 23, .mov (.t 0), none⟩, ⟨some 24, .lenV (.t 23), none⟩, ⟨some 25, .call 74 [.t 24, .c (.int .i64 1), .c (.int .i64 3)], none⟩, ⟨some 26, .mov (.t 25), none⟩, ⟨some 27, .mov (.t 4), some (26, true)⟩, ⟨some 28, .bin .leq (.t 27) (.c (.int .i64 10)), some (26, true)⟩, ⟨some 29, .pick (.t 26) (.t 28) (.c (.bool false)), none⟩, ⟨some 2, .mov (.t 22), none⟩, ⟨some 3, .mov (.t 29), none⟩]) (.kl [0, 4, 21, 22, 23, 24, 25, 26, 27, 28, 29] (.ret)))))), [.tmp 2, .tmp 3]⟩
/-- (impl.games).win -/
def fi198 : FI := ⟨.seq (.reg [⟨some 3, .box (.t 0), none⟩, ⟨some 4, .box (.t 1), none⟩, ⟨some 5, .box (.t 2), none⟩, ⟨some 6, .mov (.c (.bool false)), none⟩]) (.kl [0, 1, 2, 6] (.seq (.drw [⟨some 11, .load false 1 (.t 5), none⟩, ⟨some 12, .call 200 [.t 11], none⟩, ⟨some 13, .load false 1 (.t 4), none⟩, ⟨some 14, .bin .add (.t 12) (.t 13), none⟩, ⟨some 7, .mov (.t 14), none⟩] [(2, 1)]) (.kl [11, 12, 13, 14] (.seq (.seq (.reg [⟨some 16, .faddr 0 1 (.t 3), none⟩, ⟨some 17, .load false 1 (.t 16), none⟩, ⟨some 18, .mov (.t 7), none⟩, ⟨some 19, .look 1 (.bool false) true (.t 17) (.t 18), none⟩, ⟨some 15, .mov (.t 19), none⟩, ⟨some 20, .prj 0 (.t 15), none⟩, ⟨some 21, .prj 1 (.t 15), none⟩, ⟨some 8, .mov (.t 20), none⟩, ⟨some 9, .mov (.t 21), none⟩]) (.kl [15, 16, 17, 18, 19, 20, 21] (.seq (.reg [⟨some 22, .mov (.t 9), none⟩]) (.kl [9] (.cond (.t 22) (.kl [3, 4, 5, 7, 22] (.seq (.reg [⟨some 23, .mov (.t 8), none⟩, ⟨some 6, .mov (.t 23), none⟩]) (.kl [8, 23] (.ret)))) (.skip)))))) (.kl [8, 22] (.seq (.drw [⟨some 24, .load false 1 (.t 4), none⟩, ⟨some 25, .load false 1 (.t 5), none⟩, ⟨some 26, .call 200 [.t 25], none⟩, ⟨some 27, .call 105 [.t 24, .t 26], none⟩, ⟨some 28, .mkfn 201 [.t 3, .t 4, .t 5], none⟩, ⟨some 29, .call 202 [.t 27, .t 28], none⟩, ⟨some 10, .mov (.t 29), none⟩] [(0, 2)]) (.kl [4, 5, 24, 25, 26, 27, 28, 29] (.seq (.reg [⟨some 30, .faddr 0 1 (.t 3), none⟩, ⟨some 31, .load false 1 (.t 30), none⟩, ⟨some 32, .mov (.t 7), none⟩, ⟨some 33, .mov (.t 10), none⟩, ⟨none, .mset 1 (.t 31) (.t 32) (.t 33), none⟩]) (.kl [3, 7, 30, 31, 32, 33] (.seq (.reg [⟨some 34, .mov (.t 10), none⟩, ⟨some 6, .mov (.t 34), none⟩]) (.kl [10, 34] (.ret)))))))))))), [.tmp 6]⟩
-- lp203_0 HEAD [5, 9, 10, 11] | exit 0: [5]
/-- spec.gaKey -/
def lb203_0 : C := .kl [19] (.seq (.reg [⟨some 12, .bin .lss (.t 11) (.t 10), none⟩]) (.seq (.cond (.t 12) (.skip) (.kl [9, 10, 11, 12] (.exit 0))) (.kl [12] (.seq (.blk 1 (.seq (.reg [⟨some 13, .iaddr 1 (.t 9) (.t 11), none⟩, ⟨some 14, .load false 1 (.t 13), none⟩, ⟨some 7, .mov (.t 14), none⟩]) (.kl [13, 14] (.reg [⟨some 15, .mov (.t 5), none⟩, ⟨some 16, .mov (.t 7), none⟩, ⟨some 17, .bin .add (.c (.str [47])) (.t 16), none⟩, ⟨some 18, .bin .add (.t 15) (.t 17), none⟩, ⟨some 5, .mov (.t 18), none⟩])))) (.kl [7, 15, 16, 17, 18] (.reg [⟨some 19, .bin .add (.t 11) (.c (.int .i64 1)), none⟩, ⟨some 11, .mov (.t 19), none⟩]))))))
def lp203_0 : C := lb203_0
def fi203 : FI := ⟨.seq (.reg [⟨some 4, .mov (.c (.str [])), none⟩]) (.kl [4] (.seq (.reg [⟨some 5, .mov (.c (.str [102])), none⟩]) (.seq (.seq (.reg [⟨some 8, .mov (.t 1), none⟩]) (.kl [1] (.cond (.t 8) (.kl [5, 8] (.reg [⟨some 5, .mov (.c (.str [116])), none⟩])) (.skip)))) (.kl [8] (.seq (.seq (.reg [⟨some 9, .mov (.t 0), none⟩, ⟨some 10, .lenV (.t 9), none⟩, ⟨some 11, .mov (.c (.int .i64 0)), none⟩]) (.kl [0] (.blk 0 (.loop lp203_0)))) (.seq (.reg [⟨some 20, .mov (.t 5), none⟩, ⟨some 4, .mov (.t 20), none⟩]) (.kl [5, 20] (.ret)))))))), [.tmp 4]⟩
/-- spec.gaWith -/
def fi204 : FI := ⟨.seq (.reg [⟨some 6, .mov (.c (.nilS)), none⟩]) (.kl [6] (.seq (.reg [⟨some 8, .mov (.t 0), none⟩, ⟨some 9, .call 206 [.t 8], none⟩, ⟨some 7, .mov (.t 9), none⟩]) (.kl [0, 8, 9] (.seq (.reg [⟨some 10, .mov (.t 7), none⟩, ⟨some 11, .mov (.t 1), none⟩, ⟨some 12, .mov (.t 2), none⟩, ⟨some 13, .iaddr 1 (.t 10) (.t 11), none⟩, ⟨none, .store 1 (.t 13) (.t 12), none⟩]) (.kl [1, 2, 10, 11, 12, 13] (.seq (.reg [⟨some 14, .mov (.t 7), none⟩, ⟨some 6, .mov (.t 14), none⟩]) (.kl [7, 14] (.ret)))))))), [.tmp 6]⟩
-- lp248_0 HEAD [0, 1, 5, 6] | exit 0: [0, 5]
/-- slices.DeleteFunc[[]impl.Move,impl.Move] -/
def lb248_0 : C := .kl [20, 21] (.seq (.seq (.reg [⟨some 16, .mov (.t 6), none⟩, ⟨some 17, .mov (.t 0), none⟩, ⟨some 18, .lenV (.t 17), none⟩, ⟨some 19, .bin .lss (.t 16) (.t 18), none⟩]) (.kl [16, 17, 18] (.cond (.t 19) (.skip) (.kl [1, 6, 19] (.exit 0))))) (.kl [19] (.seq (.blk 1 (.seq (.reg [⟨some 22, .mov (.t 0), none⟩, ⟨some 23, .mov (.t 6), none⟩, ⟨some 24, .iaddr 2 (.t 22) (.t 23), none⟩, ⟨some 25, .load true 2 (.t 24), none⟩, ⟨some 7, .new [.int .i64 0, .int .i64 0], none⟩, ⟨none, .store 2 (.t 7) (.t 25), none⟩]) (.kl [22, 23, 24, 25] (.seq (.reg [⟨some 26, .mov (.t 1), none⟩, ⟨some 27, .load true 2 (.t 7), none⟩, ⟨some 28, .callv (.t 26) [.t 27], none⟩, ⟨some 29, .un .not (.t 28), none⟩]) (.kl [26, 27, 28] (.cond (.t 29) (.kl [29] (.seq (.reg [⟨some 30, .mov (.t 0), none⟩, ⟨some 31, .mov (.t 5), none⟩, ⟨some 32, .load true 2 (.t 7), none⟩, ⟨some 33, .iaddr 2 (.t 30) (.t 31), none⟩, ⟨none, .store 2 (.t 33) (.t 32), none⟩]) (.kl [7, 30, 31, 32, 33] (.reg [⟨some 34, .mov (.t 5), none⟩, ⟨some 35, .bin .add (.t 34) (.c (.int .i64 1)), none⟩, ⟨some 5, .mov (.t 35), none⟩])))) (.skip))))))) (.kl [7, 29, 34, 35] (.reg [⟨some 20, .mov (.t 6), none⟩, ⟨some 21, .bin .add (.t 20) (.c (.int .i64 1)), none⟩, ⟨some 6, .mov (.t 21), none⟩])))))
def lp248_0 : C := lb248_0
def fi248 : FI := ⟨.seq (.reg [⟨some 4, .mov (.c (.nilS)), none⟩]) (.kl [4] (.seq (.reg [⟨some 8, .mov (.t 0), none⟩, ⟨some 9, .mov (.t 1), none⟩, ⟨some 10, .call 205 [.t 8, .t 9], none⟩, ⟨some 5, .mov (.t 10), none⟩]) (.kl [8, 9, 10] (.seq (.seq (.reg [⟨some 11, .mov (.t 5), none⟩, ⟨some 12, .bin .eql (.t 11) (.c (.int .i64 (-1))), none⟩]) (.kl [11] (.cond (.t 12) (.kl [1, 5, 12] (.seq (.reg [⟨some 13, .mov (.t 0), none⟩, ⟨some 4, .mov (.t 13), none⟩]) (.kl [0, 13] (.ret)))) (.skip)))) (.kl [12] (.seq (.seq (.reg [⟨some 14, .mov (.t 5), none⟩, ⟨some 15, .bin .add (.t 14) (.c (.int .i64 1)), none⟩, ⟨some 6, .mov (.t 15), none⟩]) (.kl [14, 15] (.blk 0 (.loop lp248_0)))) (.seq (.reg [⟨some 36, .mov (.t 0), none⟩, ⟨some 37, .mov (.t 5), none⟩, ⟨some 38, .sub 2 (.t 36) (some (.t 37)) none, none⟩, ⟨none, .clr [.int .i64 0, .int .i64 0] (.t 38), none⟩]) (.kl [36, 37, 38] (.seq (.reg [⟨some 39, .mov (.t 0), none⟩, ⟨some 40, .mov (.t 5), none⟩, ⟨some 41, .sub 2 (.t 39) none (some (.t 40)), none⟩, ⟨some 4, .mov (.t 41), none⟩]) (.kl [0, 5, 39, 40, 41] (.ret))))))))))), [.tmp 4]⟩
/-- impl.kindOf -/
def fi200 : FI := ⟨.seq (.reg [⟨some 2, .mov (.c (.str [])), none⟩]) (.kl [2] (.seq (.seq (.reg [⟨some 3, .mov (.t 0), none⟩]) (.kl [0] (.cond (.t 3) (.kl [3] (.seq (.reg [⟨some 2, .mov (.c (.str [84])), none⟩]) (.ret))) (.skip)))) (.kl [3] (.seq (.reg [⟨some 2, .mov (.c (.str [70])), none⟩]) (.ret))))), [.tmp 2]⟩
/-- (impl.games).best$1 -/
def fi456 : FI := ⟨.seq (.reg [⟨some 4, .box (.t 0), none⟩, ⟨some 5, .mov (.c (.bool false)), none⟩]) (.kl [0, 5] (.seq (.drw [⟨some 6, .load true 1 (.t 1), none⟩, ⟨some 7, .load false 1 (.t 2), none⟩, ⟨some 8, .load true 2 (.t 4), none⟩, ⟨some 9, .call 61 [.t 7, .t 8], none⟩, ⟨some 10, .load false 1 (.t 3), none⟩, ⟨some 11, .un .not (.t 10), none⟩, ⟨some 12, .call 198 [.t 6, .t 9, .t 11], none⟩, ⟨some 5, .mov (.t 12), none⟩] [(0, 3), (4, 3)]) (.kl [1, 2, 3, 4, 6, 7, 8, 9, 10, 11, 12] (.ret)))), [.tmp 5]⟩
/-- (impl.games).outcome -/
def fi193 : FI := ⟨.seq (.reg [⟨some 2, .box (.t 0), none⟩, ⟨some 4, .mov (.c (.str [])), none⟩]) (.kl [0, 4] (.seq (.drw [⟨some 7, .load true 1 (.t 2), none⟩, ⟨some 8, .mov (.t 1), none⟩, ⟨some 9, .call 198 [.t 7, .t 8, .c (.bool true)], none⟩, ⟨some 10, .load true 1 (.t 2), none⟩, ⟨some 11, .mov (.t 1), none⟩, ⟨some 12, .call 198 [.t 10, .t 11, .c (.bool false)], none⟩, ⟨some 5, .mov (.t 9), none⟩, ⟨some 6, .mov (.t 12), none⟩] [(3, 2)]) (.kl [1, 2, 7, 8, 9, 10, 11, 12] (.seq (.blk 0 (.seq (.reg [⟨some 14, .mov (.t 5), none⟩, ⟨some 15, .mov (.t 14), none⟩, ⟨some 16, .mov (.t 6), some (15, true)⟩, ⟨some 17, .pick (.t 15) (.t 16) (.c (.bool false)), none⟩, ⟨some 13, .mov (.t 17), none⟩]) (.kl [14, 15, 16, 17] (.cond (.t 13) (.kl [5, 6, 13] (.seq (.reg [⟨some 4, .mov (.c (.str [49])), none⟩]) (.ret))) (.kl [13] (.seq (.reg [⟨some 19, .mov (.t 5), none⟩, ⟨some 18, .mov (.t 19), none⟩]) (.kl [5, 19] (.cond (.t 18) (.kl [6, 18] (.seq (.reg [⟨some 4, .mov (.c (.str [84])), none⟩]) (.ret))) (.kl [18] (.seq (.reg [⟨some 21, .mov (.t 6), none⟩, ⟨some 20, .mov (.t 21), none⟩]) (.kl [6, 21] (.cond (.t 20) (.kl [20] (.seq (.reg [⟨some 4, .mov (.c (.str [70])), none⟩]) (.ret))) (.skip))))))))))))) (.kl [20] (.seq (.reg [⟨some 4, .mov (.c (.str [50])), none⟩]) (.ret))))))), [.tmp 4]⟩
/-- impl.stepOf -/
def fi103 : FI := ⟨.seq (.reg [⟨some 2, .mov (.c (.int .i64 0)), none⟩]) (.kl [2] (.seq (.seq (.reg [⟨some 3, .mov (.t 0), none⟩]) (.kl [0] (.blk 0 (.seq (.reg [⟨some 5, .bin .eql (.t 3) (.c (.int .u8 84)), none⟩, ⟨some 4, .mov (.t 5), none⟩]) (.kl [5] (.cond (.t 4) (.kl [3, 4] (.seq (.reg [⟨some 2, .mov (.c (.int .i64 1)), none⟩]) (.ret))) (.kl [4] (.seq (.reg [⟨some 7, .bin .eql (.t 3) (.c (.int .u8 70)), none⟩, ⟨some 6, .mov (.t 7), none⟩]) (.kl [3, 7] (.cond (.t 6) (.kl [6] (.seq (.reg [⟨some 2, .mov (.c (.int .i64 (-1))), none⟩]) (.ret))) (.skip))))))))))) (.kl [6] (.seq (.reg [⟨some 2, .mov (.c (.int .i64 0)), none⟩]) (.ret))))), [.tmp 2]⟩
/-- impl.at -/
def fi125 : FI := ⟨.seq (.reg [⟨some 4, .mov (.c (.int .u8 0)), none⟩]) (.kl [4] (.seq (.seq (.reg [⟨some 5, .mov (.t 1), none⟩, ⟨some 6, .bin .lss (.t 5) (.c (.int .i64 0)), none⟩, ⟨some 7, .mov (.t 6), none⟩, ⟨some 8, .mov (.t 1), some (7, false)⟩, ⟨some 9, .mov (.t 0), some (7, false)⟩, ⟨some 10, .lenS (.t 9), some (7, false)⟩, ⟨some 11, .bin .geq (.t 8) (.t 10), some (7, false)⟩, ⟨some 12, .pick (.t 7) (.c (.bool true)) (.t 11), none⟩]) (.kl [5, 6, 7, 8, 9, 10, 11] (.cond (.t 12) (.kl [0, 1, 12] (.seq (.reg [⟨some 4, .mov (.c (.int .u8 0)), none⟩]) (.ret))) (.skip)))) (.kl [12] (.seq (.reg [⟨some 13, .mov (.t 0), none⟩, ⟨some 14, .mov (.t 1), none⟩, ⟨some 15, .idxS (.t 13) (.t 14), none⟩, ⟨some 4, .mov (.t 15), none⟩]) (.kl [0, 1, 13, 14, 15] (.ret)))))), [.tmp 4]⟩
/-- slices.ContainsFunc[[]impl.Move,impl.Move] -/
def fi202 : FI := ⟨.seq (.reg [⟨some 4, .mov (.c (.bool false)), none⟩]) (.kl [4] (.seq (.reg [⟨some 5, .mov (.t 0), none⟩, ⟨some 6, .mov (.t 1), none⟩, ⟨some 7, .call 205 [.t 5, .t 6], none⟩, ⟨some 8, .bin .geq (.t 7) (.c (.int .i64 0)), none⟩, ⟨some 4, .mov (.t 8), none⟩]) (.kl [0, 1, 5, 6, 7, 8] (.ret)))), [.tmp 4]⟩
/-- (impl.games).win$1 -/
def fi201 : FI := ⟨.seq (.reg [⟨some 4, .box (.t 0), none⟩, ⟨some 5, .mov (.c (.bool false)), none⟩]) (.kl [0, 5] (.seq (.drw [⟨some 6, .load true 1 (.t 1), none⟩, ⟨some 7, .load false 1 (.t 2), none⟩, ⟨some 8, .load true 2 (.t 4), none⟩, ⟨some 9, .call 61 [.t 7, .t 8], none⟩, ⟨some 10, .load false 1 (.t 3), none⟩, ⟨some 11, .un .not (.t 10), none⟩, ⟨some 12, .call 198 [.t 6, .t 9, .t 11], none⟩, ⟨some 13, .un .not (.t 12), none⟩, ⟨some 5, .mov (.t 13), none⟩] [(0, 3), (4, 3)]) (.kl [1, 2, 3, 4, 6, 7, 8, 9, 10, 11, 12, 13] (.ret)))), [.tmp 5]⟩
/-- spec.l1OwnS -/
def fi206 : FI := ⟨.seq (.reg [⟨some 2, .mov (.c (.nilS)), none⟩]) (.kl [2] (.seq (.reg [⟨some 3, .lit0, none⟩, ⟨some 4, .mov (.t 0), none⟩, ⟨some 5, .app 1 (.t 3) (.t 4), none⟩, ⟨some 2, .mov (.t 5), none⟩]) (.kl [0, 3, 4, 5] (.ret)))), [.tmp 2]⟩
-- lp205_0 HEAD [0, 1, 7, 8] | exit 0: [] | ret: [4]
/-- slices.IndexFunc[[]impl.Move,impl.Move] -/
def lb205_0 : C := .kl [18] (.seq (.reg [⟨some 9, .bin .lss (.t 8) (.t 7), none⟩]) (.seq (.cond (.t 9) (.skip) (.kl [0, 1, 7, 8, 9] (.exit 0))) (.kl [9] (.seq (.blk 1 (.seq (.reg [⟨some 10, .mov (.t 8), none⟩, ⟨some 5, .mov (.t 10), none⟩]) (.kl [10] (.seq (.reg [⟨some 11, .mov (.t 1), none⟩, ⟨some 12, .mov (.t 0), none⟩, ⟨some 13, .mov (.t 5), none⟩, ⟨some 14, .iaddr 2 (.t 12) (.t 13), none⟩, ⟨some 15, .load true 2 (.t 14), none⟩, ⟨some 16, .callv (.t 11) [.t 15], none⟩]) (.kl [11, 12, 13, 14, 15] (.cond (.t 16) (.kl [0, 1, 7, 8, 16] (.seq (.reg [⟨some 17, .mov (.t 5), none⟩, ⟨some 4, .mov (.t 17), none⟩]) (.kl [5, 17] (.ret)))) (.skip))))))) (.kl [5, 16] (.reg [⟨some 18, .bin .add (.t 8) (.c (.int .i64 1)), none⟩, ⟨some 8, .mov (.t 18), none⟩]))))))
def lp205_0 : C := lb205_0
def fi205 : FI := ⟨.seq (.reg [⟨some 4, .mov (.c (.int .i64 0)), none⟩]) (.kl [4] (.seq (.seq (.reg [⟨some 6, .mov (.t 0), none⟩, ⟨some 7, .lenV (.t 6), none⟩, ⟨some 8, .mov (.c (.int .i64 0)), none⟩]) (.kl [6] (.blk 0 (.loop lp205_0)))) (.seq (.reg [⟨some 4, .mov (.c (.int .i64 (-1))), none⟩]) (.ret)))), [.tmp 4]⟩

def tab : List (Nat × FI) := [(372, fi372), (395, fi395), (414, fi414), (432, fi432), (22, fi22), (373, fi373), (19, fi19), (374, fi374), (375, fi375), (376, fi376), (377, fi377), (378, fi378), (379, fi379), (380, fi380), (381, fi381), (382, fi382), (383, fi383), (384, fi384), (385, fi385), (386, fi386), (16, fi16), (106, fi106), (387, fi387), (17, fi17), (388, fi388), (389, fi389), (390, fi390), (15, fi15), (391, fi391), (392, fi392), (393, fi393), (394, fi394), (396, fi396), (397, fi397), (398, fi398), (399, fi399), (400, fi400), (401, fi401), (402, fi402), (27, fi27), (403, fi403), (404, fi404), (405, fi405), (406, fi406), (407, fi407), (408, fi408), (409, fi409), (410, fi410), (411, fi411), (412, fi412), (413, fi413), (415, fi415), (416, fi416), (417, fi417), (418, fi418), (419, fi419), (420, fi420), (421, fi421), (422, fi422), (423, fi423), (424, fi424), (425, fi425), (426, fi426), (427, fi427), (428, fi428), (429, fi429), (430, fi430), (431, fi431), (35, fi35), (433, fi433), (434, fi434), (59, fi59), (104, fi104), (119, fi119), (305, fi305), (297, fi297), (191, fi191), (196, fi196), (274, fi274), (80, fi80), (81, fi81), (82, fi82), (435, fi435), (61, fi61), (436, fi436), (437, fi437), (130, fi130), (66, fi66), (438, fi438), (189, fi189), (439, fi439), (116, fi116), (440, fi440), (237, fi237), (251, fi251), (92, fi92), (91, fi91), (74, fi74), (441, fi441), (442, fi442), (63, fi63), (77, fi77), (253, fi253), (100, fi100), (101, fi101), (443, fi443), (68, fi68), (444, fi444), (445, fi445), (446, fi446), (447, fi447), (199, fi199), (254, fi254), (192, fi192), (448, fi448), (449, fi449), (450, fi450), (451, fi451), (452, fi452), (453, fi453), (241, fi241), (454, fi454), (64, fi64), (105, fi105), (302, fi302), (110, fi110), (109, fi109), (127, fi127), (62, fi62), (108, fi108), (455, fi455), (246, fi246), (124, fi124), (114, fi114), (107, fi107), (71, fi71), (99, fi99), (249, fi249), (198, fi198), (203, fi203), (204, fi204), (248, fi248), (200, fi200), (456, fi456), (193, fi193), (103, fi103), (125, fi125), (202, fi202), (201, fi201), (206, fi206), (205, fi205)]
def T (f : Nat) : Option FI := (tab.find? fun x => x.1 == f).map (·.2)
theorem T372 : T 372 = some fi372 := rfl
theorem T395 : T 395 = some fi395 := rfl
theorem T414 : T 414 = some fi414 := rfl
theorem T432 : T 432 = some fi432 := rfl
theorem T22 : T 22 = some fi22 := rfl
theorem T373 : T 373 = some fi373 := rfl
theorem T19 : T 19 = some fi19 := rfl
theorem T374 : T 374 = some fi374 := rfl
theorem T375 : T 375 = some fi375 := rfl
theorem T376 : T 376 = some fi376 := rfl
theorem T377 : T 377 = some fi377 := rfl
theorem T378 : T 378 = some fi378 := rfl
theorem T379 : T 379 = some fi379 := rfl
theorem T380 : T 380 = some fi380 := rfl
theorem T381 : T 381 = some fi381 := rfl
theorem T382 : T 382 = some fi382 := rfl
theorem T383 : T 383 = some fi383 := rfl
theorem T384 : T 384 = some fi384 := rfl
theorem T385 : T 385 = some fi385 := rfl
theorem T386 : T 386 = some fi386 := rfl
theorem T16 : T 16 = some fi16 := rfl
theorem T106 : T 106 = some fi106 := rfl
theorem T387 : T 387 = some fi387 := rfl
theorem T17 : T 17 = some fi17 := rfl
theorem T388 : T 388 = some fi388 := rfl
theorem T389 : T 389 = some fi389 := rfl
theorem T390 : T 390 = some fi390 := rfl
theorem T15 : T 15 = some fi15 := rfl
theorem T391 : T 391 = some fi391 := rfl
theorem T392 : T 392 = some fi392 := rfl
theorem T393 : T 393 = some fi393 := rfl
theorem T394 : T 394 = some fi394 := rfl
theorem T396 : T 396 = some fi396 := rfl
theorem T397 : T 397 = some fi397 := rfl
theorem T398 : T 398 = some fi398 := rfl
theorem T399 : T 399 = some fi399 := rfl
theorem T400 : T 400 = some fi400 := rfl
theorem T401 : T 401 = some fi401 := rfl
theorem T402 : T 402 = some fi402 := rfl
theorem T27 : T 27 = some fi27 := rfl
theorem T403 : T 403 = some fi403 := rfl
theorem T404 : T 404 = some fi404 := rfl
theorem T405 : T 405 = some fi405 := rfl
theorem T406 : T 406 = some fi406 := rfl
theorem T407 : T 407 = some fi407 := rfl
theorem T408 : T 408 = some fi408 := rfl
theorem T409 : T 409 = some fi409 := rfl
theorem T410 : T 410 = some fi410 := rfl
theorem T411 : T 411 = some fi411 := rfl
theorem T412 : T 412 = some fi412 := rfl
theorem T413 : T 413 = some fi413 := rfl
theorem T415 : T 415 = some fi415 := rfl
theorem T416 : T 416 = some fi416 := rfl
theorem T417 : T 417 = some fi417 := rfl
theorem T418 : T 418 = some fi418 := rfl
theorem T419 : T 419 = some fi419 := rfl
theorem T420 : T 420 = some fi420 := rfl
theorem T421 : T 421 = some fi421 := rfl
theorem T422 : T 422 = some fi422 := rfl
theorem T423 : T 423 = some fi423 := rfl
theorem T424 : T 424 = some fi424 := rfl
theorem T425 : T 425 = some fi425 := rfl
theorem T426 : T 426 = some fi426 := rfl
theorem T427 : T 427 = some fi427 := rfl
theorem T428 : T 428 = some fi428 := rfl
theorem T429 : T 429 = some fi429 := rfl
theorem T430 : T 430 = some fi430 := rfl
theorem T431 : T 431 = some fi431 := rfl
theorem T35 : T 35 = some fi35 := rfl
theorem T433 : T 433 = some fi433 := rfl
theorem T434 : T 434 = some fi434 := rfl
theorem T59 : T 59 = some fi59 := rfl
theorem T104 : T 104 = some fi104 := rfl
theorem T119 : T 119 = some fi119 := rfl
theorem T305 : T 305 = some fi305 := rfl
theorem T297 : T 297 = some fi297 := rfl
theorem T191 : T 191 = some fi191 := rfl
theorem T196 : T 196 = some fi196 := rfl
theorem T274 : T 274 = some fi274 := rfl
theorem T80 : T 80 = some fi80 := rfl
theorem T81 : T 81 = some fi81 := rfl
theorem T82 : T 82 = some fi82 := rfl
theorem T435 : T 435 = some fi435 := rfl
theorem T61 : T 61 = some fi61 := rfl
theorem T436 : T 436 = some fi436 := rfl
theorem T437 : T 437 = some fi437 := rfl
theorem T130 : T 130 = some fi130 := rfl
theorem T66 : T 66 = some fi66 := rfl
theorem T438 : T 438 = some fi438 := rfl
theorem T189 : T 189 = some fi189 := rfl
theorem T439 : T 439 = some fi439 := rfl
theorem T116 : T 116 = some fi116 := rfl
theorem T440 : T 440 = some fi440 := rfl
theorem T237 : T 237 = some fi237 := rfl
theorem T251 : T 251 = some fi251 := rfl
theorem T92 : T 92 = some fi92 := rfl
theorem T91 : T 91 = some fi91 := rfl
theorem T74 : T 74 = some fi74 := rfl
theorem T441 : T 441 = some fi441 := rfl
theorem T442 : T 442 = some fi442 := rfl
theorem T63 : T 63 = some fi63 := rfl
theorem T77 : T 77 = some fi77 := rfl
theorem T253 : T 253 = some fi253 := rfl
theorem T100 : T 100 = some fi100 := rfl
theorem T101 : T 101 = some fi101 := rfl
theorem T443 : T 443 = some fi443 := rfl
theorem T68 : T 68 = some fi68 := rfl
theorem T444 : T 444 = some fi444 := rfl
theorem T445 : T 445 = some fi445 := rfl
theorem T446 : T 446 = some fi446 := rfl
theorem T447 : T 447 = some fi447 := rfl
theorem T199 : T 199 = some fi199 := rfl
theorem T254 : T 254 = some fi254 := rfl
theorem T192 : T 192 = some fi192 := rfl
theorem T448 : T 448 = some fi448 := rfl
theorem T449 : T 449 = some fi449 := rfl
theorem T450 : T 450 = some fi450 := rfl
theorem T451 : T 451 = some fi451 := rfl
theorem T452 : T 452 = some fi452 := rfl
theorem T453 : T 453 = some fi453 := rfl
theorem T241 : T 241 = some fi241 := rfl
theorem T454 : T 454 = some fi454 := rfl
theorem T64 : T 64 = some fi64 := rfl
theorem T105 : T 105 = some fi105 := rfl
theorem T302 : T 302 = some fi302 := rfl
theorem T110 : T 110 = some fi110 := rfl
theorem T109 : T 109 = some fi109 := rfl
theorem T127 : T 127 = some fi127 := rfl
theorem T62 : T 62 = some fi62 := rfl
theorem T108 : T 108 = some fi108 := rfl
theorem T455 : T 455 = some fi455 := rfl
theorem T246 : T 246 = some fi246 := rfl
theorem T124 : T 124 = some fi124 := rfl
theorem T114 : T 114 = some fi114 := rfl
theorem T107 : T 107 = some fi107 := rfl
theorem T71 : T 71 = some fi71 := rfl
theorem T99 : T 99 = some fi99 := rfl
theorem T249 : T 249 = some fi249 := rfl
theorem T198 : T 198 = some fi198 := rfl
theorem T203 : T 203 = some fi203 := rfl
theorem T204 : T 204 = some fi204 := rfl
theorem T248 : T 248 = some fi248 := rfl
theorem T200 : T 200 = some fi200 := rfl
theorem T456 : T 456 = some fi456 := rfl
theorem T193 : T 193 = some fi193 := rfl
theorem T103 : T 103 = some fi103 := rfl
theorem T125 : T 125 = some fi125 := rfl
theorem T202 : T 202 = some fi202 := rfl
theorem T201 : T 201 = some fi201 := rfl
theorem T206 : T 206 = some fi206 := rfl
theorem T205 : T 205 = some fi205 := rfl
end Go.Proofs.YtoacbgjdflcceaaGreatDoor.Ab
-- EXT strings.IndexByte
-- EXT strings.Trim
-- EXT strings.Count
-- EXT strings.Contains
-- EXT strings.Index
-- EXT strings.Repeat
-- EXT strings.Join
-- XF main.main|0|
-- XF gosem.cut|1|
-- XF spec.MovesOf|10|
-- XF impl.lines|100|
-- XF impl.within|101|
-- XF (*spec.l1Cur).three|102|
-- XF spec.liThree|103|
-- XF (*spec.l1Cur).pick|104|
-- XF spec.l1In|105|
-- XF impl.first|106|
-- XF spec.liFirst|107|
-- XF (*spec.l1Cur).line|108|
-- XF (*spec.l1Cur).moves|109|
-- XF impl.ToadMoves|11|
-- XF impl.played|110|
-- XF spec.liAsked|111|
-- XF spec.liPlay|112|
-- XF impl.WinsSum|113|
-- XF spec.gaFew|114|
-- XF (*spec.gaKnown).win|115|
-- XF impl.isPlayed|116|
-- XF impl.newGames|117|
-- XF (impl.games).best|118|
-- XF spec.gaBest|119|
-- XF spec.ToadMoves|12|
-- XF (impl.games).move|120|
-- XF spec.gaMove|121|
-- XF impl.gamesFrom|122|
-- XF (*spec.gaLengths).of|123|
-- XF impl.OutcomeOfSum|124|
-- XF (*spec.l1Cur).played|125|
-- XF (*spec.l1Cur).one|126|
-- XF impl.moves|127|
-- XF spec.liSum|128|
-- XF slices.Reverse[[]byte,byte]|129|22, 5
-- XF impl.FrogMoves|13|
-- XF impl.other|130|
-- XF strings.Trim|131|
-- XF impl.goal|132|
-- XF (*spec.l1Cur).among|133|
-- XF spec.liPut|134|
-- XF spec.l1Most|135|
-- XF strings.Count|136|
-- XF internal/stringslite.IndexByte|137|
-- XF impl.ordered|138|
-- XF spec.liTimes|139|
-- XF spec.FrogMoves|14|
-- XF spec.l1All|140|
-- XF (*spec.l1Cur).next|141|
-- XF (*spec.l1Cur).of|142|
-- XF (*spec.l1Cur).sureLine|143|
-- XF impl.sumOf|144|
-- XF (impl.games).win|145|
-- XF spec.gaKey|146|
-- XF spec.gaWith|147|
-- XF impl.kindOf|149|
-- XF impl.WayToGo|15|
-- XF (impl.games).best$1|150|
-- XF impl.gamesFrom$1|151|
-- XF (impl.games).outcome|152|
-- XF strings.Contains|153|
-- XF strings.trimLeftByte|154|
-- XF strings.trimRightByte|155|
-- XF strings.makeASCIISet|156|
-- XF strings.trimLeftASCII|157|
-- XF strings.trimRightASCII|158|
-- XF strings.trimLeftUnicode|159|
-- XF spec.WayToGo|16|
-- XF strings.trimRightUnicode|160|
-- XF impl.stepOf|161|
-- XF impl.at|162|
-- XF unicode/utf8.RuneCountInString|163|
-- XF internal/bytealg.CountString|164|
-- XF strings.Index|165|
-- XF internal/bytealg.IndexByteString|166|
-- XF strings.Repeat|167|
-- XF strings.Join|168|
-- XF impl.PairsToPass|17|
-- XF (impl.games).win$1|170|
-- XF spec.l1OwnS|171|
-- XF (*strings.asciiSet).contains|173|
-- XF unicode/utf8.DecodeRuneInString|174|
-- XF strings.ContainsRune|175|
-- XF unicode/utf8.DecodeLastRuneInString|176|
-- XF internal/stringslite.Index|177|
-- XF math/bits.Mul|178|
-- XF strings.HasPrefix|179|
-- XF spec.PairsToPass|18|
-- XF (*strings.Builder).Grow|180|
-- XF (*strings.Builder).WriteString|181|
-- XF (*strings.Builder).Len|182|
-- XF (*strings.Builder).String|183|
-- XF unicode/utf8.decodeRuneInStringSlow|184|
-- XF strings.IndexRune|185|
-- XF unicode/utf8.RuneStart|186|
-- XF internal/bytealg.IndexString|187|
-- XF internal/bytealg.Cutover|188|
-- XF internal/bytealg.IndexRabinKarp[string]|189|9
-- XF impl.IsBlocked|19|
-- XF math/bits.Mul32|190|
-- XF math/bits.Mul64|191|
-- XF internal/stringslite.HasPrefix|192|
-- XF (*strings.Builder).copyCheck|193|
-- XF (*strings.Builder).grow|194|
-- XF unicode/utf8.ValidRune|195|
-- XF internal/bytealg.hashStr[string]|196|9
-- XF internal/abi.NoEscape|197|
-- XF internal/bytealg.MakeNoZero|198|
-- XF (runtime.boundsError).Error|199|
-- XF gosem.cut.init|2|
-- XF spec.IsBlocked|20|
-- XF (runtime.boundsError).RuntimeError|200|
-- XF (runtime.errorString).Error|201|
-- XF (runtime.errorString).RuntimeError|202|
-- XF (runtime.plainError).Error|203|
-- XF (runtime.plainError).RuntimeError|204|
-- XF (runtime.errorAddressString).Error|205|
-- XF (runtime.errorAddressString).RuntimeError|206|
-- XF (*runtime.TypeAssertionError).Error|207|
-- XF (*runtime.TypeAssertionError).RuntimeError|208|
-- XF (*runtime.PanicNilError).Error|209|
-- XF impl.OtherLine|21|
-- XF (*runtime.PanicNilError).RuntimeError|210|
-- XF (*internal/abi.Type).Align|211|
-- XF (internal/runtime/maps.unhashableTypeError).Error|212|
-- XF (internal/runtime/maps.unhashableTypeError).RuntimeError|213|
-- XF (*spec.l1Cur).board|214|
-- XF (*strings.Builder).Reset|215|
-- XF (internal/abi.Kind).String|216|
-- XF var's door: unicode/utf8.acceptRanges is laid by its own initialiser, plain data (look 11)|219|
-- XF spec.OtherLine|22|
-- XF var's door: unicode/utf8.first is laid by its text alone (pinned 1)|220|
-- XF gosem.cut.vars|221|
-- XF laws.yMoves|23|
-- XF impl.IsLine|24|
-- XF spec.IsLine|25|
-- XF laws.yOrder|26|
-- XF impl.CanMove|27|
-- XF impl.MakeMove|28|
-- XF impl.IsJump|29|
-- XF laws.FnMovesMade|3|
-- XF laws.yIn|30|
-- XF spec.DrawMakeMove|31|
-- XF spec.MakeMove|32|
-- XF spec.CanMove|33|
-- XF spec.IsJump|34|
-- XF spec.DrawRankOfLine|35|
-- XF impl.RankOfLine|36|
-- XF spec.RankOfLine|37|
-- XF impl.CountOf|38|
-- XF spec.CountOf|39|
-- XF laws.FnLinesRanked|4|
-- XF impl.LastLine|40|
-- XF spec.LastLine|41|
-- XF impl.CountLines|42|
-- XF impl.LineOfRank|43|
-- XF spec.DrawLineOfRank|44|
-- XF spec.LineOfRank|45|
-- XF impl.FirstLine|46|
-- XF spec.FirstLine|47|
-- XF spec.CountLines|48|
-- XF spec.DrawPlayMoves|49|
-- XF laws.FnGamesWonOfAll|5|
-- XF impl.PlayMoves|50|
-- XF spec.PlayMoves|51|
-- XF impl.MoveThatFails|52|
-- XF spec.MoveThatFails|53|
-- XF impl.WinsMoving|54|
-- XF spec.WinsMoving|55|
-- XF impl.BestMoves|56|
-- XF spec.BestMoves|57|
-- XF impl.GameMove|58|
-- XF spec.GameMove|59|
-- XF laws.FnGamesWon|6|
-- XF impl.GamePlay|60|
-- XF spec.GamePlay|61|
-- XF impl.LongestGame|62|
-- XF spec.LongestGame|63|
-- XF impl.ShortestGame|64|
-- XF spec.ShortestGame|65|
-- XF impl.CountGames|66|
-- XF spec.CountGames|67|
-- XF laws.nMoves|68|
-- XF impl.OutcomeOf|69|
-- XF laws.big|7|
-- XF impl.IsNothing|70|
-- XF laws.nMove|71|
-- XF spec.DrawWinsMoving|72|
-- XF spec.DrawIsLine|73|
-- XF impl.movesIn|74|
-- XF spec.liGood|75|
-- XF spec.liMoves|76|
-- XF impl.way|77|
-- XF spec.liWay|78|
-- XF impl.pairs|79|
-- XF spec.DrawMovesOf|8|
-- XF spec.liPairs|80|
-- XF impl.isBlocked|81|
-- XF impl.turned|82|
-- XF spec.liOther|83|
-- XF impl.isLineOf|84|
-- XF impl.can|85|
-- XF impl.made|86|
-- XF (impl.Move).isJump|87|
-- XF spec.DrawCanMove|88|
-- XF spec.liCan|89|
-- XF impl.MovesOf|9|
-- XF spec.liMake|90|
-- XF spec.l1Abs|91|
-- XF impl.count|92|
-- XF strings.IndexByte|93|
-- XF impl.below|94|
-- XF spec.liCount|95|
-- XF spec.liMany|96|
-- XF impl.last|97|
-- XF spec.liLast|98|
-- XF impl.areCounts|99|

/- RULES for reckoning with the evaluator: fuel is bounded by no one. -/
namespace Go.Proofs.YtoacbgjdflcceaaGreatDoor.Ab
open Go

def CF.le (a b : CF) : Prop := ∀ f xs h r, a f xs h = some r → b f xs h = some r
theorem CF.le_refl (a : CF) : a.le a := fun _ _ _ _ h => h

def AOp.isCall : AOp → Bool
  | .call .. | .callv .. => true
  | _ => false

section
variable {cf cf' : CF} {ρ : Opd → AV} {h : AH} {e : Env}

theorem evOp_mono (hle : cf.le cf') {i : AOp} {x : AV × AH} (hev : evOp cf ρ h i = some x) : evOp cf' ρ h i = some x := by
  cases i <;> first
    | exact hev
    | (simp only [evOp] at hev ⊢; exact hle _ _ _ _ hev)
    | (simp only [evOp] at hev ⊢
       split at hev
       · exact hle _ _ _ _ hev
       · cases hev)
theorem evOp_any {i : AOp} (hi : i.isCall = false) (cf cf' : CF) : evOp cf ρ h i = evOp cf' ρ h i := by
  cases i <;> first
    | rfl
    | (simp [AOp.isCall] at hi; done)

theorem evI_mono (hle : cf.le cf') {i : I} {x : Env × AH} (hev : evI cf i e h = some x) : evI cf' i e h = some x := by
  have key : ∀ x, (evOp cf (env e) h i.op).map (fun (v, h') => (put e i.dst v, h')) = some x → (evOp cf' (env e) h i.op).map (fun (v, h') => (put e i.dst v, h')) = some x := by
    intro x hx
    simp only [Option.map_eq_some_iff] at hx ⊢
    obtain ⟨y, hy, he⟩ := hx
    exact ⟨y, evOp_mono hle hy, he⟩
  unfold evI at hev ⊢
  split at hev
  · exact key _ hev
  · split at hev
    · split at hev
      · rename_i h1; rw [if_pos h1]; exact key _ hev
      · rename_i h1; rw [if_neg h1]; exact hev
    · exact hev
    · cases hev

theorem evR_mono (hle : cf.le cf') : ∀ {is : List I} {e : Env} {h : AH} {x : Env × AH}, evR cf is e h = some x → evR cf' is e h = some x
  | [], _, _, _, hev => hev
  | i :: is, e, h, x, hev => by
    simp only [evR] at hev ⊢
    split at hev
    · rename_i e1 h1 h2
      rw [evI_mono hle h2]
      exact evR_mono hle hev
    · cases hev

theorem state_some : ∀ {is : List I} {e : Env} {h : AH} {x : Env × AH}, evR cf is e h = some x → ∀ i, ∃ s, stateAt cf is i e h = some s
  | [], e, h, x, hev, i => ⟨(e, h), by simp [stateAt, evR]⟩
  | j :: is, e, h, x, hev, i => by
    cases i with
    | zero => exact ⟨(e, h), by simp [stateAt, evR]⟩
    | succ i =>
      simp only [evR] at hev
      split at hev
      · rename_i e1 h1 h2
        obtain ⟨s, hs⟩ := state_some hev i
        refine ⟨s, ?_⟩
        simp only [stateAt, List.take_succ_cons, evR, h2]
        exact hs
      · cases hev

theorem evDraw_mono (hle : cf.le cf') {is : List I} {ps : List (Nat × Nat)} {x : Env × AH} (hev : evDraw cf is ps e h = some x) : evDraw cf' is ps e h = some x := by
  unfold evDraw at hev ⊢
  split at hev
  · rename_i hst
    rw [if_pos]
    · exact evR_mono hle hev
    · intro p hp
      rcases hst p hp with hpe | hst
      · exact .inl hpe
      refine .inr ?_
      intro o e1 h1 e2 h2 e3 h3 k0 k1 k2 k3
      obtain ⟨s1, g1⟩ := state_some hev p.1
      obtain ⟨s2, g2⟩ := state_some hev p.2
      obtain ⟨s3, g3⟩ := state_some hev (p.2 + 1)
      have m1 := evR_mono hle g1
      have m2 := evR_mono hle g2
      have m3 := evR_mono hle g3
      unfold stateAt at k1 k2 k3
      rw [m1] at k1; rw [m2] at k2; rw [m3] at k3
      cases k1; cases k2; cases k3
      exact hst o e1 h1 e2 h2 e3 h3 k0 g1 g2 g3
  · cases hev

theorem evLoop_mono {s s' : Env → AH → Option (X × Env × AH)} (hs : ∀ e h x, s e h = some x → s' e h = some x) : ∀ {n n' : Nat}, n ≤ n' → ∀ {e : Env} {h : AH} {x}, evLoop s n e h = some x → evLoop s' n' e h = some x
  | 0, _, _, _, _, _, hev => by simp [evLoop] at hev
  | n + 1, 0, hn, _, _, _, _ => by omega
  | n + 1, n' + 1, hn, e, h, x, hev => by
    simp only [evLoop] at hev ⊢
    cases hst : s e h with
    | none => rw [hst] at hev; simp at hev
    | some y =>
      rw [hst] at hev
      rw [hs _ _ _ hst]
      obtain ⟨x1, e1, h1⟩ := y
      cases x1 with
      | normal => exact evLoop_mono hs (by omega) hev
      | exit i => exact hev
      | ret => exact hev

theorem evC_mono (hle : cf.le cf') {n n' : Nat} (hn : n ≤ n') : ∀ (c : C) {e : Env} {h : AH} {x}, evC cf n c e h = some x → evC cf' n' c e h = some x := by
  intro c
  induction c with
  | skip => intro e h x hev; exact hev
  | reg is =>
    intro e h x hev
    simp only [evC, Option.map_eq_some_iff] at hev ⊢
    obtain ⟨y, hy, he⟩ := hev
    exact ⟨y, evR_mono hle hy, he⟩
  | drw is ps =>
    intro e h x hev
    simp only [evC, Option.map_eq_some_iff] at hev ⊢
    obtain ⟨y, hy, he⟩ := hev
    exact ⟨y, evDraw_mono hle hy, he⟩
  | kl ts c ih => intro e h x hev; simp only [evC] at hev ⊢; exact ih hev
  | seq a b iha ihb =>
    intro e h x hev
    simp only [evC] at hev ⊢
    cases ha : evC cf n a e h with
    | none => rw [ha] at hev; simp at hev
    | some y =>
      rw [ha] at hev
      rw [iha ha]
      obtain ⟨x1, e1, h1⟩ := y
      cases x1 with
      | normal => exact ihb hev
      | exit i => exact hev
      | ret => exact hev
  | cond y a b iha ihb =>
    intro e h x hev
    simp only [evC] at hev ⊢
    split at hev
    · rename_i t ht
      split at hev
      · rename_i h1; rw [if_pos h1]; exact iha hev
      · rename_i h1; rw [if_neg h1]; exact ihb hev
    · cases hev
  | blk id a ih =>
    intro e h x hev
    simp only [evC] at hev ⊢
    cases ha : evC cf n a e h with
    | none => rw [ha] at hev; simp at hev
    | some y =>
      rw [ha] at hev
      rw [ih ha]
      exact hev
  | loop a ih =>
    intro e h x hev
    simp only [evC] at hev ⊢
    exact evLoop_mono (fun _ _ _ hh => ih hh) hn hev
  | exit i => intro e h x hev; exact hev
  | ret => intro e h x hev; exact hev
  | bad => intro e h x hev; simp [evC] at hev
end

def EMono (E : Ext) : Prop := ∀ f G, E f = some G → ∀ cf cf' : CF, cf.le cf' → ∀ xs h r, G cf xs h = some r → G cf' xs h = some r

theorem evF_mono {T : Nat → Option FI} {E : Ext} (hE : EMono E) : ∀ {n n' : Nat}, n ≤ n' → (evF T E n).le (evF T E n')
  | 0, _, _ => by intro f xs h r hev; simp [evF] at hev
  | n + 1, 0, hn => by omega
  | n + 1, n' + 1, hn => by
    intro f xs h r hev
    have ih := evF_mono (T := T) hE (show n ≤ n' by omega)
    simp only [evF] at hev ⊢
    split at hev
    · rename_i G hG
      exact hE f G hG _ _ ih _ _ _ hev
    · split at hev
      · rename_i fi hfi
        cases hc : evC (evF T E n) n fi.body (Env.init 0 xs) h with
        | none => rw [hc] at hev; cases hev
        | some y => rw [hc] at hev; rw [evC_mono ih (by omega) _ hc]; exact hev
      · cases hev

/-! ### The rules -/
section
variable (T : Nat → Option FI) (E : Ext)

def Spec (f : Nat) (xs : List AV) (h : AH) (post : AV → AH → Prop) : Prop := ∃ n r h', evF T E n f xs h = some (r, h') ∧ post r h'
def WC (c : C) (e : Env) (h : AH) (Q : X → Env → AH → Prop) : Prop := ∃ n x e' h', evC (evF T E n) n c e h = some (x, e', h') ∧ Q x e' h'
def WR (is : List I) (e : Env) (h : AH) (Q : Env → AH → Prop) : Prop := ∃ n e' h', evR (evF T E n) is e h = some (e', h') ∧ Q e' h'
def WO {α : Type} (o : Option (α × AH)) (K : α → AH → Prop) : Prop := match o with
  | some (v, h) => K v h
  | none => False
end
@[simp] theorem WO_some {α : Type} {v : α} {h : AH} {K : α → AH → Prop} : WO (some (v, h)) K ↔ K v h := Iff.rfl
@[simp] theorem WO_none {α : Type} {K : α → AH → Prop} : WO none K ↔ False := Iff.rfl
theorem WO_iff {α : Type} {o : Option (α × AH)} {K : α → AH → Prop} : WO o K ↔ ∃ v h, o = some (v, h) ∧ K v h := by
  cases o with
  | none => simp
  | some x =>
    obtain ⟨v, h⟩ := x
    exact ⟨fun hk => ⟨v, h, rfl, hk⟩, fun ⟨_, _, he, hk⟩ => by cases he; exact hk⟩

section
variable {T : Nat → Option FI} {E : Ext} (hE : EMono E) {e : Env} {h : AH} {Q : Env → AH → Prop} {R : X → Env → AH → Prop}
include hE

omit hE in
theorem WR_nil : WR T E [] e h Q ↔ Q e h := by
  constructor
  · rintro ⟨n, e', h', hev, hq⟩
    simp only [evR, Option.some.injEq, Prod.mk.injEq] at hev
    obtain ⟨rfl, rfl⟩ := hev
    exact hq
  · intro hq; exact ⟨0, e, h, rfl, hq⟩

omit hE in
/-- An operation that calls no one. -/
theorem WR_op {d : Option Nat} {op : AOp} {is : List I} (hi : op.isCall = false) : WR T E (⟨d, op, none⟩ :: is) e h Q ↔ WO (evOp noCall (env e) h op) fun v h' => WR T E is (put e d v) h' Q := by
  rw [WO_iff]
  constructor
  · rintro ⟨n, e', h', hev, hq⟩
    simp only [evR, evI] at hev
    rw [evOp_any hi (evF T E n) noCall] at hev
    cases ho : evOp noCall (env e) h op with
    | none => rw [ho] at hev; simp at hev
    | some y =>
      rw [ho] at hev
      obtain ⟨v, h1⟩ := y
      exact ⟨v, h1, rfl, n, e', h', hev, hq⟩
  · rintro ⟨v, h1, ho, n, e', h', hev, hq⟩
    refine ⟨n, e', h', ?_, hq⟩
    simp only [evR, evI]
    rw [evOp_any hi (evF T E n) noCall, ho]
    exact hev

theorem WR_call {d : Option Nat} {f : Nat} {xs : List Opd} {is : List I} : WR T E (⟨d, .call f xs, none⟩ :: is) e h Q ↔ Spec T E f (xs.map (env e)) h fun v h' => WR T E is (put e d v) h' Q := by
  constructor
  · rintro ⟨n, e', h', hev, hq⟩
    simp only [evR, evI, evOp] at hev
    cases ho : evF T E n f (xs.map (env e)) h with
    | none => rw [ho] at hev; simp at hev
    | some y =>
      rw [ho] at hev
      obtain ⟨v, h1⟩ := y
      exact ⟨n, v, h1, ho, n, e', h', hev, hq⟩
  · rintro ⟨n, v, h1, ho, n', e', h', hev, hq⟩
    refine ⟨max n n', e', h', ?_, hq⟩
    simp only [evR, evI, evOp]
    rw [evF_mono hE (Nat.le_max_left n n') _ _ _ _ ho]
    exact evR_mono (evF_mono hE (Nat.le_max_right n n')) hev

theorem WR_callv {d : Option Nat} {x : Opd} {xs : List Opd} {is : List I} {f : Nat} {cap : List AV} (hx : env e x = .fn f cap) : WR T E (⟨d, .callv x xs, none⟩ :: is) e h Q ↔ Spec T E f (xs.map (env e) ++ cap) h fun v h' => WR T E is (put e d v) h' Q := by
  constructor
  · rintro ⟨n, e', h', hev, hq⟩
    simp only [evR, evI, evOp, hx] at hev
    cases ho : evF T E n f (xs.map (env e) ++ cap) h with
    | none => rw [ho] at hev; simp at hev
    | some y =>
      rw [ho] at hev
      obtain ⟨v, h1⟩ := y
      exact ⟨n, v, h1, ho, n, e', h', hev, hq⟩
  · rintro ⟨n, v, h1, ho, n', e', h', hev, hq⟩
    refine ⟨max n n', e', h', ?_, hq⟩
    simp only [evR, evI, evOp, hx]
    rw [evF_mono hE (Nat.le_max_left n n') _ _ _ _ ho]
    exact evR_mono (evF_mono hE (Nat.le_max_right n n')) hev

omit hE in
/-- A guard that is heard, one that is not. -/
theorem WR_grd {d : Option Nat} {op : AOp} {is : List I} {t : Nat} {want b : Bool} (hb : e.get t = .bool b) : WR T E (⟨d, op, some (t, want)⟩ :: is) e h Q ↔ if b = want then WR T E (⟨d, op, none⟩ :: is) e h Q else WR T E is (put e d (.tup [])) h Q := by
  have key : ∀ n, evR (evF T E n) (⟨d, op, some (t, want)⟩ :: is) e h = if b = want then evR (evF T E n) (⟨d, op, none⟩ :: is) e h else evR (evF T E n) is (put e d (.tup [])) h := by
    intro n
    simp only [evR, evI, hb]
    by_cases hbw : b = want <;> simp [hbw]
  unfold WR
  simp only [key]
  by_cases hbw : b = want <;> simp [hbw]

omit hE in
/-- A guard on what was not done. -/
theorem WR_grd0 {d : Option Nat} {op : AOp} {is : List I} {t : Nat} {want : Bool} (hb : e.get t = .tup []) : WR T E (⟨d, op, some (t, want)⟩ :: is) e h Q ↔ WR T E is (put e d (.tup [])) h Q := by
  have key : ∀ n, evR (evF T E n) (⟨d, op, some (t, want)⟩ :: is) e h = evR (evF T E n) is (put e d (.tup [])) h := by
    intro n
    simp only [evR, evI, hb]
  unfold WR
  simp only [key]

omit hE in
theorem WC_reg {is : List I} : WC T E (.reg is) e h R ↔ WR T E is e h (R .normal) := by
  constructor
  · rintro ⟨n, x, e', h', hev, hq⟩
    simp only [evC, Option.map_eq_some_iff, Prod.mk.injEq] at hev
    obtain ⟨⟨e1, h1⟩, hev, rfl, rfl, rfl⟩ := hev
    exact ⟨n, e1, h1, hev, hq⟩
  · rintro ⟨n, e', h', hev, hq⟩
    exact ⟨n, .normal, e', h', by simp only [evC, hev]; rfl, hq⟩
omit hE in
theorem WC_skip : WC T E .skip e h R ↔ R .normal e h :=
  ⟨by rintro ⟨n, x, e', h', hev, hq⟩; simp only [evC, Option.some.injEq, Prod.mk.injEq] at hev; obtain ⟨rfl, rfl, rfl⟩ := hev; exact hq, fun hq => ⟨0, _, _, _, rfl, hq⟩⟩
omit hE in
theorem WC_ret : WC T E .ret e h R ↔ R .ret e h :=
  ⟨by rintro ⟨n, x, e', h', hev, hq⟩; simp only [evC, Option.some.injEq, Prod.mk.injEq] at hev; obtain ⟨rfl, rfl, rfl⟩ := hev; exact hq, fun hq => ⟨0, _, _, _, rfl, hq⟩⟩
omit hE in
theorem WC_exit {i : Nat} : WC T E (.exit i) e h R ↔ R (.exit i) e h :=
  ⟨by rintro ⟨n, x, e', h', hev, hq⟩; simp only [evC, Option.some.injEq, Prod.mk.injEq] at hev; obtain ⟨rfl, rfl, rfl⟩ := hev; exact hq, fun hq => ⟨0, _, _, _, rfl, hq⟩⟩
omit hE in
theorem WC_kl {ts : List Nat} {c : C} : WC T E (.kl ts c) e h R ↔ WC T E c (e.dels ts) h R := by
  unfold WC; simp only [evC]

/-- Behind a first piece: go on, or out. -/
def then' (K : Env → AH → Prop) (R : X → Env → AH → Prop) : X → Env → AH → Prop
  | .normal, e, h => K e h
  | x, e, h => R x e h
def inBlk (i : Nat) (R : X → Env → AH → Prop) : X → Env → AH → Prop
  | .exit j, e, h => if j = i then R .normal e h else R (.exit j) e h
  | x, e, h => R x e h
omit hE in
@[simp] theorem then_normal {K : Env → AH → Prop} {R : X → Env → AH → Prop} : then' K R .normal e h = K e h := rfl
omit hE in
@[simp] theorem then_exit {K : Env → AH → Prop} {R : X → Env → AH → Prop} {i : Nat} : then' K R (.exit i) e h = R (.exit i) e h := rfl
omit hE in
@[simp] theorem then_ret {K : Env → AH → Prop} {R : X → Env → AH → Prop} : then' K R .ret e h = R .ret e h := rfl
omit hE in
@[simp] theorem inBlk_normal {i : Nat} {R : X → Env → AH → Prop} : inBlk i R .normal e h = R .normal e h := rfl
omit hE in
@[simp] theorem inBlk_ret {i : Nat} {R : X → Env → AH → Prop} : inBlk i R .ret e h = R .ret e h := rfl
omit hE in
@[simp] theorem inBlk_exit {i j : Nat} {R : X → Env → AH → Prop} : inBlk i R (.exit j) e h = if j = i then R .normal e h else R (.exit j) e h := rfl

theorem WC_seq {a b : C} : WC T E (.seq a b) e h R ↔ WC T E a e h (then' (fun e' h' => WC T E b e' h' R) R) := by
  constructor
  · rintro ⟨n, x, e', h', hev, hq⟩
    simp only [evC] at hev
    cases ha : evC (evF T E n) n a e h with
    | none => rw [ha] at hev; simp at hev
    | some y =>
      rw [ha] at hev
      obtain ⟨x1, e1, h1⟩ := y
      refine ⟨n, x1, e1, h1, ha, ?_⟩
      cases x1 with
      | normal => exact ⟨n, x, e', h', hev, hq⟩
      | exit i => cases hev; exact hq
      | ret => cases hev; exact hq
  · rintro ⟨n, x1, e1, h1, ha, hq⟩
    cases x1 with
    | normal =>
      obtain ⟨n', x, e', h', hev, hq⟩ := hq
      refine ⟨max n n', x, e', h', ?_, hq⟩
      simp only [evC]
      rw [evC_mono (evF_mono hE (Nat.le_max_left n n')) (Nat.le_max_left n n') _ ha]
      exact evC_mono (evF_mono hE (Nat.le_max_right n n')) (Nat.le_max_right n n') _ hev
    | exit i => exact ⟨n, _, e1, h1, by simp only [evC, ha], hq⟩
    | ret => exact ⟨n, _, e1, h1, by simp only [evC, ha], hq⟩

omit hE in
theorem WC_cond {x : Opd} {a b : C} {t : Bool} (ht : env e x = .bool t) : WC T E (.cond x a b) e h R ↔ if t then WC T E a e h R else WC T E b e h R := by
  unfold WC
  simp only [evC, ht]
  cases t <;> simp

omit hE in
theorem WC_blk {i : Nat} {c : C} : WC T E (.blk i c) e h R ↔ WC T E c e h (inBlk i R) := by
  constructor
  · rintro ⟨n, x, e', h', hev, hq⟩
    simp only [evC] at hev
    cases ha : evC (evF T E n) n c e h with
    | none => rw [ha] at hev; simp at hev
    | some y =>
      rw [ha] at hev
      obtain ⟨x1, e1, h1⟩ := y
      refine ⟨n, x1, e1, h1, ha, ?_⟩
      cases x1 with
      | normal => cases hev; exact hq
      | exit j =>
        simp only at hev
        simp only [inBlk]
        split at hev
        · rename_i hj; rw [if_pos hj]; cases hev; exact hq
        · rename_i hj; rw [if_neg hj]; cases hev; exact hq
      | ret => cases hev; exact hq
  · rintro ⟨n, x1, e1, h1, ha, hq⟩
    cases x1 with
    | normal => exact ⟨n, _, e1, h1, by simp only [evC, ha], hq⟩
    | exit j =>
      simp only [inBlk] at hq
      by_cases hj : j = i
      · rw [if_pos hj] at hq
        exact ⟨n, _, e1, h1, by simp only [evC, ha, if_pos hj], hq⟩
      · rw [if_neg hj] at hq
        exact ⟨n, _, e1, h1, by simp only [evC, ha, if_neg hj], hq⟩
    | ret => exact ⟨n, _, e1, h1, by simp only [evC, ha], hq⟩

/-- A loop, one round unrolled. -/
theorem WC_loop {c : C} : WC T E (.loop c) e h R ↔ WC T E c e h (then' (fun e' h' => WC T E (.loop c) e' h' R) R) := by
  constructor
  · rintro ⟨n, x, e', h', hev, hq⟩
    simp only [evC] at hev
    cases n with
    | zero => simp [evLoop] at hev
    | succ n =>
      simp only [evLoop] at hev
      cases ha : evC (evF T E (n + 1)) (n + 1) c e h with
      | none => rw [ha] at hev; simp at hev
      | some y =>
        rw [ha] at hev
        obtain ⟨x1, e1, h1⟩ := y
        refine ⟨n + 1, x1, e1, h1, ha, ?_⟩
        cases x1 with
        | normal =>
          refine ⟨n + 1, x, e', h', ?_, hq⟩
          simp only [evC]
          exact evLoop_mono (fun _ _ _ hh => hh) (Nat.le_succ n) hev
        | exit i => cases hev; exact hq
        | ret => cases hev; exact hq
  · rintro ⟨n, x1, e1, h1, ha, hq⟩
    cases x1 with
    | normal =>
      obtain ⟨n', x, e', h', hev, hq⟩ := hq
      simp only [evC] at hev
      refine ⟨max n n' + 1, x, e', h', ?_, hq⟩
      simp only [evC, evLoop]
      rw [evC_mono (evF_mono hE (show n ≤ max n n' + 1 by omega)) (show n ≤ max n n' + 1 by omega) _ ha]
      exact evLoop_mono (fun _ _ _ hh => evC_mono (evF_mono hE (show n' ≤ max n n' + 1 by omega)) (show n' ≤ max n n' + 1 by omega) _ hh) (show n' ≤ max n n' by omega) hev
    | exit i =>
      refine ⟨n + 1, _, e1, h1, ?_, hq⟩
      simp only [evC, evLoop]
      rw [evC_mono (evF_mono hE (Nat.le_succ n)) (Nat.le_succ n) _ ha]
    | ret =>
      refine ⟨n + 1, _, e1, h1, ?_, hq⟩
      simp only [evC, evLoop]
      rw [evC_mono (evF_mono hE (Nat.le_succ n)) (Nat.le_succ n) _ ha]

omit hE in
/-- Into a function of the table. -/
theorem Spec_of {f : Nat} {xs : List AV} {post : AV → AH → Prop} {fi : FI} (hEf : E f = none) (hT : T f = some fi)
    (hw : WC T E fi.body (Env.init 0 xs) h fun x e' h' => (x = .normal ∨ x = .ret) ∧ ∃ r, resV e' h' fi.res = some r ∧ post r h') : Spec T E f xs h post := by
  obtain ⟨n, x, e', h', hev, hx, r, hr, hq⟩ := hw
  refine ⟨n + 1, r, h', ?_, hq⟩
  simp only [evF, hEf, hT, hev]
  rcases hx with rfl | rfl <;> simp [hr]
omit hE in
theorem Spec_ext {f : Nat} {xs : List AV} {post : AV → AH → Prop} {G : CF → List AV → AH → Option (AV × AH)} (hEf : E f = some G) {r : AV} {h' : AH} (n : Nat) (hG : G (evF T E n) xs h = some (r, h')) (hp : post r h') : Spec T E f xs h post :=
  ⟨n + 1, r, h', by simp only [evF, hEf, hG], hp⟩
omit hE in
theorem Spec.mono {f : Nat} {xs : List AV} {post post' : AV → AH → Prop} (hs : Spec T E f xs h post) (hp : ∀ r h', post r h' → post' r h') : Spec T E f xs h post' := by
  obtain ⟨n, r, h', hev, hq⟩ := hs
  exact ⟨n, r, h', hev, hp _ _ hq⟩
omit hE in
theorem WC.mono {c : C} {R' : X → Env → AH → Prop} (hs : WC T E c e h R) (hp : ∀ x e' h', R x e' h' → R' x e' h') : WC T E c e h R' := by
  obtain ⟨n, x, e', h', hev, hq⟩ := hs
  exact ⟨n, x, e', h', hev, hp _ _ _ hq⟩
end
end Go.Proofs.YtoacbgjdflcceaaGreatDoor.Ab

/- DEMONIC RUNS: pieces of code of the machine, and steps of an iterator over a map, whose order is not known. -/
namespace Go.Proofs.YtoacbgjdflcceaaGreatDoor.Ab
open Go

inductive D where
  | c (c : C)
  | nxt (it dst ok : Nat)
  | kl (ts : List Nat) (d : D)
  | seq (a b : D)
  | blk (id : Nat) (d : D)
  | loop (d : D)

abbrev RP := X → Env → AH → Prop
abbrev WCt := C → Env → AH → RP → Prop
def dRounds (W : Env → AH → RP → Prop) (R : RP) : Nat → Env → AH → Prop
  | 0, _, _ => False
  | k + 1, e, h => W e h (then' (fun e' h' => dRounds W R k e' h') R)
def dW (Wc : WCt) : D → Env → AH → RP → Prop
  | .c c, e, h, R => Wc c e h R
  | .nxt it dst ok, e, h, R => ∃ c cm seen es, e.get it = .iter c ∧ h[c]? = some (.mit cm es.length seen) ∧ h[cm]? = some (.map es) ∧
      (∀ (i : Nat) k v, es[i]? = some (k, v) → i ∉ seen → R .normal ((e.set dst (.tup [.bool true, k, v])).set ok (.bool true)) (h.set c (.mit cm es.length (seen ++ [i])))) ∧
      ((∀ i, i < es.length → i ∈ seen) → R .normal ((e.set dst (.tup [.bool false])).set ok (.bool false)) h)
  | .kl ts d, e, h, R => dW Wc d (e.dels ts) h R
  | .seq a b, e, h, R => dW Wc a e h (then' (fun e' h' => dW Wc b e' h' R) R)
  | .blk id d, e, h, R => dW Wc d e h (inBlk id R)
  | .loop d, e, h, R => ∃ n, dRounds (dW Wc d) R n e h

def WMono (Wc : WCt) : Prop := ∀ c e h (R R' : RP), (∀ x e' h', R x e' h' → R' x e' h') → Wc c e h R → Wc c e h R'
theorem then_mono {K K' : Env → AH → Prop} {R R' : RP} (hk : ∀ e h, K e h → K' e h) (hr : ∀ x e h, R x e h → R' x e h) : ∀ x e h, then' K R x e h → then' K' R' x e h := by
  intro x e h
  cases x <;> simp only [then'] <;> first | exact hk _ _ | exact hr _ _ _
theorem inBlk_mono {id : Nat} {R R' : RP} (hr : ∀ x e h, R x e h → R' x e h) : ∀ x e h, inBlk id R x e h → inBlk id R' x e h := by
  intro x e h
  cases x <;> simp only [inBlk] <;> first
    | exact hr _ _ _
    | (split <;> exact hr _ _ _)
theorem dW_mono {Wc : WCt} (hW : WMono Wc) : ∀ (d : D) (e : Env) (h : AH) (R R' : RP), (∀ x e' h', R x e' h' → R' x e' h') → dW Wc d e h R → dW Wc d e h R'
  | .c c, e, h, R, R', hr, hw => hW c e h R R' hr hw
  | .nxt it dst ok, e, h, R, R', hr, ⟨c, cm, seen, es, h1, h2, h3, h4, h5⟩ => ⟨c, cm, seen, es, h1, h2, h3, fun i k v a b => hr _ _ _ (h4 i k v a b), fun a => hr _ _ _ (h5 a)⟩
  | .kl ts d, e, h, R, R', hr, hw => dW_mono hW d _ h R R' hr hw
  | .seq a b, e, h, R, R', hr, hw => dW_mono hW a e h _ _ (then_mono (fun e' h' => dW_mono hW b e' h' R R' hr) hr) hw
  | .blk id d, e, h, R, R', hr, hw => dW_mono hW d e h _ _ (inBlk_mono hr) hw
  | .loop d, e, h, R, R', hr, ⟨n, hn⟩ => by
    refine ⟨n, ?_⟩
    induction n generalizing e h with
    | zero => exact hn
    | succ n ih => exact dW_mono hW d e h _ _ (then_mono (fun e' h' => ih e' h') hr) hn
theorem dW_imp {Wc Wc' : WCt} (hm : WMono Wc') (hi : ∀ c e h R, Wc c e h R → Wc' c e h R) : ∀ (d : D) (e : Env) (h : AH) (R : RP), dW Wc d e h R → dW Wc' d e h R
  | .c c, e, h, R, hw => hi c e h R hw
  | .nxt _ _ _, _, _, _, hw => hw
  | .kl ts d, e, h, R, hw => dW_imp hm hi d _ h R hw
  | .seq a b, e, h, R, hw => dW_mono hm a e h _ _ (then_mono (fun e' h' => dW_imp hm hi b e' h' R) fun _ _ _ x => x) (dW_imp hm hi a e h _ hw)
  | .blk id d, e, h, R, hw => dW_imp hm hi d e h _ hw
  | .loop d, e, h, R, ⟨n, hn⟩ => by
    refine ⟨n, ?_⟩
    induction n generalizing e h with
    | zero => exact hn
    | succ n ih => exact dW_mono hm d e h _ _ (then_mono (fun e' h' => ih e' h') fun _ _ _ x => x) (dW_imp hm hi d e h _ hn)

/-! ### Two answers of one run meet -/
def WBoth (Wc : WCt) : Prop := ∀ c e h (R R' : RP), Wc c e h R → Wc c e h R' → ∃ x e' h', R x e' h' ∧ R' x e' h'
theorem then_both {K K' : Env → AH → Prop} {R R' : RP} (hk : ∀ e h, K e h → K' e h → ∃ x e' h', R x e' h' ∧ R' x e' h') {x : X} {e : Env} {h : AH} (h1 : then' K R x e h) (h2 : then' K' R' x e h) : ∃ x e' h', R x e' h' ∧ R' x e' h' := by
  cases x <;> simp only [then'] at h1 h2 <;> first | exact hk _ _ h1 h2 | exact ⟨_, _, _, h1, h2⟩
theorem dW_both {Wc : WCt} (hW : WBoth Wc) : ∀ (d : D) (e : Env) (h : AH) (R R' : RP), dW Wc d e h R → dW Wc d e h R' → ∃ x e' h', R x e' h' ∧ R' x e' h'
  | .c c, e, h, R, R', h1, h2 => hW c e h R R' h1 h2
  | .nxt it dst ok, e, h, R, R', ⟨c, cm, seen, es, a1, a2, a3, a4, a5⟩, ⟨c', cm', seen', es', b1, b2, b3, b4, b5⟩ => by
    rw [a1] at b1; cases b1
    rw [a2] at b2
    simp only [Option.some.injEq, AO.mit.injEq] at b2
    obtain ⟨rfl, _, rfl⟩ := b2
    rw [a3] at b3; cases b3
    by_cases hall : ∀ i, i < es.length → i ∈ seen
    · exact ⟨_, _, _, a5 hall, b5 hall⟩
    · simp only [Classical.not_forall] at hall
      obtain ⟨i, hi, hs⟩ := hall
      have he : es[i]? = some (es[i].1, es[i].2) := List.getElem?_eq_getElem hi
      exact ⟨_, _, _, a4 i _ _ he hs, b4 i _ _ he hs⟩
  | .kl ts d, e, h, R, R', h1, h2 => dW_both hW d _ h R R' h1 h2
  | .seq a b, e, h, R, R', h1, h2 => by
    obtain ⟨x, e', h', k1, k2⟩ := dW_both hW a e h _ _ h1 h2
    exact then_both (fun e' h' => dW_both hW b e' h' R R') k1 k2
  | .blk id d, e, h, R, R', h1, h2 => by
    obtain ⟨x, e', h', k1, k2⟩ := dW_both hW d e h _ _ h1 h2
    cases x <;> simp only [inBlk] at k1 k2
    · exact ⟨_, _, _, k1, k2⟩
    · split at k1
      · rename_i hid; rw [if_pos hid] at k2; exact ⟨_, _, _, k1, k2⟩
      · rename_i hid; rw [if_neg hid] at k2; exact ⟨_, _, _, k1, k2⟩
    · exact ⟨_, _, _, k1, k2⟩
  | .loop d, e, h, R, R', ⟨n, h1⟩, ⟨n', h2⟩ => by
    induction n generalizing e h n' with
    | zero => exact h1.elim
    | succ n ih =>
      cases n' with
      | zero => exact h2.elim
      | succ n' =>
        obtain ⟨x, e', h', k1, k2⟩ := dW_both hW d e h _ _ h1 h2
        exact then_both (fun e' h' a b => ih e' h' a n' b) k1 k2

/-! ### One fuel is enough: a step has few ways on -/
def Wcf (cf : CF) : WCt := fun c e h R => ∃ n x e' h', evC cf n c e h = some (x, e', h') ∧ R x e' h'
theorem Wcf_mono (cf : CF) : WMono (Wcf cf) := fun _ _ _ _ _ hr ⟨n, x, e', h', h1, h2⟩ => ⟨n, x, e', h', h1, hr _ _ _ h2⟩
theorem Wcf_both (cf : CF) : WBoth (Wcf cf) := by
  rintro c e h R R' ⟨n, x, e', h', h1, h2⟩ ⟨n', y, f, g, k1, k2⟩
  have a := evC_mono (CF.le_refl cf) (Nat.le_max_left n n') c h1
  have b := evC_mono (CF.le_refl cf) (Nat.le_max_right n n') c k1
  rw [a] at b; cases b
  exact ⟨_, _, _, h2, k2⟩
theorem Wcf_le {cf cf' : CF} (hle : cf.le cf') (c : C) (e : Env) (h : AH) (R : RP) (hw : Wcf cf c e h R) : Wcf cf' c e h R := by
  obtain ⟨n, x, e', h', h1, h2⟩ := hw
  exact ⟨n, x, e', h', evC_mono hle (Nat.le_refl n) c h1, h2⟩
theorem up_fin {n : Nat} {Q : Nat → Nat → Prop} (hm : ∀ i N N', N ≤ N' → Q i N → Q i N') (h : ∀ i, i < n → ∃ N, Q i N) : ∃ N, ∀ i, i < n → Q i N := by
  induction n with
  | zero => exact ⟨0, fun i hi => by omega⟩
  | succ n ih =>
    obtain ⟨N, hN⟩ := ih fun i hi => h i (by omega)
    obtain ⟨M, hM⟩ := h n (by omega)
    refine ⟨max N M, fun i hi => ?_⟩
    by_cases e : i = n
    · subst e; exact hm _ _ _ (Nat.le_max_right N M) hM
    · exact hm _ _ _ (Nat.le_max_left N M) (hN i (by omega))
theorem dW_fuel {T : Nat → Option FI} {E : Ext} (hE : EMono E) : ∀ (d : D) (e : Env) (h : AH) (R : Nat → RP), (∀ N N', N ≤ N' → ∀ x e' h', R N x e' h' → R N' x e' h') → dW (WC T E) d e h (fun x e' h' => ∃ N, R N x e' h') → ∃ N, dW (Wcf (evF T E N)) d e h (R N) := by
  have le : ∀ {N N' : Nat}, N ≤ N' → (evF T E N).le (evF T E N') := fun hn => evF_mono hE hn
  have up : ∀ {N N' : Nat} (d : D) (e : Env) (h : AH) (R R' : RP), N ≤ N' → (∀ x e' h', R x e' h' → R' x e' h') → dW (Wcf (evF T E N)) d e h R → dW (Wcf (evF T E N')) d e h R' := fun d e h R R' hn hr hw => dW_mono (Wcf_mono _) d e h R R' hr (dW_imp (Wcf_mono _) (fun c e h R => Wcf_le (le hn) c e h R) d e h R hw)
  have tup : ∀ {K : Nat → Env → AH → Prop} {R : Nat → RP}, (∀ N N', N ≤ N' → ∀ e' h', K N e' h' → K N' e' h') → (∀ N N', N ≤ N' → ∀ x e' h', R N x e' h' → R N' x e' h') → ∀ N N', N ≤ N' → ∀ x e' h', then' (K N) (R N) x e' h' → then' (K N') (R N') x e' h' :=
    fun hk hr N N' hn => then_mono (hk N N' hn) (hr N N' hn)
  intro d
  induction d with
  | c c =>
    rintro e h R hm ⟨n, x, e', h', h1, N, h2⟩
    exact ⟨max n N, n, x, e', h', evC_mono (le (Nat.le_max_left n N)) (Nat.le_refl n) c h1, hm _ _ (Nat.le_max_right n N) _ _ _ h2⟩
  | nxt it dst ok =>
    rintro e h R hm ⟨c, cm, seen, es, h1, h2, h3, h4, h5⟩
    have a : ∃ N, ∀ i, i < es.length → ∀ k v, es[i]? = some (k, v) → i ∉ seen → R N .normal ((e.set dst (.tup [.bool true, k, v])).set ok (.bool true)) (h.set c (.mit cm es.length (seen ++ [i]))) := by
      refine up_fin (Q := fun i N => ∀ k v, es[i]? = some (k, v) → i ∉ seen → R N .normal ((e.set dst (.tup [.bool true, k, v])).set ok (.bool true)) (h.set c (.mit cm es.length (seen ++ [i])))) (fun i N N' hn hq k v a b => hm N N' hn _ _ _ (hq k v a b)) fun i hi => ?_
      by_cases hs : i ∈ seen
      · exact ⟨0, fun _ _ _ hns => absurd hs hns⟩
      · obtain ⟨N, hN⟩ := h4 i es[i].1 es[i].2 (List.getElem?_eq_getElem hi) hs
        refine ⟨N, fun k v hkv _ => ?_⟩
        have : es[i]? = some (es[i].1, es[i].2) := List.getElem?_eq_getElem hi
        rw [this] at hkv; cases hkv
        exact hN
    have b : ∃ N, (∀ i, i < es.length → i ∈ seen) → R N .normal ((e.set dst (.tup [.bool false])).set ok (.bool false)) h := by
      by_cases hall : ∀ i, i < es.length → i ∈ seen
      · obtain ⟨N, hN⟩ := h5 hall
        exact ⟨N, fun _ => hN⟩
      · exact ⟨0, fun x => absurd x hall⟩
    obtain ⟨N, hN⟩ := a
    obtain ⟨M, hM⟩ := b
    exact ⟨max N M, c, cm, seen, es, h1, h2, h3, fun i k v hk hs => hm _ _ (Nat.le_max_left N M) _ _ _ (hN i (List.getElem?_eq_some_iff.1 hk).1 k v hk hs), fun hall => hm _ _ (Nat.le_max_right N M) _ _ _ (hM hall)⟩
  | kl ts d ih => intro e h R hm hw; exact ih _ h R hm hw
  | seq a b iha ihb =>
    intro e h R hm hw
    refine iha e h (fun N => then' (fun e' h' => dW (Wcf (evF T E N)) b e' h' (R N)) (R N)) (tup (fun N N' hn e' h' => up b e' h' _ _ hn (hm N N' hn)) hm) ?_
    refine dW_mono (fun c e h R R' hr ⟨n, x, e', h', h1, h2⟩ => ⟨n, x, e', h', h1, hr _ _ _ h2⟩) a e h _ _ ?_ hw
    intro x e' h' hx
    cases x <;> simp only [then'] at hx ⊢
    · exact ihb e' h' R hm hx
    · exact hx
    · exact hx
  | blk id d ih =>
    intro e h R hm hw
    refine ih e h (fun N => inBlk id (R N)) (fun N N' hn => inBlk_mono (hm N N' hn)) ?_
    refine dW_mono (fun c e h R R' hr ⟨n, x, e', h', h1, h2⟩ => ⟨n, x, e', h', h1, hr _ _ _ h2⟩) d e h _ _ ?_ hw
    intro x e' h' hx
    cases x <;> simp only [inBlk] at hx ⊢
    · exact hx
    · split at hx
      · rename_i hid
        obtain ⟨N, hN⟩ := hx
        exact ⟨N, by rw [if_pos hid]; exact hN⟩
      · rename_i hid
        obtain ⟨N, hN⟩ := hx
        exact ⟨N, by rw [if_neg hid]; exact hN⟩
    · exact hx
  | loop d ih =>
    intro e h R hm ⟨n, hn⟩
    have main : ∀ n e h, dRounds (dW (WC T E) d) (fun x e' h' => ∃ N, R N x e' h') n e h → ∃ N, dRounds (dW (Wcf (evF T E N)) d) (R N) n e h := by
      intro n
      induction n with
      | zero => intro e h hw; exact hw.elim
      | succ n ihn =>
        intro e h hw
        have upr : ∀ N N', N ≤ N' → ∀ e' h', dRounds (dW (Wcf (evF T E N)) d) (R N) n e' h' → dRounds (dW (Wcf (evF T E N')) d) (R N') n e' h' := by
          intro N N' hn'
          clear ihn hw hn
          induction n with
          | zero => intro e' h' hx; exact hx
          | succ n ih2 => intro e' h' hx; exact up d e' h' _ _ hn' (then_mono (fun e2 h2 => ih2 e2 h2) (hm N N' hn')) hx
        refine ih e h (fun N => then' (fun e' h' => dRounds (dW (Wcf (evF T E N)) d) (R N) n e' h') (R N)) (tup upr hm) ?_
        refine dW_mono (fun c e h R R' hr ⟨n, x, e', h', h1, h2⟩ => ⟨n, x, e', h', h1, hr _ _ _ h2⟩) d e h _ _ ?_ hw
        intro x e' h' hx
        cases x <;> simp only [then'] at hx ⊢
        · exact ihn e' h' hx
        · exact hx
        · exact hx
    obtain ⟨N, hN⟩ := main n e h hn
    exact ⟨N, n, hN⟩
end Go.Proofs.YtoacbgjdflcceaaGreatDoor.Ab

/- CONTRACTS outside the table of bodies: functions of strings, by what they answer. -/
namespace Go.Proofs.YtoacbgjdflcceaaGreatDoor.Ab
open Go

/-- Functions that turn nothing: of strings and numbers, or of what a slice holds. -/
def pureX (G : List AV → AH → Option AV) : CF → List AV → AH → Option (AV × AH) := fun _ xs h => (G xs h).map (·, h)
def low (s : List UInt8) : Bool := s.all fun b => decide (b.toNat < 128)
def xTrim : List AV → Option AV
  | [.str s, .str c] => if s.length ≤ 4294967280 ∧ c.length ≤ 4294967280 ∧ low c = true then some (.str (Go.Lib.trimS s c)) else none
  | _ => none
def xIndexByte : List AV → Option AV
  | [.str s, .int .u8 c] => some (.int .i64 (Go.Lib.indexByte s c.toNat.toUInt8))
  | _ => none
def xIndex : List AV → Option AV
  | [.str s, .str [c]] => some (.int .i64 (Go.Lib.indexByte s c))
  | _ => none
def xContains : List AV → Option AV
  | [.str s, .str [c]] => some (.bool (decide (0 ≤ Go.Lib.indexByte s c)))
  | _ => none
def xCount : List AV → Option AV
  | [.str s, .str [c]] => some (.int .i64 (Go.Lib.countByte s c))
  | _ => none

def strsOf : List AV → Option (List (List UInt8))
  | [] => some []
  | .str s :: l => (strsOf l).map (s :: ·)
  | _ :: _ => none
def xJoin : List AV → AH → Option AV
  | [.slice c k off len e, .str sep], h => if e = 1 then match rdRow h c k off len with
    | some cs => match strsOf cs with
      | some xs => if (Go.Lib.join xs sep).length ≤ 140737488355328 ∧ len ≤ 140737488355328 then some (.str (Go.Lib.join xs sep)) else none
      | none => none
    | none => none
    else none
  | _, _ => none
def xRepeat : List AV → Option AV
  | [.str s, .int .i64 n] => if 0 ≤ n ∧ n ≤ 9223372036854775807 ∧ s.length * n.toNat ≤ 140737488355328 then some (.str (Go.Lib.repeatL s n.toNat)) else none
  | _ => none

/-- What stands ahead of i and from j on, the rest laid to zero (elements of three numbers). -/
def xDelete3 : List AV → AH → Option (AV × AH)
  | [.slice c k off n e, .int .i64 i, .int .i64 j], h => if e = 3 ∧ 0 ≤ i ∧ i < j ∧ j ≤ (n : Int) ∧ n ≤ 1099511627776 then match rdRow h c k (off + j.toNat * 3) ((n - j.toNat) * 3) with
    | some cs => match wrRow h c k (off + i.toNat * 3) cs with
      | some h1 => match wrRow h1 c k (off + (i.toNat + (n - j.toNat)) * 3) (List.replicate ((j.toNat - i.toNat) * 3) (.int .i64 0)) with
        | some h2 => some (.slice c k off (n - (j.toNat - i.toNat)) 3, h2)
        | none => none
      | none => none
    | none => none
    else none
  | _, _ => none

/-- A slice of texts in order. -/
def xSortS : List AV → AH → Option (AV × AH)
  | [.nilS], h => some (.tup [], h)
  | [.empS], h => some (.tup [], h)
  | [.slice c k off n e], h => if e = 1 ∧ 1 ≤ n ∧ n ≤ 1099511627776 then match rdRow h c k off n with
    | some cs => match strsOf cs with
      | some ss => (wrRow h c k off ((ss.mergeSort fun x y => decide (x ≤ y)).map AV.str)).map fun h' => (.tup [], h')
      | none => none
    | none => none
    else none
  | _, _ => none

/-! ### Texts parted, a sign struck, moves put in order -/
def splA (c : UInt8) : List UInt8 → List UInt8 → List (List UInt8)
  | cur, [] => [cur]
  | cur, b :: s => if b = c then cur :: splA c [] s else splA c (cur ++ [b]) s
theorem splA_cons (c : UInt8) (cur : List UInt8) (b : UInt8) (s : List UInt8) : splA c cur (b :: s) = if b = c then cur :: splA c [] s else splA c (cur ++ [b]) s := rfl
def xSplit : List AV → AH → Option (AV × AH)
  | [.str s, .str [c]], h => if s.length ≤ 4294967280 then some (.slice h.length 0 0 (splA c [] s).length 1, h ++ [.row ((splA c [] s).map AV.str) 0 0 false]) else none
  | _, _ => none
abbrev noB (c : UInt8) (s : List UInt8) : List UInt8 := s.filter fun b => !(b == c)
def xReplaceAll : List AV → Option AV
  | [.str s, .str [c], .str []] => if s.length ≤ 4294967280 then some (.str (noB c s)) else none
  | _ => none
abbrev Mo := Int × Int
def ltMo (a b : Mo) : Prop := a.1 < b.1 ∨ (a.1 = b.1 ∧ a.2 < b.2)
instance (a b : Mo) : Decidable (ltMo a b) := by unfold ltMo; infer_instance
/-- Sorted as the program sorts. -/
def srtMo (l : List Mo) : List Mo := l.mergeSort fun x y => !decide (ltMo y x)
def mosOf : List AV → Option (List Mo)
  | [] => some []
  | .int .i64 a :: .int .i64 b :: l => (mosOf l).map ((a, b) :: ·)
  | _ => none
abbrev moC (l : List Mo) : List AV := l.flatMap fun m => [.int .i64 m.1, .int .i64 m.2]
/-- A slice of moves in order, by the function f. -/
def xSortM (f : Nat) : List AV → AH → Option (AV × AH)
  | [.nilS, .fn g []], h => if g = f then some (.tup [], h) else none
  | [.empS, .fn g []], h => if g = f then some (.tup [], h) else none
  | [.slice c k off n e, .fn g []], h => if g = f ∧ n = 0 then some (.tup [], h) else if g = f ∧ e = 2 ∧ n ≤ 1099511627776 then match rdRow h c k off (n * 2) with
    | some cs => match mosOf cs with
      | some ms => (wrRow h c k off (moC (srtMo ms))).map fun h' => (.tup [], h')
      | none => none
    | none => none
    else none
  | _, _ => none

/-! ### Texts gathered from a map, whose order is not known -/
/-- impl.someReached: the code, its steps over the map left open. -/
def dSome3 : D := .kl [8, 21, 22, 23] (.c (.cond (.t 24) (.reg [⟨some 25, .mov (.t 6), none⟩, ⟨some 26, .mov (.t 7), none⟩, ⟨some 27, .lit 1 1 [.str []] [(0, 1, .t 26)], none⟩, ⟨some 28, .app 1 (.t 25) (.t 27), none⟩, ⟨some 6, .mov (.t 28), none⟩]) .skip))
def dSome2 : D := .seq (.c (.reg [⟨some 21, .mov (.t 1), none⟩, ⟨some 22, .mov (.t 7), none⟩, ⟨some 23, .mov (.t 8), none⟩, ⟨some 24, .callv (.t 21) [.t 22, .t 23], none⟩])) dSome3
def dSome1 : D := .seq (.c (.reg [⟨some 18, .ent (.t 15), none⟩, ⟨some 19, .prj 0 (.t 18), none⟩, ⟨some 20, .prj 1 (.t 18), none⟩, ⟨some 7, .mov (.t 19), none⟩, ⟨some 8, .mov (.t 20), none⟩])) (.kl [18, 19, 20] dSome2)
def dSomeL : D := .kl [7, 8, 16, 17, 18, 19, 20, 21, 22, 23, 24, 25, 26, 27, 28] (.seq (.nxt 15 16 17) (.kl [16] (.seq (.c (.cond (.t 17) .skip (.kl [1, 15, 17] (.exit 0)))) (.kl [17] (.blk 1 dSome1)))))
def dSomeT : D := .seq (.c (.reg [⟨some 29, .mov (.t 6), none⟩, ⟨some 30, .call 275 [.t 29], none⟩])) (.kl [29, 30] (.c (.seq (.reg [⟨some 31, .mov (.t 6), none⟩, ⟨some 4, .mov (.t 31), none⟩, ⟨some 5, .mov (.c (.bool true)), none⟩]) .ret)))
def dSomeM : D := .seq (.seq (.c (.reg [⟨some 13, .mov (.t 0), none⟩, ⟨some 14, .call 273 [.t 13], none⟩, ⟨some 15, .rngM (.t 14), none⟩])) (.kl [0, 13, 14] (.blk 0 (.loop dSomeL)))) dSomeT
def dSome : D :=
  .seq (.c (.reg [⟨some 4, .mov (.c .nilS), none⟩, ⟨some 5, .mov (.c (.bool false)), none⟩]))
  (.seq (.c (.seq (.reg [⟨some 9, .mov (.t 0), none⟩, ⟨some 10, .call 56 [.t 9], none⟩, ⟨some 11, .un .not (.t 10), none⟩]) (.kl [9, 10] (.cond (.t 11) (.seq (.reg [⟨some 4, .mov (.c .nilS), none⟩, ⟨some 5, .mov (.c (.bool false)), none⟩]) .ret) .skip))))
  (.kl [4, 5, 11] (.seq (.c (.reg [⟨some 12, .lit0, none⟩, ⟨some 6, .mov (.t 12), none⟩])) (.kl [12] dSomeM))))
/-- What comes of it: nil, or nothing, or a slice of one's own; a yes or no. -/
def FinR (ra rb : Nat) (h : AH) (q : Nat × Bool × List (List UInt8)) : RP := fun x e' h' => x = .ret ∧ e'.get rb = .bool q.2.1 ∧ (∀ i, i < h.length → h'[i]? = h[i]?) ∧
  ((q.1 = 0 ∧ q.2.2 = [] ∧ e'.get ra = .nilS) ∨ (q.1 = 1 ∧ q.2.2 = [] ∧ e'.get ra = .empS) ∨
   (q.1 = 2 ∧ ∃ r k off n cells fl, e'.get ra = .slice r k off n 1 ∧ h.length ≤ r ∧ h'[r]? = some (.row cells k fl false) ∧ fl ≤ k ∧ n = q.2.2.length ∧ 1 ≤ n ∧ off + n * 1 = cells.length ∧ cells.drop off = q.2.2.map AV.str))
theorem strs_inj : ∀ {a b : List (List UInt8)}, a.map AV.str = b.map AV.str → a = b
  | [], [], _ => rfl
  | [], _ :: _, h => by simp at h
  | _ :: _, [], h => by simp at h
  | x :: a, y :: b, h => by
    simp only [List.map_cons, List.cons.injEq, AV.str.injEq] at h
    rw [h.1, strs_inj h.2]
theorem FinR.uniq {ra rb : Nat} {h h' : AH} {q q' : Nat × Bool × List (List UInt8)} {x : X} {e' : Env} (a : FinR ra rb h q x e' h') (b : FinR ra rb h q' x e' h') : q = q' := by
  obtain ⟨q1, q2, q3⟩ := q
  obtain ⟨p1, p2, p3⟩ := q'
  obtain ⟨_, a1, _, a2⟩ := a
  obtain ⟨_, b1, _, b2⟩ := b
  simp only at a1 b1 a2 b2
  rw [a1] at b1
  simp only [AV.bool.injEq] at b1
  subst b1
  rcases a2 with ⟨rfl, rfl, a3⟩ | ⟨rfl, rfl, a3⟩ | ⟨rfl, r, k, off, n, cells, fl, a3, a4, a5, a6, a7, a8, a9, a10⟩ <;> rcases b2 with ⟨rfl, rfl, b3⟩ | ⟨rfl, rfl, b3⟩ | ⟨rfl, r', k', off', n', cells', fl', b3, b4, b5, b6, b7, b8, b9, b10⟩ <;> rw [a3] at b3 <;> first
    | rfl
    | (cases b3; done)
    | (simp only [AV.slice.injEq] at b3
       obtain ⟨rfl, rfl, rfl, rfl, _⟩ := b3
       rw [a5] at b5
       simp only [Option.some.injEq, AO.row.injEq] at b5
       obtain ⟨rfl, _⟩ := b5
       rw [a10] at b10
       rw [strs_inj b10])
def ansR (h : AH) (q : Nat × Bool × List (List UInt8)) : AV × AH := match q.1 with
  | 0 => (.tup [.nilS, .bool q.2.1], h)
  | 1 => (.tup [.empS, .bool q.2.1], h)
  | _ => (.tup [.slice h.length 0 0 q.2.2.length 1, .bool q.2.1], h ++ [.row (q.2.2.map AV.str) 0 0 false])
open Classical in
noncomputable def xGather (d : D) (ra rb : Nat) : CF → List AV → AH → Option (AV × AH) := fun cf xs h =>
  if H : ∃ q, dW (Wcf cf) d (Env.init 0 xs) h (FinR ra rb h q) then some (ansR h (Classical.choose H)) else none
theorem xGather_at {d : D} {ra rb : Nat} {cf : CF} {xs : List AV} {h : AH} {q : Nat × Bool × List (List UInt8)} (hq : dW (Wcf cf) d (Env.init 0 xs) h (FinR ra rb h q)) : xGather d ra rb cf xs h = some (ansR h q) := by
  have H : ∃ q, dW (Wcf cf) d (Env.init 0 xs) h (FinR ra rb h q) := ⟨q, hq⟩
  unfold xGather
  rw [dif_pos H]
  obtain ⟨x, e', h', a, b⟩ := dW_both (Wcf_both cf) d _ _ _ _ (Classical.choose_spec H) hq
  rw [FinR.uniq a b]
theorem xGather_some {d : D} {ra rb : Nat} {cf : CF} {xs : List AV} {h : AH} {r : AV × AH} (hr : xGather d ra rb cf xs h = some r) : ∃ q, dW (Wcf cf) d (Env.init 0 xs) h (FinR ra rb h q) ∧ r = ansR h q := by
  unfold xGather at hr
  split at hr
  · rename_i H
    cases hr
    exact ⟨_, Classical.choose_spec H, rfl⟩
  · cases hr
theorem xGather_mono {d : D} {ra rb : Nat} {cf cf' : CF} (hle : cf.le cf') {xs : List AV} {h : AH} {r : AV × AH} (hr : xGather d ra rb cf xs h = some r) : xGather d ra rb cf' xs h = some r := by
  obtain ⟨q, hq, rfl⟩ := xGather_some hr
  exact xGather_at (dW_imp (Wcf_mono _) (fun c e h R => Wcf_le hle c e h R) d _ _ _ hq)
noncomputable def xSome : CF → List AV → AH → Option (AV × AH) := xGather dSome 4 5

/-- impl.LinesHalfway: the code, its steps over the map left open. -/
def dHalfB : C := .seq (.cond (.t 29) (.skip) (.kl [8, 27, 29] (.exit 0))) (.kl [29] (.blk 1 (.seq (.reg [⟨some 30, .ent (.t 27), none⟩, ⟨some 31, .prj 0 (.t 30), none⟩, ⟨some 32, .prj 1 (.t 30), none⟩, ⟨some 11, .mov (.t 31), none⟩, ⟨some 12, .mov (.t 32), none⟩]) (.kl [30, 31, 32] (.seq (.reg [⟨some 33, .mov (.t 12), none⟩, ⟨some 34, .mov (.t 8), none⟩, ⟨some 35, .bin .quo (.t 34) (.c (.int .i64 2)), none⟩, ⟨some 36, .bin .eql (.t 33) (.t 35), none⟩]) (.kl [12, 33, 34, 35] (.cond (.t 36) (.kl [36] (.reg [⟨some 37, .mov (.t 10), none⟩, ⟨some 38, .mov (.t 11), none⟩, ⟨some 39, .lit 1 1 [.str []] [(0, 1, .t 38)], none⟩, ⟨some 40, .app 1 (.t 37) (.t 39), none⟩, ⟨some 10, .mov (.t 40), none⟩])) (.skip))))))))
def dHalfL : D := .kl [11, 36, 37, 38, 39, 40] (.seq (.nxt 27 28 29) (.kl [28] (.c dHalfB)))
def dHalfT : C := .seq (.reg [⟨some 41, .mov (.t 10), none⟩, ⟨some 42, .call 275 [.t 41], none⟩]) (.kl [41, 42] (.seq (.reg [⟨some 43, .mov (.t 10), none⟩, ⟨some 6, .mov (.t 43), none⟩, ⟨some 7, .mov (.c (.bool true)), none⟩]) (.kl [10, 43] (.ret))))
def dHalfM : D := .seq (.seq (.c (.reg [⟨some 23, .mov (.t 0), none⟩, ⟨some 24, .mov (.t 1), none⟩, ⟨some 25, .mov (.t 2), none⟩, ⟨some 26, .call 314 [.t 23, .t 24, .t 25], none⟩, ⟨some 27, .rngM (.t 26), none⟩])) (.kl [0, 1, 2, 23, 24, 25, 26] (.blk 0 (.loop dHalfL)))) (.c dHalfT)
def dHalf : D := .seq (.c (.reg [⟨some 6, .mov (.c (.nilS)), none⟩, ⟨some 7, .mov (.c (.bool false)), none⟩])) (.kl [6, 7] (.seq (.c (.reg [⟨some 14, .mov (.t 0), none⟩, ⟨some 15, .mov (.t 1), none⟩, ⟨some 16, .mov (.t 2), none⟩, ⟨some 17, .call 313 [.t 14, .t 15, .t 16], none⟩, ⟨some 13, .mov (.t 17), none⟩, ⟨some 18, .prj 0 (.t 13), none⟩, ⟨some 19, .prj 1 (.t 13), none⟩, ⟨some 8, .mov (.t 18), none⟩, ⟨some 9, .mov (.t 19), none⟩])) (.kl [13, 14, 15, 16, 17, 18, 19] (.seq (.c (.seq (.reg [⟨some 20, .mov (.t 9), none⟩, ⟨some 21, .un .not (.t 20), none⟩]) (.kl [9, 20] (.cond (.t 21) (.kl [0, 1, 2, 8, 21] (.seq (.reg [⟨some 6, .mov (.c (.nilS)), none⟩, ⟨some 7, .mov (.c (.bool false)), none⟩]) (.ret))) (.skip))))) (.kl [21] (.seq (.c (.reg [⟨some 22, .lit0, none⟩, ⟨some 10, .mov (.t 22), none⟩])) (.kl [22] dHalfM)))))))
noncomputable def xHalf : CF → List AV → AH → Option (AV × AH) := xGather dHalf 6 7

def xtab : List (Nat × (List AV → AH → Option AV)) := [(111, fun xs _ => xTrim xs), (190, fun xs _ => xIndexByte xs), (194, fun xs _ => xIndex xs), (126, fun xs _ => xContains xs), (131, fun xs _ => xCount xs), (255, xJoin), (123, fun xs _ => xRepeat xs)]
def ytab : List (Nat × (List AV → AH → Option (AV × AH))) := []
noncomputable def ztab : List (Nat × (CF → List AV → AH → Option (AV × AH))) := []
noncomputable def E : Ext := fun f => match xtab.find? fun x => x.1 == f with
  | some x => some (pureX x.2)
  | none => match ytab.find? fun x => x.1 == f with
    | some x => some fun _ xs h => x.2 xs h
    | none => (ztab.find? fun x => x.1 == f).map fun x => x.2
theorem ztab_mono : ∀ x ∈ ztab, ∀ cf cf' : CF, cf.le cf' → ∀ xs h r, x.2 cf xs h = some r → x.2 cf' xs h = some r := by
  intro x hx
  simp only [ztab, List.mem_cons, List.not_mem_nil, or_false] at hx
  all_goals cases hx
theorem hE : EMono E := by
  intro f G h cf cf' _ xs hh r hr
  unfold E at h
  split at h
  · cases h; exact hr
  · split at h
    · cases h; exact hr
    · simp only [Option.map_eq_some_iff] at h
      obtain ⟨x, hx, rfl⟩ := h
      exact ztab_mono x (List.mem_of_find?_eq_some hx) cf cf' ‹_› xs hh r hr
end Go.Proofs.YtoacbgjdflcceaaGreatDoor.Ab

/- THE RELATION between the abstract machine's states and the model's. -/
namespace Go.Proofs.YtoacbgjdflcceaaGreatDoor.Ab
open Go Go.RowKit

structure Place where
  blk : Nat
  base : Nat
  lo : Nat
  ext : Nat
  siz : Nat

structure Emb where
  row : Nat → Nat → Option Place
  obj : Nat → Option Nat

mutual
def RelV (F : Nat → Nat) (m : Emb) : AV → Value → Prop
  | .int k n, v => v = .int k n
  | .bool b, v => v = .bool b
  | .str s, v => v = .string ⟨s.toArray⟩
  | .nilS, v => v = .slice none 0 0
  | .empS, v => ∃ a, v = .slice (some a) 0 0
  | .slice c k off len esz, v => ∃ p o cap, m.row c k = some p ∧ v = .slice (some ⟨p.blk, o, none⟩) len cap ∧ len ≤ cap ∧
      (cap = 0 ∨ (p.lo ≤ off ∧ o = p.base + (off - p.lo) ∧ off + len * esz ≤ p.ext ∧ p.base + (off - p.lo) + cap * esz ≤ p.siz))
  | .nilP, v => v = .pointer none
  | .ptr c k off n, v => ∃ p, m.row c k = some p ∧ v = .pointer (some ⟨p.blk, p.base + (off - p.lo), none⟩) ∧ p.lo ≤ off ∧ off + n ≤ p.ext
  | .nilM, v => v = .map none
  | .map c, v => ∃ b, m.obj c = some b ∧ v = .map (some b)
  | .iter c, v => ∃ b, m.obj c = some b ∧ v = .pointer (some ⟨b, 0, none⟩)
  | .fn f cap, v => ∃ vs, v = .func (.func (F f)) #[] vs ∧ RelL F m cap vs.toList
  | .nilF, v => v = .nilFunc
  | .agg xs, v => ∃ vs, v = .agg vs ∧ RelL F m xs vs.toList
  | .tup xs, v => ∃ vs, v = .tuple vs ∧ RelL F m xs vs.toList
  | .nilI, v => v = .nilIface
  | .ifc, v => ∃ t u, v = .iface t u
  | .undef, _ => True
def RelL (F : Nat → Nat) (m : Emb) : List AV → List Value → Prop
  | [], l => l = []
  | x :: xs, l => ∃ v vs, l = v :: vs ∧ RelV F m x v ∧ RelL F m xs vs
end

def RelE (F : Nat → Nat) (m : Emb) : List (AV × AV) → List MapEntry → Prop
  | [], l => l = []
  | (k, v) :: es, l => ∃ e l', l = e :: l' ∧ RelV F m k e.key ∧ RelV F m v e.val ∧ RelE F m es l'

def Emb.le (m m' : Emb) : Prop := (∀ c k p, m.row c k = some p → m'.row c k = some p) ∧ ∀ c b, m.obj c = some b → m'.obj c = some b
theorem Emb.le_refl (m : Emb) : m.le m := ⟨fun _ _ _ h => h, fun _ _ h => h⟩
theorem Emb.le_trans {m m' m'' : Emb} (h : m.le m') (h' : m'.le m'') : m.le m'' := ⟨fun _ _ _ x => h'.1 _ _ _ (h.1 _ _ _ x), fun _ _ x => h'.2 _ _ (h.2 _ _ x)⟩

mutual
theorem RelV.mono {F : Nat → Nat} {m m' : Emb} (hm : m.le m') : ∀ (x : AV) (v : Value), RelV F m x v → RelV F m' x v
  | .int .., _, h | .bool _, _, h | .str _, _, h | .nilS, _, h | .empS, _, h | .nilP, _, h | .nilM, _, h | .nilF, _, h | .nilI, _, h | .ifc, _, h | .undef, _, h => by simp only [RelV] at h ⊢ <;> exact h
  | .slice .., _, h => by
    simp only [RelV] at h ⊢
    obtain ⟨p, o, cap, h1, h2⟩ := h
    exact ⟨p, o, cap, hm.1 _ _ _ h1, h2⟩
  | .ptr .., _, h => by
    simp only [RelV] at h ⊢
    obtain ⟨p, h1, h2⟩ := h
    exact ⟨p, hm.1 _ _ _ h1, h2⟩
  | .map _, _, h => by
    simp only [RelV] at h ⊢
    obtain ⟨b, h1, h2⟩ := h
    exact ⟨b, hm.2 _ _ h1, h2⟩
  | .iter _, _, h => by
    simp only [RelV] at h ⊢
    obtain ⟨b, h1, h2⟩ := h
    exact ⟨b, hm.2 _ _ h1, h2⟩
  | .fn _ cap, _, h => by
    simp only [RelV] at h ⊢
    obtain ⟨vs, h1, h2⟩ := h
    exact ⟨vs, h1, RelL.mono hm cap _ h2⟩
  | .agg xs, _, h => by
    simp only [RelV] at h ⊢
    obtain ⟨vs, h1, h2⟩ := h
    exact ⟨vs, h1, RelL.mono hm xs _ h2⟩
  | .tup xs, _, h => by
    simp only [RelV] at h ⊢
    obtain ⟨vs, h1, h2⟩ := h
    exact ⟨vs, h1, RelL.mono hm xs _ h2⟩
theorem RelL.mono {F : Nat → Nat} {m m' : Emb} (hm : m.le m') : ∀ (xs : List AV) (l : List Value), RelL F m xs l → RelL F m' xs l
  | [], _, h => by simpa only [RelL] using h
  | x :: xs, _, h => by
    simp only [RelL] at h ⊢
    obtain ⟨v, vs, h1, h2, h3⟩ := h
    exact ⟨v, vs, h1, RelV.mono hm x v h2, RelL.mono hm xs vs h3⟩
end

theorem RelE.mono {F : Nat → Nat} {m m' : Emb} (hm : m.le m') : ∀ (es : List (AV × AV)) (l : List MapEntry), RelE F m es l → RelE F m' es l
  | [], _, h => h
  | (k, v) :: es, l, h => by
    obtain ⟨e, l', h1, h2, h3, h4⟩ := h
    exact ⟨e, l', h1, RelV.mono hm _ _ h2, RelV.mono hm _ _ h3, RelE.mono hm es l' h4⟩

/-! ### Lists -/
theorem RelL.length {F : Nat → Nat} {m : Emb} : ∀ {xs : List AV} {l : List Value}, RelL F m xs l → l.length = xs.length
  | [], _, h => by simp only [RelL] at h; subst h; rfl
  | x :: xs, _, h => by
    simp only [RelL] at h
    obtain ⟨v, vs, rfl, _, h3⟩ := h
    simp [RelL.length h3]
theorem RelL.get {F : Nat → Nat} {m : Emb} : ∀ {xs : List AV} {l : List Value}, RelL F m xs l → ∀ (i : Nat) (x : AV), xs[i]? = some x → ∃ v, l[i]? = some v ∧ RelV F m x v
  | [], _, _, i, x, hx => by simp at hx
  | y :: xs, _, h, i, x, hx => by
    simp only [RelL] at h
    obtain ⟨v, vs, rfl, h2, h3⟩ := h
    cases i with
    | zero => simp at hx; subst hx; exact ⟨v, rfl, h2⟩
    | succ i => simp at hx; simpa using RelL.get h3 i x hx
theorem RelL.of {F : Nat → Nat} {m : Emb} : ∀ {xs : List AV} {l : List Value}, l.length = xs.length → (∀ (i : Nat) (x : AV) (v : Value), xs[i]? = some x → l[i]? = some v → RelV F m x v) → RelL F m xs l
  | [], l, hl, _ => by simp only [RelL]; exact List.eq_nil_of_length_eq_zero (by simpa using hl)
  | x :: xs, [], hl, _ => by simp at hl
  | x :: xs, v :: l, hl, h => by
    simp only [RelL]
    exact ⟨v, l, rfl, h 0 x v rfl rfl, RelL.of (by simpa using hl) fun i y u hy hu => h (i + 1) y u (by simpa using hy) (by simpa using hu)⟩
theorem RelL.append {F : Nat → Nat} {m : Emb} : ∀ {xs ys : List AV} {l l' : List Value}, RelL F m xs l → RelL F m ys l' → RelL F m (xs ++ ys) (l ++ l')
  | [], _, _, _, h, h' => by simp only [RelL] at h; subst h; simpa using h'
  | x :: xs, _, _, _, h, h' => by
    simp only [RelL] at h
    obtain ⟨v, vs, rfl, h2, h3⟩ := h
    simp only [List.cons_append, RelL]
    exact ⟨v, _, rfl, h2, h3.append h'⟩
theorem RelL.take {F : Nat → Nat} {m : Emb} (n : Nat) : ∀ {xs : List AV} {l : List Value}, RelL F m xs l → RelL F m (xs.take n) (l.take n)
  | [], _, h => by simp only [RelL] at h; subst h; simp [RelL]
  | x :: xs, _, h => by
    simp only [RelL] at h
    obtain ⟨v, vs, rfl, h2, h3⟩ := h
    cases n with
    | zero => simp [RelL]
    | succ n => simp only [List.take_succ_cons, RelL]; exact ⟨v, _, rfl, h2, h3.take n⟩
theorem RelL.drop {F : Nat → Nat} {m : Emb} (n : Nat) : ∀ {xs : List AV} {l : List Value}, RelL F m xs l → RelL F m (xs.drop n) (l.drop n)
  | [], _, h => by simp only [RelL] at h; subst h; simp [RelL]
  | x :: xs, _, h => by
    cases n with
    | zero => simpa using h
    | succ n =>
      simp only [RelL] at h
      obtain ⟨v, vs, rfl, h2, h3⟩ := h
      simpa using h3.drop n

/-- The cells of related values are related. -/
theorem RelV.cells {F : Nat → Nat} {m : Emb} {x : AV} {v : Value} (h : RelV F m x v) (hx : ∀ xs, x ≠ .tup xs) (hu : x ≠ .undef) : RelL F m x.cells v.cells.toList := by
  cases x <;> first
    | exact absurd rfl hu
    | exact absurd rfl (hx _)
    | (simp only [RelV] at h; obtain ⟨vs, rfl, h2⟩ := h; exact h2)
    | (have h' := h; simp only [RelV] at h'
       first
         | (subst h'; simp only [AV.cells, Value.cells, RelL]; exact ⟨_, _, rfl, h, rfl⟩)
         | (obtain ⟨a, rfl⟩ := h'; simp only [AV.cells, Value.cells, RelL]; exact ⟨_, _, rfl, h, rfl⟩)
         | (obtain ⟨a, b, rfl⟩ := h'; simp only [AV.cells, Value.cells, RelL]; exact ⟨_, _, rfl, h, rfl⟩)
         | (obtain ⟨a, h1, rfl⟩ := h'; simp only [AV.cells, Value.cells, RelL]; exact ⟨_, _, rfl, h, rfl⟩)
         | (obtain ⟨a, rfl, h1⟩ := h'; simp only [AV.cells, Value.cells, RelL]; exact ⟨_, _, rfl, h, rfl⟩)
         | (obtain ⟨a, h1, rfl, h2⟩ := h'; simp only [AV.cells, Value.cells, RelL]; exact ⟨_, _, rfl, h, rfl⟩)
         | (obtain ⟨a, b, c, h1, rfl, h2⟩ := h'; simp only [AV.cells, Value.cells, RelL]; exact ⟨_, _, rfl, h, rfl⟩))

theorem RelV.one {F : Nat → Nat} {m : Emb} {x : AV} {v : Value} (h : RelV F m x v) (hx : x.sc = true) : v.oneCell' = true := by
  cases x <;> simp only [AV.sc] at hx <;> first
    | (cases hx; done)
    | (simp only [RelV] at h
       first
         | (subst h; rfl)
         | (obtain ⟨a, rfl⟩ := h; rfl)
         | (obtain ⟨a, b, rfl⟩ := h; rfl)
         | (obtain ⟨a, h1, rfl⟩ := h; rfl)
         | (obtain ⟨a, rfl, h1⟩ := h; rfl)
         | (obtain ⟨a, h1, rfl, h2⟩ := h; rfl)
         | (obtain ⟨a, b, c, h1, rfl, h2⟩ := h; rfl))

/-! ### Heaps -/
def ObjRel (F : Nat → Nat) (base : Nat) (m : Emb) (w : World) (c : Nat) : AO → Prop
  | .row cs ver fl ro => ∀ k p, m.row c k = some p → fl ≤ k → k ≤ ver ∧ p.ext ≤ cs.length ∧ (k = ver → p.ext = cs.length) ∧ (ro = false → base ≤ p.blk) ∧
      ∃ C e fr, w.heap[p.blk]? = some (.cells C e fr) ∧ C.size = p.siz ∧ p.base + (p.ext - p.lo) ≤ p.siz ∧ (ro = false → p.siz ≤ fr.1 ∨ fr.2 ≤ fr.1) ∧
        ∀ j, p.lo ≤ j → j < p.ext → ∃ x v, cs[j]? = some x ∧ C[p.base + (j - p.lo)]? = some v ∧ RelV F m x v
  | .map es => ∀ b, m.obj c = some b → base ≤ b ∧ ∃ E clk, w.heap[b]? = some (.map E clk) ∧ RelE F m es E.toList ∧ clk = E.size ∧ ∀ (i : Nat) (e : MapEntry), E[i]? = some e → e.born = i
  | .iter s pos => ∀ b, m.obj c = some b → base ≤ b ∧ w.heap[b]? = some (.stringIter ⟨s.toArray⟩ pos)
  | .mit cm since seen => ∀ b, m.obj c = some b → base ≤ b ∧ ∃ bm sn, m.obj cm = some bm ∧ w.heap[b]? = some (.mapIter (some bm) since sn since) ∧ sn.toList = seen

def AO.isRow : AO → Bool
  | .row .. => true
  | _ => false

structure RelH (F : Nat → Nat) (base : Nat) (m : Emb) (h : AH) (w : World) : Prop where
  rowc : ∀ c k p, m.row c k = some p → ∃ o, h[c]? = some o ∧ o.isRow = true
  objc : ∀ c b, m.obj c = some b → ∃ o, h[c]? = some o ∧ o.isRow = false
  ob : ∀ c o, h[c]? = some o → ObjRel F base m w c o
  inj : ∀ c k p c' k' p', m.row c k = some p → m.row c' k' = some p' → base ≤ p.blk → p.blk = p'.blk → c = c' ∧ p.base + p'.lo = p'.base + p.lo ∧ p.siz = p'.siz
  injo : ∀ c c' b, m.obj c = some b → m.obj c' = some b → c = c'
  injr : ∀ c k p c' b, m.row c k = some p → m.obj c' = some b → p.blk ≠ b
  ltr : ∀ c k p, m.row c k = some p → p.blk < w.heap.size
  lto : ∀ c b, m.obj c = some b → b < w.heap.size
  vers : ∀ c cs ver fl ro k p, h[c]? = some (.row cs ver fl ro) → m.row c k = some p → k ≤ ver
  le : base ≤ w.heap.size

def Emb.has (m : Emb) (b : Nat) : Prop := (∃ c k p, m.row c k = some p ∧ p.blk = b) ∨ ∃ c, m.obj c = some b
def Emb.placed (m : Emb) (c : Nat) : Prop := (∃ k p, m.row c k = some p) ∨ ∃ b, m.obj c = some b

/-- What a piece of the run does. -/
structure StepR (F : Nat → Nat) (base : Nat) (m : Emb) (h : AH) (w : World) (m' : Emb) (h' : AH) (w' : World) : Prop where
  le : m.le m'
  rel : RelH F base m' h' w'
  os : w'.os = w.os
  tape : w'.tape = w.tape
  out : w'.output = w.output
  size : w.heap.size ≤ w'.heap.size
  frame : ∀ b, b < w.heap.size → (b < base ∨ ¬ m.has b) → w'.heap[b]? = w.heap[b]?
  newr : ∀ c k p, m'.row c k = some p → m.row c k = some p ∨ ((h.length ≤ c ∨ ∃ k0 p0, m.row c k0 = some p0) ∧ (w.heap.size ≤ p.blk ∨ ∃ k0 p0, m.row c k0 = some p0 ∧ p0.blk = p.blk))
  newo : ∀ c b, m'.obj c = some b → m.obj c = some b ∨ (h.length ≤ c ∧ w.heap.size ≤ b)
  unpl : ∀ c, c < h.length → ¬ m.placed c → h'[c]? = h[c]?
  len : h.length ≤ h'.length

theorem StepR.refl {F : Nat → Nat} {base : Nat} {m : Emb} {h : AH} {w : World} (hr : RelH F base m h w) : StepR F base m h w m h w :=
  ⟨Emb.le_refl m, hr, rfl, rfl, rfl, Nat.le_refl _, fun _ _ _ => rfl, fun _ _ _ h => .inl h, fun _ _ h => .inl h, fun _ _ _ => rfl, Nat.le_refl _⟩

theorem StepR.trans {F : Nat → Nat} {base : Nat} {m m' m'' : Emb} {h h' h'' : AH} {w w' w'' : World} (a : StepR F base m h w m' h' w') (b : StepR F base m' h' w' m'' h'' w'') :
    StepR F base m h w m'' h'' w'' where
  le := Emb.le_trans a.le b.le
  rel := b.rel
  os := b.os.trans a.os
  tape := b.tape.trans a.tape
  out := b.out.trans a.out
  size := Nat.le_trans a.size b.size
  frame := by
    intro i hi hb
    rw [b.frame i (Nat.lt_of_lt_of_le hi a.size) ?_, a.frame i hi hb]
    rcases hb with hb | hb
    · exact .inl hb
    · refine .inr fun hh => hb ?_
      rcases hh with ⟨c, k, p, h1, h2⟩ | ⟨c, h1⟩
      · rcases a.newr c k p h1 with h3 | ⟨_, h3 | ⟨k0, p0, h3, h4⟩⟩
        · exact .inl ⟨c, k, p, h3, h2⟩
        · omega
        · exact .inl ⟨c, k0, p0, h3, h4.trans h2⟩
      · rcases a.newo c i h1 with h3 | ⟨_, h3⟩
        · exact .inr ⟨c, h3⟩
        · omega
  newr := by
    intro c k p h1
    rcases b.newr c k p h1 with h2 | ⟨h2, h3⟩
    · exact a.newr c k p h2
    · refine .inr ⟨?_, ?_⟩
      · rcases h2 with h2 | ⟨k0, p0, h2⟩
        · exact .inl (Nat.le_trans a.len h2)
        · rcases a.newr c k0 p0 h2 with h4 | ⟨h4, _⟩
          · exact .inr ⟨k0, p0, h4⟩
          · exact h4
      · rcases h3 with h3 | ⟨k0, p0, h3, h4⟩
        · exact .inl (Nat.le_trans a.size h3)
        · rcases a.newr c k0 p0 h3 with h5 | ⟨_, h5 | ⟨k1, p1, h5, h6⟩⟩
          · exact .inr ⟨k0, p0, h5, h4⟩
          · exact .inl (h4 ▸ h5)
          · exact .inr ⟨k1, p1, h5, h6.trans h4⟩
  newo := by
    intro c i h1
    rcases b.newo c i h1 with h2 | ⟨h2, h3⟩
    · exact a.newo c i h2
    · exact .inr ⟨Nat.le_trans a.len h2, Nat.le_trans a.size h3⟩
  unpl := by
    intro c hc hn
    rw [b.unpl c (Nat.lt_of_lt_of_le hc a.len) ?_, a.unpl c hc hn]
    rintro (⟨k, p, h1⟩ | ⟨i, h1⟩)
    · rcases a.newr c k p h1 with h2 | ⟨h2 | ⟨k0, p0, h2⟩, _⟩
      · exact hn (.inl ⟨k, p, h2⟩)
      · omega
      · exact hn (.inl ⟨k0, p0, h2⟩)
    · rcases a.newo c i h1 with h2 | ⟨h2, _⟩
      · exact hn (.inr ⟨i, h2⟩)
      · omega
  len := Nat.le_trans a.len b.len

theorem StepR.below {F : Nat → Nat} {base : Nat} {m m' : Emb} {h h' : AH} {w w' : World} (a : StepR F base m h w m' h' w') (hb : base ≤ w.heap.size) : Below base w w' :=
  ⟨a.os, a.tape, a.out, a.size, fun i hi => a.frame i (Nat.lt_of_lt_of_le hi hb) (.inl hi)⟩

/-! ### Environments -/
def RelEnv (F : Nat → Nat) (m : Emb) (e : Env) (tmps : Array Value) : Prop := ∀ t, RelV F m (e.get t) (tmps.getD t undef)
theorem RelEnv.mono {F : Nat → Nat} {m m' : Emb} {e : Env} {tmps : Array Value} (hm : m.le m') (h : RelEnv F m e tmps) : RelEnv F m' e tmps := fun t => RelV.mono hm _ _ (h t)
theorem Env.get_set (e : Env) (t u : Nat) (v : AV) : (e.set t v).get u = if t = u then v else e.get u := by
  induction e with
  | nil => simp only [Env.set, Env.get]
  | cons x e ih =>
    obtain ⟨k, y⟩ := x
    simp only [Env.set]
    by_cases h : k = t
    · simp only [if_pos h, Env.get]; subst h; split <;> rfl
    · simp only [if_neg h]
      split
      · simp only [Env.get]
      · simp only [Env.get, ih]
        by_cases h1 : k = u
        · simp only [if_pos h1]; rw [if_neg]; omega
        · simp only [if_neg h1]
theorem Env.get_del (e : Env) (t u : Nat) : (e.del t).get u = if t = u then .undef else e.get u := by
  induction e with
  | nil => simp [Env.del, Env.get]
  | cons x e ih =>
    obtain ⟨k, y⟩ := x
    simp only [Env.del]
    by_cases h : k = t
    · simp only [if_pos h, ih, Env.get]; subst h; split <;> rfl
    · simp only [if_neg h, Env.get, ih]
      by_cases h1 : k = u
      · simp only [if_pos h1]; rw [if_neg]; omega
      · simp only [if_neg h1]
theorem RelEnv.del {F : Nat → Nat} {m : Emb} {e : Env} {tmps : Array Value} (h : RelEnv F m e tmps) (t : Nat) : RelEnv F m (e.del t) tmps := by
  intro u
  rw [Env.get_del]
  split
  · simp only [RelV]
  · exact h u
theorem RelEnv.dels {F : Nat → Nat} {m : Emb} {tmps : Array Value} : ∀ (ts : List Nat) {e : Env}, RelEnv F m e tmps → RelEnv F m (e.dels ts) tmps
  | [], _, h => h
  | t :: ts, _, h => RelEnv.dels ts (h.del t)
theorem getD_set (tmps : Array Value) (t u : Nat) (v : Value) : (tmps.setIfInBounds t v).getD u undef = if t = u ∧ t < tmps.size then v else tmps.getD u undef := by
  simp only [Array.getD_eq_getD_getElem?, Array.getElem?_setIfInBounds]
  by_cases h : t = u
  · subst h
    by_cases h2 : t < tmps.size <;> simp [h2]
  · simp [h]
theorem RelEnv.put {F : Nat → Nat} {m : Emb} {e : Env} {a : Act} (h : RelEnv F m e a.tmps) {r : AV} {v : Value} (hv : RelV F m r v) (d : Option Nat) (hd : ∀ t, d = some t → t < a.tmps.size) :
    RelEnv F m (Ab.put e d r) (a.put d v).tmps := by
  cases d with
  | none => exact h
  | some t =>
    intro u
    simp only [Ab.put, Act.put, Env.get_set]
    rw [getD_set]
    have := hd t rfl
    by_cases h1 : t = u
    · simp only [if_pos h1, if_pos (And.intro h1 this)]; exact hv
    · simp only [if_neg h1, h1, false_and, if_false]; exact h u
theorem init_get : ∀ (xs : List AV) (i t : Nat), (Env.init i xs).get t = if i ≤ t ∧ t < i + xs.length then xs.getD (t - i) .undef else .undef
  | [], i, t => by simp [Env.init, Env.get]
  | x :: xs, i, t => by
    simp only [Env.init, Env.get, init_get xs (i + 1) t, List.length_cons]
    by_cases h : i = t
    · subst h; simp
    · simp only [if_neg h]
      by_cases h1 : i + 1 ≤ t ∧ t < i + 1 + xs.length
      · rw [if_pos h1, if_pos (by omega)]
        obtain ⟨d, rfl⟩ : ∃ d, t = i + 1 + d := ⟨t - (i + 1), by omega⟩
        rw [show i + 1 + d - i = d + 1 by omega, show i + 1 + d - (i + 1) = d by omega]; simp
      · rw [if_neg h1, if_neg (by omega)]

end Go.Proofs.YtoacbgjdflcceaaGreatDoor.Ab
