/- The proof that the law FnMovesMade of the given program returns true for every input; the condition: the tables that the row lists are laid as the program's text lays them. -/
import Derived.Test.YtoacbgjdflcceaaGreatDoorCards
import Derived.Test.YtoacbgjdflcceaaGreatDoorTie
import Derived.OpenShut
import Derived.Deep.DeepHandedRow
import Derived.Lib.LaidTab
import Derived.Test.YtoacbgjdflcceaaGreatDoorQ5
set_option linter.unusedSimpArgs false
set_option linter.unusedVariables false
/- WHAT BOTH SIDES' functions of lines answer: moves, ways, pairs, jumps. -/
namespace Go.Proofs.YtoacbgjdflcceaaGreatDoor.Ab
open Go
set_option maxRecDepth 100000
set_option maxHeartbeats 4000000

theorem good_all {w : List UInt8} (h : goodLine w = true) : 1 ≤ w.length ∧ w.length ≤ 12 ∧ signs w := by
  unfold goodLine at h
  simp only [Bool.and_eq_true, decide_eq_true_eq] at h
  exact ⟨h.1.1, h.1.2, h.2⟩
theorem c_IsLine (s : List UInt8) (hs : s.length < 2 ^ 60) {h : AH} {post : AV → AH → Prop} (hp : post (.bool (goodLine s)) h) : S 106 [.str s] h post k := by
  refine S_of rfl T106 ?_; unfold fi106
  simp (maxSteps := 1000000) (disch := first | omega | rfl | (simp only [zL, two63, room] <;> omega) | fail) only [↓reduceIte, ↓zP, zW, WOp, evOp, evBin, binI, binSh, binS, evNil, keyIs, keyEq, mkv, AV.cells, AV.sc, optv, bnd, env, put, Env.get, Env.set, Env.del, Env.dels, Env.init, res1, resL, resV, fillP, splice, newRow, Nat.reduceEqDiff, Nat.reduceLT, Nat.reduceLeDiff, Nat.reduceAdd, Nat.reduceMul, Nat.reduceSub, Nat.reduceBEq, reduceCtorEq, ↓zR, zQ, Tr, StA, StT]
  refine c_isLineOf s 12 (by omega) hs ?_
  have : (decide (1 ≤ (s.length : Int) ∧ (s.length : Int) ≤ 12) && s.all isSign) = goodLine s := by
    unfold goodLine
    congr 1
    exact decide_eq_decide.2 (by omega)
  rw [this]
  simp (maxSteps := 1000000) (disch := first | omega | rfl | (simp only [zL, two63, room] <;> omega) | fail) only [↓reduceIte, ↓zP, zW, WOp, evOp, evBin, binI, binSh, binS, evNil, keyIs, keyEq, mkv, AV.cells, AV.sc, optv, bnd, env, put, Env.get, Env.set, Env.del, Env.dels, Env.init, res1, resL, resV, fillP, splice, newRow, Nat.reduceEqDiff, Nat.reduceLT, Nat.reduceLeDiff, Nat.reduceAdd, Nat.reduceMul, Nat.reduceSub, Nat.reduceBEq, reduceCtorEq, ↓zR, zQ, Tr, StA, StT]
  exact hp
theorem e_IsLine (s : List UInt8) (hs : s.length < 2 ^ 60) {h : AH} {post : AV → AH → Prop} : S 106 [.str s] h post k = post (.bool (goodLine s)) h := S_eq fun _ => c_IsLine s hs
theorem e_liGoodG (s : List UInt8) (hs : s.length < 2 ^ 60) {h : AH} {post : AV → AH → Prop} : S 104 [.str s] h post k = post (.bool (goodLine s)) h := S_eq fun _ hp => c_liGood s hs hp
theorem e_sIsLine (s : List UInt8) (hs : s.length < 2 ^ 60) {h : AH} {post : AV → AH → Prop} : S 387 [.str s] h post k = post (.bool (goodLine s)) h := S_eq fun _ hp => by
  refine S_of rfl T387 ?_; unfold fi387
  simp (maxSteps := 1000000) (disch := first | omega | rfl | (simp only [zL, two63, room] <;> omega) | fail) only [↓reduceIte, ↓zP, zW, WOp, evOp, evBin, binI, binSh, binS, evNil, keyIs, keyEq, mkv, AV.cells, AV.sc, optv, bnd, env, put, Env.get, Env.set, Env.del, Env.dels, Env.init, res1, resL, resV, fillP, splice, newRow, Nat.reduceEqDiff, Nat.reduceLT, Nat.reduceLeDiff, Nat.reduceAdd, Nat.reduceMul, Nat.reduceSub, Nat.reduceBEq, reduceCtorEq, ↓zR, zQ, Tr, StA, StT, e_liGoodG s hs]
  exact hp

/-! ### Moves -/
def mvG (kd w : List UInt8) : List (Int × Int) := if goodLine w then movesB w kd else []
theorem c_movesIn (w kd : List UInt8) (hw : w.length < 2 ^ 60) {h : AH} {post : AV → AH → Prop} (hp : ∀ v h', OwL 2 encM h h' v (mvG kd w) → Pre h h' → post (.tup [v, .bool (goodLine w)]) h') : S 59 [.str w, .str kd] h post k := by
  refine S_of rfl T59 ?_; unfold fi59
  unfold mvG at hp
  cases hg : goodLine w <;> rw [hg] at hp
  · simp (maxSteps := 1000000) (disch := first | omega | rfl | (simp only [zL, two63, room] <;> omega) | fail) only [↓reduceIte, ↓zP, zW, WOp, evOp, evBin, binI, binSh, binS, evNil, keyIs, keyEq, mkv, AV.cells, AV.sc, optv, bnd, env, put, Env.get, Env.set, Env.del, Env.dels, Env.init, res1, resL, resV, fillP, splice, newRow, Nat.reduceEqDiff, Nat.reduceLT, Nat.reduceLeDiff, Nat.reduceAdd, Nat.reduceMul, Nat.reduceSub, Nat.reduceBEq, reduceCtorEq, ↓zR, zQ, Tr, StA, StT, e_IsLine w hw, hg]
    exact hp .nilS h OwL.nil (Pre.refl h)
  · have hl := good_all hg
    simp (maxSteps := 1000000) (disch := first | omega | rfl | (simp only [zL, two63, room] <;> omega) | fail) only [↓reduceIte, ↓zP, zW, WOp, evOp, evBin, binI, binSh, binS, evNil, keyIs, keyEq, mkv, AV.cells, AV.sc, optv, bnd, env, put, Env.get, Env.set, Env.del, Env.dels, Env.init, res1, resL, resV, fillP, splice, newRow, Nat.reduceEqDiff, Nat.reduceLT, Nat.reduceLeDiff, Nat.reduceAdd, Nat.reduceMul, Nat.reduceSub, Nat.reduceBEq, reduceCtorEq, ↓zR, zQ, Tr, StA, StT, e_IsLine w hw, hg]
    refine c_moves w kd (by omega) ?_
    intro v h' ho hp'
    simp (maxSteps := 1000000) (disch := first | omega | rfl | (simp only [zL, two63, room] <;> omega) | fail) only [↓reduceIte, ↓zP, zW, WOp, evOp, evBin, binI, binSh, binS, evNil, keyIs, keyEq, mkv, AV.cells, AV.sc, optv, bnd, env, put, Env.get, Env.set, Env.del, Env.dels, Env.init, res1, resL, resV, fillP, splice, newRow, Nat.reduceEqDiff, Nat.reduceLT, Nat.reduceLeDiff, Nat.reduceAdd, Nat.reduceMul, Nat.reduceSub, Nat.reduceBEq, reduceCtorEq, ↓zR, zQ, Tr, StA, StT]
    exact hp v h' ho hp'
theorem c_MovesOf (w : List UInt8) (hw : w.length < 2 ^ 60) {h : AH} {post : AV → AH → Prop} (hp : ∀ v h', OwL 2 encM h h' v (mvG [84, 70] w) → Pre h h' → post (.tup [v, .bool (goodLine w)]) h') : S 19 [.str w] h post k := by
  refine S_of rfl T19 ?_; unfold fi19
  simp (maxSteps := 1000000) (disch := first | omega | rfl | (simp only [zL, two63, room] <;> omega) | fail) only [↓reduceIte, ↓zP, zW, WOp, evOp, evBin, binI, binSh, binS, evNil, keyIs, keyEq, mkv, AV.cells, AV.sc, optv, bnd, env, put, Env.get, Env.set, Env.del, Env.dels, Env.init, res1, resL, resV, fillP, splice, newRow, Nat.reduceEqDiff, Nat.reduceLT, Nat.reduceLeDiff, Nat.reduceAdd, Nat.reduceMul, Nat.reduceSub, Nat.reduceBEq, reduceCtorEq, ↓zR, zQ, Tr, StA, StT]
  refine c_movesIn w [84, 70] hw ?_
  intro v h' ho hp'
  simp (maxSteps := 1000000) (disch := first | omega | rfl | (simp only [zL, two63, room] <;> omega) | fail) only [↓reduceIte, ↓zP, zW, WOp, evOp, evBin, binI, binSh, binS, evNil, keyIs, keyEq, mkv, AV.cells, AV.sc, optv, bnd, env, put, Env.get, Env.set, Env.del, Env.dels, Env.init, res1, resL, resV, fillP, splice, newRow, Nat.reduceEqDiff, Nat.reduceLT, Nat.reduceLeDiff, Nat.reduceAdd, Nat.reduceMul, Nat.reduceSub, Nat.reduceBEq, reduceCtorEq, ↓zR, zQ, Tr, StA, StT]
  exact hp v h' ho hp'
theorem c_sMovesOf (w : List UInt8) (hw : w.length < 2 ^ 60) {h : AH} {post : AV → AH → Prop} (hp : ∀ v h', OwL 2 encM h h' v (mvG [84, 70] w) → Pre h h' → post (.tup [v, .bool (goodLine w)]) h') : S 374 [.str w] h post k := by
  refine S_of rfl T374 ?_; unfold fi374
  unfold mvG at hp
  cases hg : goodLine w <;> rw [hg] at hp
  · simp (maxSteps := 1000000) (disch := first | omega | rfl | (simp only [zL, two63, room] <;> omega) | fail) only [↓reduceIte, ↓zP, zW, WOp, evOp, evBin, binI, binSh, binS, evNil, keyIs, keyEq, mkv, AV.cells, AV.sc, optv, bnd, env, put, Env.get, Env.set, Env.del, Env.dels, Env.init, res1, resL, resV, fillP, splice, newRow, Nat.reduceEqDiff, Nat.reduceLT, Nat.reduceLeDiff, Nat.reduceAdd, Nat.reduceMul, Nat.reduceSub, Nat.reduceBEq, reduceCtorEq, ↓zR, zQ, Tr, StA, StT, e_liGoodG w hw, hg]
    exact hp .nilS h OwL.nil (Pre.refl h)
  · have hl := good_all hg
    simp (maxSteps := 1000000) (disch := first | omega | rfl | (simp only [zL, two63, room] <;> omega) | fail) only [↓reduceIte, ↓zP, zW, WOp, evOp, evBin, binI, binSh, binS, evNil, keyIs, keyEq, mkv, AV.cells, AV.sc, optv, bnd, env, put, Env.get, Env.set, Env.del, Env.dels, Env.init, res1, resL, resV, fillP, splice, newRow, Nat.reduceEqDiff, Nat.reduceLT, Nat.reduceLeDiff, Nat.reduceAdd, Nat.reduceMul, Nat.reduceSub, Nat.reduceBEq, reduceCtorEq, ↓zR, zQ, Tr, StA, StT, e_liGoodG w hw, hg]
    refine c_liMoves w hl.2.2 (by omega) true true ?_
    intro v h' ho hp'
    rw [liMovesB_eq] at ho
    simp (maxSteps := 1000000) (disch := first | omega | rfl | (simp only [zL, two63, room] <;> omega) | fail) only [↓reduceIte, ↓zP, zW, WOp, evOp, evBin, binI, binSh, binS, evNil, keyIs, keyEq, mkv, AV.cells, AV.sc, optv, bnd, env, put, Env.get, Env.set, Env.del, Env.dels, Env.init, res1, resL, resV, fillP, splice, newRow, Nat.reduceEqDiff, Nat.reduceLT, Nat.reduceLeDiff, Nat.reduceAdd, Nat.reduceMul, Nat.reduceSub, Nat.reduceBEq, reduceCtorEq, ↓zR, zQ, Tr, StA, StT]
    exact hp v h' ho hp'
theorem c_ToadMoves (w : List UInt8) (hw : w.length < 2 ^ 60) {h : AH} {post : AV → AH → Prop} (hp : ∀ v h', OwL 2 encM h h' v (mvG [84] w) → Pre h h' → post (.tup [v, .bool (goodLine w)]) h') : S 375 [.str w] h post k := by
  refine S_of rfl T375 ?_; unfold fi375
  simp (maxSteps := 1000000) (disch := first | omega | rfl | (simp only [zL, two63, room] <;> omega) | fail) only [↓reduceIte, ↓zP, zW, WOp, evOp, evBin, binI, binSh, binS, evNil, keyIs, keyEq, mkv, AV.cells, AV.sc, optv, bnd, env, put, Env.get, Env.set, Env.del, Env.dels, Env.init, res1, resL, resV, fillP, splice, newRow, Nat.reduceEqDiff, Nat.reduceLT, Nat.reduceLeDiff, Nat.reduceAdd, Nat.reduceMul, Nat.reduceSub, Nat.reduceBEq, reduceCtorEq, ↓zR, zQ, Tr, StA, StT]
  refine c_movesIn w [84] hw ?_
  intro v h' ho hp'
  simp (maxSteps := 1000000) (disch := first | omega | rfl | (simp only [zL, two63, room] <;> omega) | fail) only [↓reduceIte, ↓zP, zW, WOp, evOp, evBin, binI, binSh, binS, evNil, keyIs, keyEq, mkv, AV.cells, AV.sc, optv, bnd, env, put, Env.get, Env.set, Env.del, Env.dels, Env.init, res1, resL, resV, fillP, splice, newRow, Nat.reduceEqDiff, Nat.reduceLT, Nat.reduceLeDiff, Nat.reduceAdd, Nat.reduceMul, Nat.reduceSub, Nat.reduceBEq, reduceCtorEq, ↓zR, zQ, Tr, StA, StT]
  exact hp v h' ho hp'
theorem c_sToadMoves (w : List UInt8) (hw : w.length < 2 ^ 60) {h : AH} {post : AV → AH → Prop} (hp : ∀ v h', OwL 2 encM h h' v (mvG [84] w) → Pre h h' → post (.tup [v, .bool (goodLine w)]) h') : S 376 [.str w] h post k := by
  refine S_of rfl T376 ?_; unfold fi376
  unfold mvG at hp
  cases hg : goodLine w <;> rw [hg] at hp
  · simp (maxSteps := 1000000) (disch := first | omega | rfl | (simp only [zL, two63, room] <;> omega) | fail) only [↓reduceIte, ↓zP, zW, WOp, evOp, evBin, binI, binSh, binS, evNil, keyIs, keyEq, mkv, AV.cells, AV.sc, optv, bnd, env, put, Env.get, Env.set, Env.del, Env.dels, Env.init, res1, resL, resV, fillP, splice, newRow, Nat.reduceEqDiff, Nat.reduceLT, Nat.reduceLeDiff, Nat.reduceAdd, Nat.reduceMul, Nat.reduceSub, Nat.reduceBEq, reduceCtorEq, ↓zR, zQ, Tr, StA, StT, e_liGoodG w hw, hg]
    exact hp .nilS h OwL.nil (Pre.refl h)
  · have hl := good_all hg
    simp (maxSteps := 1000000) (disch := first | omega | rfl | (simp only [zL, two63, room] <;> omega) | fail) only [↓reduceIte, ↓zP, zW, WOp, evOp, evBin, binI, binSh, binS, evNil, keyIs, keyEq, mkv, AV.cells, AV.sc, optv, bnd, env, put, Env.get, Env.set, Env.del, Env.dels, Env.init, res1, resL, resV, fillP, splice, newRow, Nat.reduceEqDiff, Nat.reduceLT, Nat.reduceLeDiff, Nat.reduceAdd, Nat.reduceMul, Nat.reduceSub, Nat.reduceBEq, reduceCtorEq, ↓zR, zQ, Tr, StA, StT, e_liGoodG w hw, hg]
    refine c_liMoves w hl.2.2 (by omega) true false ?_
    intro v h' ho hp'
    rw [liMovesB_eq] at ho
    simp (maxSteps := 1000000) (disch := first | omega | rfl | (simp only [zL, two63, room] <;> omega) | fail) only [↓reduceIte, ↓zP, zW, WOp, evOp, evBin, binI, binSh, binS, evNil, keyIs, keyEq, mkv, AV.cells, AV.sc, optv, bnd, env, put, Env.get, Env.set, Env.del, Env.dels, Env.init, res1, resL, resV, fillP, splice, newRow, Nat.reduceEqDiff, Nat.reduceLT, Nat.reduceLeDiff, Nat.reduceAdd, Nat.reduceMul, Nat.reduceSub, Nat.reduceBEq, reduceCtorEq, ↓zR, zQ, Tr, StA, StT]
    exact hp v h' ho hp'
theorem c_FrogMoves (w : List UInt8) (hw : w.length < 2 ^ 60) {h : AH} {post : AV → AH → Prop} (hp : ∀ v h', OwL 2 encM h h' v (mvG [70] w) → Pre h h' → post (.tup [v, .bool (goodLine w)]) h') : S 377 [.str w] h post k := by
  refine S_of rfl T377 ?_; unfold fi377
  simp (maxSteps := 1000000) (disch := first | omega | rfl | (simp only [zL, two63, room] <;> omega) | fail) only [↓reduceIte, ↓zP, zW, WOp, evOp, evBin, binI, binSh, binS, evNil, keyIs, keyEq, mkv, AV.cells, AV.sc, optv, bnd, env, put, Env.get, Env.set, Env.del, Env.dels, Env.init, res1, resL, resV, fillP, splice, newRow, Nat.reduceEqDiff, Nat.reduceLT, Nat.reduceLeDiff, Nat.reduceAdd, Nat.reduceMul, Nat.reduceSub, Nat.reduceBEq, reduceCtorEq, ↓zR, zQ, Tr, StA, StT]
  refine c_movesIn w [70] hw ?_
  intro v h' ho hp'
  simp (maxSteps := 1000000) (disch := first | omega | rfl | (simp only [zL, two63, room] <;> omega) | fail) only [↓reduceIte, ↓zP, zW, WOp, evOp, evBin, binI, binSh, binS, evNil, keyIs, keyEq, mkv, AV.cells, AV.sc, optv, bnd, env, put, Env.get, Env.set, Env.del, Env.dels, Env.init, res1, resL, resV, fillP, splice, newRow, Nat.reduceEqDiff, Nat.reduceLT, Nat.reduceLeDiff, Nat.reduceAdd, Nat.reduceMul, Nat.reduceSub, Nat.reduceBEq, reduceCtorEq, ↓zR, zQ, Tr, StA, StT]
  exact hp v h' ho hp'
theorem c_sFrogMoves (w : List UInt8) (hw : w.length < 2 ^ 60) {h : AH} {post : AV → AH → Prop} (hp : ∀ v h', OwL 2 encM h h' v (mvG [70] w) → Pre h h' → post (.tup [v, .bool (goodLine w)]) h') : S 378 [.str w] h post k := by
  refine S_of rfl T378 ?_; unfold fi378
  unfold mvG at hp
  cases hg : goodLine w <;> rw [hg] at hp
  · simp (maxSteps := 1000000) (disch := first | omega | rfl | (simp only [zL, two63, room] <;> omega) | fail) only [↓reduceIte, ↓zP, zW, WOp, evOp, evBin, binI, binSh, binS, evNil, keyIs, keyEq, mkv, AV.cells, AV.sc, optv, bnd, env, put, Env.get, Env.set, Env.del, Env.dels, Env.init, res1, resL, resV, fillP, splice, newRow, Nat.reduceEqDiff, Nat.reduceLT, Nat.reduceLeDiff, Nat.reduceAdd, Nat.reduceMul, Nat.reduceSub, Nat.reduceBEq, reduceCtorEq, ↓zR, zQ, Tr, StA, StT, e_liGoodG w hw, hg]
    exact hp .nilS h OwL.nil (Pre.refl h)
  · have hl := good_all hg
    simp (maxSteps := 1000000) (disch := first | omega | rfl | (simp only [zL, two63, room] <;> omega) | fail) only [↓reduceIte, ↓zP, zW, WOp, evOp, evBin, binI, binSh, binS, evNil, keyIs, keyEq, mkv, AV.cells, AV.sc, optv, bnd, env, put, Env.get, Env.set, Env.del, Env.dels, Env.init, res1, resL, resV, fillP, splice, newRow, Nat.reduceEqDiff, Nat.reduceLT, Nat.reduceLeDiff, Nat.reduceAdd, Nat.reduceMul, Nat.reduceSub, Nat.reduceBEq, reduceCtorEq, ↓zR, zQ, Tr, StA, StT, e_liGoodG w hw, hg]
    refine c_liMoves w hl.2.2 (by omega) false true ?_
    intro v h' ho hp'
    rw [liMovesB_eq] at ho
    simp (maxSteps := 1000000) (disch := first | omega | rfl | (simp only [zL, two63, room] <;> omega) | fail) only [↓reduceIte, ↓zP, zW, WOp, evOp, evBin, binI, binSh, binS, evNil, keyIs, keyEq, mkv, AV.cells, AV.sc, optv, bnd, env, put, Env.get, Env.set, Env.del, Env.dels, Env.init, res1, resL, resV, fillP, splice, newRow, Nat.reduceEqDiff, Nat.reduceLT, Nat.reduceLeDiff, Nat.reduceAdd, Nat.reduceMul, Nat.reduceSub, Nat.reduceBEq, reduceCtorEq, ↓zR, zQ, Tr, StA, StT]
    exact hp v h' ho hp'

/-! ### The way -/
theorem lp_way (w : List UInt8) (hw : w.length < 1048576) {h : AH} {R : X → Env → AH → Prop} : ∀ (rest pre : List UInt8) (t f s : Int), w = pre ++ rest → -1048576 ≤ t → t ≤ 2097152 + pre.length → 0 ≤ f → f ≤ pre.length → -((pre.length : Int) * 16777216) ≤ s → s ≤ (pre.length : Int) * 16777216 → R (.exit 0) [(6, .int .i64 (wayL rest t f pre.length s))] h →
    Cx (.loop lp305_0) [(0, .str w), (6, .int .i64 s), (7, .int .i64 t), (8, .int .i64 f), (21, .int .i64 w.length), (22, .int .i64 pre.length)] h R k k := by
  intro rest
  induction rest with
  | nil =>
    intro pre t f s hpre h1 h2 h3 h4 h5 h6 hR
    subst hpre
    rw [w_loopb (c := lp305_0) (d := lb305_0) rfl]; unfold lb305_0
    simp only [List.append_nil]
    simp (maxSteps := 1000000) (disch := first | omega | rfl | (simp only [zL, two63, room] <;> omega) | fail) only [↓reduceIte, ↓zP, zW, WOp, evOp, evBin, binI, binSh, binS, evNil, keyIs, keyEq, mkv, AV.cells, AV.sc, optv, bnd, env, put, Env.get, Env.set, Env.del, Env.dels, Env.init, res1, resL, resV, fillP, splice, newRow, Nat.reduceEqDiff, Nat.reduceLT, Nat.reduceLeDiff, Nat.reduceAdd, Nat.reduceMul, Nat.reduceSub, Nat.reduceBEq, reduceCtorEq, ↓zR, zQ, Tr, StA, StT]
    exact hR
  | cons x rest ihr =>
    intro pre t f s hpre h1 h2 h3 h4 h5 h6 hR
    have ih := ihr (pre ++ [x])
    have hl : w.length = pre.length + 1 + rest.length := by rw [hpre]; simp; omega
    have hlt : (pre.length : Int) < (w.length : Int) := by omega
    have hx : w.getD pre.length 0 = x := by rw [hpre]; simp [List.getD]
    have hlen : ((pre ++ [x]).length : Int) = (pre.length : Int) + 1 := by simp
    have hw1 : IntKind.i64.wrap ((pre.length : Int) + 1) = (pre.length : Int) + 1 := wrap_i (by omega)
    have hw2 : IntKind.i64.wrap (t - pre.length) = t - pre.length := wrap_i (by omega)
    have hw3 : IntKind.i64.wrap (s + (t - pre.length)) = s + (t - pre.length) := wrap_i (by omega)
    have hw4 : IntKind.i64.wrap (t + 1) = t + 1 := wrap_i (by omega)
    have hw5 : IntKind.i64.wrap (pre.length - f) = pre.length - f := wrap_i (by omega)
    have hw6 : IntKind.i64.wrap (s + (pre.length - f)) = s + (pre.length - f) := wrap_i (by omega)
    have hw7 : IntKind.i64.wrap (f + 1) = f + 1 := wrap_i (by omega)
    rw [w_loopb (c := lp305_0) (d := lb305_0) rfl]; unfold lb305_0
    cases e1 : (x == 84)
    · cases e2 : (x == 70)
      · simp only [wayL, e1, e2, Bool.false_eq_true, if_false] at hR
        simp (maxSteps := 1000000) (disch := first | omega | rfl | (simp only [zL, two63, room] <;> omega) | fail) only [↓reduceIte, ↓zP, zW, WOp, evOp, evBin, binI, binSh, binS, evNil, keyIs, keyEq, mkv, AV.cells, AV.sc, optv, bnd, env, put, Env.get, Env.set, Env.del, Env.dels, Env.init, res1, resL, resV, fillP, splice, newRow, Nat.reduceEqDiff, Nat.reduceLT, Nat.reduceLeDiff, Nat.reduceAdd, Nat.reduceMul, Nat.reduceSub, Nat.reduceBEq, reduceCtorEq, ↓zR, zQ, Tr, StA, StT, hlt, hx, e1, e2, hw1]
        rw [w_loopn (c := lp305_0) rfl]
        have := ih t f s (by rw [hpre]; simp) (by omega) (by omega) (by omega) (by omega) (by omega) (by omega) (by rw [hlen]; exact hR)
        rw [hlen] at this
        simp (maxSteps := 1000000) (disch := first | omega | rfl | (simp only [zL, two63, room] <;> omega) | fail) only [↓reduceIte, ↓zP, zW, WOp, evOp, evBin, binI, binSh, binS, evNil, keyIs, keyEq, mkv, AV.cells, AV.sc, optv, bnd, env, put, Env.get, Env.set, Env.del, Env.dels, Env.init, res1, resL, resV, fillP, splice, newRow, Nat.reduceEqDiff, Nat.reduceLT, Nat.reduceLeDiff, Nat.reduceAdd, Nat.reduceMul, Nat.reduceSub, Nat.reduceBEq, reduceCtorEq, ↓zR, zQ, Tr, StA, StT]
        exact this
      · simp only [wayL, e1, e2, Bool.false_eq_true, if_false, if_true] at hR
        simp (maxSteps := 1000000) (disch := first | omega | rfl | (simp only [zL, two63, room] <;> omega) | fail) only [↓reduceIte, ↓zP, zW, WOp, evOp, evBin, binI, binSh, binS, evNil, keyIs, keyEq, mkv, AV.cells, AV.sc, optv, bnd, env, put, Env.get, Env.set, Env.del, Env.dels, Env.init, res1, resL, resV, fillP, splice, newRow, Nat.reduceEqDiff, Nat.reduceLT, Nat.reduceLeDiff, Nat.reduceAdd, Nat.reduceMul, Nat.reduceSub, Nat.reduceBEq, reduceCtorEq, ↓zR, zQ, Tr, StA, StT, hlt, hx, e1, e2, hw1, hw5, hw6, hw7]
        rw [w_loopn (c := lp305_0) rfl]
        have := ih t (f + 1) (s + (pre.length - f)) (by rw [hpre]; simp) (by omega) (by omega) (by omega) (by omega) (by omega) (by omega) (by rw [hlen]; exact hR)
        rw [hlen] at this
        simp (maxSteps := 1000000) (disch := first | omega | rfl | (simp only [zL, two63, room] <;> omega) | fail) only [↓reduceIte, ↓zP, zW, WOp, evOp, evBin, binI, binSh, binS, evNil, keyIs, keyEq, mkv, AV.cells, AV.sc, optv, bnd, env, put, Env.get, Env.set, Env.del, Env.dels, Env.init, res1, resL, resV, fillP, splice, newRow, Nat.reduceEqDiff, Nat.reduceLT, Nat.reduceLeDiff, Nat.reduceAdd, Nat.reduceMul, Nat.reduceSub, Nat.reduceBEq, reduceCtorEq, ↓zR, zQ, Tr, StA, StT]
        exact this
    · simp only [wayL, e1, if_true] at hR
      simp (maxSteps := 1000000) (disch := first | omega | rfl | (simp only [zL, two63, room] <;> omega) | fail) only [↓reduceIte, ↓zP, zW, WOp, evOp, evBin, binI, binSh, binS, evNil, keyIs, keyEq, mkv, AV.cells, AV.sc, optv, bnd, env, put, Env.get, Env.set, Env.del, Env.dels, Env.init, res1, resL, resV, fillP, splice, newRow, Nat.reduceEqDiff, Nat.reduceLT, Nat.reduceLeDiff, Nat.reduceAdd, Nat.reduceMul, Nat.reduceSub, Nat.reduceBEq, reduceCtorEq, ↓zR, zQ, Tr, StA, StT, hlt, hx, e1, hw1, hw2, hw3, hw4]
      rw [w_loopn (c := lp305_0) rfl]
      have := ih (t + 1) f (s + (t - pre.length)) (by rw [hpre]; simp) (by omega) (by omega) (by omega) (by omega) (by omega) (by omega) (by rw [hlen]; exact hR)
      rw [hlen] at this
      simp (maxSteps := 1000000) (disch := first | omega | rfl | (simp only [zL, two63, room] <;> omega) | fail) only [↓reduceIte, ↓zP, zW, WOp, evOp, evBin, binI, binSh, binS, evNil, keyIs, keyEq, mkv, AV.cells, AV.sc, optv, bnd, env, put, Env.get, Env.set, Env.del, Env.dels, Env.init, res1, resL, resV, fillP, splice, newRow, Nat.reduceEqDiff, Nat.reduceLT, Nat.reduceLeDiff, Nat.reduceAdd, Nat.reduceMul, Nat.reduceSub, Nat.reduceBEq, reduceCtorEq, ↓zR, zQ, Tr, StA, StT]
      exact this
theorem c_way (w : List UInt8) (hw : w.length < 1048576) (hg : signs w) {h : AH} {post : AV → AH → Prop} (hp : post (.int .i64 (wayN w : Nat)) h) : S 305 [.str w] h post k := by
  have hc := cnt3 hg
  have w1 : IntKind.i64.wrap ((w.length : Int) - (w.count 84 : Nat)) = (w.length : Int) - (w.count 84 : Nat) := wrap_i (by omega)
  refine S_of rfl T305 ?_; unfold fi305
  simp (maxSteps := 1000000) (disch := first | omega | rfl | (simp only [zL, two63, room] <;> omega) | fail) only [↓reduceIte, ↓zP, zW, WOp, evOp, evBin, binI, binSh, binS, evNil, keyIs, keyEq, mkv, AV.cells, AV.sc, optv, bnd, env, put, Env.get, Env.set, Env.del, Env.dels, Env.init, res1, resL, resV, fillP, splice, newRow, Nat.reduceEqDiff, Nat.reduceLT, Nat.reduceLeDiff, Nat.reduceAdd, Nat.reduceMul, Nat.reduceSub, Nat.reduceBEq, reduceCtorEq, ↓zR, zQ, Tr, StA, StT]
  refine c_count w ?_
  simp (maxSteps := 1000000) (disch := first | omega | rfl | (simp only [zL, two63, room] <;> omega) | fail) only [↓reduceIte, ↓zP, zW, WOp, evOp, evBin, binI, binSh, binS, evNil, keyIs, keyEq, mkv, AV.cells, AV.sc, optv, bnd, env, put, Env.get, Env.set, Env.del, Env.dels, Env.init, res1, resL, resV, fillP, splice, newRow, Nat.reduceEqDiff, Nat.reduceLT, Nat.reduceLeDiff, Nat.reduceAdd, Nat.reduceMul, Nat.reduceSub, Nat.reduceBEq, reduceCtorEq, ↓zR, zQ, Tr, StA, StT, w1]
  have := lp_way w hw (h := h) (R := fun x e h' => x = .exit 0 ∧ e = [(6, .int .i64 (wayN w : Nat))] ∧ h' = h) w [] ((w.length : Int) - (w.count 84 : Nat)) 0 0 rfl (by omega) (by simp; omega) (by omega) (by simp) (by simp) (by simp) ⟨rfl, by rw [← wayL_N hg]; rfl, rfl⟩
  refine Cx_mono this ?_
  rintro x e h' ⟨rfl, rfl, rfl⟩
  simp (maxSteps := 1000000) (disch := first | omega | rfl | (simp only [zL, two63, room] <;> omega) | fail) only [↓reduceIte, ↓zP, zW, WOp, evOp, evBin, binI, binSh, binS, evNil, keyIs, keyEq, mkv, AV.cells, AV.sc, optv, bnd, env, put, Env.get, Env.set, Env.del, Env.dels, Env.init, res1, resL, resV, fillP, splice, newRow, Nat.reduceEqDiff, Nat.reduceLT, Nat.reduceLeDiff, Nat.reduceAdd, Nat.reduceMul, Nat.reduceSub, Nat.reduceBEq, reduceCtorEq, ↓zR, zQ, Tr, StA, StT]
  exact hp
def wayG (w : List UInt8) : Int := if goodLine w then (wayN w : Nat) else 0
theorem e_WayToGo (w : List UInt8) (hw : w.length < 2 ^ 60) {h : AH} {post : AV → AH → Prop} : S 379 [.str w] h post k = post (.tup [.int .i64 (wayG w), .bool (goodLine w)]) h := S_eq fun _ hp => by
  unfold wayG at hp
  refine S_of rfl T379 ?_; unfold fi379
  cases hg : goodLine w <;> rw [hg] at hp
  · simp (maxSteps := 1000000) (disch := first | omega | rfl | (simp only [zL, two63, room] <;> omega) | fail) only [↓reduceIte, ↓zP, zW, WOp, evOp, evBin, binI, binSh, binS, evNil, keyIs, keyEq, mkv, AV.cells, AV.sc, optv, bnd, env, put, Env.get, Env.set, Env.del, Env.dels, Env.init, res1, resL, resV, fillP, splice, newRow, Nat.reduceEqDiff, Nat.reduceLT, Nat.reduceLeDiff, Nat.reduceAdd, Nat.reduceMul, Nat.reduceSub, Nat.reduceBEq, reduceCtorEq, ↓zR, zQ, Tr, StA, StT, e_IsLine w hw, hg]
    exact hp
  · have hl := good_all hg
    simp (maxSteps := 1000000) (disch := first | omega | rfl | (simp only [zL, two63, room] <;> omega) | fail) only [↓reduceIte, ↓zP, zW, WOp, evOp, evBin, binI, binSh, binS, evNil, keyIs, keyEq, mkv, AV.cells, AV.sc, optv, bnd, env, put, Env.get, Env.set, Env.del, Env.dels, Env.init, res1, resL, resV, fillP, splice, newRow, Nat.reduceEqDiff, Nat.reduceLT, Nat.reduceLeDiff, Nat.reduceAdd, Nat.reduceMul, Nat.reduceSub, Nat.reduceBEq, reduceCtorEq, ↓zR, zQ, Tr, StA, StT, e_IsLine w hw, hg]
    refine c_way w (by omega) hl.2.2 ?_
    simp (maxSteps := 1000000) (disch := first | omega | rfl | (simp only [zL, two63, room] <;> omega) | fail) only [↓reduceIte, ↓zP, zW, WOp, evOp, evBin, binI, binSh, binS, evNil, keyIs, keyEq, mkv, AV.cells, AV.sc, optv, bnd, env, put, Env.get, Env.set, Env.del, Env.dels, Env.init, res1, resL, resV, fillP, splice, newRow, Nat.reduceEqDiff, Nat.reduceLT, Nat.reduceLeDiff, Nat.reduceAdd, Nat.reduceMul, Nat.reduceSub, Nat.reduceBEq, reduceCtorEq, ↓zR, zQ, Tr, StA, StT]
    exact hp
theorem psB_le (b : UInt8) : ∀ (l : List UInt8) (k : Nat), psB b k l ≤ l.length * (k + l.length)
  | [], k => by simp [psB]
  | x :: l, k => by
    have := psB_le b l (k + 1)
    simp only [psB, List.length_cons]
    have h1 : (l.length + 1) * (k + (l.length + 1)) = l.length * (k + (l.length + 1)) + (k + (l.length + 1)) := Nat.succ_mul _ _
    have h2 : l.length * (k + 1 + l.length) = l.length * (k + (l.length + 1)) := by rw [show k + 1 + l.length = k + (l.length + 1) by omega]
    split <;> omega
theorem lp_liSum (w : List UInt8) (b : UInt8) (hw : w.length < 1048576) {h : AH} {R : X → Env → AH → Prop} : ∀ (rest pre : List UInt8) (s : Nat), w = pre ++ rest → s ≤ pre.length * 1048576 → R (.exit 0) [(5, .int .i64 ((s + psB b pre.length rest : Nat) : Int))] h →
    Cx (.loop lp302_0) [(0, .str w), (1, by8 b), (5, .int .i64 s), (6, .int .i64 pre.length)] h R k k
  | [], pre, s, hpre, h1, hR => by
    subst hpre
    rw [w_loopb (c := lp302_0) (d := lb302_0) rfl]; unfold lb302_0
    simp only [List.append_nil]
    simp (maxSteps := 1000000) (disch := first | omega | rfl | (simp only [zL, two63, room] <;> omega) | fail) only [↓reduceIte, ↓zP, zW, WOp, evOp, evBin, binI, binSh, binS, evNil, keyIs, keyEq, mkv, AV.cells, AV.sc, optv, bnd, env, put, Env.get, Env.set, Env.del, Env.dels, Env.init, res1, resL, resV, fillP, splice, newRow, Nat.reduceEqDiff, Nat.reduceLT, Nat.reduceLeDiff, Nat.reduceAdd, Nat.reduceMul, Nat.reduceSub, Nat.reduceBEq, reduceCtorEq, ↓zR, zQ, Tr, StA, StT]
    exact hR
  | x :: rest, pre, s, hpre, h1, hR => by
    have ih := lp_liSum w b hw (h := h) (R := R) rest (pre ++ [x])
    have hl : w.length = pre.length + 1 + rest.length := by rw [hpre]; simp; omega
    have hlt : (pre.length : Int) < (w.length : Int) := by omega
    have hx : w.getD pre.length 0 = x := by rw [hpre]; simp [List.getD]
    have hlen : ((pre ++ [x]).length : Int) = (pre.length : Int) + 1 := by simp
    have hlen' : (pre ++ [x]).length = pre.length + 1 := by simp
    have hw1 : IntKind.i64.wrap ((pre.length : Int) + 1) = (pre.length : Int) + 1 := wrap_i (by omega)
    have hw2 : IntKind.i64.wrap ((s : Int) + pre.length) = ((s + pre.length : Nat) : Int) := by rw [IntKind.wrap_i64]; omega
    have u := u8_eq x b rfl
    have hbb : (pre ++ [x]).length * 1048576 = pre.length * 1048576 + 1048576 := by simp only [hlen', Nat.succ_mul]
    have hb1 : s ≤ (pre ++ [x]).length * 1048576 := by rw [hbb]; exact Nat.le_trans h1 (Nat.le_add_right _ _)
    have hb2 : s + pre.length ≤ (pre ++ [x]).length * 1048576 := by rw [hbb]; exact Nat.add_le_add h1 (by omega)
    clear hbb
    rw [w_loopb (c := lp302_0) (d := lb302_0) rfl]; unfold lb302_0
    cases e : (x == b)
    · rw [e] at u
      have hne : x ≠ b := by simpa using e
      simp only [psB, hne, if_false, Nat.zero_add] at hR
      simp (maxSteps := 1000000) (disch := first | omega | rfl | (simp only [zL, two63, room] <;> omega) | fail) only [↓reduceIte, ↓zP, zW, WOp, evOp, evBin, binI, binSh, binS, evNil, keyIs, keyEq, mkv, AV.cells, AV.sc, optv, bnd, env, put, Env.get, Env.set, Env.del, Env.dels, Env.init, res1, resL, resV, fillP, splice, newRow, Nat.reduceEqDiff, Nat.reduceLT, Nat.reduceLeDiff, Nat.reduceAdd, Nat.reduceMul, Nat.reduceSub, Nat.reduceBEq, reduceCtorEq, ↓zR, zQ, Tr, StA, StT, hlt, hx, u, hw1]
      rw [w_loopn (c := lp302_0) rfl]
      have := ih s (by rw [hpre]; simp) hb1 (by rw [hlen']; exact hR)
      rw [hlen] at this
      simp (maxSteps := 1000000) (disch := first | omega | rfl | (simp only [zL, two63, room] <;> omega) | fail) only [↓reduceIte, ↓zP, zW, WOp, evOp, evBin, binI, binSh, binS, evNil, keyIs, keyEq, mkv, AV.cells, AV.sc, optv, bnd, env, put, Env.get, Env.set, Env.del, Env.dels, Env.init, res1, resL, resV, fillP, splice, newRow, Nat.reduceEqDiff, Nat.reduceLT, Nat.reduceLeDiff, Nat.reduceAdd, Nat.reduceMul, Nat.reduceSub, Nat.reduceBEq, reduceCtorEq, ↓zR, zQ, Tr, StA, StT]
      exact this
    · rw [e] at u
      have hne : x = b := by simpa using e
      simp only [psB, hne, if_true] at hR
      simp (maxSteps := 1000000) (disch := first | omega | rfl | (simp only [zL, two63, room] <;> omega) | fail) only [↓reduceIte, ↓zP, zW, WOp, evOp, evBin, binI, binSh, binS, evNil, keyIs, keyEq, mkv, AV.cells, AV.sc, optv, bnd, env, put, Env.get, Env.set, Env.del, Env.dels, Env.init, res1, resL, resV, fillP, splice, newRow, Nat.reduceEqDiff, Nat.reduceLT, Nat.reduceLeDiff, Nat.reduceAdd, Nat.reduceMul, Nat.reduceSub, Nat.reduceBEq, reduceCtorEq, ↓zR, zQ, Tr, StA, StT, hlt, hx, u, hw1, hw2]
      rw [w_loopn (c := lp302_0) rfl]
      have := ih (s + pre.length) (by rw [hpre]; simp) hb2 (by rw [hlen', Nat.add_assoc]; exact hR)
      rw [hlen] at this
      simp (maxSteps := 1000000) (disch := first | omega | rfl | (simp only [zL, two63, room] <;> omega) | fail) only [↓reduceIte, ↓zP, zW, WOp, evOp, evBin, binI, binSh, binS, evNil, keyIs, keyEq, mkv, AV.cells, AV.sc, optv, bnd, env, put, Env.get, Env.set, Env.del, Env.dels, Env.init, res1, resL, resV, fillP, splice, newRow, Nat.reduceEqDiff, Nat.reduceLT, Nat.reduceLeDiff, Nat.reduceAdd, Nat.reduceMul, Nat.reduceSub, Nat.reduceBEq, reduceCtorEq, ↓zR, zQ, Tr, StA, StT]
      exact this
theorem e_liSum (w : List UInt8) (b : UInt8) (hw : w.length < 1048576) {h : AH} {post : AV → AH → Prop} : S 302 [.str w, by8 b] h post k = post (.int .i64 (psB b 0 w : Nat)) h := S_eq fun _ hp => by
  refine S_of rfl T302 ?_; unfold fi302
  simp (maxSteps := 1000000) (disch := first | omega | rfl | (simp only [zL, two63, room] <;> omega) | fail) only [↓reduceIte, ↓zP, zW, WOp, evOp, evBin, binI, binSh, binS, evNil, keyIs, keyEq, mkv, AV.cells, AV.sc, optv, bnd, env, put, Env.get, Env.set, Env.del, Env.dels, Env.init, res1, resL, resV, fillP, splice, newRow, Nat.reduceEqDiff, Nat.reduceLT, Nat.reduceLeDiff, Nat.reduceAdd, Nat.reduceMul, Nat.reduceSub, Nat.reduceBEq, reduceCtorEq, ↓zR, zQ, Tr, StA, StT]
  refine lp_liSum w b hw w [] 0 rfl (by simp) ?_
  simp (maxSteps := 1000000) (disch := first | omega | rfl | (simp only [zL, two63, room] <;> omega) | fail) only [↓reduceIte, ↓zP, zW, WOp, evOp, evBin, binI, binSh, binS, evNil, keyIs, keyEq, mkv, AV.cells, AV.sc, optv, bnd, env, put, Env.get, Env.set, Env.del, Env.dels, Env.init, res1, resL, resV, fillP, splice, newRow, Nat.reduceEqDiff, Nat.reduceLT, Nat.reduceLeDiff, Nat.reduceAdd, Nat.reduceMul, Nat.reduceSub, Nat.reduceBEq, reduceCtorEq, ↓zR, zQ, Tr, StA, StT]
  simpa using hp
theorem e_liSumT (w : List UInt8) (hw : w.length < 1048576) {h : AH} {post : AV → AH → Prop} : S 302 [.str w, .int .u8 84] h post k = post (.int .i64 (psB 84 0 w : Nat)) h := e_liSum w 84 hw
theorem e_liSumF (w : List UInt8) (hw : w.length < 1048576) {h : AH} {post : AV → AH → Prop} : S 302 [.str w, .int .u8 70] h post k = post (.int .i64 (psB 70 0 w : Nat)) h := e_liSum w 70 hw
theorem e_liLastG (w : List UInt8) (hw : w.length ≤ 900) {h : AH} {post : AV → AH → Prop} : S 251 [.str w] h post k = post (.str (lastB w)) h := S_eq fun _ hp => by
  have c1 : w.count 84 ≤ w.length := List.count_le_length
  have c2 : w.count 46 ≤ w.length := List.count_le_length
  have c3 : w.count 70 ≤ w.length := List.count_le_length
  have l1 : (List.replicate (w.count 70) (70 : UInt8)).length + (List.replicate (w.count 46) (46 : UInt8)).length ≤ two63 := by simp [two63]; omega
  have l2 : (List.replicate (w.count 70) (70 : UInt8) ++ List.replicate (w.count 46) 46).length + (List.replicate (w.count 84) (84 : UInt8)).length ≤ two63 := by simp [two63]; omega
  refine S_of rfl T251 ?_; unfold fi251
  simp (maxSteps := 1000000) (disch := first | omega | rfl | (simp only [zL, two63, room] <;> omega) | fail) only [↓reduceIte, ↓zP, zW, WOp, evOp, evBin, binI, binSh, binS, evNil, keyIs, keyEq, mkv, AV.cells, AV.sc, optv, bnd, env, put, Env.get, Env.set, Env.del, Env.dels, Env.init, res1, resL, resV, fillP, splice, newRow, Nat.reduceEqDiff, Nat.reduceLT, Nat.reduceLeDiff, Nat.reduceAdd, Nat.reduceMul, Nat.reduceSub, Nat.reduceBEq, reduceCtorEq, ↓zR, zQ, Tr, StA, StT, e_liCountT w (by omega), e_liCountF w (by omega), e_liCountD w (by omega), e_liTimesG 84 (w.count 84) (by omega), e_liTimesG 46 (w.count 46) (by omega), e_liTimesG 70 (w.count 70) (by omega), l1, l2]
  exact hp
theorem c_liWay (w : List UInt8) (hw : w.length ≤ 900) (hg : signs w) {h : AH} {post : AV → AH → Prop} (hp : post (.int .i64 (wayN w : Nat)) h) : S 297 [.str w] h post k := by
  have hl := lastB_len hg
  have hq := way_ps hg
  have b1 := psB_le 84 w 0
  have b2 := psB_le 70 w 0
  have b3 := psB_le 84 (lastB w) 0
  have b4 := psB_le 70 (lastB w) 0
  rw [hl] at b3 b4
  have b5 : w.length * (0 + w.length) ≤ 900 * 900 := Nat.mul_le_mul hw (by omega)
  have g1 : IntKind.i64.wrap (((psB 84 0 (lastB w) : Nat) : Int) - (psB 84 0 w : Nat)) = ((psB 84 0 (lastB w) : Nat) : Int) - (psB 84 0 w : Nat) := wrap_i (by omega)
  have g2 : IntKind.i64.wrap (((psB 84 0 (lastB w) : Nat) : Int) - (psB 84 0 w : Nat) + (psB 70 0 w : Nat)) = ((psB 84 0 (lastB w) : Nat) : Int) - (psB 84 0 w : Nat) + (psB 70 0 w : Nat) := wrap_i (by omega)
  have g3 : IntKind.i64.wrap (((psB 84 0 (lastB w) : Nat) : Int) - (psB 84 0 w : Nat) + (psB 70 0 w : Nat) - (psB 70 0 (lastB w) : Nat)) = (wayN w : Nat) := by rw [hq]; exact wrap_i (by omega)
  refine S_of rfl T297 ?_; unfold fi297
  simp (maxSteps := 1000000) (disch := first | omega | rfl | (simp only [zL, two63, room] <;> omega) | fail) only [↓reduceIte, ↓zP, zW, WOp, evOp, evBin, binI, binSh, binS, evNil, keyIs, keyEq, mkv, AV.cells, AV.sc, optv, bnd, env, put, Env.get, Env.set, Env.del, Env.dels, Env.init, res1, resL, resV, fillP, splice, newRow, Nat.reduceEqDiff, Nat.reduceLT, Nat.reduceLeDiff, Nat.reduceAdd, Nat.reduceMul, Nat.reduceSub, Nat.reduceBEq, reduceCtorEq, ↓zR, zQ, Tr, StA, StT, e_liLastG w hw, e_liSumT (lastB w) (by omega), e_liSumT w (by omega), e_liSumF w (by omega), e_liSumF (lastB w) (by omega), g1, g2, g3]
  exact hp
theorem e_sWayToGo (w : List UInt8) (hw : w.length < 2 ^ 60) {h : AH} {post : AV → AH → Prop} : S 380 [.str w] h post k = post (.tup [.int .i64 (wayG w), .bool (goodLine w)]) h := S_eq fun _ hp => by
  unfold wayG at hp
  refine S_of rfl T380 ?_; unfold fi380
  cases hg : goodLine w <;> rw [hg] at hp
  · simp (maxSteps := 1000000) (disch := first | omega | rfl | (simp only [zL, two63, room] <;> omega) | fail) only [↓reduceIte, ↓zP, zW, WOp, evOp, evBin, binI, binSh, binS, evNil, keyIs, keyEq, mkv, AV.cells, AV.sc, optv, bnd, env, put, Env.get, Env.set, Env.del, Env.dels, Env.init, res1, resL, resV, fillP, splice, newRow, Nat.reduceEqDiff, Nat.reduceLT, Nat.reduceLeDiff, Nat.reduceAdd, Nat.reduceMul, Nat.reduceSub, Nat.reduceBEq, reduceCtorEq, ↓zR, zQ, Tr, StA, StT, e_liGoodG w hw, hg]
    exact hp
  · have hl := good_all hg
    simp (maxSteps := 1000000) (disch := first | omega | rfl | (simp only [zL, two63, room] <;> omega) | fail) only [↓reduceIte, ↓zP, zW, WOp, evOp, evBin, binI, binSh, binS, evNil, keyIs, keyEq, mkv, AV.cells, AV.sc, optv, bnd, env, put, Env.get, Env.set, Env.del, Env.dels, Env.init, res1, resL, resV, fillP, splice, newRow, Nat.reduceEqDiff, Nat.reduceLT, Nat.reduceLeDiff, Nat.reduceAdd, Nat.reduceMul, Nat.reduceSub, Nat.reduceBEq, reduceCtorEq, ↓zR, zQ, Tr, StA, StT, e_liGoodG w hw, hg]
    refine c_liWay w (by omega) hl.2.2 ?_
    simp (maxSteps := 1000000) (disch := first | omega | rfl | (simp only [zL, two63, room] <;> omega) | fail) only [↓reduceIte, ↓zP, zW, WOp, evOp, evBin, binI, binSh, binS, evNil, keyIs, keyEq, mkv, AV.cells, AV.sc, optv, bnd, env, put, Env.get, Env.set, Env.del, Env.dels, Env.init, res1, resL, resV, fillP, splice, newRow, Nat.reduceEqDiff, Nat.reduceLT, Nat.reduceLeDiff, Nat.reduceAdd, Nat.reduceMul, Nat.reduceSub, Nat.reduceBEq, reduceCtorEq, ↓zR, zQ, Tr, StA, StT]
    exact hp

/-! ### Pairs; lines without a move; the other side -/
def pairsG (w : List UInt8) : Int := if goodLine w then (pairsB w : Nat) else 0
theorem e_PairsToPass (w : List UInt8) (hw : w.length < 2 ^ 60) {h : AH} {post : AV → AH → Prop} : S 381 [.str w] h post k = post (.tup [.int .i64 (pairsG w), .bool (goodLine w)]) h := S_eq fun _ hp => by
  unfold pairsG at hp
  refine S_of rfl T381 ?_; unfold fi381
  cases hg : goodLine w <;> rw [hg] at hp
  · simp (maxSteps := 1000000) (disch := first | omega | rfl | (simp only [zL, two63, room] <;> omega) | fail) only [↓reduceIte, ↓zP, zW, WOp, evOp, evBin, binI, binSh, binS, evNil, keyIs, keyEq, mkv, AV.cells, AV.sc, optv, bnd, env, put, Env.get, Env.set, Env.del, Env.dels, Env.init, res1, resL, resV, fillP, splice, newRow, Nat.reduceEqDiff, Nat.reduceLT, Nat.reduceLeDiff, Nat.reduceAdd, Nat.reduceMul, Nat.reduceSub, Nat.reduceBEq, reduceCtorEq, ↓zR, zQ, Tr, StA, StT, e_IsLine w hw, hg]
    exact hp
  · have hl := good_all hg
    simp (maxSteps := 1000000) (disch := first | omega | rfl | (simp only [zL, two63, room] <;> omega) | fail) only [↓reduceIte, ↓zP, zW, WOp, evOp, evBin, binI, binSh, binS, evNil, keyIs, keyEq, mkv, AV.cells, AV.sc, optv, bnd, env, put, Env.get, Env.set, Env.del, Env.dels, Env.init, res1, resL, resV, fillP, splice, newRow, Nat.reduceEqDiff, Nat.reduceLT, Nat.reduceLeDiff, Nat.reduceAdd, Nat.reduceMul, Nat.reduceSub, Nat.reduceBEq, reduceCtorEq, ↓zR, zQ, Tr, StA, StT, e_IsLine w hw, hg, e_pairs w (by omega)]
    exact hp
theorem e_sPairsToPass (w : List UInt8) (hw : w.length < 2 ^ 60) {h : AH} {post : AV → AH → Prop} : S 382 [.str w] h post k = post (.tup [.int .i64 (pairsG w), .bool (goodLine w)]) h := S_eq fun _ hp => by
  unfold pairsG at hp
  refine S_of rfl T382 ?_; unfold fi382
  cases hg : goodLine w <;> rw [hg] at hp
  · simp (maxSteps := 1000000) (disch := first | omega | rfl | (simp only [zL, two63, room] <;> omega) | fail) only [↓reduceIte, ↓zP, zW, WOp, evOp, evBin, binI, binSh, binS, evNil, keyIs, keyEq, mkv, AV.cells, AV.sc, optv, bnd, env, put, Env.get, Env.set, Env.del, Env.dels, Env.init, res1, resL, resV, fillP, splice, newRow, Nat.reduceEqDiff, Nat.reduceLT, Nat.reduceLeDiff, Nat.reduceAdd, Nat.reduceMul, Nat.reduceSub, Nat.reduceBEq, reduceCtorEq, ↓zR, zQ, Tr, StA, StT, e_liGoodG w hw, hg]
    exact hp
  · have hl := good_all hg
    simp (maxSteps := 1000000) (disch := first | omega | rfl | (simp only [zL, two63, room] <;> omega) | fail) only [↓reduceIte, ↓zP, zW, WOp, evOp, evBin, binI, binSh, binS, evNil, keyIs, keyEq, mkv, AV.cells, AV.sc, optv, bnd, env, put, Env.get, Env.set, Env.del, Env.dels, Env.init, res1, resL, resV, fillP, splice, newRow, Nat.reduceEqDiff, Nat.reduceLT, Nat.reduceLeDiff, Nat.reduceAdd, Nat.reduceMul, Nat.reduceSub, Nat.reduceBEq, reduceCtorEq, ↓zR, zQ, Tr, StA, StT, e_liGoodG w hw, hg, e_liPairs w (by omega)]
    exact hp
def blkG (w : List UInt8) : Bool := goodLine w && (movesB w [84, 70]).isEmpty
theorem len_beq {α : Type} (l : List α) : (((l.length : Nat) : Int) == 0) = l.isEmpty := by
  cases l with
  | nil => rfl
  | cons a l =>
    have : ¬ (((l.length + 1 : Nat) : Int) = 0) := by omega
    simpa using this
theorem c_IsBlocked (w : List UInt8) (hw : w.length < 2 ^ 60) {h : AH} {post : AV → AH → Prop} (hp : ∀ h', Pre h h' → post (.tup [.bool (blkG w), .bool (goodLine w)]) h') : S 383 [.str w] h post k := by
  unfold blkG at hp
  refine S_of rfl T383 ?_; unfold fi383
  cases hg : goodLine w <;> rw [hg] at hp
  · simp (maxSteps := 1000000) (disch := first | omega | rfl | (simp only [zL, two63, room] <;> omega) | fail) only [↓reduceIte, ↓zP, zW, WOp, evOp, evBin, binI, binSh, binS, evNil, keyIs, keyEq, mkv, AV.cells, AV.sc, optv, bnd, env, put, Env.get, Env.set, Env.del, Env.dels, Env.init, res1, resL, resV, fillP, splice, newRow, Nat.reduceEqDiff, Nat.reduceLT, Nat.reduceLeDiff, Nat.reduceAdd, Nat.reduceMul, Nat.reduceSub, Nat.reduceBEq, reduceCtorEq, ↓zR, zQ, Tr, StA, StT, e_IsLine w hw, hg]
    exact hp h (Pre.refl h)
  · have hl := good_all hg
    have key : S 274 [.str w] h (fun v h' => v = .bool ((movesB w [84, 70]).isEmpty) ∧ Pre h h') k := by
      refine S_of rfl T274 ?_; unfold fi274
      simp (maxSteps := 1000000) (disch := first | omega | rfl | (simp only [zL, two63, room] <;> omega) | fail) only [↓reduceIte, ↓zP, zW, WOp, evOp, evBin, binI, binSh, binS, evNil, keyIs, keyEq, mkv, AV.cells, AV.sc, optv, bnd, env, put, Env.get, Env.set, Env.del, Env.dels, Env.init, res1, resL, resV, fillP, splice, newRow, Nat.reduceEqDiff, Nat.reduceLT, Nat.reduceLeDiff, Nat.reduceAdd, Nat.reduceMul, Nat.reduceSub, Nat.reduceBEq, reduceCtorEq, ↓zR, zQ, Tr, StA, StT]
      refine c_moves w [84, 70] (by omega) ?_
      intro v h' ho hp'
      have ho' : OwL 2 encM h h' v (movesB w [84, 70]) := ho
      have hb := len_beq (movesB w [84, 70])
      rcases ho'.slc.cases with ⟨rfl, h0⟩ | ⟨rfl, h0⟩ | ⟨c, kk, off, rfl⟩
      · rw [h0] at hb ⊢
        simp (maxSteps := 1000000) (disch := first | omega | rfl | (simp only [zL, two63, room] <;> omega) | fail) only [↓reduceIte, ↓zP, zW, WOp, evOp, evBin, binI, binSh, binS, evNil, keyIs, keyEq, mkv, AV.cells, AV.sc, optv, bnd, env, put, Env.get, Env.set, Env.del, Env.dels, Env.init, res1, resL, resV, fillP, splice, newRow, Nat.reduceEqDiff, Nat.reduceLT, Nat.reduceLeDiff, Nat.reduceAdd, Nat.reduceMul, Nat.reduceSub, Nat.reduceBEq, reduceCtorEq, ↓zR, zQ, Tr, StA, StT]
        exact ⟨rfl, hp'⟩
      · rw [h0] at hb ⊢
        simp (maxSteps := 1000000) (disch := first | omega | rfl | (simp only [zL, two63, room] <;> omega) | fail) only [↓reduceIte, ↓zP, zW, WOp, evOp, evBin, binI, binSh, binS, evNil, keyIs, keyEq, mkv, AV.cells, AV.sc, optv, bnd, env, put, Env.get, Env.set, Env.del, Env.dels, Env.init, res1, resL, resV, fillP, splice, newRow, Nat.reduceEqDiff, Nat.reduceLT, Nat.reduceLeDiff, Nat.reduceAdd, Nat.reduceMul, Nat.reduceSub, Nat.reduceBEq, reduceCtorEq, ↓zR, zQ, Tr, StA, StT]
        exact ⟨rfl, hp'⟩
      · simp (maxSteps := 1000000) (disch := first | omega | rfl | (simp only [zL, two63, room] <;> omega) | fail) only [↓reduceIte, ↓zP, zW, WOp, evOp, evBin, binI, binSh, binS, evNil, keyIs, keyEq, mkv, AV.cells, AV.sc, optv, bnd, env, put, Env.get, Env.set, Env.del, Env.dels, Env.init, res1, resL, resV, fillP, splice, newRow, Nat.reduceEqDiff, Nat.reduceLT, Nat.reduceLeDiff, Nat.reduceAdd, Nat.reduceMul, Nat.reduceSub, Nat.reduceBEq, reduceCtorEq, ↓zR, zQ, Tr, StA, StT, hb]
        exact hp'
    simp (maxSteps := 1000000) (disch := first | omega | rfl | (simp only [zL, two63, room] <;> omega) | fail) only [↓reduceIte, ↓zP, zW, WOp, evOp, evBin, binI, binSh, binS, evNil, keyIs, keyEq, mkv, AV.cells, AV.sc, optv, bnd, env, put, Env.get, Env.set, Env.del, Env.dels, Env.init, res1, resL, resV, fillP, splice, newRow, Nat.reduceEqDiff, Nat.reduceLT, Nat.reduceLeDiff, Nat.reduceAdd, Nat.reduceMul, Nat.reduceSub, Nat.reduceBEq, reduceCtorEq, ↓zR, zQ, Tr, StA, StT, e_IsLine w hw, hg]
    refine S_mono key ?_
    rintro v h' ⟨rfl, hp'⟩
    simp (maxSteps := 1000000) (disch := first | omega | rfl | (simp only [zL, two63, room] <;> omega) | fail) only [↓reduceIte, ↓zP, zW, WOp, evOp, evBin, binI, binSh, binS, evNil, keyIs, keyEq, mkv, AV.cells, AV.sc, optv, bnd, env, put, Env.get, Env.set, Env.del, Env.dels, Env.init, res1, resL, resV, fillP, splice, newRow, Nat.reduceEqDiff, Nat.reduceLT, Nat.reduceLeDiff, Nat.reduceAdd, Nat.reduceMul, Nat.reduceSub, Nat.reduceBEq, reduceCtorEq, ↓zR, zQ, Tr, StA, StT]
    exact hp h' hp'
theorem c_sIsBlocked (w : List UInt8) (hw : w.length < 2 ^ 60) {h : AH} {post : AV → AH → Prop} (hp : ∀ h', Pre h h' → post (.tup [.bool (blkG w), .bool (goodLine w)]) h') : S 384 [.str w] h post k := by
  unfold blkG at hp
  refine S_of rfl T384 ?_; unfold fi384
  cases hg : goodLine w <;> rw [hg] at hp
  · simp (maxSteps := 1000000) (disch := first | omega | rfl | (simp only [zL, two63, room] <;> omega) | fail) only [↓reduceIte, ↓zP, zW, WOp, evOp, evBin, binI, binSh, binS, evNil, keyIs, keyEq, mkv, AV.cells, AV.sc, optv, bnd, env, put, Env.get, Env.set, Env.del, Env.dels, Env.init, res1, resL, resV, fillP, splice, newRow, Nat.reduceEqDiff, Nat.reduceLT, Nat.reduceLeDiff, Nat.reduceAdd, Nat.reduceMul, Nat.reduceSub, Nat.reduceBEq, reduceCtorEq, ↓zR, zQ, Tr, StA, StT, e_liGoodG w hw, hg]
    exact hp h (Pre.refl h)
  · have hl := good_all hg
    simp (maxSteps := 1000000) (disch := first | omega | rfl | (simp only [zL, two63, room] <;> omega) | fail) only [↓reduceIte, ↓zP, zW, WOp, evOp, evBin, binI, binSh, binS, evNil, keyIs, keyEq, mkv, AV.cells, AV.sc, optv, bnd, env, put, Env.get, Env.set, Env.del, Env.dels, Env.init, res1, resL, resV, fillP, splice, newRow, Nat.reduceEqDiff, Nat.reduceLT, Nat.reduceLeDiff, Nat.reduceAdd, Nat.reduceMul, Nat.reduceSub, Nat.reduceBEq, reduceCtorEq, ↓zR, zQ, Tr, StA, StT, e_liGoodG w hw, hg]
    refine c_liMoves w hl.2.2 (by omega) true true ?_
    intro v h' ho hp'
    rw [liMovesB_eq] at ho
    have ho' : OwL 2 encM h h' v (movesB w [84, 70]) := ho
    have hb := len_beq (movesB w [84, 70])
    rcases ho'.slc.cases with ⟨rfl, h0⟩ | ⟨rfl, h0⟩ | ⟨c, kk, off, rfl⟩
    · rw [h0] at hp
      simp (maxSteps := 1000000) (disch := first | omega | rfl | (simp only [zL, two63, room] <;> omega) | fail) only [↓reduceIte, ↓zP, zW, WOp, evOp, evBin, binI, binSh, binS, evNil, keyIs, keyEq, mkv, AV.cells, AV.sc, optv, bnd, env, put, Env.get, Env.set, Env.del, Env.dels, Env.init, res1, resL, resV, fillP, splice, newRow, Nat.reduceEqDiff, Nat.reduceLT, Nat.reduceLeDiff, Nat.reduceAdd, Nat.reduceMul, Nat.reduceSub, Nat.reduceBEq, reduceCtorEq, ↓zR, zQ, Tr, StA, StT]
      exact hp h' hp'
    · rw [h0] at hp
      simp (maxSteps := 1000000) (disch := first | omega | rfl | (simp only [zL, two63, room] <;> omega) | fail) only [↓reduceIte, ↓zP, zW, WOp, evOp, evBin, binI, binSh, binS, evNil, keyIs, keyEq, mkv, AV.cells, AV.sc, optv, bnd, env, put, Env.get, Env.set, Env.del, Env.dels, Env.init, res1, resL, resV, fillP, splice, newRow, Nat.reduceEqDiff, Nat.reduceLT, Nat.reduceLeDiff, Nat.reduceAdd, Nat.reduceMul, Nat.reduceSub, Nat.reduceBEq, reduceCtorEq, ↓zR, zQ, Tr, StA, StT]
      exact hp h' hp'
    · simp (maxSteps := 1000000) (disch := first | omega | rfl | (simp only [zL, two63, room] <;> omega) | fail) only [↓reduceIte, ↓zP, zW, WOp, evOp, evBin, binI, binSh, binS, evNil, keyIs, keyEq, mkv, AV.cells, AV.sc, optv, bnd, env, put, Env.get, Env.set, Env.del, Env.dels, Env.init, res1, resL, resV, fillP, splice, newRow, Nat.reduceEqDiff, Nat.reduceLT, Nat.reduceLeDiff, Nat.reduceAdd, Nat.reduceMul, Nat.reduceSub, Nat.reduceBEq, reduceCtorEq, ↓zR, zQ, Tr, StA, StT, hb]
      exact hp h' hp'
def othG (w : List UInt8) : List UInt8 := if goodLine w then otherL w else []
theorem c_OtherLine (w : List UInt8) (hw : w.length < 2 ^ 60) {h : AH} {post : AV → AH → Prop} (hp : ∀ h', Pre h h' → post (.tup [.str (othG w), .bool (goodLine w)]) h') : S 385 [.str w] h post k := by
  unfold othG at hp
  refine S_of rfl T385 ?_; unfold fi385
  cases hg : goodLine w <;> rw [hg] at hp
  · simp (maxSteps := 1000000) (disch := first | omega | rfl | (simp only [zL, two63, room] <;> omega) | fail) only [↓reduceIte, ↓zP, zW, WOp, evOp, evBin, binI, binSh, binS, evNil, keyIs, keyEq, mkv, AV.cells, AV.sc, optv, bnd, env, put, Env.get, Env.set, Env.del, Env.dels, Env.init, res1, resL, resV, fillP, splice, newRow, Nat.reduceEqDiff, Nat.reduceLT, Nat.reduceLeDiff, Nat.reduceAdd, Nat.reduceMul, Nat.reduceSub, Nat.reduceBEq, reduceCtorEq, ↓zR, zQ, Tr, StA, StT, e_IsLine w hw, hg]
    exact hp h (Pre.refl h)
  · have hl := good_all hg
    simp (maxSteps := 1000000) (disch := first | omega | rfl | (simp only [zL, two63, room] <;> omega) | fail) only [↓reduceIte, ↓zP, zW, WOp, evOp, evBin, binI, binSh, binS, evNil, keyIs, keyEq, mkv, AV.cells, AV.sc, optv, bnd, env, put, Env.get, Env.set, Env.del, Env.dels, Env.init, res1, resL, resV, fillP, splice, newRow, Nat.reduceEqDiff, Nat.reduceLT, Nat.reduceLeDiff, Nat.reduceAdd, Nat.reduceMul, Nat.reduceSub, Nat.reduceBEq, reduceCtorEq, ↓zR, zQ, Tr, StA, StT, e_IsLine w hw, hg]
    refine c_turned w (by omega) ?_
    intro h' hp'
    simp (maxSteps := 1000000) (disch := first | omega | rfl | (simp only [zL, two63, room] <;> omega) | fail) only [↓reduceIte, ↓zP, zW, WOp, evOp, evBin, binI, binSh, binS, evNil, keyIs, keyEq, mkv, AV.cells, AV.sc, optv, bnd, env, put, Env.get, Env.set, Env.del, Env.dels, Env.init, res1, resL, resV, fillP, splice, newRow, Nat.reduceEqDiff, Nat.reduceLT, Nat.reduceLeDiff, Nat.reduceAdd, Nat.reduceMul, Nat.reduceSub, Nat.reduceBEq, reduceCtorEq, ↓zR, zQ, Tr, StA, StT]
    exact hp h' hp'
theorem e_sOtherLine (w : List UInt8) (hw : w.length < 2 ^ 60) {h : AH} {post : AV → AH → Prop} : S 386 [.str w] h post k = post (.tup [.str (othG w), .bool (goodLine w)]) h := S_eq fun _ hp => by
  unfold othG at hp
  refine S_of rfl T386 ?_; unfold fi386
  cases hg : goodLine w <;> rw [hg] at hp
  · simp (maxSteps := 1000000) (disch := first | omega | rfl | (simp only [zL, two63, room] <;> omega) | fail) only [↓reduceIte, ↓zP, zW, WOp, evOp, evBin, binI, binSh, binS, evNil, keyIs, keyEq, mkv, AV.cells, AV.sc, optv, bnd, env, put, Env.get, Env.set, Env.del, Env.dels, Env.init, res1, resL, resV, fillP, splice, newRow, Nat.reduceEqDiff, Nat.reduceLT, Nat.reduceLeDiff, Nat.reduceAdd, Nat.reduceMul, Nat.reduceSub, Nat.reduceBEq, reduceCtorEq, ↓zR, zQ, Tr, StA, StT, e_liGoodG w hw, hg]
    exact hp
  · have hl := good_all hg
    simp (maxSteps := 1000000) (disch := first | omega | rfl | (simp only [zL, two63, room] <;> omega) | fail) only [↓reduceIte, ↓zP, zW, WOp, evOp, evBin, binI, binSh, binS, evNil, keyIs, keyEq, mkv, AV.cells, AV.sc, optv, bnd, env, put, Env.get, Env.set, Env.del, Env.dels, Env.init, res1, resL, resV, fillP, splice, newRow, Nat.reduceEqDiff, Nat.reduceLT, Nat.reduceLeDiff, Nat.reduceAdd, Nat.reduceMul, Nat.reduceSub, Nat.reduceBEq, reduceCtorEq, ↓zR, zQ, Tr, StA, StT, e_liGoodG w hw, hg]
    refine c_liOther w (by omega) hl.2.2 ?_
    simp (maxSteps := 1000000) (disch := first | omega | rfl | (simp only [zL, two63, room] <;> omega) | fail) only [↓reduceIte, ↓zP, zW, WOp, evOp, evBin, binI, binSh, binS, evNil, keyIs, keyEq, mkv, AV.cells, AV.sc, optv, bnd, env, put, Env.get, Env.set, Env.del, Env.dels, Env.init, res1, resL, resV, fillP, splice, newRow, Nat.reduceEqDiff, Nat.reduceLT, Nat.reduceLeDiff, Nat.reduceAdd, Nat.reduceMul, Nat.reduceSub, Nat.reduceBEq, reduceCtorEq, ↓zR, zQ, Tr, StA, StT]
    exact hp
end Go.Proofs.YtoacbgjdflcceaaGreatDoor.Ab

/- MOVES that can be made, jumps, lists of moves that are compared; moves that are drawn. -/
namespace Go.Proofs.YtoacbgjdflcceaaGreatDoor.Ab
open Go
set_option maxRecDepth 100000
set_option maxHeartbeats 4000000

theorem seqM (a b c d : Int) : seqL [0, 0] [.int .i64 a, .int .i64 b] [.int .i64 c, .int .i64 d] = some (((a, b) : Int × Int) == (c, d)) := by
  simp only [seqL, keyIs, keyEq, Bool.and_true, if_true]
  rfl
theorem canB_mv {w : List UInt8} {i t : Int} (h : canB w (i, t) = true) : ∃ i' t' : Nat, i = i' ∧ t = t' ∧ Mv w i' t' := by
  unfold canB at h
  obtain ⟨h1, h2, h3⟩ := of_decide_eq_true h
  exact ⟨i.toNat, t.toNat, by simp only at h1; omega, by simp only at h2; omega, h3⟩
theorem c_can (w : List UInt8) (i t : Int) (hw : w.length < 2 ^ 30) {h : AH} {post : AV → AH → Prop} (hp : ∀ h', Pre h h' → post (.bool (canB w (i, t))) h') : S 435 [.str w, mvV i t] h post k := by
  have hq : ∀ b, canB w (i, t) = b → post (.bool b) (h ++ [AO.row [AV.int .i64 i, AV.int .i64 t] 0 0 false]) := fun b hb => by rw [← hb]; exact hp _ (Pre.push _ _)
  refine S_of rfl T435 ?_; unfold fi435
  by_cases hi : 0 ≤ i ∧ i < w.length
  case neg =>
    have h1 : (0 ≤ i ∧ i ≤ (w.length : Int) - 1) = False := eq_false (by omega)
    simp (maxSteps := 1000000) (disch := first | omega | rfl | (simp only [zL, two63, room] <;> omega) | fail) only [↓reduceIte, ↓zP, zW, WOp, evOp, evBin, binI, binSh, binS, evNil, keyIs, keyEq, mkv, AV.cells, AV.sc, optv, bnd, env, put, Env.get, Env.set, Env.del, Env.dels, Env.init, res1, resL, resV, fillP, splice, newRow, Nat.reduceEqDiff, Nat.reduceLT, Nat.reduceLeDiff, Nat.reduceAdd, Nat.reduceMul, Nat.reduceSub, Nat.reduceBEq, reduceCtorEq, ↓zR, zQ, Tr, StA, StT, e_within, h1]
    exact hq _ (decide_eq_false (by rintro ⟨x1, x2, x3, _⟩; simp only at x1 x2 x3; omega))
  have h1 : (0 ≤ i ∧ i ≤ (w.length : Int) - 1) = True := eq_true (by omega)
  obtain ⟨i, rfl⟩ := Int.eq_ofNat_of_zero_le hi.1
  have hi' : i < w.length := by omega
  have hc := canB_goal (w := w) (t := t) hi'
  simp (maxSteps := 1000000) (disch := first | omega | rfl | (simp only [zL, two63, room] <;> omega) | fail) only [↓reduceIte, ↓zP, zW, WOp, evOp, evBin, binI, binSh, binS, evNil, keyIs, keyEq, mkv, AV.cells, AV.sc, optv, bnd, env, put, Env.get, Env.set, Env.del, Env.dels, Env.init, res1, resL, resV, fillP, splice, newRow, Nat.reduceEqDiff, Nat.reduceLT, Nat.reduceLeDiff, Nat.reduceAdd, Nat.reduceMul, Nat.reduceSub, Nat.reduceBEq, reduceCtorEq, ↓zR, zQ, Tr, StA, StT, e_within, h1]
  refine c_goal w i hi' (by omega) ?_
  unfold goalV
  cases hg : goalB w i with
  | none =>
    rw [hg] at hc
    simp (maxSteps := 1000000) (disch := first | omega | rfl | (simp only [zL, two63, room] <;> omega) | fail) only [↓reduceIte, ↓zP, zW, WOp, evOp, evBin, binI, binSh, binS, evNil, keyIs, keyEq, mkv, AV.cells, AV.sc, optv, bnd, env, put, Env.get, Env.set, Env.del, Env.dels, Env.init, res1, resL, resV, fillP, splice, newRow, Nat.reduceEqDiff, Nat.reduceLT, Nat.reduceLeDiff, Nat.reduceAdd, Nat.reduceMul, Nat.reduceSub, Nat.reduceBEq, reduceCtorEq, ↓zR, zQ, Tr, StA, StT]
    exact hq _ (by rw [hc]; rfl)
  | some t' =>
    rw [hg] at hc
    simp (maxSteps := 1000000) (disch := first | omega | rfl | (simp only [zL, two63, room] <;> omega) | fail) only [↓reduceIte, ↓zP, zW, WOp, evOp, evBin, binI, binSh, binS, evNil, keyIs, keyEq, mkv, AV.cells, AV.sc, optv, bnd, env, put, Env.get, Env.set, Env.del, Env.dels, Env.init, res1, resL, resV, fillP, splice, newRow, Nat.reduceEqDiff, Nat.reduceLT, Nat.reduceLeDiff, Nat.reduceAdd, Nat.reduceMul, Nat.reduceSub, Nat.reduceBEq, reduceCtorEq, ↓zR, zQ, Tr, StA, StT]
    refine hq _ ?_
    rw [hc]
    by_cases e : t' = t
    · subst e; simp
    · simp [e]
def okG (w : List UInt8) (m : Int × Int) : Bool := goodLine w && canB w m
def mkG (w : List UInt8) (m : Int × Int) : List UInt8 := if okG w m then madeB w m.1.toNat m.2.toNat else []
def jmG (w : List UInt8) (m : Int × Int) : Bool := okG w m && isJ m.1.toNat m.2.toNat
theorem mvRow (h : AH) (i t : Int) : rdRow (h ++ [AO.row [AV.int .i64 i, AV.int .i64 t] 0 0 false]) h.length 0 0 2 = some [.int .i64 i, .int .i64 t] ∧ rdRow (h ++ [AO.row [AV.int .i64 i, AV.int .i64 t] 0 0 false]) h.length 0 0 1 = some [.int .i64 i] ∧ rdRow (h ++ [AO.row [AV.int .i64 i, AV.int .i64 t] 0 0 false]) h.length 0 1 1 = some [.int .i64 t] := by
  refine ⟨?_, ?_, ?_⟩ <;> rw [rd_last] <;> simp
theorem c_CanMove (w : List UInt8) (i t : Int) (hw : w.length < 2 ^ 60) {h : AH} {post : AV → AH → Prop} (hp : ∀ h', Pre h h' → post (.tup [.bool (okG w (i, t)), .bool (goodLine w)]) h') : S 388 [.str w, mvV i t] h post k := by
  unfold okG at hp
  refine S_of rfl T388 ?_; unfold fi388
  cases hg : goodLine w <;> rw [hg] at hp
  · simp (maxSteps := 1000000) (disch := first | omega | rfl | (simp only [zL, two63, room] <;> omega) | fail) only [↓reduceIte, ↓zP, zW, WOp, evOp, evBin, binI, binSh, binS, evNil, keyIs, keyEq, mkv, AV.cells, AV.sc, optv, bnd, env, put, Env.get, Env.set, Env.del, Env.dels, Env.init, res1, resL, resV, fillP, splice, newRow, Nat.reduceEqDiff, Nat.reduceLT, Nat.reduceLeDiff, Nat.reduceAdd, Nat.reduceMul, Nat.reduceSub, Nat.reduceBEq, reduceCtorEq, ↓zR, zQ, Tr, StA, StT, e_IsLine w hw, hg]
    exact hp _ (Pre.push _ _)
  · have hl := good_all hg
    simp (maxSteps := 1000000) (disch := first | omega | rfl | (simp only [zL, two63, room] <;> omega) | fail) only [↓reduceIte, ↓zP, zW, WOp, evOp, evBin, binI, binSh, binS, evNil, keyIs, keyEq, mkv, AV.cells, AV.sc, optv, bnd, env, put, Env.get, Env.set, Env.del, Env.dels, Env.init, res1, resL, resV, fillP, splice, newRow, Nat.reduceEqDiff, Nat.reduceLT, Nat.reduceLeDiff, Nat.reduceAdd, Nat.reduceMul, Nat.reduceSub, Nat.reduceBEq, reduceCtorEq, ↓zR, zQ, Tr, StA, StT, e_IsLine w hw, hg]
    refine c_can w i t (by omega) ?_
    intro h' hp'
    simp (maxSteps := 1000000) (disch := first | omega | rfl | (simp only [zL, two63, room] <;> omega) | fail) only [↓reduceIte, ↓zP, zW, WOp, evOp, evBin, binI, binSh, binS, evNil, keyIs, keyEq, mkv, AV.cells, AV.sc, optv, bnd, env, put, Env.get, Env.set, Env.del, Env.dels, Env.init, res1, resL, resV, fillP, splice, newRow, Nat.reduceEqDiff, Nat.reduceLT, Nat.reduceLeDiff, Nat.reduceAdd, Nat.reduceMul, Nat.reduceSub, Nat.reduceBEq, reduceCtorEq, ↓zR, zQ, Tr, StA, StT]
    exact hp h' ((Pre.push _ _).trans hp')
theorem c_sCanMove (w : List UInt8) (i t : Int) (hw : w.length < 2 ^ 60) {h : AH} {post : AV → AH → Prop} (hp : ∀ h', Pre h h' → post (.tup [.bool (okG w (i, t)), .bool (goodLine w)]) h') : S 393 [.str w, mvV i t] h post k := by
  unfold okG at hp
  refine S_of rfl T393 ?_; unfold fi393
  cases hg : goodLine w <;> rw [hg] at hp
  · simp (maxSteps := 1000000) (disch := first | omega | rfl | (simp only [zL, two63, room] <;> omega) | fail) only [↓reduceIte, ↓zP, zW, WOp, evOp, evBin, binI, binSh, binS, evNil, keyIs, keyEq, mkv, AV.cells, AV.sc, optv, bnd, env, put, Env.get, Env.set, Env.del, Env.dels, Env.init, res1, resL, resV, fillP, splice, newRow, Nat.reduceEqDiff, Nat.reduceLT, Nat.reduceLeDiff, Nat.reduceAdd, Nat.reduceMul, Nat.reduceSub, Nat.reduceBEq, reduceCtorEq, ↓zR, zQ, Tr, StA, StT, e_liGoodG w hw, hg]
    exact hp _ (Pre.push _ _)
  · have hl := good_all hg
    simp (maxSteps := 1000000) (disch := first | omega | rfl | (simp only [zL, two63, room] <;> omega) | fail) only [↓reduceIte, ↓zP, zW, WOp, evOp, evBin, binI, binSh, binS, evNil, keyIs, keyEq, mkv, AV.cells, AV.sc, optv, bnd, env, put, Env.get, Env.set, Env.del, Env.dels, Env.init, res1, resL, resV, fillP, splice, newRow, Nat.reduceEqDiff, Nat.reduceLT, Nat.reduceLeDiff, Nat.reduceAdd, Nat.reduceMul, Nat.reduceSub, Nat.reduceBEq, reduceCtorEq, ↓zR, zQ, Tr, StA, StT, e_liGoodG w hw, hg]
    refine c_liCan w i t (by omega) ?_
    intro h' hp'
    simp (maxSteps := 1000000) (disch := first | omega | rfl | (simp only [zL, two63, room] <;> omega) | fail) only [↓reduceIte, ↓zP, zW, WOp, evOp, evBin, binI, binSh, binS, evNil, keyIs, keyEq, mkv, AV.cells, AV.sc, optv, bnd, env, put, Env.get, Env.set, Env.del, Env.dels, Env.init, res1, resL, resV, fillP, splice, newRow, Nat.reduceEqDiff, Nat.reduceLT, Nat.reduceLeDiff, Nat.reduceAdd, Nat.reduceMul, Nat.reduceSub, Nat.reduceBEq, reduceCtorEq, ↓zR, zQ, Tr, StA, StT]
    exact hp h' ((Pre.push _ _).trans hp')
theorem c_MakeMove (w : List UInt8) (i t : Int) (hw : w.length < 2 ^ 60) {h : AH} {post : AV → AH → Prop} (hp : ∀ h', Pre h h' → post (.tup [.str (mkG w (i, t)), .bool (okG w (i, t))]) h') : S 389 [.str w, mvV i t] h post k := by
  unfold mkG okG at hp
  refine S_of rfl T389 ?_; unfold fi389
  cases hg : goodLine w <;> rw [hg] at hp
  · simp (maxSteps := 1000000) (disch := first | omega | rfl | (simp only [zL, two63, room] <;> omega) | fail) only [↓reduceIte, ↓zP, zW, WOp, evOp, evBin, binI, binSh, binS, evNil, keyIs, keyEq, mkv, AV.cells, AV.sc, optv, bnd, env, put, Env.get, Env.set, Env.del, Env.dels, Env.init, res1, resL, resV, fillP, splice, newRow, Nat.reduceEqDiff, Nat.reduceLT, Nat.reduceLeDiff, Nat.reduceAdd, Nat.reduceMul, Nat.reduceSub, Nat.reduceBEq, reduceCtorEq, ↓zR, zQ, Tr, StA, StT, e_IsLine w hw, hg]
    exact hp _ (Pre.push _ _)
  · have hl := good_all hg
    obtain ⟨q, -, -⟩ := mvRow h i t
    simp (maxSteps := 1000000) (disch := first | omega | rfl | (simp only [zL, two63, room] <;> omega) | fail) only [↓reduceIte, ↓zP, zW, WOp, evOp, evBin, binI, binSh, binS, evNil, keyIs, keyEq, mkv, AV.cells, AV.sc, optv, bnd, env, put, Env.get, Env.set, Env.del, Env.dels, Env.init, res1, resL, resV, fillP, splice, newRow, Nat.reduceEqDiff, Nat.reduceLT, Nat.reduceLeDiff, Nat.reduceAdd, Nat.reduceMul, Nat.reduceSub, Nat.reduceBEq, reduceCtorEq, ↓zR, zQ, Tr, StA, StT, e_IsLine w hw, hg]
    refine c_can w i t (by omega) ?_
    intro h2 hp2
    have q' := rdRow_pre hp2 q
    cases hc : canB w (i, t) <;> rw [hc] at hp
    · simp (maxSteps := 1000000) (disch := first | omega | rfl | (simp only [zL, two63, room] <;> omega) | fail) only [↓reduceIte, ↓zP, zW, WOp, evOp, evBin, binI, binSh, binS, evNil, keyIs, keyEq, mkv, AV.cells, AV.sc, optv, bnd, env, put, Env.get, Env.set, Env.del, Env.dels, Env.init, res1, resL, resV, fillP, splice, newRow, Nat.reduceEqDiff, Nat.reduceLT, Nat.reduceLeDiff, Nat.reduceAdd, Nat.reduceMul, Nat.reduceSub, Nat.reduceBEq, reduceCtorEq, ↓zR, zQ, Tr, StA, StT]
      exact hp h2 ((Pre.push _ _).trans hp2)
    · obtain ⟨i, t, rfl, rfl, hm⟩ := canB_mv hc
      simp (maxSteps := 1000000) (disch := first | omega | rfl | (simp only [zL, two63, room] <;> omega) | fail) only [↓reduceIte, ↓zP, zW, WOp, evOp, evBin, binI, binSh, binS, evNil, keyIs, keyEq, mkv, AV.cells, AV.sc, optv, bnd, env, put, Env.get, Env.set, Env.del, Env.dels, Env.init, res1, resL, resV, fillP, splice, newRow, Nat.reduceEqDiff, Nat.reduceLT, Nat.reduceLeDiff, Nat.reduceAdd, Nat.reduceMul, Nat.reduceSub, Nat.reduceBEq, reduceCtorEq, ↓zR, zQ, Tr, StA, StT, q']
      refine c_made w i t hm.1 hm.2.1 (by omega) ?_
      intro h3 hp3
      simp (maxSteps := 1000000) (disch := first | omega | rfl | (simp only [zL, two63, room] <;> omega) | fail) only [↓reduceIte, ↓zP, zW, WOp, evOp, evBin, binI, binSh, binS, evNil, keyIs, keyEq, mkv, AV.cells, AV.sc, optv, bnd, env, put, Env.get, Env.set, Env.del, Env.dels, Env.init, res1, resL, resV, fillP, splice, newRow, Nat.reduceEqDiff, Nat.reduceLT, Nat.reduceLeDiff, Nat.reduceAdd, Nat.reduceMul, Nat.reduceSub, Nat.reduceBEq, reduceCtorEq, ↓zR, zQ, Tr, StA, StT]
      exact hp h3 (((Pre.push _ _).trans hp2).trans hp3)
theorem c_sMakeMove (w : List UInt8) (i t : Int) (hw : w.length < 2 ^ 60) {h : AH} {post : AV → AH → Prop} (hp : ∀ h', Pre h h' → post (.tup [.str (mkG w (i, t)), .bool (okG w (i, t))]) h') : S 392 [.str w, mvV i t] h post k := by
  unfold mkG okG at hp
  refine S_of rfl T392 ?_; unfold fi392
  cases hg : goodLine w <;> rw [hg] at hp
  · simp (maxSteps := 1000000) (disch := first | omega | rfl | (simp only [zL, two63, room] <;> omega) | fail) only [↓reduceIte, ↓zP, zW, WOp, evOp, evBin, binI, binSh, binS, evNil, keyIs, keyEq, mkv, AV.cells, AV.sc, optv, bnd, env, put, Env.get, Env.set, Env.del, Env.dels, Env.init, res1, resL, resV, fillP, splice, newRow, Nat.reduceEqDiff, Nat.reduceLT, Nat.reduceLeDiff, Nat.reduceAdd, Nat.reduceMul, Nat.reduceSub, Nat.reduceBEq, reduceCtorEq, ↓zR, zQ, Tr, StA, StT, e_liGoodG w hw, hg]
    exact hp _ (Pre.push _ _)
  · have hl := good_all hg
    obtain ⟨q, -, -⟩ := mvRow h i t
    simp (maxSteps := 1000000) (disch := first | omega | rfl | (simp only [zL, two63, room] <;> omega) | fail) only [↓reduceIte, ↓zP, zW, WOp, evOp, evBin, binI, binSh, binS, evNil, keyIs, keyEq, mkv, AV.cells, AV.sc, optv, bnd, env, put, Env.get, Env.set, Env.del, Env.dels, Env.init, res1, resL, resV, fillP, splice, newRow, Nat.reduceEqDiff, Nat.reduceLT, Nat.reduceLeDiff, Nat.reduceAdd, Nat.reduceMul, Nat.reduceSub, Nat.reduceBEq, reduceCtorEq, ↓zR, zQ, Tr, StA, StT, e_liGoodG w hw, hg]
    refine c_liCan w i t (by omega) ?_
    intro h2 hp2
    have q' := rdRow_pre hp2 q
    cases hc : canB w (i, t) <;> rw [hc] at hp
    · simp (maxSteps := 1000000) (disch := first | omega | rfl | (simp only [zL, two63, room] <;> omega) | fail) only [↓reduceIte, ↓zP, zW, WOp, evOp, evBin, binI, binSh, binS, evNil, keyIs, keyEq, mkv, AV.cells, AV.sc, optv, bnd, env, put, Env.get, Env.set, Env.del, Env.dels, Env.init, res1, resL, resV, fillP, splice, newRow, Nat.reduceEqDiff, Nat.reduceLT, Nat.reduceLeDiff, Nat.reduceAdd, Nat.reduceMul, Nat.reduceSub, Nat.reduceBEq, reduceCtorEq, ↓zR, zQ, Tr, StA, StT]
      exact hp h2 ((Pre.push _ _).trans hp2)
    · obtain ⟨i, t, rfl, rfl, hm⟩ := canB_mv hc
      simp (maxSteps := 1000000) (disch := first | omega | rfl | (simp only [zL, two63, room] <;> omega) | fail) only [↓reduceIte, ↓zP, zW, WOp, evOp, evBin, binI, binSh, binS, evNil, keyIs, keyEq, mkv, AV.cells, AV.sc, optv, bnd, env, put, Env.get, Env.set, Env.del, Env.dels, Env.init, res1, resL, resV, fillP, splice, newRow, Nat.reduceEqDiff, Nat.reduceLT, Nat.reduceLeDiff, Nat.reduceAdd, Nat.reduceMul, Nat.reduceSub, Nat.reduceBEq, reduceCtorEq, ↓zR, zQ, Tr, StA, StT, q']
      refine c_liMake w i t hm.1 hm.2.1 hm.ne (by omega) ?_
      intro h3 hp3
      simp (maxSteps := 1000000) (disch := first | omega | rfl | (simp only [zL, two63, room] <;> omega) | fail) only [↓reduceIte, ↓zP, zW, WOp, evOp, evBin, binI, binSh, binS, evNil, keyIs, keyEq, mkv, AV.cells, AV.sc, optv, bnd, env, put, Env.get, Env.set, Env.del, Env.dels, Env.init, res1, resL, resV, fillP, splice, newRow, Nat.reduceEqDiff, Nat.reduceLT, Nat.reduceLeDiff, Nat.reduceAdd, Nat.reduceMul, Nat.reduceSub, Nat.reduceBEq, reduceCtorEq, ↓zR, zQ, Tr, StA, StT]
      exact hp h3 (((Pre.push _ _).trans hp2).trans hp3)
theorem Mv.far {w : List UInt8} {i t : Nat} (h : Mv w i t) : t = i + 1 ∨ t = i + 2 ∨ t + 1 = i ∨ t + 2 = i := by
  obtain ⟨_, _, _, h | h⟩ := h <;> omega
theorem c_isJump (i t : Nat) (hi : i < 2 ^ 30) (hf : t = i + 1 ∨ t = i + 2 ∨ t + 1 = i ∨ t + 2 = i) {h : AH} {post : AV → AH → Prop} (hp : ∀ h', Pre h h' → post (.bool (isJ i t)) h') : S 436 [mvV i t] h post k := by
  obtain ⟨-, q1, q2⟩ := mvRow h i t
  have hj : (((t : Int) - i != 1) && ((i : Int) - t != 1)) = isJ i t := by
    unfold isJ
    rcases hf with rfl | rfl | rfl | rfl
    · have e1 : ((i + 1 : Nat) : Int) - i = 1 := by omega
      rw [e1]
      have : ¬ (i + 1 = i + 2 ∨ i + 1 + 2 = i) := by omega
      rw [decide_eq_false this]; rfl
    · have e1 : ((i + 2 : Nat) : Int) - i = 2 := by omega
      have e2 : (i : Int) - ((i + 2 : Nat) : Int) = -2 := by omega
      rw [e1, e2, decide_eq_true (.inl rfl)]; rfl
    · have e1 : ((t + 1 : Nat) : Int) - t = 1 := by omega
      have e2 : (t : Int) - ((t + 1 : Nat) : Int) = -1 := by omega
      rw [e1, e2]
      have : ¬ (t = t + 1 + 2 ∨ t + 2 = t + 1) := by omega
      rw [decide_eq_false this]; rfl
    · have e1 : ((t + 2 : Nat) : Int) - t = 2 := by omega
      have e2 : (t : Int) - ((t + 2 : Nat) : Int) = -2 := by omega
      rw [e1, e2, decide_eq_true (.inr rfl)]; rfl
  have hp' := hp _ (Pre.push h (AO.row [AV.int .i64 i, AV.int .i64 t] 0 0 false))
  rw [← hj] at hp'
  have w1 : IntKind.i64.wrap ((t : Int) - i) = (t : Int) - i := wrap_i (by omega)
  have w2 : IntKind.i64.wrap ((i : Int) - t) = (i : Int) - t := wrap_i (by omega)
  refine S_of rfl T436 ?_; unfold fi436
  cases e1 : ((t : Int) - i != 1)
  · rw [e1] at hp'
    simp (maxSteps := 1000000) (disch := first | omega | rfl | (simp only [zL, two63, room] <;> omega) | fail) only [↓reduceIte, ↓zP, zW, WOp, evOp, evBin, binI, binSh, binS, evNil, keyIs, keyEq, mkv, AV.cells, AV.sc, optv, bnd, env, put, Env.get, Env.set, Env.del, Env.dels, Env.init, res1, resL, resV, fillP, splice, newRow, Nat.reduceEqDiff, Nat.reduceLT, Nat.reduceLeDiff, Nat.reduceAdd, Nat.reduceMul, Nat.reduceSub, Nat.reduceBEq, reduceCtorEq, ↓zR, zQ, Tr, StA, StT, q1, q2, w1, w2, e1]
    exact hp'
  · rw [e1] at hp'
    simp (maxSteps := 1000000) (disch := first | omega | rfl | (simp only [zL, two63, room] <;> omega) | fail) only [↓reduceIte, ↓zP, zW, WOp, evOp, evBin, binI, binSh, binS, evNil, keyIs, keyEq, mkv, AV.cells, AV.sc, optv, bnd, env, put, Env.get, Env.set, Env.del, Env.dels, Env.init, res1, resL, resV, fillP, splice, newRow, Nat.reduceEqDiff, Nat.reduceLT, Nat.reduceLeDiff, Nat.reduceAdd, Nat.reduceMul, Nat.reduceSub, Nat.reduceBEq, reduceCtorEq, ↓zR, zQ, Tr, StA, StT, q1, q2, w1, w2, e1]
    exact hp'
theorem c_IsJump (w : List UInt8) (i t : Int) (hw : w.length < 2 ^ 60) {h : AH} {post : AV → AH → Prop} (hp : ∀ h', Pre h h' → post (.tup [.bool (jmG w (i, t)), .bool (okG w (i, t))]) h') : S 390 [.str w, mvV i t] h post k := by
  unfold jmG okG at hp
  refine S_of rfl T390 ?_; unfold fi390
  cases hg : goodLine w <;> rw [hg] at hp
  · simp (maxSteps := 1000000) (disch := first | omega | rfl | (simp only [zL, two63, room] <;> omega) | fail) only [↓reduceIte, ↓zP, zW, WOp, evOp, evBin, binI, binSh, binS, evNil, keyIs, keyEq, mkv, AV.cells, AV.sc, optv, bnd, env, put, Env.get, Env.set, Env.del, Env.dels, Env.init, res1, resL, resV, fillP, splice, newRow, Nat.reduceEqDiff, Nat.reduceLT, Nat.reduceLeDiff, Nat.reduceAdd, Nat.reduceMul, Nat.reduceSub, Nat.reduceBEq, reduceCtorEq, ↓zR, zQ, Tr, StA, StT, e_IsLine w hw, hg]
    exact hp _ (Pre.push _ _)
  · have hl := good_all hg
    obtain ⟨q, -, -⟩ := mvRow h i t
    simp (maxSteps := 1000000) (disch := first | omega | rfl | (simp only [zL, two63, room] <;> omega) | fail) only [↓reduceIte, ↓zP, zW, WOp, evOp, evBin, binI, binSh, binS, evNil, keyIs, keyEq, mkv, AV.cells, AV.sc, optv, bnd, env, put, Env.get, Env.set, Env.del, Env.dels, Env.init, res1, resL, resV, fillP, splice, newRow, Nat.reduceEqDiff, Nat.reduceLT, Nat.reduceLeDiff, Nat.reduceAdd, Nat.reduceMul, Nat.reduceSub, Nat.reduceBEq, reduceCtorEq, ↓zR, zQ, Tr, StA, StT, e_IsLine w hw, hg]
    refine c_can w i t (by omega) ?_
    intro h2 hp2
    have q' := rdRow_pre hp2 q
    cases hc : canB w (i, t) <;> rw [hc] at hp
    · simp (maxSteps := 1000000) (disch := first | omega | rfl | (simp only [zL, two63, room] <;> omega) | fail) only [↓reduceIte, ↓zP, zW, WOp, evOp, evBin, binI, binSh, binS, evNil, keyIs, keyEq, mkv, AV.cells, AV.sc, optv, bnd, env, put, Env.get, Env.set, Env.del, Env.dels, Env.init, res1, resL, resV, fillP, splice, newRow, Nat.reduceEqDiff, Nat.reduceLT, Nat.reduceLeDiff, Nat.reduceAdd, Nat.reduceMul, Nat.reduceSub, Nat.reduceBEq, reduceCtorEq, ↓zR, zQ, Tr, StA, StT]
      exact hp h2 ((Pre.push _ _).trans hp2)
    · obtain ⟨i, t, rfl, rfl, hm⟩ := canB_mv hc
      simp (maxSteps := 1000000) (disch := first | omega | rfl | (simp only [zL, two63, room] <;> omega) | fail) only [↓reduceIte, ↓zP, zW, WOp, evOp, evBin, binI, binSh, binS, evNil, keyIs, keyEq, mkv, AV.cells, AV.sc, optv, bnd, env, put, Env.get, Env.set, Env.del, Env.dels, Env.init, res1, resL, resV, fillP, splice, newRow, Nat.reduceEqDiff, Nat.reduceLT, Nat.reduceLeDiff, Nat.reduceAdd, Nat.reduceMul, Nat.reduceSub, Nat.reduceBEq, reduceCtorEq, ↓zR, zQ, Tr, StA, StT, q']
      refine c_isJump i t (by have := hm.1; omega) hm.far ?_
      intro h3 hp3
      simp (maxSteps := 1000000) (disch := first | omega | rfl | (simp only [zL, two63, room] <;> omega) | fail) only [↓reduceIte, ↓zP, zW, WOp, evOp, evBin, binI, binSh, binS, evNil, keyIs, keyEq, mkv, AV.cells, AV.sc, optv, bnd, env, put, Env.get, Env.set, Env.del, Env.dels, Env.init, res1, resL, resV, fillP, splice, newRow, Nat.reduceEqDiff, Nat.reduceLT, Nat.reduceLeDiff, Nat.reduceAdd, Nat.reduceMul, Nat.reduceSub, Nat.reduceBEq, reduceCtorEq, ↓zR, zQ, Tr, StA, StT]
      exact hp h3 (((Pre.push _ _).trans hp2).trans hp3)
theorem e_l1Abs (n : Int) (hn : -1000 ≤ n ∧ n ≤ 1000) {h : AH} {post : AV → AH → Prop} : S 438 [.int .i64 n] h post k = post (.int .i64 (n.natAbs : Nat)) h := S_eq fun _ hp => by
  have w1 : IntKind.i64.wrap (0 - n) = -n := by rw [IntKind.wrap_i64]; omega
  have most : ∀ {h : AH} {post : AV → AH → Prop}, post (.int .i64 (n.natAbs : Nat)) h → S 455 [.int .i64 n, .int .i64 (-n)] h post k := by
    intro h post hp
    refine S_of rfl T455 ?_; unfold fi455
    by_cases h0 : n > 0
    · have h1 : n > -n := by omega
      have h2 : ((n.natAbs : Nat) : Int) = n := by omega
      rw [h2] at hp
      simp (maxSteps := 1000000) (disch := first | omega | rfl | (simp only [zL, two63, room] <;> omega) | fail) only [↓reduceIte, ↓zP, zW, WOp, evOp, evBin, binI, binSh, binS, evNil, keyIs, keyEq, mkv, AV.cells, AV.sc, optv, bnd, env, put, Env.get, Env.set, Env.del, Env.dels, Env.init, res1, resL, resV, fillP, splice, newRow, Nat.reduceEqDiff, Nat.reduceLT, Nat.reduceLeDiff, Nat.reduceAdd, Nat.reduceMul, Nat.reduceSub, Nat.reduceBEq, reduceCtorEq, ↓zR, zQ, Tr, StA, StT, h1]
      exact hp
    · have h1 : ¬ (n > -n) := by omega
      have h2 : ((n.natAbs : Nat) : Int) = -n := by omega
      rw [h2] at hp
      simp (maxSteps := 1000000) (disch := first | omega | rfl | (simp only [zL, two63, room] <;> omega) | fail) only [↓reduceIte, ↓zP, zW, WOp, evOp, evBin, binI, binSh, binS, evNil, keyIs, keyEq, mkv, AV.cells, AV.sc, optv, bnd, env, put, Env.get, Env.set, Env.del, Env.dels, Env.init, res1, resL, resV, fillP, splice, newRow, Nat.reduceEqDiff, Nat.reduceLT, Nat.reduceLeDiff, Nat.reduceAdd, Nat.reduceMul, Nat.reduceSub, Nat.reduceBEq, reduceCtorEq, ↓zR, zQ, Tr, StA, StT, h1]
      exact hp
  refine S_of rfl T438 ?_; unfold fi438
  simp (maxSteps := 1000000) (disch := first | omega | rfl | (simp only [zL, two63, room] <;> omega) | fail) only [↓reduceIte, ↓zP, zW, WOp, evOp, evBin, binI, binSh, binS, evNil, keyIs, keyEq, mkv, AV.cells, AV.sc, optv, bnd, env, put, Env.get, Env.set, Env.del, Env.dels, Env.init, res1, resL, resV, fillP, splice, newRow, Nat.reduceEqDiff, Nat.reduceLT, Nat.reduceLeDiff, Nat.reduceAdd, Nat.reduceMul, Nat.reduceSub, Nat.reduceBEq, reduceCtorEq, ↓zR, zQ, Tr, StA, StT, w1]
  refine most ?_
  simp (maxSteps := 1000000) (disch := first | omega | rfl | (simp only [zL, two63, room] <;> omega) | fail) only [↓reduceIte, ↓zP, zW, WOp, evOp, evBin, binI, binSh, binS, evNil, keyIs, keyEq, mkv, AV.cells, AV.sc, optv, bnd, env, put, Env.get, Env.set, Env.del, Env.dels, Env.init, res1, resL, resV, fillP, splice, newRow, Nat.reduceEqDiff, Nat.reduceLT, Nat.reduceLeDiff, Nat.reduceAdd, Nat.reduceMul, Nat.reduceSub, Nat.reduceBEq, reduceCtorEq, ↓zR, zQ, Tr, StA, StT]
  exact hp
theorem c_sIsJump (w : List UInt8) (i t : Int) (hw : w.length < 2 ^ 60) {h : AH} {post : AV → AH → Prop} (hp : ∀ h', Pre h h' → post (.tup [.bool (jmG w (i, t)), .bool (okG w (i, t))]) h') : S 394 [.str w, mvV i t] h post k := by
  unfold jmG okG at hp
  refine S_of rfl T394 ?_; unfold fi394
  cases hg : goodLine w <;> rw [hg] at hp
  · simp (maxSteps := 1000000) (disch := first | omega | rfl | (simp only [zL, two63, room] <;> omega) | fail) only [↓reduceIte, ↓zP, zW, WOp, evOp, evBin, binI, binSh, binS, evNil, keyIs, keyEq, mkv, AV.cells, AV.sc, optv, bnd, env, put, Env.get, Env.set, Env.del, Env.dels, Env.init, res1, resL, resV, fillP, splice, newRow, Nat.reduceEqDiff, Nat.reduceLT, Nat.reduceLeDiff, Nat.reduceAdd, Nat.reduceMul, Nat.reduceSub, Nat.reduceBEq, reduceCtorEq, ↓zR, zQ, Tr, StA, StT, e_liGoodG w hw, hg]
    exact hp _ (Pre.push _ _)
  · have hl := good_all hg
    obtain ⟨q, q1, q2⟩ := mvRow h i t
    simp (maxSteps := 1000000) (disch := first | omega | rfl | (simp only [zL, two63, room] <;> omega) | fail) only [↓reduceIte, ↓zP, zW, WOp, evOp, evBin, binI, binSh, binS, evNil, keyIs, keyEq, mkv, AV.cells, AV.sc, optv, bnd, env, put, Env.get, Env.set, Env.del, Env.dels, Env.init, res1, resL, resV, fillP, splice, newRow, Nat.reduceEqDiff, Nat.reduceLT, Nat.reduceLeDiff, Nat.reduceAdd, Nat.reduceMul, Nat.reduceSub, Nat.reduceBEq, reduceCtorEq, ↓zR, zQ, Tr, StA, StT, e_liGoodG w hw, hg]
    refine c_liCan w i t (by omega) ?_
    intro h2 hp2
    have q1' := rdRow_pre hp2 q1
    have q2' := rdRow_pre hp2 q2
    cases hc : canB w (i, t) <;> rw [hc] at hp
    · simp (maxSteps := 1000000) (disch := first | omega | rfl | (simp only [zL, two63, room] <;> omega) | fail) only [↓reduceIte, ↓zP, zW, WOp, evOp, evBin, binI, binSh, binS, evNil, keyIs, keyEq, mkv, AV.cells, AV.sc, optv, bnd, env, put, Env.get, Env.set, Env.del, Env.dels, Env.init, res1, resL, resV, fillP, splice, newRow, Nat.reduceEqDiff, Nat.reduceLT, Nat.reduceLeDiff, Nat.reduceAdd, Nat.reduceMul, Nat.reduceSub, Nat.reduceBEq, reduceCtorEq, ↓zR, zQ, Tr, StA, StT]
      exact hp h2 ((Pre.push _ _).trans hp2)
    · obtain ⟨i, t, rfl, rfl, hm⟩ := canB_mv hc
      have hf := hm.far
      have h1 := hm.1
      have w1 : IntKind.i64.wrap ((t : Int) - i) = (t : Int) - i := wrap_i (by omega)
      have hj : (((((t : Int) - i).natAbs : Nat) : Int) == 2) = isJ i t := by
        unfold isJ
        rcases hf with rfl | rfl | rfl | rfl
        · have e1 : (((i + 1 : Nat) : Int) - i).natAbs = 1 := by omega
          have : ¬ (i + 1 = i + 2 ∨ i + 1 + 2 = i) := by omega
          rw [e1, decide_eq_false this]; rfl
        · have e1 : (((i + 2 : Nat) : Int) - i).natAbs = 2 := by omega
          rw [e1, decide_eq_true (.inl rfl)]; rfl
        · have e1 : ((t : Int) - ((t + 1 : Nat) : Int)).natAbs = 1 := by omega
          have : ¬ (t = t + 1 + 2 ∨ t + 2 = t + 1) := by omega
          rw [e1, decide_eq_false this]; rfl
        · have e1 : ((t : Int) - ((t + 2 : Nat) : Int)).natAbs = 2 := by omega
          rw [e1, decide_eq_true (.inr rfl)]; rfl
      simp (maxSteps := 1000000) (disch := first | omega | rfl | (simp only [zL, two63, room] <;> omega) | fail) only [↓reduceIte, ↓zP, zW, WOp, evOp, evBin, binI, binSh, binS, evNil, keyIs, keyEq, mkv, AV.cells, AV.sc, optv, bnd, env, put, Env.get, Env.set, Env.del, Env.dels, Env.init, res1, resL, resV, fillP, splice, newRow, Nat.reduceEqDiff, Nat.reduceLT, Nat.reduceLeDiff, Nat.reduceAdd, Nat.reduceMul, Nat.reduceSub, Nat.reduceBEq, reduceCtorEq, ↓zR, zQ, Tr, StA, StT, q1', q2', w1, e_l1Abs ((t : Int) - i) (by omega), hj]
      exact hp h2 ((Pre.push _ _).trans hp2)

/-! ### Lists of moves -/
theorem lp_yMoves {v u : AV} {L : List (Int × Int)} (hlen : L.length < 2 ^ 30) {h : AH} (hs : Slc 2 encM h v L) (ht : Slc 2 encM h u L) {R : X → Env → AH → Prop} (hR : R (.exit 0) [] h) : ∀ (rest pre : List (Int × Int)), L = pre ++ rest →
    Cx (.loop lp16_0) [(0, v), (1, u), (12, .int .i64 L.length), (13, .int .i64 pre.length)] h R k k
  | [], pre, hL => by
    have hl : L.length = pre.length := by rw [hL]; simp
    rw [hl]
    rw [w_loopb (c := lp16_0) (d := lb16_0) rfl]; unfold lb16_0
    simp (maxSteps := 1000000) (disch := first | omega | rfl | (simp only [zL, two63, room] <;> omega) | fail) only [↓reduceIte, ↓zP, zW, WOp, evOp, evBin, binI, binSh, binS, evNil, keyIs, keyEq, mkv, AV.cells, AV.sc, optv, bnd, env, put, Env.get, Env.set, Env.del, Env.dels, Env.init, res1, resL, resV, fillP, splice, newRow, Nat.reduceEqDiff, Nat.reduceLT, Nat.reduceLeDiff, Nat.reduceAdd, Nat.reduceMul, Nat.reduceSub, Nat.reduceBEq, reduceCtorEq, ↓zR, zQ, Tr, StA, StT]
    exact hR
  | x :: rest, pre, hL => by
    have ih := lp_yMoves hlen hs ht (R := R) hR rest (pre ++ [x]) (by rw [hL]; simp)
    have hl : L.length = pre.length + 1 + rest.length := by rw [hL]; simp; omega
    have hs' := hs
    have ht' := ht
    rw [hL] at hs' ht'
    obtain ⟨r1, k1, o1, hve, hr⟩ := hs'.at hlM
    obtain ⟨r2, k2, o2, hue, hr2⟩ := ht'.at hlM
    rw [← hL, hl] at hve hue
    subst hve
    subst hue
    rw [hl] at ih ⊢
    have hr' : rdRow h r1 k1 (o1 + pre.length * 2) 2 = some [.int .i64 x.1, .int .i64 x.2] := hr
    have hr2' : rdRow h r2 k2 (o2 + pre.length * 2) 2 = some [.int .i64 x.1, .int .i64 x.2] := hr2
    have hlt : (pre.length : Int) < ((pre.length + 1 + rest.length : Nat) : Int) := by omega
    have hw1 : (pre.length : Int) + 1 = ((pre ++ [x]).length : Int) := by simp
    have hw2 : IntKind.i64.wrap ((pre ++ [x]).length : Int) = ((pre ++ [x]).length : Int) := wrap_i (by simp; omega)
    have hx : (((x.1, x.2) : Int × Int) == (x.1, x.2)) = true := by simp
    rw [w_loopb (c := lp16_0) (d := lb16_0) rfl]; unfold lb16_0
    simp (maxSteps := 1000000) (disch := first | omega | rfl | (simp only [zL, two63, room] <;> omega) | fail) only [↓reduceIte, ↓zP, zW, WOp, evOp, evBin, binI, binSh, binS, evNil, keyIs, keyEq, mkv, AV.cells, AV.sc, optv, bnd, env, put, Env.get, Env.set, Env.del, Env.dels, Env.init, res1, resL, resV, fillP, splice, newRow, Nat.reduceEqDiff, Nat.reduceLT, Nat.reduceLeDiff, Nat.reduceAdd, Nat.reduceMul, Nat.reduceSub, Nat.reduceBEq, reduceCtorEq, ↓zR, zQ, Tr, StA, StT, hlt, hr', hr2', seqM, hx, hw1, hw2]
    try refine w_drw ?_
    try (simp (maxSteps := 1000000) (disch := first | omega | rfl | (simp only [zL, two63, room] <;> omega) | fail) only [↓reduceIte, ↓zP, zW, WOp, evOp, evBin, binI, binSh, binS, evNil, keyIs, keyEq, mkv, AV.cells, AV.sc, optv, bnd, env, put, Env.get, Env.set, Env.del, Env.dels, Env.init, res1, resL, resV, fillP, splice, newRow, Nat.reduceEqDiff, Nat.reduceLT, Nat.reduceLeDiff, Nat.reduceAdd, Nat.reduceMul, Nat.reduceSub, Nat.reduceBEq, reduceCtorEq, ↓zR, zQ, Tr, StA, StT, hlt, hr', hr2', seqM, hx, hw1, hw2])
    rw [w_loopn (c := lp16_0) rfl]
    simp (maxSteps := 1000000) (disch := first | omega | rfl | (simp only [zL, two63, room] <;> omega) | fail) only [↓reduceIte, ↓zP, zW, WOp, evOp, evBin, binI, binSh, binS, evNil, keyIs, keyEq, mkv, AV.cells, AV.sc, optv, bnd, env, put, Env.get, Env.set, Env.del, Env.dels, Env.init, res1, resL, resV, fillP, splice, newRow, Nat.reduceEqDiff, Nat.reduceLT, Nat.reduceLeDiff, Nat.reduceAdd, Nat.reduceMul, Nat.reduceSub, Nat.reduceBEq, reduceCtorEq, ↓zR, zQ, Tr, StA, StT]
    exact ih
theorem c_yMoves {v u : AV} {L : List (Int × Int)} (hlen : L.length < 2 ^ 30) {h : AH} (hs : Slc 2 encM h v L) (ht : Slc 2 encM h u L) {post : AV → AH → Prop} (hp : post (.bool true) h) : S 16 [v, u] h post k := by
  refine S_of rfl T16 ?_; unfold fi16
  have hv := fun g => Slc.lenV (hs) (g := g) (ρ := fun _ => _) (x := .t 0) rfl; simp only [evOp] at hv
  have hu := fun g => Slc.lenV (ht) (g := g) (ρ := fun _ => _) (x := .t 0) rfl; simp only [evOp] at hu
  simp (maxSteps := 1000000) (disch := first | omega | rfl | (simp only [zL, two63, room] <;> omega) | fail) only [↓reduceIte, ↓zP, zW, WOp, evOp, evBin, binI, binSh, binS, evNil, keyIs, keyEq, mkv, AV.cells, AV.sc, optv, bnd, env, put, Env.get, Env.set, Env.del, Env.dels, Env.init, res1, resL, resV, fillP, splice, newRow, Nat.reduceEqDiff, Nat.reduceLT, Nat.reduceLeDiff, Nat.reduceAdd, Nat.reduceMul, Nat.reduceSub, Nat.reduceBEq, reduceCtorEq, ↓zR, zQ, Tr, StA, StT, hv, hu]
  refine lp_yMoves hlen hs ht ?_ L [] rfl
  simp (maxSteps := 1000000) (disch := first | omega | rfl | (simp only [zL, two63, room] <;> omega) | fail) only [↓reduceIte, ↓zP, zW, WOp, evOp, evBin, binI, binSh, binS, evNil, keyIs, keyEq, mkv, AV.cells, AV.sc, optv, bnd, env, put, Env.get, Env.set, Env.del, Env.dels, Env.init, res1, resL, resV, fillP, splice, newRow, Nat.reduceEqDiff, Nat.reduceLT, Nat.reduceLeDiff, Nat.reduceAdd, Nat.reduceMul, Nat.reduceSub, Nat.reduceBEq, reduceCtorEq, ↓zR, zQ, Tr, StA, StT]
  exact hp
theorem lp_yIn {v : AV} {L : List (Int × Int)} (hlen : L.length < 2 ^ 30) {b : AH} (hs : Slc 2 encM b v L) (p : Nat) (m : Int × Int) (hm : rdRow b p 0 0 2 = some [.int .i64 m.1, .int .i64 m.2]) {R : X → Env → AH → Prop} : ∀ (rest pre : List (Int × Int)) (h : AH), L = pre ++ rest → Pre b h →
    (∀ h', Pre b h' → rest.contains m = false → R (.exit 0) [] h') → (∀ h', Pre b h' → rest.contains m = true → R .ret [(4, .bool true)] h') →
    Cx (.loop lp15_0) [(3, .ptr p 0 0 2), (7, v), (8, .int .i64 L.length), (9, .int .i64 pre.length)] h R k k
  | [], pre, h, hL, hp, h1, h2 => by
    have hl : L.length = pre.length := by rw [hL]; simp
    rw [hl]
    rw [w_loopb (c := lp15_0) (d := lb15_0) rfl]; unfold lb15_0
    simp (maxSteps := 1000000) (disch := first | omega | rfl | (simp only [zL, two63, room] <;> omega) | fail) only [↓reduceIte, ↓zP, zW, WOp, evOp, evBin, binI, binSh, binS, evNil, keyIs, keyEq, mkv, AV.cells, AV.sc, optv, bnd, env, put, Env.get, Env.set, Env.del, Env.dels, Env.init, res1, resL, resV, fillP, splice, newRow, Nat.reduceEqDiff, Nat.reduceLT, Nat.reduceLeDiff, Nat.reduceAdd, Nat.reduceMul, Nat.reduceSub, Nat.reduceBEq, reduceCtorEq, ↓zR, zQ, Tr, StA, StT]
    exact h1 h hp rfl
  | x :: rest, pre, h, hL, hp, h1, h2 => by
    have ih := lp_yIn hlen hs p m hm (R := R) rest (pre ++ [x])
    have hl : L.length = pre.length + 1 + rest.length := by rw [hL]; simp; omega
    have hs' := hs.pre hp
    rw [hL] at hs'
    obtain ⟨r1, k1, o1, hve, hr⟩ := hs'.at hlM
    rw [← hL, hl] at hve
    subst hve
    rw [hl] at ih ⊢
    have hr' : rdRow h r1 k1 (o1 + pre.length * 2) 2 = some [.int .i64 x.1, .int .i64 x.2] := hr
    have hp2 : Pre b (h ++ [AO.row [AV.int .i64 x.1, AV.int .i64 x.2] 0 0 false]) := hp.trans (Pre.push _ _)
    have hm2 := rdRow_pre hp2 hm
    have hm3 := rdRow_pre hp hm
    have hpl := rd_lt hm3
    have hlt : (pre.length : Int) < ((pre.length + 1 + rest.length : Nat) : Int) := by omega
    have hw1 : (pre.length : Int) + 1 = ((pre ++ [x]).length : Int) := by simp
    have hw2 : IntKind.i64.wrap ((pre ++ [x]).length : Int) = ((pre ++ [x]).length : Int) := wrap_i (by simp; omega)
    rw [w_loopb (c := lp15_0) (d := lb15_0) rfl]; unfold lb15_0
    cases e : (((x.1, x.2) : Int × Int) == (m.1, m.2))
    · simp (maxSteps := 1000000) (disch := first | omega | rfl | (simp only [zL, two63, room] <;> omega) | fail) only [↓reduceIte, ↓zP, zW, WOp, evOp, evBin, binI, binSh, binS, evNil, keyIs, keyEq, mkv, AV.cells, AV.sc, optv, bnd, env, put, Env.get, Env.set, Env.del, Env.dels, Env.init, res1, resL, resV, fillP, splice, newRow, Nat.reduceEqDiff, Nat.reduceLT, Nat.reduceLeDiff, Nat.reduceAdd, Nat.reduceMul, Nat.reduceSub, Nat.reduceBEq, reduceCtorEq, ↓zR, zQ, Tr, StA, StT, hlt, hr', hm2, hm3, hpl, seqM, e, hw1, hw2]
      rw [w_loopn (c := lp15_0) rfl]
      simp (maxSteps := 1000000) (disch := first | omega | rfl | (simp only [zL, two63, room] <;> omega) | fail) only [↓reduceIte, ↓zP, zW, WOp, evOp, evBin, binI, binSh, binS, evNil, keyIs, keyEq, mkv, AV.cells, AV.sc, optv, bnd, env, put, Env.get, Env.set, Env.del, Env.dels, Env.init, res1, resL, resV, fillP, splice, newRow, Nat.reduceEqDiff, Nat.reduceLT, Nat.reduceLeDiff, Nat.reduceAdd, Nat.reduceMul, Nat.reduceSub, Nat.reduceBEq, reduceCtorEq, ↓zR, zQ, Tr, StA, StT]
      have hc : (x :: rest).contains m = rest.contains m := by
        rw [List.contains_cons, show (m == x) = (x == m) from BEq.comm, show (x == m) = false from e]; rfl
      refine ih _ (by rw [hL]; simp) hp2 (fun h' q1 q2 => h1 h' q1 (by rw [hc]; exact q2)) (fun h' q1 q2 => h2 h' q1 (by rw [hc]; exact q2))
    · simp (maxSteps := 1000000) (disch := first | omega | rfl | (simp only [zL, two63, room] <;> omega) | fail) only [↓reduceIte, ↓zP, zW, WOp, evOp, evBin, binI, binSh, binS, evNil, keyIs, keyEq, mkv, AV.cells, AV.sc, optv, bnd, env, put, Env.get, Env.set, Env.del, Env.dels, Env.init, res1, resL, resV, fillP, splice, newRow, Nat.reduceEqDiff, Nat.reduceLT, Nat.reduceLeDiff, Nat.reduceAdd, Nat.reduceMul, Nat.reduceSub, Nat.reduceBEq, reduceCtorEq, ↓zR, zQ, Tr, StA, StT, hlt, hr', hm2, hm3, hpl, seqM, e]
      refine h2 _ hp2 ?_
      rw [List.contains_cons, show (m == x) = (x == m) from BEq.comm, show (x == m) = true from e]; rfl
theorem c_yIn {v : AV} {L : List (Int × Int)} (hlen : L.length < 2 ^ 30) (i t : Int) {h : AH} (hs : Slc 2 encM h v L) {post : AV → AH → Prop} (hp : ∀ h', Pre h h' → post (.bool (L.contains (i, t))) h') : S 15 [v, mvV i t] h post k := by
  obtain ⟨q, -, -⟩ := mvRow h i t
  refine S_of rfl T15 ?_; unfold fi15
  have hs2 := hs.pre (Pre.push h (AO.row [AV.int .i64 i, AV.int .i64 t] 0 0 false))
  have hv := fun g => Slc.lenV (hs2) (g := g) (ρ := fun _ => _) (x := .t 0) rfl; simp only [evOp] at hv
  simp (maxSteps := 1000000) (disch := first | omega | rfl | (simp only [zL, two63, room] <;> omega) | fail) only [↓reduceIte, ↓zP, zW, WOp, evOp, evBin, binI, binSh, binS, evNil, keyIs, keyEq, mkv, AV.cells, AV.sc, optv, bnd, env, put, Env.get, Env.set, Env.del, Env.dels, Env.init, res1, resL, resV, fillP, splice, newRow, Nat.reduceEqDiff, Nat.reduceLT, Nat.reduceLeDiff, Nat.reduceAdd, Nat.reduceMul, Nat.reduceSub, Nat.reduceBEq, reduceCtorEq, ↓zR, zQ, Tr, StA, StT, hv]
  refine lp_yIn hlen hs2 h.length (i, t) q L [] _ rfl (Pre.refl _) ?_ ?_
  · intro h' hp' e
    rw [e] at hp
    simp (maxSteps := 1000000) (disch := first | omega | rfl | (simp only [zL, two63, room] <;> omega) | fail) only [↓reduceIte, ↓zP, zW, WOp, evOp, evBin, binI, binSh, binS, evNil, keyIs, keyEq, mkv, AV.cells, AV.sc, optv, bnd, env, put, Env.get, Env.set, Env.del, Env.dels, Env.init, res1, resL, resV, fillP, splice, newRow, Nat.reduceEqDiff, Nat.reduceLT, Nat.reduceLeDiff, Nat.reduceAdd, Nat.reduceMul, Nat.reduceSub, Nat.reduceBEq, reduceCtorEq, ↓zR, zQ, Tr, StA, StT]
    exact hp h' ((Pre.push _ _).trans hp')
  · intro h' hp' e
    rw [e] at hp
    simp (maxSteps := 1000000) (disch := first | omega | rfl | (simp only [zL, two63, room] <;> omega) | fail) only [↓reduceIte, ↓zP, zW, WOp, evOp, evBin, binI, binSh, binS, evNil, keyIs, keyEq, mkv, AV.cells, AV.sc, optv, bnd, env, put, Env.get, Env.set, Env.del, Env.dels, Env.init, res1, resL, resV, fillP, splice, newRow, Nat.reduceEqDiff, Nat.reduceLT, Nat.reduceLeDiff, Nat.reduceAdd, Nat.reduceMul, Nat.reduceSub, Nat.reduceBEq, reduceCtorEq, ↓zR, zQ, Tr, StA, StT]
    exact hp h' ((Pre.push _ _).trans hp')
theorem Slc.fldM {h : AH} {c kk off n e : Nat} {pre rest : List (Int × Int)} {x : Int × Int} (hs : Slc 2 encM h (.slice c kk off n e) (pre ++ x :: rest)) : rdRow h c kk (off + pre.length * 2 + 0) 1 = some [.int .i64 x.1] ∧ rdRow h c kk (off + pre.length * 2 + 1) 1 = some [.int .i64 x.2] := by
  have hr := hs.rd hlM
  exact ⟨rd_part hr (o := 0) (m := 1) (by omega), rd_part hr (o := 1) (m := 1) (by omega)⟩
theorem lp_yOrder {c kk off : Nat} {L : List (Int × Int)} (hlen : L.length < 2 ^ 30) {h : AH} (hs : Slc 2 encM h (.slice c kk off L.length 2) L) (ho : L.Pairwise fun a b => a.1 < b.1) {R : X → Env → AH → Prop} (hR : R (.exit 0) [] h) : ∀ (rest pre : List (Int × Int)) (y : Int × Int), L = pre ++ y :: rest →
    Cx (.loop lp17_0) [(0, .slice c kk off L.length 2), (3, .int .i64 ((pre.length + 1 : Nat) : Int))] h R k k
  | [], pre, y, hL => by
    have hl : L.length = pre.length + 1 := by rw [hL]; simp
    have hn : ¬ (((pre.length + 1 : Nat) : Int) < ((pre.length + 1 : Nat) : Int)) := by omega
    rw [hl]
    rw [w_loopb (c := lp17_0) (d := lb17_0) rfl]; unfold lb17_0
    simp (maxSteps := 1000000) (disch := first | omega | rfl | (simp only [zL, two63, room] <;> omega) | fail) only [↓reduceIte, ↓zP, zW, WOp, evOp, evBin, binI, binSh, binS, evNil, keyIs, keyEq, mkv, AV.cells, AV.sc, optv, bnd, env, put, Env.get, Env.set, Env.del, Env.dels, Env.init, res1, resL, resV, fillP, splice, newRow, Nat.reduceEqDiff, Nat.reduceLT, Nat.reduceLeDiff, Nat.reduceAdd, Nat.reduceMul, Nat.reduceSub, Nat.reduceBEq, reduceCtorEq, ↓zR, zQ, Tr, StA, StT, hn]
    exact hR
  | x :: rest, pre, y, hL => by
    have ih := lp_yOrder hlen hs ho (R := R) hR rest (pre ++ [y]) x (by rw [hL]; simp)
    have hl : L.length = pre.length + 2 + rest.length := by rw [hL]; simp; omega
    have hxy : y.1 < x.1 := by
      rw [hL, List.pairwise_append] at ho
      have := ho.2.1
      rw [List.pairwise_cons] at this
      exact this.1 x (by simp)
    have hs1 := hs
    have hs2 := hs
    rw [show L = pre ++ y :: (x :: rest) from hL] at hs1
    rw [show L = (pre ++ [y]) ++ x :: rest by rw [hL]; simp] at hs2
    obtain ⟨a1, a2⟩ := hs1.fldM
    obtain ⟨b1, b2⟩ := hs2.fldM
    rw [show (pre ++ [y]).length = pre.length + 1 by simp] at b1 b2 ih
    have hlt : ((pre.length + 1 : Nat) : Int) < ((pre.length + 2 + rest.length : Nat) : Int) := by omega
    have hlt2 : (pre.length : Int) < ((pre.length + 2 + rest.length : Nat) : Int) := by omega
    have hw0 : ((pre.length + 1 : Nat) : Int) - 1 = (pre.length : Int) := by omega
    have hw0' : IntKind.i64.wrap (pre.length : Int) = (pre.length : Int) := wrap_i (by omega)
    have hw1 : ((pre.length + 1 : Nat) : Int) + 1 = ((pre.length + 1 + 1 : Nat) : Int) := by omega
    have hw2 : IntKind.i64.wrap ((pre.length + 1 + 1 : Nat) : Int) = ((pre.length + 1 + 1 : Nat) : Int) := wrap_i (by omega)
    have g1 : ¬ (y.1 > x.1) := by omega
    have g2 : (y.1 == x.1) = false := by
      rw [beq_eq_false_iff_ne]; omega
    rw [hl] at ih ⊢
    rw [w_loopb (c := lp17_0) (d := lb17_0) rfl]; unfold lb17_0
    simp (maxSteps := 1000000) (disch := first | omega | rfl | (simp only [zL, two63, room] <;> omega) | fail) only [↓reduceIte, ↓zP, zW, WOp, evOp, evBin, binI, binSh, binS, evNil, keyIs, keyEq, mkv, AV.cells, AV.sc, optv, bnd, env, put, Env.get, Env.set, Env.del, Env.dels, Env.init, res1, resL, resV, fillP, splice, newRow, Nat.reduceEqDiff, Nat.reduceLT, Nat.reduceLeDiff, Nat.reduceAdd, Nat.reduceMul, Nat.reduceSub, Nat.reduceBEq, reduceCtorEq, ↓zR, zQ, Tr, StA, StT, hlt, hlt2, hw0, hw0', a1, a2, b1, b2, g1, g2, hw1, hw2]
    try refine w_drw ?_
    try (simp (maxSteps := 1000000) (disch := first | omega | rfl | (simp only [zL, two63, room] <;> omega) | fail) only [↓reduceIte, ↓zP, zW, WOp, evOp, evBin, binI, binSh, binS, evNil, keyIs, keyEq, mkv, AV.cells, AV.sc, optv, bnd, env, put, Env.get, Env.set, Env.del, Env.dels, Env.init, res1, resL, resV, fillP, splice, newRow, Nat.reduceEqDiff, Nat.reduceLT, Nat.reduceLeDiff, Nat.reduceAdd, Nat.reduceMul, Nat.reduceSub, Nat.reduceBEq, reduceCtorEq, ↓zR, zQ, Tr, StA, StT, hlt, hlt2, hw0, hw0', a1, a2, b1, b2, g1, g2, hw1, hw2])
    rw [w_loopn (c := lp17_0) rfl]
    simp (maxSteps := 1000000) (disch := first | omega | rfl | (simp only [zL, two63, room] <;> omega) | fail) only [↓reduceIte, ↓zP, zW, WOp, evOp, evBin, binI, binSh, binS, evNil, keyIs, keyEq, mkv, AV.cells, AV.sc, optv, bnd, env, put, Env.get, Env.set, Env.del, Env.dels, Env.init, res1, resL, resV, fillP, splice, newRow, Nat.reduceEqDiff, Nat.reduceLT, Nat.reduceLeDiff, Nat.reduceAdd, Nat.reduceMul, Nat.reduceSub, Nat.reduceBEq, reduceCtorEq, ↓zR, zQ, Tr, StA, StT]
    exact ih
theorem c_yOrder {v : AV} {L : List (Int × Int)} (hlen : L.length < 2 ^ 30) {h : AH} (hs : Slc 2 encM h v L) (ho : L.Pairwise fun a b => a.1 < b.1) {post : AV → AH → Prop} (hp : post (.bool true) h) : S 17 [v] h post k := by
  refine S_of rfl T17 ?_; unfold fi17
  rcases hs.cases with ⟨rfl, h0⟩ | ⟨rfl, h0⟩ | ⟨c, kk, off, rfl⟩
  · simp (maxSteps := 1000000) (disch := first | omega | rfl | (simp only [zL, two63, room] <;> omega) | fail) only [↓reduceIte, ↓zP, zW, WOp, evOp, evBin, binI, binSh, binS, evNil, keyIs, keyEq, mkv, AV.cells, AV.sc, optv, bnd, env, put, Env.get, Env.set, Env.del, Env.dels, Env.init, res1, resL, resV, fillP, splice, newRow, Nat.reduceEqDiff, Nat.reduceLT, Nat.reduceLeDiff, Nat.reduceAdd, Nat.reduceMul, Nat.reduceSub, Nat.reduceBEq, reduceCtorEq, ↓zR, zQ, Tr, StA, StT]
    rw [w_loopb (c := lp17_0) (d := lb17_0) rfl]; unfold lb17_0
    simp (maxSteps := 1000000) (disch := first | omega | rfl | (simp only [zL, two63, room] <;> omega) | fail) only [↓reduceIte, ↓zP, zW, WOp, evOp, evBin, binI, binSh, binS, evNil, keyIs, keyEq, mkv, AV.cells, AV.sc, optv, bnd, env, put, Env.get, Env.set, Env.del, Env.dels, Env.init, res1, resL, resV, fillP, splice, newRow, Nat.reduceEqDiff, Nat.reduceLT, Nat.reduceLeDiff, Nat.reduceAdd, Nat.reduceMul, Nat.reduceSub, Nat.reduceBEq, reduceCtorEq, ↓zR, zQ, Tr, StA, StT]
    exact hp
  · simp (maxSteps := 1000000) (disch := first | omega | rfl | (simp only [zL, two63, room] <;> omega) | fail) only [↓reduceIte, ↓zP, zW, WOp, evOp, evBin, binI, binSh, binS, evNil, keyIs, keyEq, mkv, AV.cells, AV.sc, optv, bnd, env, put, Env.get, Env.set, Env.del, Env.dels, Env.init, res1, resL, resV, fillP, splice, newRow, Nat.reduceEqDiff, Nat.reduceLT, Nat.reduceLeDiff, Nat.reduceAdd, Nat.reduceMul, Nat.reduceSub, Nat.reduceBEq, reduceCtorEq, ↓zR, zQ, Tr, StA, StT]
    rw [w_loopb (c := lp17_0) (d := lb17_0) rfl]; unfold lb17_0
    simp (maxSteps := 1000000) (disch := first | omega | rfl | (simp only [zL, two63, room] <;> omega) | fail) only [↓reduceIte, ↓zP, zW, WOp, evOp, evBin, binI, binSh, binS, evNil, keyIs, keyEq, mkv, AV.cells, AV.sc, optv, bnd, env, put, Env.get, Env.set, Env.del, Env.dels, Env.init, res1, resL, resV, fillP, splice, newRow, Nat.reduceEqDiff, Nat.reduceLT, Nat.reduceLeDiff, Nat.reduceAdd, Nat.reduceMul, Nat.reduceSub, Nat.reduceBEq, reduceCtorEq, ↓zR, zQ, Tr, StA, StT]
    exact hp
  · cases L with
    | nil =>
      simp (maxSteps := 1000000) (disch := first | omega | rfl | (simp only [zL, two63, room] <;> omega) | fail) only [↓reduceIte, ↓zP, zW, WOp, evOp, evBin, binI, binSh, binS, evNil, keyIs, keyEq, mkv, AV.cells, AV.sc, optv, bnd, env, put, Env.get, Env.set, Env.del, Env.dels, Env.init, res1, resL, resV, fillP, splice, newRow, Nat.reduceEqDiff, Nat.reduceLT, Nat.reduceLeDiff, Nat.reduceAdd, Nat.reduceMul, Nat.reduceSub, Nat.reduceBEq, reduceCtorEq, ↓zR, zQ, Tr, StA, StT]
      rw [w_loopb (c := lp17_0) (d := lb17_0) rfl]; unfold lb17_0
      simp (maxSteps := 1000000) (disch := first | omega | rfl | (simp only [zL, two63, room] <;> omega) | fail) only [↓reduceIte, ↓zP, zW, WOp, evOp, evBin, binI, binSh, binS, evNil, keyIs, keyEq, mkv, AV.cells, AV.sc, optv, bnd, env, put, Env.get, Env.set, Env.del, Env.dels, Env.init, res1, resL, resV, fillP, splice, newRow, Nat.reduceEqDiff, Nat.reduceLT, Nat.reduceLeDiff, Nat.reduceAdd, Nat.reduceMul, Nat.reduceSub, Nat.reduceBEq, reduceCtorEq, ↓zR, zQ, Tr, StA, StT]
      exact hp
    | cons y rest =>
      simp (maxSteps := 1000000) (disch := first | omega | rfl | (simp only [zL, two63, room] <;> omega) | fail) only [↓reduceIte, ↓zP, zW, WOp, evOp, evBin, binI, binSh, binS, evNil, keyIs, keyEq, mkv, AV.cells, AV.sc, optv, bnd, env, put, Env.get, Env.set, Env.del, Env.dels, Env.init, res1, resL, resV, fillP, splice, newRow, Nat.reduceEqDiff, Nat.reduceLT, Nat.reduceLeDiff, Nat.reduceAdd, Nat.reduceMul, Nat.reduceSub, Nat.reduceBEq, reduceCtorEq, ↓zR, zQ, Tr, StA, StT]
      refine lp_yOrder hlen hs ho ?_ rest [] y rfl
      simp (maxSteps := 1000000) (disch := first | omega | rfl | (simp only [zL, two63, room] <;> omega) | fail) only [↓reduceIte, ↓zP, zW, WOp, evOp, evBin, binI, binSh, binS, evNil, keyIs, keyEq, mkv, AV.cells, AV.sc, optv, bnd, env, put, Env.get, Env.set, Env.del, Env.dels, Env.init, res1, resL, resV, fillP, splice, newRow, Nat.reduceEqDiff, Nat.reduceLT, Nat.reduceLeDiff, Nat.reduceAdd, Nat.reduceMul, Nat.reduceSub, Nat.reduceBEq, reduceCtorEq, ↓zR, zQ, Tr, StA, StT]
      exact hp
theorem c_big {cv mv : AV} {cs ms : List UInt8} {h : AH} (hs : Slc 1 encU h cv cs) (ht : Slc 1 encU h mv ms) {post : AV → AH → Prop} (hp : ∀ b, (b = false → cs.length ≤ 1048576 ∧ ms.length ≤ 1048576) → post (.bool b) h) : S 22 [cv, mv] h post k := by
  refine S_of rfl T22 ?_; unfold fi22
  have hv := fun g => Slc.lenV (hs) (g := g) (ρ := fun _ => _) (x := .t 0) rfl; simp only [evOp] at hv
  have hu := fun g => Slc.lenV (ht) (g := g) (ρ := fun _ => _) (x := .t 0) rfl; simp only [evOp] at hu
  by_cases h1 : (cs.length : Int) > 1048576
  · simp (maxSteps := 1000000) (disch := first | omega | rfl | (simp only [zL, two63, room] <;> omega) | fail) only [↓reduceIte, ↓zP, zW, WOp, evOp, evBin, binI, binSh, binS, evNil, keyIs, keyEq, mkv, AV.cells, AV.sc, optv, bnd, env, put, Env.get, Env.set, Env.del, Env.dels, Env.init, res1, resL, resV, fillP, splice, newRow, Nat.reduceEqDiff, Nat.reduceLT, Nat.reduceLeDiff, Nat.reduceAdd, Nat.reduceMul, Nat.reduceSub, Nat.reduceBEq, reduceCtorEq, ↓zR, zQ, Tr, StA, StT, hv, hu, h1]
    exact hp true (fun h => by cases h)
  · have w1 : IntKind.i64.wrap (1048576 - (cs.length : Int)) = 1048576 - (cs.length : Int) := wrap_i (by omega)
    by_cases h2 : (ms.length : Int) > 1048576 - (cs.length : Int)
    · simp (maxSteps := 1000000) (disch := first | omega | rfl | (simp only [zL, two63, room] <;> omega) | fail) only [↓reduceIte, ↓zP, zW, WOp, evOp, evBin, binI, binSh, binS, evNil, keyIs, keyEq, mkv, AV.cells, AV.sc, optv, bnd, env, put, Env.get, Env.set, Env.del, Env.dels, Env.init, res1, resL, resV, fillP, splice, newRow, Nat.reduceEqDiff, Nat.reduceLT, Nat.reduceLeDiff, Nat.reduceAdd, Nat.reduceMul, Nat.reduceSub, Nat.reduceBEq, reduceCtorEq, ↓zR, zQ, Tr, StA, StT, hv, hu, h1, w1, h2]
      exact hp true (fun h => by cases h)
    · simp (maxSteps := 1000000) (disch := first | omega | rfl | (simp only [zL, two63, room] <;> omega) | fail) only [↓reduceIte, ↓zP, zW, WOp, evOp, evBin, binI, binSh, binS, evNil, keyIs, keyEq, mkv, AV.cells, AV.sc, optv, bnd, env, put, Env.get, Env.set, Env.del, Env.dels, Env.init, res1, resL, resV, fillP, splice, newRow, Nat.reduceEqDiff, Nat.reduceLT, Nat.reduceLeDiff, Nat.reduceAdd, Nat.reduceMul, Nat.reduceSub, Nat.reduceBEq, reduceCtorEq, ↓zR, zQ, Tr, StA, StT, hv, hu, h1, w1, h2]
      exact hp false (fun _ => by omega)
end Go.Proofs.YtoacbgjdflcceaaGreatDoor.Ab

/- LINES AND MOVES that are drawn. -/
namespace Go.Proofs.YtoacbgjdflcceaaGreatDoor.Ab
open Go
set_option maxRecDepth 100000
set_option maxHeartbeats 4000000

theorem c_DrawIsLine {cv : AV} {bs : List UInt8} {h : AH} (hs : Slc 1 encU h cv bs) (hb : bs.length < 2 ^ 40) {post : AV → AH → Prop} (hp : ∀ w h', w.length ≤ 13 → Pre h h' → post (.str w) h') : S 434 [cv] h post k := by
  refine S_of rfl T434 ?_; unfold fi434
  have hc := Cur.new hs hb
  rcases hs.cases with ⟨rfl, _⟩ | ⟨rfl, _⟩ | ⟨c, kk, off, rfl⟩
  all_goals
    simp (maxSteps := 1000000) (disch := first | omega | rfl | (simp only [zL, two63, room] <;> omega) | fail) only [↓reduceIte, ↓zP, zW, WOp, evOp, evBin, binI, binSh, binS, evNil, keyIs, keyEq, mkv, AV.cells, AV.sc, optv, bnd, env, put, Env.get, Env.set, Env.del, Env.dels, Env.init, res1, resL, resV, fillP, splice, newRow, Nat.reduceEqDiff, Nat.reduceLT, Nat.reduceLeDiff, Nat.reduceAdd, Nat.reduceMul, Nat.reduceSub, Nat.reduceBEq, reduceCtorEq, ↓zR, zQ, Tr, StA, StT]
    refine c_line hc (by omega) ?_
    intro w h' hw hc' _
    simp (maxSteps := 1000000) (disch := first | omega | rfl | (simp only [zL, two63, room] <;> omega) | fail) only [↓reduceIte, ↓zP, zW, WOp, evOp, evBin, binI, binSh, binS, evNil, keyIs, keyEq, mkv, AV.cells, AV.sc, optv, bnd, env, put, Env.get, Env.set, Env.del, Env.dels, Env.init, res1, resL, resV, fillP, splice, newRow, Nat.reduceEqDiff, Nat.reduceLT, Nat.reduceLeDiff, Nat.reduceAdd, Nat.reduceMul, Nat.reduceSub, Nat.reduceBEq, reduceCtorEq, ↓zR, zQ, Tr, StA, StT]
    exact hp w h' hw hc'.done
theorem c_DrawMovesOf {cv : AV} {bs : List UInt8} {h : AH} (hs : Slc 1 encU h cv bs) (hb : bs.length < 2 ^ 40) {post : AV → AH → Prop} (hp : ∀ w h', w.length ≤ 13 → Pre h h' → post (.str w) h') : S 373 [cv] h post k := by
  refine S_of rfl T373 ?_; unfold fi373
  simp (maxSteps := 1000000) (disch := first | omega | rfl | (simp only [zL, two63, room] <;> omega) | fail) only [↓reduceIte, ↓zP, zW, WOp, evOp, evBin, binI, binSh, binS, evNil, keyIs, keyEq, mkv, AV.cells, AV.sc, optv, bnd, env, put, Env.get, Env.set, Env.del, Env.dels, Env.init, res1, resL, resV, fillP, splice, newRow, Nat.reduceEqDiff, Nat.reduceLT, Nat.reduceLeDiff, Nat.reduceAdd, Nat.reduceMul, Nat.reduceSub, Nat.reduceBEq, reduceCtorEq, ↓zR, zQ, Tr, StA, StT]
  refine c_DrawIsLine hs hb ?_
  intro w h' hw hp'
  simp (maxSteps := 1000000) (disch := first | omega | rfl | (simp only [zL, two63, room] <;> omega) | fail) only [↓reduceIte, ↓zP, zW, WOp, evOp, evBin, binI, binSh, binS, evNil, keyIs, keyEq, mkv, AV.cells, AV.sc, optv, bnd, env, put, Env.get, Env.set, Env.del, Env.dels, Env.init, res1, resL, resV, fillP, splice, newRow, Nat.reduceEqDiff, Nat.reduceLT, Nat.reduceLeDiff, Nat.reduceAdd, Nat.reduceMul, Nat.reduceSub, Nat.reduceBEq, reduceCtorEq, ↓zR, zQ, Tr, StA, StT]
  exact hp w h' hw hp'
/-- Where a drawn move is put. -/
theorem wr_res {h g : AH} (hp : Pre (h ++ [AO.row [.int .i64 0, .int .i64 0] 0 0 false]) g) (x y : Int) : wrRow g h.length 0 0 [.int .i64 x, .int .i64 y] = some (g.set h.length (.row [.int .i64 x, .int .i64 y] 0 0 false)) ∧
    rdRow (g.set h.length (.row [.int .i64 x, .int .i64 y] 0 0 false)) h.length 0 0 2 = some [.int .i64 x, .int .i64 y] ∧ Pre h (g.set h.length (.row [.int .i64 x, .int .i64 y] 0 0 false)) := by
  have hl : h.length < g.length := by have := hp.1; simp at this; omega
  have hr : g[h.length]? = some (.row [.int .i64 0, .int .i64 0] 0 0 false) := by rw [hp.2 _ (by simp)]; simp
  refine ⟨by simp [wrRow, hr, splice, AV.sc], ?_, ((Pre.push h _).trans hp).set (Nat.le_refl _)⟩
  unfold rdRow
  rw [List.getElem?_set, if_pos rfl, if_pos hl]
  simp
theorem c_DrawCanMove {cv : AV} {bs : List UInt8} {h : AH} (hs : Slc 1 encU h cv bs) (hb : bs.length < 2 ^ 40) {post : AV → AH → Prop} (hp : ∀ w i t h', w.length ≤ 13 → Pre h h' → post (.tup [.str w, mvV i t]) h') : S 437 [cv] h post k := by
  refine S_of rfl T437 ?_; unfold fi437
  have hc := Cur.new (hs.pre (Pre.push h (AO.row [.int .i64 0, .int .i64 0] 0 0 false))) hb
  rcases hs.cases with ⟨rfl, _⟩ | ⟨rfl, _⟩ | ⟨c, kk, off, rfl⟩
  all_goals
    clear hs
    simp (maxSteps := 1000000) (disch := first | omega | rfl | (simp only [zL, two63, room] <;> omega) | fail) only [↓reduceIte, ↓zP, zW, WOp, evOp, evBin, binI, binSh, binS, evNil, keyIs, keyEq, mkv, AV.cells, AV.sc, optv, bnd, env, put, Env.get, Env.set, Env.del, Env.dels, Env.init, res1, resL, resV, fillP, splice, newRow, Nat.reduceEqDiff, Nat.reduceLT, Nat.reduceLeDiff, Nat.reduceAdd, Nat.reduceMul, Nat.reduceSub, Nat.reduceBEq, reduceCtorEq, ↓zR, zQ, Tr, StA, StT]
    refine c_line hc (by omega) ?_
    intro w g hw hg _
    clear hc
    simp (maxSteps := 1000000) (disch := first | omega | rfl | (simp only [zL, two63, room] <;> omega) | fail) only [↓reduceIte, ↓zP, zW, WOp, evOp, evBin, binI, binSh, binS, evNil, keyIs, keyEq, mkv, AV.cells, AV.sc, optv, bnd, env, put, Env.get, Env.set, Env.del, Env.dels, Env.init, res1, resL, resV, fillP, splice, newRow, Nat.reduceEqDiff, Nat.reduceLT, Nat.reduceLeDiff, Nat.reduceAdd, Nat.reduceMul, Nat.reduceSub, Nat.reduceBEq, reduceCtorEq, ↓zR, zQ, Tr, StA, StT]
    refine c_sMovesOf w (by omega) ?_
    intro v g2 ho hp2
    have hg2 := hg.pre hp2
    have hv := ho.slc
    cases e : goodLine w
    · have hl0 : mvG [84, 70] w = [] := by unfold mvG; rw [e]; rfl
      simp (maxSteps := 1000000) (disch := first | omega | rfl | (simp only [zL, two63, room] <;> omega) | fail) only [↓reduceIte, ↓zP, zW, WOp, evOp, evBin, binI, binSh, binS, evNil, keyIs, keyEq, mkv, AV.cells, AV.sc, optv, bnd, env, put, Env.get, Env.set, Env.del, Env.dels, Env.init, res1, resL, resV, fillP, splice, newRow, Nat.reduceEqDiff, Nat.reduceLT, Nat.reduceLeDiff, Nat.reduceAdd, Nat.reduceMul, Nat.reduceSub, Nat.reduceBEq, reduceCtorEq, ↓zR, zQ, Tr, StA, StT]
      refine c_among (Cur.pre hg2 (Pre.push _ _)) (by omega) (slc_litI _ [0, 1, 2, 3, -1, 12, 4611686018427387904]) (fun r hr => by cases hr; have := Cur.lt hg2; omega) (by simp) (by simp) ?_
      intro x _ g5 hg5 _
      simp (maxSteps := 1000000) (disch := first | omega | rfl | (simp only [zL, two63, room] <;> omega) | fail) only [↓reduceIte, ↓zP, zW, WOp, evOp, evBin, binI, binSh, binS, evNil, keyIs, keyEq, mkv, AV.cells, AV.sc, optv, bnd, env, put, Env.get, Env.set, Env.del, Env.dels, Env.init, res1, resL, resV, fillP, splice, newRow, Nat.reduceEqDiff, Nat.reduceLT, Nat.reduceLeDiff, Nat.reduceAdd, Nat.reduceMul, Nat.reduceSub, Nat.reduceBEq, reduceCtorEq, ↓zR, zQ, Tr, StA, StT]
      refine c_among (Cur.pre hg5 (Pre.push _ _)) (by omega) (slc_litI _ [0, 1, 2, 3, -1, 12, -9223372036854775808]) (fun r hr => by cases hr; have := Cur.lt hg5; omega) (by simp) (by simp) ?_
      intro y _ g6 hg6 _
      obtain ⟨r1, r2, r3⟩ := wr_res hg6.done x y
      simp (maxSteps := 1000000) (disch := first | omega | rfl | (simp only [zL, two63, room] <;> omega) | fail) only [↓reduceIte, ↓zP, zW, WOp, evOp, evBin, binI, binSh, binS, evNil, keyIs, keyEq, mkv, AV.cells, AV.sc, optv, bnd, env, put, Env.get, Env.set, Env.del, Env.dels, Env.init, res1, resL, resV, fillP, splice, newRow, Nat.reduceEqDiff, Nat.reduceLT, Nat.reduceLeDiff, Nat.reduceAdd, Nat.reduceMul, Nat.reduceSub, Nat.reduceBEq, reduceCtorEq, ↓zR, zQ, Tr, StA, StT, r1, r2]
      exact hp w x y _ hw r3
    · rcases hv.cases with ⟨rfl, h0⟩ | ⟨rfl, h0⟩ | ⟨c2, kk2, off2, rfl⟩
      · simp (maxSteps := 1000000) (disch := first | omega | rfl | (simp only [zL, two63, room] <;> omega) | fail) only [↓reduceIte, ↓zP, zW, WOp, evOp, evBin, binI, binSh, binS, evNil, keyIs, keyEq, mkv, AV.cells, AV.sc, optv, bnd, env, put, Env.get, Env.set, Env.del, Env.dels, Env.init, res1, resL, resV, fillP, splice, newRow, Nat.reduceEqDiff, Nat.reduceLT, Nat.reduceLeDiff, Nat.reduceAdd, Nat.reduceMul, Nat.reduceSub, Nat.reduceBEq, reduceCtorEq, ↓zR, zQ, Tr, StA, StT]
        refine c_among (Cur.pre hg2 (Pre.push _ _)) (by omega) (slc_litI _ [0, 1, 2, 3, -1, 12, 4611686018427387904]) (fun r hr => by cases hr; have := Cur.lt hg2; omega) (by simp) (by simp) ?_
        intro x _ g5 hg5 _
        simp (maxSteps := 1000000) (disch := first | omega | rfl | (simp only [zL, two63, room] <;> omega) | fail) only [↓reduceIte, ↓zP, zW, WOp, evOp, evBin, binI, binSh, binS, evNil, keyIs, keyEq, mkv, AV.cells, AV.sc, optv, bnd, env, put, Env.get, Env.set, Env.del, Env.dels, Env.init, res1, resL, resV, fillP, splice, newRow, Nat.reduceEqDiff, Nat.reduceLT, Nat.reduceLeDiff, Nat.reduceAdd, Nat.reduceMul, Nat.reduceSub, Nat.reduceBEq, reduceCtorEq, ↓zR, zQ, Tr, StA, StT]
        refine c_among (Cur.pre hg5 (Pre.push _ _)) (by omega) (slc_litI _ [0, 1, 2, 3, -1, 12, -9223372036854775808]) (fun r hr => by cases hr; have := Cur.lt hg5; omega) (by simp) (by simp) ?_
        intro y _ g6 hg6 _
        obtain ⟨r1, r2, r3⟩ := wr_res hg6.done x y
        simp (maxSteps := 1000000) (disch := first | omega | rfl | (simp only [zL, two63, room] <;> omega) | fail) only [↓reduceIte, ↓zP, zW, WOp, evOp, evBin, binI, binSh, binS, evNil, keyIs, keyEq, mkv, AV.cells, AV.sc, optv, bnd, env, put, Env.get, Env.set, Env.del, Env.dels, Env.init, res1, resL, resV, fillP, splice, newRow, Nat.reduceEqDiff, Nat.reduceLT, Nat.reduceLeDiff, Nat.reduceAdd, Nat.reduceMul, Nat.reduceSub, Nat.reduceBEq, reduceCtorEq, ↓zR, zQ, Tr, StA, StT, r1, r2]
        exact hp w x y _ hw r3
      · simp (maxSteps := 1000000) (disch := first | omega | rfl | (simp only [zL, two63, room] <;> omega) | fail) only [↓reduceIte, ↓zP, zW, WOp, evOp, evBin, binI, binSh, binS, evNil, keyIs, keyEq, mkv, AV.cells, AV.sc, optv, bnd, env, put, Env.get, Env.set, Env.del, Env.dels, Env.init, res1, resL, resV, fillP, splice, newRow, Nat.reduceEqDiff, Nat.reduceLT, Nat.reduceLeDiff, Nat.reduceAdd, Nat.reduceMul, Nat.reduceSub, Nat.reduceBEq, reduceCtorEq, ↓zR, zQ, Tr, StA, StT]
        refine c_among (Cur.pre hg2 (Pre.push _ _)) (by omega) (slc_litI _ [0, 1, 2, 3, -1, 12, 4611686018427387904]) (fun r hr => by cases hr; have := Cur.lt hg2; omega) (by simp) (by simp) ?_
        intro x _ g5 hg5 _
        simp (maxSteps := 1000000) (disch := first | omega | rfl | (simp only [zL, two63, room] <;> omega) | fail) only [↓reduceIte, ↓zP, zW, WOp, evOp, evBin, binI, binSh, binS, evNil, keyIs, keyEq, mkv, AV.cells, AV.sc, optv, bnd, env, put, Env.get, Env.set, Env.del, Env.dels, Env.init, res1, resL, resV, fillP, splice, newRow, Nat.reduceEqDiff, Nat.reduceLT, Nat.reduceLeDiff, Nat.reduceAdd, Nat.reduceMul, Nat.reduceSub, Nat.reduceBEq, reduceCtorEq, ↓zR, zQ, Tr, StA, StT]
        refine c_among (Cur.pre hg5 (Pre.push _ _)) (by omega) (slc_litI _ [0, 1, 2, 3, -1, 12, -9223372036854775808]) (fun r hr => by cases hr; have := Cur.lt hg5; omega) (by simp) (by simp) ?_
        intro y _ g6 hg6 _
        obtain ⟨r1, r2, r3⟩ := wr_res hg6.done x y
        simp (maxSteps := 1000000) (disch := first | omega | rfl | (simp only [zL, two63, room] <;> omega) | fail) only [↓reduceIte, ↓zP, zW, WOp, evOp, evBin, binI, binSh, binS, evNil, keyIs, keyEq, mkv, AV.cells, AV.sc, optv, bnd, env, put, Env.get, Env.set, Env.del, Env.dels, Env.init, res1, resL, resV, fillP, splice, newRow, Nat.reduceEqDiff, Nat.reduceLT, Nat.reduceLeDiff, Nat.reduceAdd, Nat.reduceMul, Nat.reduceSub, Nat.reduceBEq, reduceCtorEq, ↓zR, zQ, Tr, StA, StT, r1, r2]
        exact hp w x y _ hw r3
      · by_cases hn : ((mvG [84, 70] w).length : Int) > 0
        · simp (maxSteps := 1000000) (disch := first | omega | rfl | (simp only [zL, two63, room] <;> omega) | fail) only [↓reduceIte, ↓zP, zW, WOp, evOp, evBin, binI, binSh, binS, evNil, keyIs, keyEq, mkv, AV.cells, AV.sc, optv, bnd, env, put, Env.get, Env.set, Env.del, Env.dels, Env.init, res1, resL, resV, fillP, splice, newRow, Nat.reduceEqDiff, Nat.reduceLT, Nat.reduceLeDiff, Nat.reduceAdd, Nat.reduceMul, Nat.reduceSub, Nat.reduceBEq, reduceCtorEq, ↓zR, zQ, Tr, StA, StT, hn]
          refine c_one hg2 (by omega) 3 (by omega) ?_
          intro o g3 hg3 hx3
          cases o
          · simp (maxSteps := 1000000) (disch := first | omega | rfl | (simp only [zL, two63, room] <;> omega) | fail) only [↓reduceIte, ↓zP, zW, WOp, evOp, evBin, binI, binSh, binS, evNil, keyIs, keyEq, mkv, AV.cells, AV.sc, optv, bnd, env, put, Env.get, Env.set, Env.del, Env.dels, Env.init, res1, resL, resV, fillP, splice, newRow, Nat.reduceEqDiff, Nat.reduceLT, Nat.reduceLeDiff, Nat.reduceAdd, Nat.reduceMul, Nat.reduceSub, Nat.reduceBEq, reduceCtorEq, ↓zR, zQ, Tr, StA, StT]
            refine c_pick hg3 (by omega) (mvG [84, 70] w).length ?_ ?_
            · have : (mvG [84, 70] w).length ≤ w.length := by unfold mvG; rw [if_pos e]; exact movesB_len _ _
              omega
            intro x g4 hx hg4 hx4
            have hlt : x < (mvG [84, 70] w).length := by omega
            have hLe : mvG [84, 70] w = (mvG [84, 70] w).take x ++ (mvG [84, 70] w)[x] :: (mvG [84, 70] w).drop (x + 1) := by
              have := (List.take_append_drop x (mvG [84, 70] w)).symm
              rwa [List.drop_eq_getElem_cons hlt] at this
            have hv2 := hv
            generalize hm : (mvG [84, 70] w)[x] = m at hLe
            rw [hLe] at hv2
            have hne : c2 ≠ (h ++ [AO.row [AV.int .i64 0, AV.int .i64 0] 0 0 false]).length := Nat.ne_of_gt (Nat.lt_of_lt_of_le hg.lt (own_ge ho rfl))
            have hrd := rdRow_prex hx4 hne (rdRow_prex hx3 hne (hv2.rd hlM))
            rw [List.length_take, show min x (mvG [84, 70] w).length = x by omega] at hrd
            have hrd' : rdRow g4 c2 kk2 (off2 + x * 2) 2 = some [.int .i64 m.1, .int .i64 m.2] := hrd
            have n1 : (x : Int) < ((mvG [84, 70] w).length : Int) := by omega
            obtain ⟨r1, r2, r3⟩ := wr_res hg4.done m.1 m.2
            simp (maxSteps := 1000000) (disch := first | omega | rfl | (simp only [zL, two63, room] <;> omega) | fail) only [↓reduceIte, ↓zP, zW, WOp, evOp, evBin, binI, binSh, binS, evNil, keyIs, keyEq, mkv, AV.cells, AV.sc, optv, bnd, env, put, Env.get, Env.set, Env.del, Env.dels, Env.init, res1, resL, resV, fillP, splice, newRow, Nat.reduceEqDiff, Nat.reduceLT, Nat.reduceLeDiff, Nat.reduceAdd, Nat.reduceMul, Nat.reduceSub, Nat.reduceBEq, reduceCtorEq, ↓zR, zQ, Tr, StA, StT, n1, hrd', r1, r2]
            try refine w_drw ?_
            try (simp (maxSteps := 1000000) (disch := first | omega | rfl | (simp only [zL, two63, room] <;> omega) | fail) only [↓reduceIte, ↓zP, zW, WOp, evOp, evBin, binI, binSh, binS, evNil, keyIs, keyEq, mkv, AV.cells, AV.sc, optv, bnd, env, put, Env.get, Env.set, Env.del, Env.dels, Env.init, res1, resL, resV, fillP, splice, newRow, Nat.reduceEqDiff, Nat.reduceLT, Nat.reduceLeDiff, Nat.reduceAdd, Nat.reduceMul, Nat.reduceSub, Nat.reduceBEq, reduceCtorEq, ↓zR, zQ, Tr, StA, StT, n1, hrd', r1, r2])
            exact hp w m.1 m.2 _ hw r3
          · simp (maxSteps := 1000000) (disch := first | omega | rfl | (simp only [zL, two63, room] <;> omega) | fail) only [↓reduceIte, ↓zP, zW, WOp, evOp, evBin, binI, binSh, binS, evNil, keyIs, keyEq, mkv, AV.cells, AV.sc, optv, bnd, env, put, Env.get, Env.set, Env.del, Env.dels, Env.init, res1, resL, resV, fillP, splice, newRow, Nat.reduceEqDiff, Nat.reduceLT, Nat.reduceLeDiff, Nat.reduceAdd, Nat.reduceMul, Nat.reduceSub, Nat.reduceBEq, reduceCtorEq, ↓zR, zQ, Tr, StA, StT]
            refine c_among (Cur.pre hg3 (Pre.push _ _)) (by omega) (slc_litI _ [0, 1, 2, 3, -1, 12, 4611686018427387904]) (fun r hr => by cases hr; have := Cur.lt hg3; omega) (by simp) (by simp) ?_
            intro x _ g5 hg5 _
            simp (maxSteps := 1000000) (disch := first | omega | rfl | (simp only [zL, two63, room] <;> omega) | fail) only [↓reduceIte, ↓zP, zW, WOp, evOp, evBin, binI, binSh, binS, evNil, keyIs, keyEq, mkv, AV.cells, AV.sc, optv, bnd, env, put, Env.get, Env.set, Env.del, Env.dels, Env.init, res1, resL, resV, fillP, splice, newRow, Nat.reduceEqDiff, Nat.reduceLT, Nat.reduceLeDiff, Nat.reduceAdd, Nat.reduceMul, Nat.reduceSub, Nat.reduceBEq, reduceCtorEq, ↓zR, zQ, Tr, StA, StT]
            refine c_among (Cur.pre hg5 (Pre.push _ _)) (by omega) (slc_litI _ [0, 1, 2, 3, -1, 12, -9223372036854775808]) (fun r hr => by cases hr; have := Cur.lt hg5; omega) (by simp) (by simp) ?_
            intro y _ g6 hg6 _
            obtain ⟨r1, r2, r3⟩ := wr_res hg6.done x y
            simp (maxSteps := 1000000) (disch := first | omega | rfl | (simp only [zL, two63, room] <;> omega) | fail) only [↓reduceIte, ↓zP, zW, WOp, evOp, evBin, binI, binSh, binS, evNil, keyIs, keyEq, mkv, AV.cells, AV.sc, optv, bnd, env, put, Env.get, Env.set, Env.del, Env.dels, Env.init, res1, resL, resV, fillP, splice, newRow, Nat.reduceEqDiff, Nat.reduceLT, Nat.reduceLeDiff, Nat.reduceAdd, Nat.reduceMul, Nat.reduceSub, Nat.reduceBEq, reduceCtorEq, ↓zR, zQ, Tr, StA, StT, r1, r2]
            exact hp w x y _ hw r3
        · simp (maxSteps := 1000000) (disch := first | omega | rfl | (simp only [zL, two63, room] <;> omega) | fail) only [↓reduceIte, ↓zP, zW, WOp, evOp, evBin, binI, binSh, binS, evNil, keyIs, keyEq, mkv, AV.cells, AV.sc, optv, bnd, env, put, Env.get, Env.set, Env.del, Env.dels, Env.init, res1, resL, resV, fillP, splice, newRow, Nat.reduceEqDiff, Nat.reduceLT, Nat.reduceLeDiff, Nat.reduceAdd, Nat.reduceMul, Nat.reduceSub, Nat.reduceBEq, reduceCtorEq, ↓zR, zQ, Tr, StA, StT, hn]
          refine c_among (Cur.pre hg2 (Pre.push _ _)) (by omega) (slc_litI _ [0, 1, 2, 3, -1, 12, 4611686018427387904]) (fun r hr => by cases hr; have := Cur.lt hg2; omega) (by simp) (by simp) ?_
          intro x _ g5 hg5 _
          simp (maxSteps := 1000000) (disch := first | omega | rfl | (simp only [zL, two63, room] <;> omega) | fail) only [↓reduceIte, ↓zP, zW, WOp, evOp, evBin, binI, binSh, binS, evNil, keyIs, keyEq, mkv, AV.cells, AV.sc, optv, bnd, env, put, Env.get, Env.set, Env.del, Env.dels, Env.init, res1, resL, resV, fillP, splice, newRow, Nat.reduceEqDiff, Nat.reduceLT, Nat.reduceLeDiff, Nat.reduceAdd, Nat.reduceMul, Nat.reduceSub, Nat.reduceBEq, reduceCtorEq, ↓zR, zQ, Tr, StA, StT]
          refine c_among (Cur.pre hg5 (Pre.push _ _)) (by omega) (slc_litI _ [0, 1, 2, 3, -1, 12, -9223372036854775808]) (fun r hr => by cases hr; have := Cur.lt hg5; omega) (by simp) (by simp) ?_
          intro y _ g6 hg6 _
          obtain ⟨r1, r2, r3⟩ := wr_res hg6.done x y
          simp (maxSteps := 1000000) (disch := first | omega | rfl | (simp only [zL, two63, room] <;> omega) | fail) only [↓reduceIte, ↓zP, zW, WOp, evOp, evBin, binI, binSh, binS, evNil, keyIs, keyEq, mkv, AV.cells, AV.sc, optv, bnd, env, put, Env.get, Env.set, Env.del, Env.dels, Env.init, res1, resL, resV, fillP, splice, newRow, Nat.reduceEqDiff, Nat.reduceLT, Nat.reduceLeDiff, Nat.reduceAdd, Nat.reduceMul, Nat.reduceSub, Nat.reduceBEq, reduceCtorEq, ↓zR, zQ, Tr, StA, StT, r1, r2]
          exact hp w x y _ hw r3
theorem c_DrawMakeMove {cv : AV} {bs : List UInt8} {h : AH} (hs : Slc 1 encU h cv bs) (hb : bs.length < 2 ^ 40) {post : AV → AH → Prop} (hp : ∀ w i t h', w.length ≤ 13 → Pre h h' → post (.tup [.str w, mvV i t]) h') : S 391 [cv] h post k := by
  refine S_of rfl T391 ?_; unfold fi391
  simp (maxSteps := 1000000) (disch := first | omega | rfl | (simp only [zL, two63, room] <;> omega) | fail) only [↓reduceIte, ↓zP, zW, WOp, evOp, evBin, binI, binSh, binS, evNil, keyIs, keyEq, mkv, AV.cells, AV.sc, optv, bnd, env, put, Env.get, Env.set, Env.del, Env.dels, Env.init, res1, resL, resV, fillP, splice, newRow, Nat.reduceEqDiff, Nat.reduceLT, Nat.reduceLeDiff, Nat.reduceAdd, Nat.reduceMul, Nat.reduceSub, Nat.reduceBEq, reduceCtorEq, ↓zR, zQ, Tr, StA, StT]
  refine c_DrawCanMove (hs.pre (Pre.push _ _)) hb ?_
  intro w i t g hw hg
  obtain ⟨r1, r2, r3⟩ := wr_res hg i t
  simp (maxSteps := 1000000) (disch := first | omega | rfl | (simp only [zL, two63, room] <;> omega) | fail) only [↓reduceIte, ↓zP, zW, WOp, evOp, evBin, binI, binSh, binS, evNil, keyIs, keyEq, mkv, AV.cells, AV.sc, optv, bnd, env, put, Env.get, Env.set, Env.del, Env.dels, Env.init, res1, resL, resV, fillP, splice, newRow, Nat.reduceEqDiff, Nat.reduceLT, Nat.reduceLeDiff, Nat.reduceAdd, Nat.reduceMul, Nat.reduceSub, Nat.reduceBEq, reduceCtorEq, ↓zR, zQ, Tr, StA, StT, r1, r2]
  exact hp w i t _ hw r3
end Go.Proofs.YtoacbgjdflcceaaGreatDoor.Ab

/- MOVES as lists: which are in them, in which order, those from the other side. -/
namespace Go.Proofs.YtoacbgjdflcceaaGreatDoor.Ab
open Go

theorem mem_moves {w kd : List UInt8} {i t : Nat} : (((i : Int), (t : Int)) ∈ movesB w kd) ↔ Mv w i t ∧ hasB kd (w.getD i 0) = true := by
  simp only [movesB, List.mem_flatMap, List.mem_range]
  constructor
  · rintro ⟨j, hj, hm⟩
    unfold moveB at hm
    split at hm
    · rename_i t1 hg
      split at hm
      · rename_i hk
        simp only [List.mem_singleton, Prod.mk.injEq] at hm
        obtain ⟨e1, e2⟩ := hm
        have : i = j := by omega
        subst this
        obtain ⟨t', e3, hm⟩ := goalB_mv hj hg
        have : t = t' := by omega
        subst this
        exact ⟨hm, hk⟩
      · simp at hm
    · simp at hm
  · rintro ⟨hm, hk⟩
    refine ⟨i, hm.1, ?_⟩
    unfold moveB
    rw [mv_goalB hm]
    simp only [hk, if_true, List.mem_singleton]
theorem moves_sorted (w kd : List UInt8) : (movesB w kd).Pairwise fun a b => a.1 < b.1 := by
  unfold movesB
  rw [List.pairwise_flatMap]
  have hm : ∀ i, ∀ x ∈ moveB w kd i, x.1 = (i : Int) := by
    intro i x hx
    unfold moveB at hx
    split at hx
    · split at hx
      · simp only [List.mem_singleton] at hx; subst hx; rfl
      · simp at hx
    · simp at hx
  refine ⟨?_, ?_⟩
  · intro i _
    unfold moveB
    split
    · split <;> simp
    · simp
  · refine List.Pairwise.imp ?_ (List.pairwise_lt_range)
    intro a b hab x hx y hy
    rw [hm a x hx, hm b y hy]
    omega
theorem sum_add {α : Type} {f g p : α → Nat} : ∀ {l : List α}, (∀ x ∈ l, p x = f x + g x) → (l.map p).sum = (l.map f).sum + (l.map g).sum
  | [], _ => rfl
  | a :: l, h => by
    have := sum_add (l := l) (fun x hx => h x (by simp [hx]))
    simp only [List.map_cons, List.sum_cons, this, h a (by simp)]
    omega
theorem moves_len (w kd : List UInt8) : (movesB w kd).length = ((List.range w.length).map fun i => (moveB w kd i).length).sum := by
  unfold movesB; rw [List.length_flatMap]
theorem goal_sign {w : List UInt8} {i : Nat} {t : Int} (hg : goalB w i = some t) : w.getD i 0 = 84 ∨ w.getD i 0 = 70 := by
  by_cases hi : i < w.length
  · obtain ⟨t', _, hm⟩ := goalB_mv hi hg
    rcases hm.2.2.2 with h | h
    · exact .inl h.1
    · exact .inr h.1
  · have : w.getD i 0 = 0 := by simp [List.getD_eq_getElem?_getD, List.getElem?_eq_none (show w.length ≤ i by omega)]
    unfold goalB at hg
    rw [this] at hg
    simp [stepB] at hg
theorem moveB_count (w : List UInt8) (i : Nat) : (moveB w [84, 70] i).length = (moveB w [84] i).length + (moveB w [70] i).length := by
  unfold moveB
  cases hg : goalB w i with
  | none => rfl
  | some t =>
    rcases goal_sign hg with h | h <;> rw [h] <;> rfl
theorem moves_split (w : List UInt8) : (movesB w [84, 70]).length = (movesB w [84]).length + (movesB w [70]).length := by
  rw [moves_len, moves_len, moves_len]
  exact sum_add fun i _ => moveB_count w i

/-! ### From the other side -/
theorem otherB_two (b : UInt8) : otherB (otherB b) = b := by
  unfold otherB
  by_cases h1 : b = 84
  · subst h1; rfl
  · by_cases h2 : b = 70
    · subst h2; rfl
    · simp [h1, h2]
theorem other_two (w : List UInt8) : otherL (otherL w) = w := by
  unfold otherL
  rw [List.map_reverse, List.reverse_reverse, List.map_map]
  have : (otherB ∘ otherB) = id := by funext b; exact otherB_two b
  rw [this, List.map_id]
theorem other_get {w : List UInt8} {j : Nat} (hj : j < w.length) : (otherL w).getD (w.length - 1 - j) 0 = otherB (w.getD j 0) := by
  have h1 : w.length - 1 - j < (otherL w).length := by rw [otherL_len]; omega
  have e1 : (otherL w).getD (w.length - 1 - j) 0 = (otherL w)[w.length - 1 - j] := by simp [List.getD_eq_getElem?_getD, h1]
  have e2 : w.getD j 0 = w[j] := by simp [List.getD_eq_getElem?_getD, hj]
  rw [e1, e2]
  simp only [otherL, List.getElem_reverse, List.length_map, List.getElem_map]
  congr 2
  omega
theorem mv_other {w : List UInt8} {i t : Nat} (h : Mv w i t) : Mv (otherL w) (w.length - 1 - i) (w.length - 1 - t) := by
  obtain ⟨hi, ht, h46, h⟩ := h
  refine ⟨by rw [otherL_len]; omega, by rw [otherL_len]; omega, by rw [other_get ht, h46]; rfl, ?_⟩
  rcases h with ⟨ha, h⟩ | ⟨ha, h⟩
  · right
    refine ⟨by rw [other_get hi, ha]; rfl, ?_⟩
    rcases h with rfl | ⟨rfl, hb⟩
    · left; omega
    · right
      refine ⟨by omega, ?_⟩
      rw [show w.length - 1 - i - 1 = w.length - 1 - (i + 1) by omega, other_get (by omega), hb]; rfl
  · left
    refine ⟨by rw [other_get hi, ha]; rfl, ?_⟩
    rcases h with h | ⟨h, hb⟩
    · left; omega
    · right
      refine ⟨by omega, ?_⟩
      rw [show w.length - 1 - i + 1 = w.length - 1 - (i - 1) by omega, other_get (by omega), hb]; rfl
theorem moveB_iff (w : List UInt8) {i : Nat} (hi : i < w.length) : (moveB w [84, 70] i).length = 1 ↔ ∃ t, Mv w i t := by
  unfold moveB
  cases hg : goalB w i with
  | none =>
    simp only [List.length_nil]
    constructor
    · intro h; omega
    · rintro ⟨t, h⟩
      rw [mv_goalB h] at hg; cases hg
  | some t =>
    have hk : hasB [84, 70] (w.getD i 0) = true := by rcases goal_sign hg with h | h <;> rw [h] <;> rfl
    simp only [hk, if_true, List.length_singleton, true_iff]
    obtain ⟨t', _, hm⟩ := goalB_mv hi hg
    exact ⟨t', hm⟩
theorem moveB_other {w : List UInt8} {i : Nat} (hi : i < w.length) : (moveB (otherL w) [84, 70] (w.length - 1 - i)).length = (moveB w [84, 70] i).length := by
  have h1 := moveB_iff w hi
  have h2 := moveB_iff (otherL w) (i := w.length - 1 - i) (by rw [otherL_len]; omega)
  have l1 := moveB_len w [84, 70] i
  have l2 := moveB_len (otherL w) [84, 70] (w.length - 1 - i)
  have hiff : (∃ t, Mv (otherL w) (w.length - 1 - i) t) ↔ ∃ t, Mv w i t := by
    constructor
    · rintro ⟨t, h⟩
      have := mv_other h
      rw [other_two, otherL_len, show w.length - 1 - (w.length - 1 - i) = i by omega] at this
      exact ⟨_, this⟩
    · rintro ⟨t, h⟩
      exact ⟨_, mv_other h⟩
  rw [← h1, ← h2] at hiff
  by_cases h : (moveB w [84, 70] i).length = 1
  · rw [h, hiff.2 h]
  · have : ¬ (moveB (otherL w) [84, 70] (w.length - 1 - i)).length = 1 := fun hh => h (hiff.1 hh)
    omega
theorem moves_other_len (w : List UInt8) : (movesB (otherL w) [84, 70]).length = (movesB w [84, 70]).length := by
  rw [moves_len, moves_len, otherL_len]
  have h1 : ((List.range w.length).map fun i => (moveB w [84, 70] i).length) = (List.range w.length).map ((fun i => (moveB (otherL w) [84, 70] i).length) ∘ fun i => w.length - 1 - i) :=
    List.map_congr_left fun i hi => (moveB_other (List.mem_range.1 hi)).symm
  rw [h1, ← List.map_map]
  have h2 : (List.range w.length).map (fun i => w.length - 1 - i) = (List.range w.length).reverse := by
    refine List.ext_getElem (by simp) ?_
    intro n h3 h4
    simp
  rw [h2, List.map_reverse, List.sum_reverse]
theorem moves_toad {w : List UInt8} {i t : Nat} (h : Mv w i t) : (movesB w [84]).contains (((i : Int), (t : Int)) : Int × Int) = decide ((t : Int) > i) ∧ (movesB w [70]).contains (((i : Int), (t : Int)) : Int × Int) = !decide ((t : Int) > i) ∧
    (movesB (otherL w) [84, 70]).contains (((w.length : Int) - 1 - i, (w.length : Int) - 1 - t) : Int × Int) = true := by
  have hm := h
  obtain ⟨hi, ht, h46, hk⟩ := h
  have e1 : (w.length : Int) - 1 - i = ((w.length - 1 - i : Nat) : Int) := by omega
  have e2 : (w.length : Int) - 1 - t = ((w.length - 1 - t : Nat) : Int) := by omega
  have ho := mv_other hm
  have hok : hasB [84, 70] ((otherL w).getD (w.length - 1 - i) 0) = true := by
    rcases ho.2.2.2 with h | h <;> rw [h.1] <;> rfl
  have r3 : (movesB (otherL w) [84, 70]).contains (((w.length : Int) - 1 - i, (w.length : Int) - 1 - t) : Int × Int) = true := by
    rw [e1, e2]
    exact List.contains_iff_mem.2 (mem_moves.2 ⟨ho, hok⟩)
  refine ⟨?_, ?_, r3⟩
  · rcases hk with ⟨ha, hk⟩ | ⟨ha, hk⟩
    · rw [decide_eq_true (by omega)]
      exact List.contains_iff_mem.2 (mem_moves.2 ⟨hm, by rw [ha]; rfl⟩)
    · rw [decide_eq_false (by omega)]
      cases e : (movesB w [84]).contains (((i : Int), (t : Int)) : Int × Int)
      · rfl
      · have := (mem_moves.1 (List.contains_iff_mem.1 e)).2
        rw [ha] at this; cases this
  · rcases hk with ⟨ha, hk⟩ | ⟨ha, hk⟩
    · rw [decide_eq_true (by omega)]
      cases e : (movesB w [70]).contains (((i : Int), (t : Int)) : Int × Int)
      · rfl
      · have := (mem_moves.1 (List.contains_iff_mem.1 e)).2
        rw [ha] at this; cases this
    · rw [decide_eq_false (by omega)]
      exact List.contains_iff_mem.2 (mem_moves.2 ⟨hm, by rw [ha]; rfl⟩)
theorem good_other {w : List UInt8} (h : goodLine w = true) : goodLine (otherL w) = true := by
  unfold goodLine at *
  simp only [Bool.and_eq_true, decide_eq_true_eq] at *
  rw [otherL_len]
  exact ⟨h.1, otherL_signs h.2⟩
theorem good_made {w : List UInt8} {i t : Nat} (h : goodLine w = true) (hm : Mv w i t) : goodLine (madeB w i t) = true := by
  unfold goodLine at *
  simp only [Bool.and_eq_true, decide_eq_true_eq] at *
  rw [madeB_length]
  refine ⟨h.1, ?_⟩
  rw [List.all_eq_true] at *
  intro x hx
  unfold madeB at hx
  rcases List.mem_or_eq_of_mem_set hx with hx | rfl
  · rcases List.mem_or_eq_of_mem_set hx with hx | rfl
    · exact h.2 x hx
    · rcases hm.2.2.2 with h | h <;> rw [h.1] <;> rfl
  · rfl
end Go.Proofs.YtoacbgjdflcceaaGreatDoor.Ab

/- THE LAW OF MOVES made. -/
namespace Go.Proofs.YtoacbgjdflcceaaGreatDoor.Ab
open Go
set_option maxRecDepth 100000
set_option maxHeartbeats 8000000

theorem c_yInV {v : AV} {L : List (Int × Int)} (hlen : L.length < 2 ^ 30) (i t : Int) {bb : Bool} (hb : L.contains (i, t) = bb) {h : AH} (hs : Slc 2 encM h v L) {post : AV → AH → Prop} (hp : ∀ h', Pre h h' → post (.bool bb) h') : S 15 [v, mvV i t] h post k := c_yIn hlen i t hs (by rw [hb]; exact hp)
theorem lp_mm {w : List UInt8} (hg : goodLine w = true) (mv : AV) {v1 v3 v5 v7 : AV} {b : AH} (s1 : Slc 2 encM b v1 (movesB w [84, 70])) (s3 : Slc 2 encM b v3 (movesB w [84])) (s5 : Slc 2 encM b v5 (movesB w [70])) (s7 : Slc 2 encM b v7 (movesB (otherL w) [84, 70])) {R : X → Env → AH → Prop}
    (hR : ∀ h', Pre b h' → R (.exit 0) [(1, mv)] h') : ∀ (rest pre : List (Int × Int)) (h : AH), movesB w [84, 70] = pre ++ rest → Pre b h →
    Cx (.loop lp372_0) [(1, mv), (5, .str w), (10, v3), (14, v5), (18, .int .i64 (wayN w : Nat)), (22, .int .i64 (pairsB w : Nat)), (34, v7), (328, v1), (329, .int .i64 (movesB w [84, 70]).length), (330, .int .i64 pre.length)] h R k k := by
  intro rest
  induction rest with
  | nil =>
    intro pre h hL hp
    have hl : (movesB w [84, 70]).length = pre.length := by rw [hL]; simp
    rw [hl]
    rw [w_loopb (c := lp372_0) (d := lb372_0) rfl]; unfold lb372_0
    simp (maxSteps := 1000000) (disch := first | omega | rfl | (simp only [zL, two63, room] <;> omega) | fail) only [↓reduceIte, ↓zP, zW, WOp, evOp, evBin, binI, binSh, binS, evNil, keyIs, keyEq, mkv, AV.cells, AV.sc, optv, bnd, env, put, Env.get, Env.set, Env.del, Env.dels, Env.init, res1, resL, resV, fillP, splice, newRow, Nat.reduceEqDiff, Nat.reduceLT, Nat.reduceLeDiff, Nat.reduceAdd, Nat.reduceMul, Nat.reduceSub, Nat.reduceBEq, reduceCtorEq, ↓zR, zQ, Tr, StA, StT]
    exact hR h hp
  | cons m rest ihr =>
    intro pre h hL hp
    have ih := ihr (pre ++ [m])
    have hgl := good_all hg
    have hbd := movesB_len w [84, 70]
    have hbd3 := movesB_len w [84]
    have hbd5 := movesB_len w [70]
    have hbd7 := movesB_len (otherL w) [84, 70]
    rw [otherL_len] at hbd7
    have hl : (movesB w [84, 70]).length = pre.length + 1 + rest.length := by rw [hL]; simp; omega
    have hmm : m ∈ movesB w [84, 70] := by rw [hL]; simp
    obtain ⟨i, t, rfl, hm⟩ := movesB_mv hmm
    have hs := s1.pre hp
    rw [hL] at hs
    obtain ⟨r1, k1, o1, hve, hr⟩ := hs.at hlM
    rw [← hL, hl] at hve
    subst hve
    rw [hl] at ih ⊢
    have hr' : rdRow h r1 k1 (o1 + pre.length * 2) 2 = some [.int .i64 i, .int .i64 t] := hr
    have hlt : (pre.length : Int) < ((pre.length + 1 + rest.length : Nat) : Int) := by omega
    have hw1 : (pre.length : Int) + 1 = ((pre ++ [((i : Int), (t : Int))]).length : Int) := by simp
    have hw2 : IntKind.i64.wrap ((pre ++ [((i : Int), (t : Int))]).length : Int) = ((pre ++ [((i : Int), (t : Int))]).length : Int) := wrap_i (by simp; omega)
    have hi := hm.1
    have ht := hm.2.1
    have hok : okG w ((i : Int), (t : Int)) = true := by
      unfold okG canB
      rw [hg]
      simp only [Bool.true_and, decide_eq_true_eq, Int.toNat_natCast]
      exact ⟨by omega, by omega, hm⟩
    have hmk : mkG w ((i : Int), (t : Int)) = madeB w i t := by unfold mkG; rw [hok]; simp
    have hjm : jmG w ((i : Int), (t : Int)) = isJ i t := by unfold jmG; rw [hok]; simp
    have hgm := good_made hg hm
    have hml := madeB_length w i t
    obtain ⟨y1, y2⟩ := made_way hm
    obtain ⟨c3, c5, c7⟩ := moves_toad hm
    obtain ⟨q, qa, qb⟩ := mvRow h i t
    have hpR : Pre b (h ++ [AO.row [AV.int .i64 i, AV.int .i64 t] 0 0 false]) := hp.trans (Pre.push _ _)
    have wL : IntKind.i64.wrap ((w.length : Int) - 1) = (w.length : Int) - 1 := wrap_i (by omega)
    have wI : IntKind.i64.wrap ((w.length : Int) - 1 - i) = (w.length : Int) - 1 - i := wrap_i (by omega)
    have wT : IntKind.i64.wrap ((w.length : Int) - 1 - t) = (w.length : Int) - 1 - t := wrap_i (by omega)
    have hgd := hgm
    have hWb : wayG w = (wayN w : Nat) := by unfold wayG; rw [if_pos hg]
    have hwn : wayN w < 2 ^ 40 := by
      have e1 := way_ps hgl.2.2
      have b3 := psB_le 84 (lastB w) 0
      have b2 := psB_le 70 w 0
      rw [lastB_len hgl.2.2] at b3
      have b5 : w.length * (0 + w.length) ≤ 12 * 12 := Nat.mul_le_mul hgl.2.1 (by omega)
      omega
    have hpn : pairsB w < 2 ^ 40 := by
      have : ∀ l : List UInt8, inv vP l ≤ l.length * l.length := by
        intro l
        induction l with
        | nil => simp [inv]
        | cons a l ih =>
          have h1 : (l.map (vP a)).sum ≤ l.length := by
            by_cases h : a = 84
            · subst h; rw [sumP84]; exact List.count_le_length
            · rw [sumPx h]; omega
          have h2 : (l.length + 1) * (l.length + 1) = l.length * l.length + l.length + l.length + 1 := by rw [Nat.succ_mul, Nat.mul_succ]; omega
          simp only [inv, List.length_cons]
          omega
      have h1 := this w
      rw [pairsB_inv]
      have b5 : w.length * w.length ≤ 12 * 12 := Nat.mul_le_mul hgl.2.1 hgl.2.1
      omega
    rw [w_loopb (c := lp372_0) (d := lb372_0) rfl]; unfold lb372_0
    simp (maxSteps := 1000000) (disch := first | omega | rfl | (simp only [zL, two63, room] <;> omega) | fail) only [↓reduceIte, ↓zP, zW, WOp, evOp, evBin, binI, binSh, binS, evNil, keyIs, keyEq, mkv, AV.cells, AV.sc, optv, bnd, env, put, Env.get, Env.set, Env.del, Env.dels, Env.init, res1, resL, resV, fillP, splice, newRow, Nat.reduceEqDiff, Nat.reduceLT, Nat.reduceLeDiff, Nat.reduceAdd, Nat.reduceMul, Nat.reduceSub, Nat.reduceBEq, reduceCtorEq, ↓zR, zQ, Tr, StA, StT, hlt, hr']
    refine c_CanMove w i t (by omega) ?_
    intro h2 hp2
    have q2 := rdRow_pre hp2 q
    simp (maxSteps := 1000000) (disch := first | omega | rfl | (simp only [zL, two63, room] <;> omega) | fail) only [↓reduceIte, ↓zP, zW, WOp, evOp, evBin, binI, binSh, binS, evNil, keyIs, keyEq, mkv, AV.cells, AV.sc, optv, bnd, env, put, Env.get, Env.set, Env.del, Env.dels, Env.init, res1, resL, resV, fillP, splice, newRow, Nat.reduceEqDiff, Nat.reduceLT, Nat.reduceLeDiff, Nat.reduceAdd, Nat.reduceMul, Nat.reduceSub, Nat.reduceBEq, reduceCtorEq, ↓zR, zQ, Tr, StA, StT, q2, hok, hg]
    refine c_MakeMove w i t (by omega) ?_
    intro h3 hp3
    have q3 := rdRow_pre hp3 q2
    simp (maxSteps := 1000000) (disch := first | omega | rfl | (simp only [zL, two63, room] <;> omega) | fail) only [↓reduceIte, ↓zP, zW, WOp, evOp, evBin, binI, binSh, binS, evNil, keyIs, keyEq, mkv, AV.cells, AV.sc, optv, bnd, env, put, Env.get, Env.set, Env.del, Env.dels, Env.init, res1, resL, resV, fillP, splice, newRow, Nat.reduceEqDiff, Nat.reduceLT, Nat.reduceLeDiff, Nat.reduceAdd, Nat.reduceMul, Nat.reduceSub, Nat.reduceBEq, reduceCtorEq, ↓zR, zQ, Tr, StA, StT, q3, hok, hmk]
    refine c_IsJump w i t (by omega) ?_
    intro h4 hp4
    have hp34 := (hp2.trans hp3).trans hp4
    have q4 := rdRow_pre hp4 q3
    have q4a := rdRow_pre hp34 qa
    have q4b := rdRow_pre hp34 qb
    have hb4 := hpR.trans hp34
    have fin : ∀ h', Pre h4 h' → Cx (.loop lp372_0) [(1, mv), (5, .str w), (10, v3), (14, v5), (18, .int .i64 (wayN w : Nat)), (22, .int .i64 (pairsB w : Nat)), (34, v7), (328, .slice r1 k1 o1 (pre.length + 1 + rest.length) 2), (329, .int .i64 ((pre.length + 1 + rest.length : Nat) : Int)), (330, .int .i64 (pre ++ [((i : Int), (t : Int))]).length)] h' R k k := by
      intro h' hp'
      exact ih h' (by rw [hL]; simp) (hb4.trans hp')
    cases ed : decide ((t : Int) > i)
    all_goals
      rw [ed] at c3 c5
      have edp := ed
      simp only [decide_eq_false_iff_not, decide_eq_true_eq] at edp
      cases ej : isJ i t
      all_goals
        simp only [ej, if_true, if_false, Bool.false_eq_true] at y1 y2
        have hway : wayG (madeB w i t) = (wayN (madeB w i t) : Nat) := by unfold wayG; rw [if_pos hgm]
        have hpair : pairsG (madeB w i t) = (pairsB (madeB w i t) : Nat) := by unfold pairsG; rw [if_pos hgm]
        have wW1 : IntKind.i64.wrap (((wayN w : Nat) : Int) - 1) = ((wayN w : Nat) : Int) - 1 := wrap_i (by omega)
        have wW2 : IntKind.i64.wrap (((wayN w : Nat) : Int) - 2) = ((wayN w : Nat) : Int) - 2 := wrap_i (by omega)
        have wP0 : IntKind.i64.wrap (((pairsB w : Nat) : Int) - 0) = ((pairsB w : Nat) : Int) := by rw [Int.sub_zero]; exact wrap_i (by omega)
        have wP0' : IntKind.i64.wrap ((pairsB w : Nat) : Int) = ((pairsB w : Nat) : Int) := wrap_i (by omega)
        have wP1 : IntKind.i64.wrap (((pairsB w : Nat) : Int) - 1) = ((pairsB w : Nat) : Int) - 1 := wrap_i (by omega)
        simp (maxSteps := 1000000) (disch := first | omega | rfl | (simp only [zL, two63, room] <;> omega) | fail) only [↓reduceIte, ↓zP, zW, WOp, evOp, evBin, binI, binSh, binS, evNil, keyIs, keyEq, mkv, AV.cells, AV.sc, optv, bnd, env, put, Env.get, Env.set, Env.del, Env.dels, Env.init, res1, resL, resV, fillP, splice, newRow, Nat.reduceEqDiff, Nat.reduceLT, Nat.reduceLeDiff, Nat.reduceAdd, Nat.reduceMul, Nat.reduceSub, Nat.reduceBEq, reduceCtorEq, ↓zR, zQ, Tr, StA, StT, hok, hjm, ej, e_WayToGo (madeB w i t) (by omega), e_PairsToPass (madeB w i t) (by omega), hgm, hway, hpair]
        try refine w_drw ?_
        simp (maxSteps := 1000000) (disch := first | omega | rfl | (simp only [zL, two63, room] <;> omega) | fail) only [↓reduceIte, ↓zP, zW, WOp, evOp, evBin, binI, binSh, binS, evNil, keyIs, keyEq, mkv, AV.cells, AV.sc, optv, bnd, env, put, Env.get, Env.set, Env.del, Env.dels, Env.init, res1, resL, resV, fillP, splice, newRow, Nat.reduceEqDiff, Nat.reduceLT, Nat.reduceLeDiff, Nat.reduceAdd, Nat.reduceMul, Nat.reduceSub, Nat.reduceBEq, reduceCtorEq, ↓zR, zQ, Tr, StA, StT, q4, q4a, q4b, wW1, wW2, wP0, wP0', wP1]
        refine c_yInV (by omega) i t c3 (s3.pre hb4) ?_
        intro h5 hp5
        have q5 := rdRow_pre hp5 q4
        have q5a := rdRow_pre hp5 q4a
        have q5b := rdRow_pre hp5 q4b
        simp (maxSteps := 1000000) (disch := first | omega | rfl | (simp only [zL, two63, room] <;> omega) | fail) only [↓reduceIte, ↓zP, zW, WOp, evOp, evBin, binI, binSh, binS, evNil, keyIs, keyEq, mkv, AV.cells, AV.sc, optv, bnd, env, put, Env.get, Env.set, Env.del, Env.dels, Env.init, res1, resL, resV, fillP, splice, newRow, Nat.reduceEqDiff, Nat.reduceLT, Nat.reduceLeDiff, Nat.reduceAdd, Nat.reduceMul, Nat.reduceSub, Nat.reduceBEq, reduceCtorEq, ↓zR, zQ, Tr, StA, StT, q5, q5a, q5b]
        refine c_yInV (by omega) i t c5 (s5.pre (hb4.trans hp5)) ?_
        intro h6 hp6
        have q6 := rdRow_pre hp6 q5
        have q6a := rdRow_pre hp6 q5a
        have q6b := rdRow_pre hp6 q5b
        have h56 := hp5.trans hp6
        simp (maxSteps := 1000000) (disch := first | omega | rfl | (simp only [zL, two63, room] <;> omega) | fail) only [↓reduceIte, ↓zP, zW, WOp, evOp, evBin, binI, binSh, binS, evNil, keyIs, keyEq, mkv, AV.cells, AV.sc, optv, bnd, env, put, Env.get, Env.set, Env.del, Env.dels, Env.init, res1, resL, resV, fillP, splice, newRow, Nat.reduceEqDiff, Nat.reduceLT, Nat.reduceLeDiff, Nat.reduceAdd, Nat.reduceMul, Nat.reduceSub, Nat.reduceBEq, reduceCtorEq, ↓zR, zQ, Tr, StA, StT, q6, q6a, q6b]
        refine c_yInV (by omega) i t c3 (s3.pre (hb4.trans h56)) ?_
        intro h7 hp7
        have q7 := rdRow_pre hp7 q6
        have q7a := rdRow_pre hp7 q6a
        have q7b := rdRow_pre hp7 q6b
        simp (maxSteps := 1000000) (disch := first | omega | rfl | (simp only [zL, two63, room] <;> omega) | fail) only [↓reduceIte, ↓zP, zW, WOp, evOp, evBin, binI, binSh, binS, evNil, keyIs, keyEq, mkv, AV.cells, AV.sc, optv, bnd, env, put, Env.get, Env.set, Env.del, Env.dels, Env.init, res1, resL, resV, fillP, splice, newRow, Nat.reduceEqDiff, Nat.reduceLT, Nat.reduceLeDiff, Nat.reduceAdd, Nat.reduceMul, Nat.reduceSub, Nat.reduceBEq, reduceCtorEq, ↓zR, zQ, Tr, StA, StT, q7, q7a, q7b, edp, wL, wI, wT]
        refine c_yInV (by omega) ((w.length : Int) - 1 - i) ((w.length : Int) - 1 - t) c7 (s7.pre (hb4.trans (h56.trans hp7))) ?_
        intro h8 hp8
        simp (maxSteps := 1000000) (disch := first | omega | rfl | (simp only [zL, two63, room] <;> omega) | fail) only [↓reduceIte, ↓zP, zW, WOp, evOp, evBin, binI, binSh, binS, evNil, keyIs, keyEq, mkv, AV.cells, AV.sc, optv, bnd, env, put, Env.get, Env.set, Env.del, Env.dels, Env.init, res1, resL, resV, fillP, splice, newRow, Nat.reduceEqDiff, Nat.reduceLT, Nat.reduceLeDiff, Nat.reduceAdd, Nat.reduceMul, Nat.reduceSub, Nat.reduceBEq, reduceCtorEq, ↓zR, zQ, Tr, StA, StT, q4, q4a, q4b, q5, q5a, q5b, q6, q6a, q6b, q7, q7a, q7b, hw1, hw2]
        rw [w_loopn (c := lp372_0) rfl]
        simp (maxSteps := 1000000) (disch := first | omega | rfl | (simp only [zL, two63, room] <;> omega) | fail) only [↓reduceIte, ↓zP, zW, WOp, evOp, evBin, binI, binSh, binS, evNil, keyIs, keyEq, mkv, AV.cells, AV.sc, optv, bnd, env, put, Env.get, Env.set, Env.del, Env.dels, Env.init, res1, resL, resV, fillP, splice, newRow, Nat.reduceEqDiff, Nat.reduceLT, Nat.reduceLeDiff, Nat.reduceAdd, Nat.reduceMul, Nat.reduceSub, Nat.reduceBEq, reduceCtorEq, ↓zR, zQ, Tr, StA, StT]
        exact fin h8 (h56.trans (hp7.trans hp8))
end Go.Proofs.YtoacbgjdflcceaaGreatDoor.Ab

/- THE LAW OF MOVES made: for all bytes. -/
namespace Go.Proofs.YtoacbgjdflcceaaGreatDoor.Ab
open Go
set_option maxRecDepth 100000
set_option maxHeartbeats 16000000

/-- The part behind all comparisons of the first half. -/
theorem mm_facts {w : List UInt8} (hg : goodLine w = true) : othG w = otherL w ∧ goodLine (otherL w) = true ∧ othG (otherL w) = w ∧ wayG (otherL w) = wayG w ∧ wayG w = (wayN w : Nat) ∧ pairsG w = (pairsB w : Nat) ∧
    mvG [84, 70] w = movesB w [84, 70] ∧ mvG [84] w = movesB w [84] ∧ mvG [70] w = movesB w [70] ∧ mvG [84, 70] (otherL w) = movesB (otherL w) [84, 70] ∧ blkG w = (movesB w [84, 70]).isEmpty := by
  have ho := good_other hg
  refine ⟨by unfold othG; rw [if_pos hg], ho, by unfold othG; rw [if_pos ho, other_two], by unfold wayG; rw [if_pos ho, if_pos hg, way_other], by unfold wayG; rw [if_pos hg], by unfold pairsG; rw [if_pos hg], ?_, ?_, ?_, ?_, ?_⟩
  · unfold mvG; rw [if_pos hg]
  · unfold mvG; rw [if_pos hg]
  · unfold mvG; rw [if_pos hg]
  · unfold mvG; rw [if_pos ho]
  · unfold blkG; rw [hg]; rfl
theorem mvG_len (kd : List UInt8) (w : List UInt8) : (mvG kd w).length ≤ w.length := by
  unfold mvG; split
  · exact movesB_len _ _
  · simp
theorem law_MovesMade_of {cv mv : AV} {cs ms : List UInt8} {h : AH} (hs : Slc 1 encU h cv cs) (ht : Slc 1 encU h mv ms) {post : AV → AH → Prop} (hp : ∀ h', post (.bool true) h') : S 372 [cv, mv] h post k := by
  refine S_of rfl T372 ?_; unfold fi372
  simp (maxSteps := 1000000) (disch := first | omega | rfl | (simp only [zL, two63, room] <;> omega) | fail) only [↓reduceIte, ↓zP, zW, WOp, evOp, evBin, binI, binSh, binS, evNil, keyIs, keyEq, mkv, AV.cells, AV.sc, optv, bnd, env, put, Env.get, Env.set, Env.del, Env.dels, Env.init, res1, resL, resV, fillP, splice, newRow, Nat.reduceEqDiff, Nat.reduceLT, Nat.reduceLeDiff, Nat.reduceAdd, Nat.reduceMul, Nat.reduceSub, Nat.reduceBEq, reduceCtorEq, ↓zR, zQ, Tr, StA, StT]
  refine c_big hs ht ?_
  intro bg hbg
  cases bg
  case true =>
    simp (maxSteps := 1000000) (disch := first | omega | rfl | (simp only [zL, two63, room] <;> omega) | fail) only [↓reduceIte, ↓zP, zW, WOp, evOp, evBin, binI, binSh, binS, evNil, keyIs, keyEq, mkv, AV.cells, AV.sc, optv, bnd, env, put, Env.get, Env.set, Env.del, Env.dels, Env.init, res1, resL, resV, fillP, splice, newRow, Nat.reduceEqDiff, Nat.reduceLT, Nat.reduceLeDiff, Nat.reduceAdd, Nat.reduceMul, Nat.reduceSub, Nat.reduceBEq, reduceCtorEq, ↓zR, zQ, Tr, StA, StT]
    exact hp h
  obtain ⟨hl1, hl2⟩ := hbg rfl
  clear hbg
  simp (maxSteps := 1000000) (disch := first | omega | rfl | (simp only [zL, two63, room] <;> omega) | fail) only [↓reduceIte, ↓zP, zW, WOp, evOp, evBin, binI, binSh, binS, evNil, keyIs, keyEq, mkv, AV.cells, AV.sc, optv, bnd, env, put, Env.get, Env.set, Env.del, Env.dels, Env.init, res1, resL, resV, fillP, splice, newRow, Nat.reduceEqDiff, Nat.reduceLT, Nat.reduceLeDiff, Nat.reduceAdd, Nat.reduceMul, Nat.reduceSub, Nat.reduceBEq, reduceCtorEq, ↓zR, zQ, Tr, StA, StT]
  refine c_DrawMovesOf hs (by omega) ?_
  intro w h1 hw hp1
  simp (maxSteps := 1000000) (disch := first | omega | rfl | (simp only [zL, two63, room] <;> omega) | fail) only [↓reduceIte, ↓zP, zW, WOp, evOp, evBin, binI, binSh, binS, evNil, keyIs, keyEq, mkv, AV.cells, AV.sc, optv, bnd, env, put, Env.get, Env.set, Env.del, Env.dels, Env.init, res1, resL, resV, fillP, splice, newRow, Nat.reduceEqDiff, Nat.reduceLT, Nat.reduceLeDiff, Nat.reduceAdd, Nat.reduceMul, Nat.reduceSub, Nat.reduceBEq, reduceCtorEq, ↓zR, zQ, Tr, StA, StT]
  refine c_MovesOf w (by omega) ?_
  intro v1 h2 o1 hp2
  simp (maxSteps := 1000000) (disch := first | omega | rfl | (simp only [zL, two63, room] <;> omega) | fail) only [↓reduceIte, ↓zP, zW, WOp, evOp, evBin, binI, binSh, binS, evNil, keyIs, keyEq, mkv, AV.cells, AV.sc, optv, bnd, env, put, Env.get, Env.set, Env.del, Env.dels, Env.init, res1, resL, resV, fillP, splice, newRow, Nat.reduceEqDiff, Nat.reduceLT, Nat.reduceLeDiff, Nat.reduceAdd, Nat.reduceMul, Nat.reduceSub, Nat.reduceBEq, reduceCtorEq, ↓zR, zQ, Tr, StA, StT]
  refine c_sMovesOf w (by omega) ?_
  intro v2 h3 o2 hp3
  simp (maxSteps := 1000000) (disch := first | omega | rfl | (simp only [zL, two63, room] <;> omega) | fail) only [↓reduceIte, ↓zP, zW, WOp, evOp, evBin, binI, binSh, binS, evNil, keyIs, keyEq, mkv, AV.cells, AV.sc, optv, bnd, env, put, Env.get, Env.set, Env.del, Env.dels, Env.init, res1, resL, resV, fillP, splice, newRow, Nat.reduceEqDiff, Nat.reduceLT, Nat.reduceLeDiff, Nat.reduceAdd, Nat.reduceMul, Nat.reduceSub, Nat.reduceBEq, reduceCtorEq, ↓zR, zQ, Tr, StA, StT]
  refine c_ToadMoves w (by omega) ?_
  intro v3 h4 o3 hp4
  simp (maxSteps := 1000000) (disch := first | omega | rfl | (simp only [zL, two63, room] <;> omega) | fail) only [↓reduceIte, ↓zP, zW, WOp, evOp, evBin, binI, binSh, binS, evNil, keyIs, keyEq, mkv, AV.cells, AV.sc, optv, bnd, env, put, Env.get, Env.set, Env.del, Env.dels, Env.init, res1, resL, resV, fillP, splice, newRow, Nat.reduceEqDiff, Nat.reduceLT, Nat.reduceLeDiff, Nat.reduceAdd, Nat.reduceMul, Nat.reduceSub, Nat.reduceBEq, reduceCtorEq, ↓zR, zQ, Tr, StA, StT]
  refine c_sToadMoves w (by omega) ?_
  intro v4 h5 o4 hp5
  simp (maxSteps := 1000000) (disch := first | omega | rfl | (simp only [zL, two63, room] <;> omega) | fail) only [↓reduceIte, ↓zP, zW, WOp, evOp, evBin, binI, binSh, binS, evNil, keyIs, keyEq, mkv, AV.cells, AV.sc, optv, bnd, env, put, Env.get, Env.set, Env.del, Env.dels, Env.init, res1, resL, resV, fillP, splice, newRow, Nat.reduceEqDiff, Nat.reduceLT, Nat.reduceLeDiff, Nat.reduceAdd, Nat.reduceMul, Nat.reduceSub, Nat.reduceBEq, reduceCtorEq, ↓zR, zQ, Tr, StA, StT]
  refine c_FrogMoves w (by omega) ?_
  intro v5 h6 o5 hp6
  simp (maxSteps := 1000000) (disch := first | omega | rfl | (simp only [zL, two63, room] <;> omega) | fail) only [↓reduceIte, ↓zP, zW, WOp, evOp, evBin, binI, binSh, binS, evNil, keyIs, keyEq, mkv, AV.cells, AV.sc, optv, bnd, env, put, Env.get, Env.set, Env.del, Env.dels, Env.init, res1, resL, resV, fillP, splice, newRow, Nat.reduceEqDiff, Nat.reduceLT, Nat.reduceLeDiff, Nat.reduceAdd, Nat.reduceMul, Nat.reduceSub, Nat.reduceBEq, reduceCtorEq, ↓zR, zQ, Tr, StA, StT]
  refine c_sFrogMoves w (by omega) ?_
  intro v6 h7 o6 hp7
  simp (maxSteps := 1000000) (disch := first | omega | rfl | (simp only [zL, two63, room] <;> omega) | fail) only [↓reduceIte, ↓zP, zW, WOp, evOp, evBin, binI, binSh, binS, evNil, keyIs, keyEq, mkv, AV.cells, AV.sc, optv, bnd, env, put, Env.get, Env.set, Env.del, Env.dels, Env.init, res1, resL, resV, fillP, splice, newRow, Nat.reduceEqDiff, Nat.reduceLT, Nat.reduceLeDiff, Nat.reduceAdd, Nat.reduceMul, Nat.reduceSub, Nat.reduceBEq, reduceCtorEq, ↓zR, zQ, Tr, StA, StT, e_WayToGo w (by omega), e_sWayToGo w (by omega), e_PairsToPass w (by omega), e_sPairsToPass w (by omega)]
  refine c_IsBlocked w (by omega) ?_
  intro h8 hp8
  simp (maxSteps := 1000000) (disch := first | omega | rfl | (simp only [zL, two63, room] <;> omega) | fail) only [↓reduceIte, ↓zP, zW, WOp, evOp, evBin, binI, binSh, binS, evNil, keyIs, keyEq, mkv, AV.cells, AV.sc, optv, bnd, env, put, Env.get, Env.set, Env.del, Env.dels, Env.init, res1, resL, resV, fillP, splice, newRow, Nat.reduceEqDiff, Nat.reduceLT, Nat.reduceLeDiff, Nat.reduceAdd, Nat.reduceMul, Nat.reduceSub, Nat.reduceBEq, reduceCtorEq, ↓zR, zQ, Tr, StA, StT]
  refine c_sIsBlocked w (by omega) ?_
  intro h9 hp9
  simp (maxSteps := 1000000) (disch := first | omega | rfl | (simp only [zL, two63, room] <;> omega) | fail) only [↓reduceIte, ↓zP, zW, WOp, evOp, evBin, binI, binSh, binS, evNil, keyIs, keyEq, mkv, AV.cells, AV.sc, optv, bnd, env, put, Env.get, Env.set, Env.del, Env.dels, Env.init, res1, resL, resV, fillP, splice, newRow, Nat.reduceEqDiff, Nat.reduceLT, Nat.reduceLeDiff, Nat.reduceAdd, Nat.reduceMul, Nat.reduceSub, Nat.reduceBEq, reduceCtorEq, ↓zR, zQ, Tr, StA, StT]
  refine c_OtherLine w (by omega) ?_
  intro hA hpA
  have p78 := (hp8.trans hp9).trans hpA
  have s1 := o1.slc.pre ((hp3.trans (hp4.trans (hp5.trans (hp6.trans hp7)))).trans p78)
  have s2 := o2.slc.pre ((hp4.trans (hp5.trans (hp6.trans hp7))).trans p78)
  have s3 := o3.slc.pre ((hp5.trans (hp6.trans hp7)).trans p78)
  have s4 := o4.slc.pre ((hp6.trans hp7).trans p78)
  have s5 := o5.slc.pre (hp7.trans p78)
  have s6 := o6.slc.pre p78
  have ht2 := ht.pre ((hp1.trans (hp2.trans (hp3.trans (hp4.trans (hp5.trans (hp6.trans hp7)))))).trans p78)
  clear o1 o2 o3 o4 o5 o6 hs ht hp1 hp2 hp3 hp4 hp5 hp6 hp7 hp8 hp9 hpA p78
  have b1 := mvG_len [84, 70] w
  have b3 := mvG_len [84] w
  have b5 := mvG_len [70] w
  simp (maxSteps := 1000000) (disch := first | omega | rfl | (simp only [zL, two63, room] <;> omega) | fail) only [↓reduceIte, ↓zP, zW, WOp, evOp, evBin, binI, binSh, binS, evNil, keyIs, keyEq, mkv, AV.cells, AV.sc, optv, bnd, env, put, Env.get, Env.set, Env.del, Env.dels, Env.init, res1, resL, resV, fillP, splice, newRow, Nat.reduceEqDiff, Nat.reduceLT, Nat.reduceLeDiff, Nat.reduceAdd, Nat.reduceMul, Nat.reduceSub, Nat.reduceBEq, reduceCtorEq, ↓zR, zQ, Tr, StA, StT, e_sOtherLine w (by omega)]
  refine c_yMoves (by omega) s1 s2 ?_
  simp (maxSteps := 1000000) (disch := first | omega | rfl | (simp only [zL, two63, room] <;> omega) | fail) only [↓reduceIte, ↓zP, zW, WOp, evOp, evBin, binI, binSh, binS, evNil, keyIs, keyEq, mkv, AV.cells, AV.sc, optv, bnd, env, put, Env.get, Env.set, Env.del, Env.dels, Env.init, res1, resL, resV, fillP, splice, newRow, Nat.reduceEqDiff, Nat.reduceLT, Nat.reduceLeDiff, Nat.reduceAdd, Nat.reduceMul, Nat.reduceSub, Nat.reduceBEq, reduceCtorEq, ↓zR, zQ, Tr, StA, StT]
  refine c_yMoves (by omega) s3 s4 ?_
  simp (maxSteps := 1000000) (disch := first | omega | rfl | (simp only [zL, two63, room] <;> omega) | fail) only [↓reduceIte, ↓zP, zW, WOp, evOp, evBin, binI, binSh, binS, evNil, keyIs, keyEq, mkv, AV.cells, AV.sc, optv, bnd, env, put, Env.get, Env.set, Env.del, Env.dels, Env.init, res1, resL, resV, fillP, splice, newRow, Nat.reduceEqDiff, Nat.reduceLT, Nat.reduceLeDiff, Nat.reduceAdd, Nat.reduceMul, Nat.reduceSub, Nat.reduceBEq, reduceCtorEq, ↓zR, zQ, Tr, StA, StT]
  refine c_yMoves (by omega) s5 s6 ?_
  cases hg : goodLine w
  · simp (maxSteps := 1000000) (disch := first | omega | rfl | (simp only [zL, two63, room] <;> omega) | fail) only [↓reduceIte, ↓zP, zW, WOp, evOp, evBin, binI, binSh, binS, evNil, keyIs, keyEq, mkv, AV.cells, AV.sc, optv, bnd, env, put, Env.get, Env.set, Env.del, Env.dels, Env.init, res1, resL, resV, fillP, splice, newRow, Nat.reduceEqDiff, Nat.reduceLT, Nat.reduceLeDiff, Nat.reduceAdd, Nat.reduceMul, Nat.reduceSub, Nat.reduceBEq, reduceCtorEq, ↓zR, zQ, Tr, StA, StT, e_IsLine w (by omega), e_sIsLine w (by omega), hg]
    refine c_DrawMakeMove (ht2.pre (Pre.refl hA)) (by omega) ?_
    intro u i t g hu _
    obtain ⟨q, -, -⟩ := mvRow g i t
    simp (maxSteps := 1000000) (disch := first | omega | rfl | (simp only [zL, two63, room] <;> omega) | fail) only [↓reduceIte, ↓zP, zW, WOp, evOp, evBin, binI, binSh, binS, evNil, keyIs, keyEq, mkv, AV.cells, AV.sc, optv, bnd, env, put, Env.get, Env.set, Env.del, Env.dels, Env.init, res1, resL, resV, fillP, splice, newRow, Nat.reduceEqDiff, Nat.reduceLT, Nat.reduceLeDiff, Nat.reduceAdd, Nat.reduceMul, Nat.reduceSub, Nat.reduceBEq, reduceCtorEq, ↓zR, zQ, Tr, StA, StT]
    refine c_MakeMove u i t (by omega) ?_
    intro g1 p1
    have q1 := rdRow_pre p1 q
    simp (maxSteps := 1000000) (disch := first | omega | rfl | (simp only [zL, two63, room] <;> omega) | fail) only [↓reduceIte, ↓zP, zW, WOp, evOp, evBin, binI, binSh, binS, evNil, keyIs, keyEq, mkv, AV.cells, AV.sc, optv, bnd, env, put, Env.get, Env.set, Env.del, Env.dels, Env.init, res1, resL, resV, fillP, splice, newRow, Nat.reduceEqDiff, Nat.reduceLT, Nat.reduceLeDiff, Nat.reduceAdd, Nat.reduceMul, Nat.reduceSub, Nat.reduceBEq, reduceCtorEq, ↓zR, zQ, Tr, StA, StT, q1]
    refine c_sMakeMove u i t (by omega) ?_
    intro g2 p2
    have q2 := rdRow_pre p2 q1
    simp (maxSteps := 1000000) (disch := first | omega | rfl | (simp only [zL, two63, room] <;> omega) | fail) only [↓reduceIte, ↓zP, zW, WOp, evOp, evBin, binI, binSh, binS, evNil, keyIs, keyEq, mkv, AV.cells, AV.sc, optv, bnd, env, put, Env.get, Env.set, Env.del, Env.dels, Env.init, res1, resL, resV, fillP, splice, newRow, Nat.reduceEqDiff, Nat.reduceLT, Nat.reduceLeDiff, Nat.reduceAdd, Nat.reduceMul, Nat.reduceSub, Nat.reduceBEq, reduceCtorEq, ↓zR, zQ, Tr, StA, StT, q2]
    refine c_CanMove u i t (by omega) ?_
    intro g3 p3
    have q3 := rdRow_pre p3 q2
    simp (maxSteps := 1000000) (disch := first | omega | rfl | (simp only [zL, two63, room] <;> omega) | fail) only [↓reduceIte, ↓zP, zW, WOp, evOp, evBin, binI, binSh, binS, evNil, keyIs, keyEq, mkv, AV.cells, AV.sc, optv, bnd, env, put, Env.get, Env.set, Env.del, Env.dels, Env.init, res1, resL, resV, fillP, splice, newRow, Nat.reduceEqDiff, Nat.reduceLT, Nat.reduceLeDiff, Nat.reduceAdd, Nat.reduceMul, Nat.reduceSub, Nat.reduceBEq, reduceCtorEq, ↓zR, zQ, Tr, StA, StT, q3]
    refine c_sCanMove u i t (by omega) ?_
    intro g4 p4
    have q4 := rdRow_pre p4 q3
    simp (maxSteps := 1000000) (disch := first | omega | rfl | (simp only [zL, two63, room] <;> omega) | fail) only [↓reduceIte, ↓zP, zW, WOp, evOp, evBin, binI, binSh, binS, evNil, keyIs, keyEq, mkv, AV.cells, AV.sc, optv, bnd, env, put, Env.get, Env.set, Env.del, Env.dels, Env.init, res1, resL, resV, fillP, splice, newRow, Nat.reduceEqDiff, Nat.reduceLT, Nat.reduceLeDiff, Nat.reduceAdd, Nat.reduceMul, Nat.reduceSub, Nat.reduceBEq, reduceCtorEq, ↓zR, zQ, Tr, StA, StT, q4]
    refine c_IsJump u i t (by omega) ?_
    intro g5 p5
    have q5 := rdRow_pre p5 q4
    simp (maxSteps := 1000000) (disch := first | omega | rfl | (simp only [zL, two63, room] <;> omega) | fail) only [↓reduceIte, ↓zP, zW, WOp, evOp, evBin, binI, binSh, binS, evNil, keyIs, keyEq, mkv, AV.cells, AV.sc, optv, bnd, env, put, Env.get, Env.set, Env.del, Env.dels, Env.init, res1, resL, resV, fillP, splice, newRow, Nat.reduceEqDiff, Nat.reduceLT, Nat.reduceLeDiff, Nat.reduceAdd, Nat.reduceMul, Nat.reduceSub, Nat.reduceBEq, reduceCtorEq, ↓zR, zQ, Tr, StA, StT, q5]
    refine c_sIsJump u i t (by omega) ?_
    intro g6 p6
    cases eg : goodLine u
    · have ek : okG u (i, t) = false := by unfold okG; rw [eg]; rfl
      simp (maxSteps := 1000000) (disch := first | omega | rfl | (simp only [zL, two63, room] <;> omega) | fail) only [↓reduceIte, ↓zP, zW, WOp, evOp, evBin, binI, binSh, binS, evNil, keyIs, keyEq, mkv, AV.cells, AV.sc, optv, bnd, env, put, Env.get, Env.set, Env.del, Env.dels, Env.init, res1, resL, resV, fillP, splice, newRow, Nat.reduceEqDiff, Nat.reduceLT, Nat.reduceLeDiff, Nat.reduceAdd, Nat.reduceMul, Nat.reduceSub, Nat.reduceBEq, reduceCtorEq, ↓zR, zQ, Tr, StA, StT, eg, ek]
      exact hp _
    · cases ek : okG u (i, t)
      · simp (maxSteps := 1000000) (disch := first | omega | rfl | (simp only [zL, two63, room] <;> omega) | fail) only [↓reduceIte, ↓zP, zW, WOp, evOp, evBin, binI, binSh, binS, evNil, keyIs, keyEq, mkv, AV.cells, AV.sc, optv, bnd, env, put, Env.get, Env.set, Env.del, Env.dels, Env.init, res1, resL, resV, fillP, splice, newRow, Nat.reduceEqDiff, Nat.reduceLT, Nat.reduceLeDiff, Nat.reduceAdd, Nat.reduceMul, Nat.reduceSub, Nat.reduceBEq, reduceCtorEq, ↓zR, zQ, Tr, StA, StT, eg, ek]
        exact hp _
      · simp (maxSteps := 1000000) (disch := first | omega | rfl | (simp only [zL, two63, room] <;> omega) | fail) only [↓reduceIte, ↓zP, zW, WOp, evOp, evBin, binI, binSh, binS, evNil, keyIs, keyEq, mkv, AV.cells, AV.sc, optv, bnd, env, put, Env.get, Env.set, Env.del, Env.dels, Env.init, res1, resL, resV, fillP, splice, newRow, Nat.reduceEqDiff, Nat.reduceLT, Nat.reduceLeDiff, Nat.reduceAdd, Nat.reduceMul, Nat.reduceSub, Nat.reduceBEq, reduceCtorEq, ↓zR, zQ, Tr, StA, StT, eg, ek]
        exact hp _
  · obtain ⟨f1, f2, f3, f4, f5, f6, f7, f8, f9, fA, fB⟩ := mm_facts hg
    have hgl := good_all hg
    have hol := otherL_len w
    rw [f7] at s1 s2 b1
    rw [f8] at s3 s4 b3
    rw [f9] at s5 s6 b5
    have hsp := moves_split w
    have hlb := len_beq (movesB w [84, 70])
    have hol2 := moves_other_len w
    have hsum : IntKind.i64.wrap (((movesB w [84]).length : Int) + ((movesB w [70]).length : Int)) = ((movesB w [84, 70]).length : Int) := by
      rw [hsp]; rw [wrap_i (by omega)]; omega
    have n1 : ¬ (((wayN w : Nat) : Int) < 0) := by omega
    have n2 : ¬ (((pairsB w : Nat) : Int) < 0) := by omega
    have l1 := fun g => Slc.lenV (s1) (g := g) (ρ := fun _ => _) (x := .t 0) rfl; simp only [evOp] at l1
    have l3 := fun g => Slc.lenV (s3) (g := g) (ρ := fun _ => _) (x := .t 0) rfl; simp only [evOp] at l3
    have l5 := fun g => Slc.lenV (s5) (g := g) (ρ := fun _ => _) (x := .t 0) rfl; simp only [evOp] at l5
    simp (maxSteps := 1000000) (disch := first | omega | rfl | (simp only [zL, two63, room] <;> omega) | fail) only [↓reduceIte, ↓zP, zW, WOp, evOp, evBin, binI, binSh, binS, evNil, keyIs, keyEq, mkv, AV.cells, AV.sc, optv, bnd, env, put, Env.get, Env.set, Env.del, Env.dels, Env.init, res1, resL, resV, fillP, splice, newRow, Nat.reduceEqDiff, Nat.reduceLT, Nat.reduceLeDiff, Nat.reduceAdd, Nat.reduceMul, Nat.reduceSub, Nat.reduceBEq, reduceCtorEq, ↓zR, zQ, Tr, StA, StT, e_IsLine w (by omega), e_sIsLine w (by omega), hg, f1, f5, f6, fB, l1, l3, l5, hsum, hlb, n1, n2]
    refine c_yOrder (by omega) s1 (moves_sorted _ _) ?_
    simp (maxSteps := 1000000) (disch := first | omega | rfl | (simp only [zL, two63, room] <;> omega) | fail) only [↓reduceIte, ↓zP, zW, WOp, evOp, evBin, binI, binSh, binS, evNil, keyIs, keyEq, mkv, AV.cells, AV.sc, optv, bnd, env, put, Env.get, Env.set, Env.del, Env.dels, Env.init, res1, resL, resV, fillP, splice, newRow, Nat.reduceEqDiff, Nat.reduceLT, Nat.reduceLeDiff, Nat.reduceAdd, Nat.reduceMul, Nat.reduceSub, Nat.reduceBEq, reduceCtorEq, ↓zR, zQ, Tr, StA, StT, f5, f6, n1, n2]
    refine c_MovesOf (otherL w) (by omega) ?_
    intro v7 hB o7 hpB
    have s7 := o7.slc
    rw [fA] at s7
    simp (maxSteps := 1000000) (disch := first | omega | rfl | (simp only [zL, two63, room] <;> omega) | fail) only [↓reduceIte, ↓zP, zW, WOp, evOp, evBin, binI, binSh, binS, evNil, keyIs, keyEq, mkv, AV.cells, AV.sc, optv, bnd, env, put, Env.get, Env.set, Env.del, Env.dels, Env.init, res1, resL, resV, fillP, splice, newRow, Nat.reduceEqDiff, Nat.reduceLT, Nat.reduceLeDiff, Nat.reduceAdd, Nat.reduceMul, Nat.reduceSub, Nat.reduceBEq, reduceCtorEq, ↓zR, zQ, Tr, StA, StT, f2]
    refine c_OtherLine (otherL w) (by omega) ?_
    intro hC hpC
    have s7' := s7.pre hpC
    have l7 := fun g => Slc.lenV (s7') (g := g) (ρ := fun _ => _) (x := .t 0) rfl; simp only [evOp] at l7
    have hAC := hpB.trans hpC
    simp (maxSteps := 1000000) (disch := first | omega | rfl | (simp only [zL, two63, room] <;> omega) | fail) only [↓reduceIte, ↓zP, zW, WOp, evOp, evBin, binI, binSh, binS, evNil, keyIs, keyEq, mkv, AV.cells, AV.sc, optv, bnd, env, put, Env.get, Env.set, Env.del, Env.dels, Env.init, res1, resL, resV, fillP, splice, newRow, Nat.reduceEqDiff, Nat.reduceLT, Nat.reduceLeDiff, Nat.reduceAdd, Nat.reduceMul, Nat.reduceSub, Nat.reduceBEq, reduceCtorEq, ↓zR, zQ, Tr, StA, StT, f2, f3, e_WayToGo (otherL w) (by omega), f4, f5, l7, l1, hol2]
    refine lp_mm hg mv (s1.pre hAC) (s3.pre hAC) (s5.pre hAC) s7' ?_ (movesB w [84, 70]) [] hC rfl (Pre.refl _)
    intro hD hpD
    simp (maxSteps := 1000000) (disch := first | omega | rfl | (simp only [zL, two63, room] <;> omega) | fail) only [↓reduceIte, ↓zP, zW, WOp, evOp, evBin, binI, binSh, binS, evNil, keyIs, keyEq, mkv, AV.cells, AV.sc, optv, bnd, env, put, Env.get, Env.set, Env.del, Env.dels, Env.init, res1, resL, resV, fillP, splice, newRow, Nat.reduceEqDiff, Nat.reduceLT, Nat.reduceLeDiff, Nat.reduceAdd, Nat.reduceMul, Nat.reduceSub, Nat.reduceBEq, reduceCtorEq, ↓zR, zQ, Tr, StA, StT]
    refine c_DrawMakeMove (ht2.pre (hAC.trans hpD)) (by omega) ?_
    intro u i t g hu _
    obtain ⟨q, -, -⟩ := mvRow g i t
    simp (maxSteps := 1000000) (disch := first | omega | rfl | (simp only [zL, two63, room] <;> omega) | fail) only [↓reduceIte, ↓zP, zW, WOp, evOp, evBin, binI, binSh, binS, evNil, keyIs, keyEq, mkv, AV.cells, AV.sc, optv, bnd, env, put, Env.get, Env.set, Env.del, Env.dels, Env.init, res1, resL, resV, fillP, splice, newRow, Nat.reduceEqDiff, Nat.reduceLT, Nat.reduceLeDiff, Nat.reduceAdd, Nat.reduceMul, Nat.reduceSub, Nat.reduceBEq, reduceCtorEq, ↓zR, zQ, Tr, StA, StT]
    refine c_MakeMove u i t (by omega) ?_
    intro g1 p1
    have q1 := rdRow_pre p1 q
    simp (maxSteps := 1000000) (disch := first | omega | rfl | (simp only [zL, two63, room] <;> omega) | fail) only [↓reduceIte, ↓zP, zW, WOp, evOp, evBin, binI, binSh, binS, evNil, keyIs, keyEq, mkv, AV.cells, AV.sc, optv, bnd, env, put, Env.get, Env.set, Env.del, Env.dels, Env.init, res1, resL, resV, fillP, splice, newRow, Nat.reduceEqDiff, Nat.reduceLT, Nat.reduceLeDiff, Nat.reduceAdd, Nat.reduceMul, Nat.reduceSub, Nat.reduceBEq, reduceCtorEq, ↓zR, zQ, Tr, StA, StT, q1]
    refine c_sMakeMove u i t (by omega) ?_
    intro g2 p2
    have q2 := rdRow_pre p2 q1
    simp (maxSteps := 1000000) (disch := first | omega | rfl | (simp only [zL, two63, room] <;> omega) | fail) only [↓reduceIte, ↓zP, zW, WOp, evOp, evBin, binI, binSh, binS, evNil, keyIs, keyEq, mkv, AV.cells, AV.sc, optv, bnd, env, put, Env.get, Env.set, Env.del, Env.dels, Env.init, res1, resL, resV, fillP, splice, newRow, Nat.reduceEqDiff, Nat.reduceLT, Nat.reduceLeDiff, Nat.reduceAdd, Nat.reduceMul, Nat.reduceSub, Nat.reduceBEq, reduceCtorEq, ↓zR, zQ, Tr, StA, StT, q2]
    refine c_CanMove u i t (by omega) ?_
    intro g3 p3
    have q3 := rdRow_pre p3 q2
    simp (maxSteps := 1000000) (disch := first | omega | rfl | (simp only [zL, two63, room] <;> omega) | fail) only [↓reduceIte, ↓zP, zW, WOp, evOp, evBin, binI, binSh, binS, evNil, keyIs, keyEq, mkv, AV.cells, AV.sc, optv, bnd, env, put, Env.get, Env.set, Env.del, Env.dels, Env.init, res1, resL, resV, fillP, splice, newRow, Nat.reduceEqDiff, Nat.reduceLT, Nat.reduceLeDiff, Nat.reduceAdd, Nat.reduceMul, Nat.reduceSub, Nat.reduceBEq, reduceCtorEq, ↓zR, zQ, Tr, StA, StT, q3]
    refine c_sCanMove u i t (by omega) ?_
    intro g4 p4
    have q4 := rdRow_pre p4 q3
    simp (maxSteps := 1000000) (disch := first | omega | rfl | (simp only [zL, two63, room] <;> omega) | fail) only [↓reduceIte, ↓zP, zW, WOp, evOp, evBin, binI, binSh, binS, evNil, keyIs, keyEq, mkv, AV.cells, AV.sc, optv, bnd, env, put, Env.get, Env.set, Env.del, Env.dels, Env.init, res1, resL, resV, fillP, splice, newRow, Nat.reduceEqDiff, Nat.reduceLT, Nat.reduceLeDiff, Nat.reduceAdd, Nat.reduceMul, Nat.reduceSub, Nat.reduceBEq, reduceCtorEq, ↓zR, zQ, Tr, StA, StT, q4]
    refine c_IsJump u i t (by omega) ?_
    intro g5 p5
    have q5 := rdRow_pre p5 q4
    simp (maxSteps := 1000000) (disch := first | omega | rfl | (simp only [zL, two63, room] <;> omega) | fail) only [↓reduceIte, ↓zP, zW, WOp, evOp, evBin, binI, binSh, binS, evNil, keyIs, keyEq, mkv, AV.cells, AV.sc, optv, bnd, env, put, Env.get, Env.set, Env.del, Env.dels, Env.init, res1, resL, resV, fillP, splice, newRow, Nat.reduceEqDiff, Nat.reduceLT, Nat.reduceLeDiff, Nat.reduceAdd, Nat.reduceMul, Nat.reduceSub, Nat.reduceBEq, reduceCtorEq, ↓zR, zQ, Tr, StA, StT, q5]
    refine c_sIsJump u i t (by omega) ?_
    intro g6 p6
    cases eg : goodLine u
    · have ek : okG u (i, t) = false := by unfold okG; rw [eg]; rfl
      simp (maxSteps := 1000000) (disch := first | omega | rfl | (simp only [zL, two63, room] <;> omega) | fail) only [↓reduceIte, ↓zP, zW, WOp, evOp, evBin, binI, binSh, binS, evNil, keyIs, keyEq, mkv, AV.cells, AV.sc, optv, bnd, env, put, Env.get, Env.set, Env.del, Env.dels, Env.init, res1, resL, resV, fillP, splice, newRow, Nat.reduceEqDiff, Nat.reduceLT, Nat.reduceLeDiff, Nat.reduceAdd, Nat.reduceMul, Nat.reduceSub, Nat.reduceBEq, reduceCtorEq, ↓zR, zQ, Tr, StA, StT, eg, ek]
      exact hp _
    · cases ek : okG u (i, t)
      · simp (maxSteps := 1000000) (disch := first | omega | rfl | (simp only [zL, two63, room] <;> omega) | fail) only [↓reduceIte, ↓zP, zW, WOp, evOp, evBin, binI, binSh, binS, evNil, keyIs, keyEq, mkv, AV.cells, AV.sc, optv, bnd, env, put, Env.get, Env.set, Env.del, Env.dels, Env.init, res1, resL, resV, fillP, splice, newRow, Nat.reduceEqDiff, Nat.reduceLT, Nat.reduceLeDiff, Nat.reduceAdd, Nat.reduceMul, Nat.reduceSub, Nat.reduceBEq, reduceCtorEq, ↓zR, zQ, Tr, StA, StT, eg, ek]
        exact hp _
      · simp (maxSteps := 1000000) (disch := first | omega | rfl | (simp only [zL, two63, room] <;> omega) | fail) only [↓reduceIte, ↓zP, zW, WOp, evOp, evBin, binI, binSh, binS, evNil, keyIs, keyEq, mkv, AV.cells, AV.sc, optv, bnd, env, put, Env.get, Env.set, Env.del, Env.dels, Env.init, res1, resL, resV, fillP, splice, newRow, Nat.reduceEqDiff, Nat.reduceLT, Nat.reduceLeDiff, Nat.reduceAdd, Nat.reduceMul, Nat.reduceSub, Nat.reduceBEq, reduceCtorEq, ↓zR, zQ, Tr, StA, StT, eg, ek]
        exact hp _
theorem law_MovesMade {cv mv : AV} {cs ms : List UInt8} {h : AH} (hs : Slc 1 encU h cv cs) (ht : Slc 1 encU h mv ms) : S 372 [cv, mv] h (fun r _ => r = .bool true) k := law_MovesMade_of hs ht fun _ => rfl
end Go.Proofs.YtoacbgjdflcceaaGreatDoor.Ab

/- The law FnMovesMade of the given program returns true, whatever the input: its tied card. Condition: what the row lists of package-level tables is laid as the program's text lays it. -/
namespace Go.Proofs.YtoacbgjdflcceaaGreatDoor.fnMovesMade
open Go Go.ChangeShapes Go.WideShapes Go.ChangeAt Go.RowKit
set_option maxRecDepth 1000000

theorem own : ownKnob Tryz.prog.godebug = none := by kernel_rfl
theorem laidOut : laidOutB Tryz.prog = true := by kernel_rfl
theorem readable : ∀ t ∈ Tryz.f3.params.toList, Tryz.prog.readableRec t = true ∧ t < Tryz.prog.types.size := by
  rw [Tryz.params3]
  intro t ht
  simp only [List.mem_cons, List.not_mem_nil, or_false] at ht
  rcases ht with rfl | rfl
  · exact ⟨by kernel_rfl, of_decide_eq_true (by kernel_rfl)⟩
  · exact ⟨by kernel_rfl, of_decide_eq_true (by kernel_rfl)⟩
theorem contract (H : Type) (enc : TypeId × Value → H) (W : World) (base : Nat) (args : Array Value) (ds gs : List (DataW H)) (before : List MemPlace)
    (hval : ∀ (j : Nat) t v, Tryz.f3.params[j]? = some t → args[j]? = some v → Value.okWide Tryz.prog W .any base t v)
    (hW : DataW.Whole enc Tryz.prog Tryz.f3.params.toList Rows.fnMovesMadeSpec.vars false W args.toList ds gs before) :
    Calls Tryz.prog 3 args W fun e W' => ∃ v, e = .returned v ∧ Rows.fnMovesMadeSpec.post enc Tryz.prog Tryz.f3 false true false false W args v W' := by
  have hW' := hW
  obtain ⟨p, q, hA0, hV, rfl, hfz, hnd⟩ := hW
  obtain ⟨rfl, rfl⟩ := trodVars_none hV
  have hA : DataW.TrodAll enc Tryz.prog W 0 (fun _ => true) true Tryz.f3.params.toList args.toList ds p := hA0
  rw [Tryz.params3] at hA hval
  obtain ⟨v0, vs0, d0, ds0, p0, q0, hargs0, rfl, rfl, h0, r0⟩ := trodAll_cons hA
  obtain ⟨v1, vs1, d1, ds1, p1, q1, hargs1, rfl, rfl, h1, r1⟩ := trodAll_cons r0
  obtain ⟨rfl, rfl, rfl⟩ := trodAll_nil r1
  obtain rfl : args = #[v0, v1] := by cases args; simp_all
  obtain ⟨s0, m0, g0, a0, _, _, sl0, hv0, rel0⟩ := Ab.open_bytes (F := Ab.F) (Ab.rel_nothing Ab.F W) Tryz.underlying22 Tryz.underlying5 (by kernel_rfl) (hval 0 22 v0 rfl rfl) h0
  obtain ⟨s1, m, g, a1, le1, pre1, sl1, hv1, hrel⟩ := Ab.open_bytes (F := Ab.F) rel0 Tryz.underlying22 Tryz.underlying5 (by kernel_rfl) (hval 1 22 v1 rfl rfl) h1
  have hlaw := Ab.law_MovesMade (sl0.pre pre1) sl1
  have hargs : Ab.RelL Ab.F m [a0, a1] (#[v0, v1] : Array Value).toList := by
    simp only [Ab.RelL]
    exact ⟨v0, [v1], rfl, Ab.RelV.mono le1 _ _ hv0, v1, [], rfl, hv1, rfl⟩
  have hres : (Rows.fnMovesMadeSpec.fn H ([d0, d1] ++ [])).results = [.lit (.bool true)] := rfl
  have hback : (Rows.fnMovesMadeSpec.fn H ([d0, d1] ++ [])).args = [d0, d1] := rfl
  refine (Ab.law_calls (P := Tryz.prog) (F := Ab.F) Ab.all_sound (f := 372) (h := g) hlaw hrel hargs).mono ?_
  rintro e W' ⟨rfl, hb⟩
  refine ⟨_, rfl, Ab.post_below (pa := p0 ++ (p1 ++ [])) (pv := []) hW' (fun _ _ _ => ?_) (fun sp hsp => ?_) (fun _ _ => rfl) (by simp) hb (ok_one (by kernel_rfl) rfl (okWide_bool_mk Tryz.underlying4 _))⟩
  · rw [hres]
    exact trodAll_cons_mk (shut_bool Tryz.underlying4 _) trodAll_mk0
  · rw [hback]
    exact Ab.trodAll_stays laidOut hb readable hA0 (fun x hx => hW'.lt x (by simpa using hx)) (fun x hx => hsp x (by simpa using hx))

/-- A WORLD FOR THE WITNESS: the settled one, the tables holding what is laid. -/
def lits : List (DataW Unit) → List Value
  | [] => []
  | .lit (.int kd n) :: l => .int kd n :: lits l
  | _ :: l => lits l
def cellsT : DataW Unit → List Value
  | .agg l => l.flatMap fun
    | .lit (.int kd n) => [.int kd n]
    | .agg l' => lits l'
    | _ => []
  | _ => []
def setCells (cs : List Value) : Obj → Obj
  | .cells _ t frozen => .cells cs.toArray t frozen
  | o => o
noncomputable def laidWorld (os : Os) : World :=
  { World.holding Tryz.prog os ⟨#[], #[], []⟩ with heap := ((World.holding Tryz.prog os ⟨#[], #[], []⟩).heap.modify 1 (setCells (cellsT Rows.laid_unicode_utf8_first))).modify 2 (setCells (cellsT Rows.laid_unicode_utf8_acceptRanges)) }
theorem laid_met (os : Os) : laidMet Tryz.prog Rows.fnMovesMadeRow.laid ((laidWorld os).forCall (fun _ _ => 0) ⟨#[], #[.slice none 0 0, .slice none 0 0], []⟩).memory :=
  laidMet_of_run' 8 (by kernel_rfl) (by kernel_rfl)
theorem reads (os : Os) {H : Type} (enc : TypeId × Value → H) : ∃ places, DataW.whole enc Tryz.prog ((laidWorld os).forCall (fun _ _ => 0) ⟨#[], #[.slice none 0 0, .slice none 0 0], []⟩).memory Tryz.f3.params.toList Rows.fnMovesMadeSpec.vars false (#[.slice none 0 0, .slice none 0 0] : Array Value).toList 8 = some ([.nil, .nil], [], places) :=
  ⟨[], by kernel_rfl⟩

theorem lifted (os : Os) (started : os.Started) (H : Type) (enc : TypeId × Value → H) (F : Stop.Interp) :
    ReturnsInHanded {} Tryz.checked os 3 .any ((OpenSpec.ofChange Rows.fnMovesMadeSpec).preRow enc Tryz.prog Tryz.f3 Rows.fnMovesMadeRow.domain false Rows.fnMovesMadeRow.laid) (((OpenSpec.ofChange Rows.fnMovesMadeSpec).at F).post enc Tryz.prog Tryz.f3 false true false false) := by
  obtain ⟨places, hx⟩ := reads os enc
  refine returnsInHanded_of_row (C := Tryz.checked) (s := OpenSpec.ofChange Rows.fnMovesMadeSpec) own started (by kernel_rfl) Tryz.func3
    (witness_row_at (enc := enc) (C := Tryz.checked) false (laidWorld os) #[.slice none 0 0, .slice none 0 0] rfl (by kernel_rfl) (by kernel_rfl) (by kernel_rfl)
      (OpenSpec.preRow_of_cond 8 hx (by kernel_rfl) (fun k hk => by cases hk) (by kernel_rfl) (laid_met os))) ?_
  intro W base args ds gs before hval hW _ _ _ _ _ _
  exact contract H enc W base args ds gs before hval hW

theorem said : Rows.FnMovesMadeSaid :=
  OpenClaim.holds_of_cond 3 Tryz.f3 rfl rfl rfl rfl rfl rfl rfl ⟨rfl, rfl, rfl, rfl, rfl⟩ rfl rfl rfl rfl rfl (by kernel_rfl) Tryz.func3 (by kernel_rfl)
    (of_decide_eq_true (by kernel_rfl)) (by unfold Func.isWrapper; first | (rw [if_pos (by decide +kernel)]; kernel_rfl) | (rw [if_neg (by decide +kernel)]; exact ⟨rfl, rfl⟩))
    (fun os started H enc _ F => by rw [OpenClaim.pre_eq_preRow]; exact lifted os started H enc F)

/-- No parameter wants a stand-in; the program's own looks are off: what the card asks. -/
theorem plain (f : FuncId) (fn : Func) (hf : Tryz.pinned.checked.prog.funcNamed "loop.example/g01271/laws.FnMovesMade" = some f) (hfn : Tryz.pinned.checked.prog.funcs[f]? = some fn) :
    false = Tryz.pinned.checked.prog.looks [] ∧ ∀ (j : Nat) t, fn.params[j]? = some t → Tryz.pinned.checked.prog.wantsStandIn t = false := by
  obtain rfl : f = 3 := Option.some.inj ((show Tryz.prog.funcNamed "loop.example/g01271/laws.FnMovesMade" = some 3 by kernel_rfl).symm.trans hf) |>.symm
  obtain rfl : fn = Tryz.f3 := (Option.some.inj (Tryz.func3.symm.trans hfn)).symm
  refine ⟨by kernel_rfl, fun j t ht => ?_⟩
  rw [Tryz.params3] at ht
  have hm : t ∈ ([22, 22] : List Nat) := by
    have := Array.mem_of_getElem? ht
    simpa using this
  simp only [List.mem_cons, List.not_mem_nil, or_false] at hm
  rcases hm with rfl | rfl
  · exact (show Tryz.prog.wantsStandIn 22 = false by kernel_rfl)
  · exact (show Tryz.prog.wantsStandIn 22 = false by kernel_rfl)
theorem card : Rows.FnMovesMadeCardSaid :=
  Claim7.holds_tied_plain_at .later [] _ _ _ _ said (fun _ h => by cases h) (by kernel_rfl) (fun _ h => by cases h) fnMovesMade_row_tie rfl ⟨rfl, rfl⟩ (by kernel_rfl) rfl plain (by kernel_rfl)
end Go.Proofs.YtoacbgjdflcceaaGreatDoor.fnMovesMade
