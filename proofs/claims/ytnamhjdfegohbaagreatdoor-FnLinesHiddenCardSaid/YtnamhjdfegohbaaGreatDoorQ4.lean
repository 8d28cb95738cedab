/- Part 5 of the proof of a law of the given program: the rules that it leans on, and what the functions that it reaches answer; the conditions stand with each theorem. -/
import Derived.Test.YtnamhjdfegohbaaGreatDoorQ3
set_option linter.unusedSimpArgs false
set_option linter.unusedVariables false
/- PUZZLES: clues. -/
namespace Go.Proofs.YtnamhjdfegohbaaGreatDoor.Ab
open Go
set_option maxRecDepth 100000
set_option maxHeartbeats 4000000

theorem c_outcome (w : List UInt8) (hw : w.length < 2 ^ 30) {c : Nat} {h : AH} (hm : Mh winK winV c h) {post : AV → AH → Prop} (hp : ∀ h', PreX c h h' → post (.str (outcS (winB w true) (winB w false))) h') : S 193 [.agg [.map c], .str w] h post k := by
  refine S_of rfl T193 ?_; unfold fi193
  simp (maxSteps := 1000000) (disch := first | omega | rfl | (simp only [zL, two63, room] <;> omega) | fail) only [↓reduceIte, ↓zP, zW, WOp, evOp, evBin, binI, binSh, binS, evNil, keyIs, keyEq, mkv, AV.cells, AV.sc, optv, bnd, env, put, Env.get, Env.set, Env.del, Env.dels, Env.init, res1, resL, resV, fillP, splice, newRow, Nat.reduceEqDiff, Nat.reduceLT, Nat.reduceLeDiff, Nat.reduceAdd, Nat.reduceMul, Nat.reduceSub, Nat.reduceBEq, reduceCtorEq, ↓zR, zQ, Tr, StA, StT]
  refine w_drw ?_
  have hlt := hm.lt
  have r0 : rdRow (h ++ [AO.row [.map c] 0 0 false]) h.length 0 0 1 = some [.map c] := by simp (maxSteps := 1000000) (disch := first | omega | rfl | (simp only [zL, two63, room] <;> omega) | fail) only [↓reduceIte, ↓zP, zW, WOp, evOp, evBin, binI, binSh, binS, evNil, keyIs, keyEq, mkv, AV.cells, AV.sc, optv, bnd, env, put, Env.get, Env.set, Env.del, Env.dels, Env.init, res1, resL, resV, fillP, splice, newRow, Nat.reduceEqDiff, Nat.reduceLT, Nat.reduceLeDiff, Nat.reduceAdd, Nat.reduceMul, Nat.reduceSub, Nat.reduceBEq, reduceCtorEq, ↓zR, zQ, Tr, StA, StT]
  simp (maxSteps := 1000000) (disch := first | omega | rfl | (simp only [zL, two63, room] <;> omega) | fail) only [↓reduceIte, ↓zP, zW, WOp, evOp, evBin, binI, binSh, binS, evNil, keyIs, keyEq, mkv, AV.cells, AV.sc, optv, bnd, env, put, Env.get, Env.set, Env.del, Env.dels, Env.init, res1, resL, resV, fillP, splice, newRow, Nat.reduceEqDiff, Nat.reduceLT, Nat.reduceLeDiff, Nat.reduceAdd, Nat.reduceMul, Nat.reduceSub, Nat.reduceBEq, reduceCtorEq, ↓zR, zQ, Tr, StA, StT]
  refine c_win (mu w + 1) w true c _ (by omega) hw (hm.pre (Pre.push _ _)) _ ?_
  intro h2 hp2 hm2
  have r2 := rdRow_prex hp2 (by omega) r0
  simp (maxSteps := 1000000) (disch := first | omega | rfl | (simp only [zL, two63, room] <;> omega) | fail) only [↓reduceIte, ↓zP, zW, WOp, evOp, evBin, binI, binSh, binS, evNil, keyIs, keyEq, mkv, AV.cells, AV.sc, optv, bnd, env, put, Env.get, Env.set, Env.del, Env.dels, Env.init, res1, resL, resV, fillP, splice, newRow, Nat.reduceEqDiff, Nat.reduceLT, Nat.reduceLeDiff, Nat.reduceAdd, Nat.reduceMul, Nat.reduceSub, Nat.reduceBEq, reduceCtorEq, ↓zR, zQ, Tr, StA, StT, r0, r2]
  refine c_win (mu w + 1) w false c _ (by omega) hw hm2 _ ?_
  intro h3 hp3 hm3
  have hq := hp h3 (((Pre.push h (AO.row [.map c] 0 0 false)).x c).trans (hp2.trans hp3))
  cases e1 : winB w true <;> cases e2 : winB w false <;> simp only [e1, e2, outcS, Bool.and_true, Bool.and_false, if_true, if_false, Bool.false_eq_true] at hq <;> simp (maxSteps := 1000000) (disch := first | omega | rfl | (simp only [zL, two63, room] <;> omega) | fail) only [↓reduceIte, ↓zP, zW, WOp, evOp, evBin, binI, binSh, binS, evNil, keyIs, keyEq, mkv, AV.cells, AV.sc, optv, bnd, env, put, Env.get, Env.set, Env.del, Env.dels, Env.init, res1, resL, resV, fillP, splice, newRow, Nat.reduceEqDiff, Nat.reduceLT, Nat.reduceLeDiff, Nat.reduceAdd, Nat.reduceMul, Nat.reduceSub, Nat.reduceBEq, reduceCtorEq, ↓zR, zQ, Tr, StA, StT, r0, r2] <;> exact hq

theorem lp_liCount (w : List UInt8) (b : UInt8) (hw : w.length < 2 ^ 30) {h : AH} {R : X → Env → AH → Prop} : ∀ (rest pre : List UInt8) (n : Nat), w = pre ++ rest → n ≤ pre.length → R (.exit 0) [(5, .int .i64 ((n + rest.count b : Nat) : Int))] h →
    Cx (.loop lp116_0) [(0, .str w), (1, by8 b), (5, .int .i64 n), (6, .int .i64 pre.length)] h R k k
  | [], pre, n, hpre, hn, hR => by
    rw [w_loopb (c := lp116_0) (d := lb116_0) rfl]; unfold lb116_0
    have hl : w.length = pre.length := by rw [hpre]; simp
    simp (maxSteps := 1000000) (disch := first | omega | rfl | (simp only [zL, two63, room] <;> omega) | fail) only [↓reduceIte, ↓zP, zW, WOp, evOp, evBin, binI, binSh, binS, evNil, keyIs, keyEq, mkv, AV.cells, AV.sc, optv, bnd, env, put, Env.get, Env.set, Env.del, Env.dels, Env.init, res1, resL, resV, fillP, splice, newRow, Nat.reduceEqDiff, Nat.reduceLT, Nat.reduceLeDiff, Nat.reduceAdd, Nat.reduceMul, Nat.reduceSub, Nat.reduceBEq, reduceCtorEq, ↓zR, zQ, Tr, StA, StT, hl]
    simpa using hR
  | x :: rest, pre, n, hpre, hn, hR => by
    have ih := lp_liCount w b hw (h := h) (R := R) rest (pre ++ [x])
    have hl : w.length = pre.length + 1 + rest.length := by rw [hpre]; simp; omega
    have hx : w.getD pre.length 0 = x := by rw [hpre]; simp [List.getD_eq_getElem?_getD]
    rw [w_loopb (c := lp116_0) (d := lb116_0) rfl]; unfold lb116_0
    have w1 : (pre.length : Int) + 1 = ((pre ++ [x]).length : Int) := by simp
    have w2 : (n : Int) + 1 = ((n + 1 : Nat) : Int) := by omega
    cases e : (x == b)
    · simp (maxSteps := 1000000) (disch := first | omega | rfl | (simp only [zL, two63, room] <;> omega) | fail) only [↓reduceIte, ↓zP, zW, WOp, evOp, evBin, binI, binSh, binS, evNil, keyIs, keyEq, mkv, AV.cells, AV.sc, optv, bnd, env, put, Env.get, Env.set, Env.del, Env.dels, Env.init, res1, resL, resV, fillP, splice, newRow, Nat.reduceEqDiff, Nat.reduceLT, Nat.reduceLeDiff, Nat.reduceAdd, Nat.reduceMul, Nat.reduceSub, Nat.reduceBEq, reduceCtorEq, ↓zR, zQ, Tr, StA, StT, hx, e, w1]
      rw [w_loopn (c := lp116_0) rfl]
      simp (maxSteps := 1000000) (disch := first | omega | rfl | (simp only [zL, two63, room] <;> omega) | fail) only [↓reduceIte, ↓zP, zW, WOp, evOp, evBin, binI, binSh, binS, evNil, keyIs, keyEq, mkv, AV.cells, AV.sc, optv, bnd, env, put, Env.get, Env.set, Env.del, Env.dels, Env.init, res1, resL, resV, fillP, splice, newRow, Nat.reduceEqDiff, Nat.reduceLT, Nat.reduceLeDiff, Nat.reduceAdd, Nat.reduceMul, Nat.reduceSub, Nat.reduceBEq, reduceCtorEq, ↓zR, zQ, Tr, StA, StT]
      exact ih n (by rw [hpre]; simp) (by simp; omega) (by rw [List.count_cons, e] at hR; simpa using hR)
    · simp (maxSteps := 1000000) (disch := first | omega | rfl | (simp only [zL, two63, room] <;> omega) | fail) only [↓reduceIte, ↓zP, zW, WOp, evOp, evBin, binI, binSh, binS, evNil, keyIs, keyEq, mkv, AV.cells, AV.sc, optv, bnd, env, put, Env.get, Env.set, Env.del, Env.dels, Env.init, res1, resL, resV, fillP, splice, newRow, Nat.reduceEqDiff, Nat.reduceLT, Nat.reduceLeDiff, Nat.reduceAdd, Nat.reduceMul, Nat.reduceSub, Nat.reduceBEq, reduceCtorEq, ↓zR, zQ, Tr, StA, StT, hx, e, w1, w2]
      rw [w_loopn (c := lp116_0) rfl]
      simp (maxSteps := 1000000) (disch := first | omega | rfl | (simp only [zL, two63, room] <;> omega) | fail) only [↓reduceIte, ↓zP, zW, WOp, evOp, evBin, binI, binSh, binS, evNil, keyIs, keyEq, mkv, AV.cells, AV.sc, optv, bnd, env, put, Env.get, Env.set, Env.del, Env.dels, Env.init, res1, resL, resV, fillP, splice, newRow, Nat.reduceEqDiff, Nat.reduceLT, Nat.reduceLeDiff, Nat.reduceAdd, Nat.reduceMul, Nat.reduceSub, Nat.reduceBEq, reduceCtorEq, ↓zR, zQ, Tr, StA, StT]
      exact ih (n + 1) (by rw [hpre]; simp) (by simp; omega) (by rw [List.count_cons, e] at hR; simpa [Nat.add_assoc, Nat.add_comm 1] using hR)
theorem e_liCount (w : List UInt8) (b : UInt8) (hw : w.length < 1073741824) {h : AH} {post : AV → AH → Prop} : S 116 [.str w, by8 b] h post k = post (.int .i64 (w.count b : Nat)) h := by
  refine S_eq fun post hp => ?_
  refine S_of rfl T116 ?_; unfold fi116
  simp (maxSteps := 1000000) (disch := first | omega | rfl | (simp only [zL, two63, room] <;> omega) | fail) only [↓reduceIte, ↓zP, zW, WOp, evOp, evBin, binI, binSh, binS, evNil, keyIs, keyEq, mkv, AV.cells, AV.sc, optv, bnd, env, put, Env.get, Env.set, Env.del, Env.dels, Env.init, res1, resL, resV, fillP, splice, newRow, Nat.reduceEqDiff, Nat.reduceLT, Nat.reduceLeDiff, Nat.reduceAdd, Nat.reduceMul, Nat.reduceSub, Nat.reduceBEq, reduceCtorEq, ↓zR, zQ, Tr, StA, StT]
  refine lp_liCount w b hw w [] 0 rfl (by simp) ?_
  simp (maxSteps := 1000000) (disch := first | omega | rfl | (simp only [zL, two63, room] <;> omega) | fail) only [↓reduceIte, ↓zP, zW, WOp, evOp, evBin, binI, binSh, binS, evNil, keyIs, keyEq, mkv, AV.cells, AV.sc, optv, bnd, env, put, Env.get, Env.set, Env.del, Env.dels, Env.init, res1, resL, resV, fillP, splice, newRow, Nat.reduceEqDiff, Nat.reduceLT, Nat.reduceLeDiff, Nat.reduceAdd, Nat.reduceMul, Nat.reduceSub, Nat.reduceBEq, reduceCtorEq, ↓zR, zQ, Tr, StA, StT]
  simpa using hp
theorem e_liCountT (w : List UInt8) (hw : w.length < 1073741824) {h : AH} {post : AV → AH → Prop} : S 116 [.str w, .int .u8 84] h post k = post (.int .i64 (w.count 84 : Nat)) h := e_liCount w 84 hw
theorem e_liCountF (w : List UInt8) (hw : w.length < 1073741824) {h : AH} {post : AV → AH → Prop} : S 116 [.str w, .int .u8 70] h post k = post (.int .i64 (w.count 70 : Nat)) h := e_liCount w 70 hw
theorem e_liCountD (w : List UInt8) (hw : w.length < 1073741824) {h : AH} {post : AV → AH → Prop} : S 116 [.str w, .int .u8 46] h post k = post (.int .i64 (w.count 46 : Nat)) h := e_liCount w 46 hw
theorem e_count (w : List UInt8) {h : AH} {post : AV → AH → Prop} : S 189 [.str w] h post k = post (.tup [.int .i64 (w.count 84 : Nat), .int .i64 (w.count 46 : Nat), .int .i64 (w.count 70 : Nat)]) h := S_eq fun _ => c_count w
theorem e_pairs (w : List UInt8) (hw : w.length < 1073741824) {h : AH} {post : AV → AH → Prop} : S 191 [.str w] h post k = post (.int .i64 (pairsB w)) h := S_eq fun _ => c_pairs w hw

theorem lp_liPairs (w : List UInt8) (hw : w.length < 1073741824) {h : AH} {R : X → Env → AH → Prop} : ∀ (rest pre : List UInt8) (t sum : Nat), w = pre ++ rest → t ≤ pre.length → sum ≤ pre.length * 1073741824 →
    R (.exit 0) [(3, .int .i64 (pairsL rest t sum))] h → Cx (.loop lp196_0) [(0, .str w), (3, .int .i64 sum), (4, .int .i64 t), (5, .int .i64 pre.length)] h R k k
  | [], pre, t, sum, hpre, ht, hsum, hR => by
    rw [w_loopb (c := lp196_0) (d := lb196_0) rfl]; unfold lb196_0
    have hl : w.length = pre.length := by rw [hpre]; simp
    simp (maxSteps := 1000000) (disch := first | omega | rfl | (simp only [zL, two63, room] <;> omega) | fail) only [↓reduceIte, ↓zP, zW, WOp, evOp, evBin, binI, binSh, binS, evNil, keyIs, keyEq, mkv, AV.cells, AV.sc, optv, bnd, env, put, Env.get, Env.set, Env.del, Env.dels, Env.init, res1, resL, resV, fillP, splice, newRow, Nat.reduceEqDiff, Nat.reduceLT, Nat.reduceLeDiff, Nat.reduceAdd, Nat.reduceMul, Nat.reduceSub, Nat.reduceBEq, reduceCtorEq, ↓zR, zQ, Tr, StA, StT, hl]
    simpa [pairsL] using hR
  | x :: rest, pre, t, sum, hpre, ht, hsum, hR => by
    have ih := lp_liPairs w hw (h := h) (R := R) rest (pre ++ [x])
    have hl : w.length = pre.length + 1 + rest.length := by rw [hpre]; simp; omega
    have hx : w.getD pre.length 0 = x := by rw [hpre]; simp [List.getD_eq_getElem?_getD]
    rw [w_loopb (c := lp196_0) (d := lb196_0) rfl]; unfold lb196_0
    have w1 : (pre.length : Int) + 1 = ((pre ++ [x]).length : Int) := by simp
    have w2 : (t : Int) + 1 = ((t + 1 : Nat) : Int) := by omega
    have w3 : (sum : Int) + (t : Int) = ((sum + t : Nat) : Int) := by omega
    have hs1 : sum ≤ (pre ++ [x]).length * 1073741824 := Nat.le_trans hsum (Nat.mul_le_mul_right _ (by simp))
    have hs2 : sum + t ≤ (pre ++ [x]).length * 1073741824 := by
      rw [List.length_append, List.length_singleton, Nat.succ_mul]
      exact Nat.add_le_add hsum (by omega)
    have hpre' : w = (pre ++ [x]) ++ rest := by rw [hpre]; simp
    cases e1 : (x == 84)
    · cases e2 : (x == 70)
      · simp (maxSteps := 1000000) (disch := first | omega | rfl | (simp only [zL, two63, room] <;> omega) | fail) only [↓reduceIte, ↓zP, zW, WOp, evOp, evBin, binI, binSh, binS, evNil, keyIs, keyEq, mkv, AV.cells, AV.sc, optv, bnd, env, put, Env.get, Env.set, Env.del, Env.dels, Env.init, res1, resL, resV, fillP, splice, newRow, Nat.reduceEqDiff, Nat.reduceLT, Nat.reduceLeDiff, Nat.reduceAdd, Nat.reduceMul, Nat.reduceSub, Nat.reduceBEq, reduceCtorEq, ↓zR, zQ, Tr, StA, StT, hx, e1, e2, w1]
        rw [w_loopn (c := lp196_0) rfl]
        simp (maxSteps := 1000000) (disch := first | omega | rfl | (simp only [zL, two63, room] <;> omega) | fail) only [↓reduceIte, ↓zP, zW, WOp, evOp, evBin, binI, binSh, binS, evNil, keyIs, keyEq, mkv, AV.cells, AV.sc, optv, bnd, env, put, Env.get, Env.set, Env.del, Env.dels, Env.init, res1, resL, resV, fillP, splice, newRow, Nat.reduceEqDiff, Nat.reduceLT, Nat.reduceLeDiff, Nat.reduceAdd, Nat.reduceMul, Nat.reduceSub, Nat.reduceBEq, reduceCtorEq, ↓zR, zQ, Tr, StA, StT]
        simp only [pairsL, e1, e2, if_true, if_false, Bool.false_eq_true] at hR
        exact ih t sum hpre' (by simp; omega) hs1 hR
      · simp (maxSteps := 1000000) (disch := first | omega | rfl | (simp only [zL, two63, room] <;> omega) | fail) only [↓reduceIte, ↓zP, zW, WOp, evOp, evBin, binI, binSh, binS, evNil, keyIs, keyEq, mkv, AV.cells, AV.sc, optv, bnd, env, put, Env.get, Env.set, Env.del, Env.dels, Env.init, res1, resL, resV, fillP, splice, newRow, Nat.reduceEqDiff, Nat.reduceLT, Nat.reduceLeDiff, Nat.reduceAdd, Nat.reduceMul, Nat.reduceSub, Nat.reduceBEq, reduceCtorEq, ↓zR, zQ, Tr, StA, StT, hx, e1, e2, w1, w3]
        rw [w_loopn (c := lp196_0) rfl]
        simp (maxSteps := 1000000) (disch := first | omega | rfl | (simp only [zL, two63, room] <;> omega) | fail) only [↓reduceIte, ↓zP, zW, WOp, evOp, evBin, binI, binSh, binS, evNil, keyIs, keyEq, mkv, AV.cells, AV.sc, optv, bnd, env, put, Env.get, Env.set, Env.del, Env.dels, Env.init, res1, resL, resV, fillP, splice, newRow, Nat.reduceEqDiff, Nat.reduceLT, Nat.reduceLeDiff, Nat.reduceAdd, Nat.reduceMul, Nat.reduceSub, Nat.reduceBEq, reduceCtorEq, ↓zR, zQ, Tr, StA, StT]
        simp only [pairsL, e1, e2, if_true, if_false, Bool.false_eq_true] at hR
        exact ih t (sum + t) hpre' (by simp; omega) hs2 hR
    · simp (maxSteps := 1000000) (disch := first | omega | rfl | (simp only [zL, two63, room] <;> omega) | fail) only [↓reduceIte, ↓zP, zW, WOp, evOp, evBin, binI, binSh, binS, evNil, keyIs, keyEq, mkv, AV.cells, AV.sc, optv, bnd, env, put, Env.get, Env.set, Env.del, Env.dels, Env.init, res1, resL, resV, fillP, splice, newRow, Nat.reduceEqDiff, Nat.reduceLT, Nat.reduceLeDiff, Nat.reduceAdd, Nat.reduceMul, Nat.reduceSub, Nat.reduceBEq, reduceCtorEq, ↓zR, zQ, Tr, StA, StT, hx, e1, w1, w2]
      rw [w_loopn (c := lp196_0) rfl]
      simp (maxSteps := 1000000) (disch := first | omega | rfl | (simp only [zL, two63, room] <;> omega) | fail) only [↓reduceIte, ↓zP, zW, WOp, evOp, evBin, binI, binSh, binS, evNil, keyIs, keyEq, mkv, AV.cells, AV.sc, optv, bnd, env, put, Env.get, Env.set, Env.del, Env.dels, Env.init, res1, resL, resV, fillP, splice, newRow, Nat.reduceEqDiff, Nat.reduceLT, Nat.reduceLeDiff, Nat.reduceAdd, Nat.reduceMul, Nat.reduceSub, Nat.reduceBEq, reduceCtorEq, ↓zR, zQ, Tr, StA, StT]
      simp only [pairsL, e1, if_true] at hR
      exact ih (t + 1) sum hpre' (by simp; omega) hs1 hR
theorem e_liPairs (w : List UInt8) (hw : w.length < 1073741824) {h : AH} {post : AV → AH → Prop} : S 196 [.str w] h post k = post (.int .i64 (pairsB w)) h := by
  refine S_eq fun post hp => ?_
  refine S_of rfl T196 ?_; unfold fi196
  simp (maxSteps := 1000000) (disch := first | omega | rfl | (simp only [zL, two63, room] <;> omega) | fail) only [↓reduceIte, ↓zP, zW, WOp, evOp, evBin, binI, binSh, binS, evNil, keyIs, keyEq, mkv, AV.cells, AV.sc, optv, bnd, env, put, Env.get, Env.set, Env.del, Env.dels, Env.init, res1, resL, resV, fillP, splice, newRow, Nat.reduceEqDiff, Nat.reduceLT, Nat.reduceLeDiff, Nat.reduceAdd, Nat.reduceMul, Nat.reduceSub, Nat.reduceBEq, reduceCtorEq, ↓zR, zQ, Tr, StA, StT]
  refine lp_liPairs w hw w [] 0 0 rfl (by simp) (by simp) ?_
  simp (maxSteps := 1000000) (disch := first | omega | rfl | (simp only [zL, two63, room] <;> omega) | fail) only [↓reduceIte, ↓zP, zW, WOp, evOp, evBin, binI, binSh, binS, evNil, keyIs, keyEq, mkv, AV.cells, AV.sc, optv, bnd, env, put, Env.get, Env.set, Env.del, Env.dels, Env.init, res1, resL, resV, fillP, splice, newRow, Nat.reduceEqDiff, Nat.reduceLT, Nat.reduceLeDiff, Nat.reduceAdd, Nat.reduceMul, Nat.reduceSub, Nat.reduceBEq, reduceCtorEq, ↓zR, zQ, Tr, StA, StT]
  exact hp

/-! ### Which clues there are -/
def clueOk (n : Int) (c : Int × Int × Int) : Bool :=
  if c.1 = 0 then decide (0 ≤ c.2.1 ∧ c.2.1 ≤ n - 1) && decide (0 ≤ c.2.2 ∧ c.2.2 ≤ 2) else
  decide (c.2.2 = 0) && (if c.1 = 1 ∨ c.1 = 2 then decide (0 ≤ c.2.1 ∧ c.2.1 ≤ n) else if c.1 = 3 then decide (0 ≤ c.2.1 ∧ c.2.1 ≤ 2 * n) else if c.1 = 4 then decide (0 ≤ c.2.1 ∧ c.2.1 ≤ 10) else if c.1 = 5 then decide (0 ≤ c.2.1 ∧ c.2.1 ≤ 3) else false)
theorem c_IsClue (n kd a b : Int) (hn : 0 ≤ n ∧ n ≤ 1000) {h : AH} {post : AV → AH → Prop} (hp : ∀ h', Pre h h' → post (.bool (decide (1 ≤ n ∧ n ≤ 5) && clueOk n (kd, a, b))) h') : S 183 [.int .i64 n, .agg (encC (kd, a, b))] h post k := by
  have hq := hp _ (Pre.push h (AO.row [.int .i64 kd, .int .i64 a, .int .i64 b] 0 0 false))
  clear hp
  refine S_of rfl T183 ?_; unfold fi183
  by_cases h5 : 1 ≤ n ∧ n ≤ 5
  case neg =>
    simp (maxSteps := 1000000) (disch := first | omega | rfl | (simp only [zL, two63, room] <;> omega) | fail) only [↓reduceIte, ↓zP, zW, WOp, evOp, evBin, binI, binSh, binS, evNil, keyIs, keyEq, mkv, AV.cells, AV.sc, optv, bnd, env, put, Env.get, Env.set, Env.del, Env.dels, Env.init, res1, resL, resV, fillP, splice, newRow, Nat.reduceEqDiff, Nat.reduceLT, Nat.reduceLeDiff, Nat.reduceAdd, Nat.reduceMul, Nat.reduceSub, Nat.reduceBEq, reduceCtorEq, ↓zR, zQ, Tr, StA, StT, e_within, h5]
    simpa [h5] using hq
  by_cases k0 : kd = 0
  · by_cases ha : 0 ≤ a ∧ a ≤ n - 1 <;> by_cases hb : 0 ≤ b ∧ b ≤ 2 <;> simp (maxSteps := 1000000) (disch := first | omega | rfl | (simp only [zL, two63, room] <;> omega) | fail) only [↓reduceIte, ↓zP, zW, WOp, evOp, evBin, binI, binSh, binS, evNil, keyIs, keyEq, mkv, AV.cells, AV.sc, optv, bnd, env, put, Env.get, Env.set, Env.del, Env.dels, Env.init, res1, resL, resV, fillP, splice, newRow, Nat.reduceEqDiff, Nat.reduceLT, Nat.reduceLeDiff, Nat.reduceAdd, Nat.reduceMul, Nat.reduceSub, Nat.reduceBEq, reduceCtorEq, ↓zR, zQ, Tr, StA, StT, e_within, h5, k0, ha, hb] <;> simpa [h5, clueOk, k0, ha, hb] using hq
  by_cases k1 : kd = 1 ∨ kd = 2
  · by_cases ha : 0 ≤ a ∧ a ≤ n <;> by_cases hb : b = 0 <;> rcases k1 with k1 | k1 <;> simp (maxSteps := 1000000) (disch := first | omega | rfl | (simp only [zL, two63, room] <;> omega) | fail) only [↓reduceIte, ↓zP, zW, WOp, evOp, evBin, binI, binSh, binS, evNil, keyIs, keyEq, mkv, AV.cells, AV.sc, optv, bnd, env, put, Env.get, Env.set, Env.del, Env.dels, Env.init, res1, resL, resV, fillP, splice, newRow, Nat.reduceEqDiff, Nat.reduceLT, Nat.reduceLeDiff, Nat.reduceAdd, Nat.reduceMul, Nat.reduceSub, Nat.reduceBEq, reduceCtorEq, ↓zR, zQ, Tr, StA, StT, e_within, h5, k1, ha, hb] <;> simpa [h5, clueOk, k1, ha, hb] using hq
  by_cases k3 : kd = 3
  · by_cases ha : 0 ≤ a ∧ a ≤ 2 * n <;> by_cases hb : b = 0 <;> simp (maxSteps := 1000000) (disch := first | omega | rfl | (simp only [zL, two63, room] <;> omega) | fail) only [↓reduceIte, ↓zP, zW, WOp, evOp, evBin, binI, binSh, binS, evNil, keyIs, keyEq, mkv, AV.cells, AV.sc, optv, bnd, env, put, Env.get, Env.set, Env.del, Env.dels, Env.init, res1, resL, resV, fillP, splice, newRow, Nat.reduceEqDiff, Nat.reduceLT, Nat.reduceLeDiff, Nat.reduceAdd, Nat.reduceMul, Nat.reduceSub, Nat.reduceBEq, reduceCtorEq, ↓zR, zQ, Tr, StA, StT, e_within, h5, k3, ha, hb] <;> simpa [h5, clueOk, k3, ha, hb] using hq
  by_cases k4 : kd = 4
  · by_cases ha : 0 ≤ a ∧ a ≤ 10 <;> by_cases hb : b = 0 <;> simp (maxSteps := 1000000) (disch := first | omega | rfl | (simp only [zL, two63, room] <;> omega) | fail) only [↓reduceIte, ↓zP, zW, WOp, evOp, evBin, binI, binSh, binS, evNil, keyIs, keyEq, mkv, AV.cells, AV.sc, optv, bnd, env, put, Env.get, Env.set, Env.del, Env.dels, Env.init, res1, resL, resV, fillP, splice, newRow, Nat.reduceEqDiff, Nat.reduceLT, Nat.reduceLeDiff, Nat.reduceAdd, Nat.reduceMul, Nat.reduceSub, Nat.reduceBEq, reduceCtorEq, ↓zR, zQ, Tr, StA, StT, e_within, h5, k4, ha, hb] <;> simpa [h5, clueOk, k4, ha, hb] using hq
  by_cases k5 : kd = 5
  · by_cases ha : 0 ≤ a ∧ a ≤ 3 <;> by_cases hb : b = 0 <;> simp (maxSteps := 1000000) (disch := first | omega | rfl | (simp only [zL, two63, room] <;> omega) | fail) only [↓reduceIte, ↓zP, zW, WOp, evOp, evBin, binI, binSh, binS, evNil, keyIs, keyEq, mkv, AV.cells, AV.sc, optv, bnd, env, put, Env.get, Env.set, Env.del, Env.dels, Env.init, res1, resL, resV, fillP, splice, newRow, Nat.reduceEqDiff, Nat.reduceLT, Nat.reduceLeDiff, Nat.reduceAdd, Nat.reduceMul, Nat.reduceSub, Nat.reduceBEq, reduceCtorEq, ↓zR, zQ, Tr, StA, StT, e_within, h5, k5, ha, hb] <;> simpa [h5, clueOk, k5, ha, hb] using hq
  · simp (maxSteps := 1000000) (disch := first | omega | rfl | (simp only [zL, two63, room] <;> omega) | fail) only [↓reduceIte, ↓zP, zW, WOp, evOp, evBin, binI, binSh, binS, evNil, keyIs, keyEq, mkv, AV.cells, AV.sc, optv, bnd, env, put, Env.get, Env.set, Env.del, Env.dels, Env.init, res1, resL, resV, fillP, splice, newRow, Nat.reduceEqDiff, Nat.reduceLT, Nat.reduceLeDiff, Nat.reduceAdd, Nat.reduceMul, Nat.reduceSub, Nat.reduceBEq, reduceCtorEq, ↓zR, zQ, Tr, StA, StT, e_within, h5]
    have e1 : ¬ (kd = 1) := fun e => k1 (.inl e)
    have e2 : ¬ (kd = 2) := fun e => k1 (.inr e)
    simpa [h5, clueOk, k0, e1, e2, k3, k4, k5] using hq
theorem c_pzClue (n kd a b : Int) (hn : 0 ≤ n ∧ n ≤ 1000) {h : AH} {post : AV → AH → Prop} (hp : ∀ h', Pre h h' → post (.bool (clueOk n (kd, a, b))) h') : S 172 [.int .i64 n, .agg (encC (kd, a, b))] h post k := by
  have hq := hp _ (Pre.push h (AO.row [.int .i64 kd, .int .i64 a, .int .i64 b] 0 0 false))
  clear hp
  refine S_of rfl T172 ?_; unfold fi172
  by_cases k0 : kd = 0
  · by_cases ha : 0 ≤ a ∧ a ≤ n - 1 <;> by_cases hb : 0 ≤ b ∧ b ≤ 2 <;> simp (maxSteps := 1000000) (disch := first | omega | rfl | (simp only [zL, two63, room] <;> omega) | fail) only [↓reduceIte, ↓zP, zW, WOp, evOp, evBin, binI, binSh, binS, evNil, keyIs, keyEq, mkv, AV.cells, AV.sc, optv, bnd, env, put, Env.get, Env.set, Env.del, Env.dels, Env.init, res1, resL, resV, fillP, splice, newRow, Nat.reduceEqDiff, Nat.reduceLT, Nat.reduceLeDiff, Nat.reduceAdd, Nat.reduceMul, Nat.reduceSub, Nat.reduceBEq, reduceCtorEq, ↓zR, zQ, Tr, StA, StT, e_l1In, k0, ha, hb] <;> simpa [clueOk, k0, ha, hb] using hq
  by_cases hb : b = 0
  case neg =>
    simp (maxSteps := 1000000) (disch := first | omega | rfl | (simp only [zL, two63, room] <;> omega) | fail) only [↓reduceIte, ↓zP, zW, WOp, evOp, evBin, binI, binSh, binS, evNil, keyIs, keyEq, mkv, AV.cells, AV.sc, optv, bnd, env, put, Env.get, Env.set, Env.del, Env.dels, Env.init, res1, resL, resV, fillP, splice, newRow, Nat.reduceEqDiff, Nat.reduceLT, Nat.reduceLeDiff, Nat.reduceAdd, Nat.reduceMul, Nat.reduceSub, Nat.reduceBEq, reduceCtorEq, ↓zR, zQ, Tr, StA, StT, e_l1In, hb]
    simpa [clueOk, k0, hb] using hq
  by_cases k1 : kd = 1 ∨ kd = 2
  · rcases k1 with k1 | k1 <;> simp (maxSteps := 1000000) (disch := first | omega | rfl | (simp only [zL, two63, room] <;> omega) | fail) only [↓reduceIte, ↓zP, zW, WOp, evOp, evBin, binI, binSh, binS, evNil, keyIs, keyEq, mkv, AV.cells, AV.sc, optv, bnd, env, put, Env.get, Env.set, Env.del, Env.dels, Env.init, res1, resL, resV, fillP, splice, newRow, Nat.reduceEqDiff, Nat.reduceLT, Nat.reduceLeDiff, Nat.reduceAdd, Nat.reduceMul, Nat.reduceSub, Nat.reduceBEq, reduceCtorEq, ↓zR, zQ, Tr, StA, StT, e_l1In, hb, k1] <;> simpa [clueOk, hb, k1] using hq
  by_cases k3 : kd = 3
  · simp (maxSteps := 1000000) (disch := first | omega | rfl | (simp only [zL, two63, room] <;> omega) | fail) only [↓reduceIte, ↓zP, zW, WOp, evOp, evBin, binI, binSh, binS, evNil, keyIs, keyEq, mkv, AV.cells, AV.sc, optv, bnd, env, put, Env.get, Env.set, Env.del, Env.dels, Env.init, res1, resL, resV, fillP, splice, newRow, Nat.reduceEqDiff, Nat.reduceLT, Nat.reduceLeDiff, Nat.reduceAdd, Nat.reduceMul, Nat.reduceSub, Nat.reduceBEq, reduceCtorEq, ↓zR, zQ, Tr, StA, StT, e_l1In, hb, k3]
    simpa [clueOk, hb, k3] using hq
  by_cases k4 : kd = 4
  · simp (maxSteps := 1000000) (disch := first | omega | rfl | (simp only [zL, two63, room] <;> omega) | fail) only [↓reduceIte, ↓zP, zW, WOp, evOp, evBin, binI, binSh, binS, evNil, keyIs, keyEq, mkv, AV.cells, AV.sc, optv, bnd, env, put, Env.get, Env.set, Env.del, Env.dels, Env.init, res1, resL, resV, fillP, splice, newRow, Nat.reduceEqDiff, Nat.reduceLT, Nat.reduceLeDiff, Nat.reduceAdd, Nat.reduceMul, Nat.reduceSub, Nat.reduceBEq, reduceCtorEq, ↓zR, zQ, Tr, StA, StT, e_l1In, hb, k4]
    simpa [clueOk, hb, k4] using hq
  by_cases k5 : kd = 5
  · simp (maxSteps := 1000000) (disch := first | omega | rfl | (simp only [zL, two63, room] <;> omega) | fail) only [↓reduceIte, ↓zP, zW, WOp, evOp, evBin, binI, binSh, binS, evNil, keyIs, keyEq, mkv, AV.cells, AV.sc, optv, bnd, env, put, Env.get, Env.set, Env.del, Env.dels, Env.init, res1, resL, resV, fillP, splice, newRow, Nat.reduceEqDiff, Nat.reduceLT, Nat.reduceLeDiff, Nat.reduceAdd, Nat.reduceMul, Nat.reduceSub, Nat.reduceBEq, reduceCtorEq, ↓zR, zQ, Tr, StA, StT, e_l1In, hb, k5]
    simpa [clueOk, hb, k5] using hq
  · simp (maxSteps := 1000000) (disch := first | omega | rfl | (simp only [zL, two63, room] <;> omega) | fail) only [↓reduceIte, ↓zP, zW, WOp, evOp, evBin, binI, binSh, binS, evNil, keyIs, keyEq, mkv, AV.cells, AV.sc, optv, bnd, env, put, Env.get, Env.set, Env.del, Env.dels, Env.init, res1, resL, resV, fillP, splice, newRow, Nat.reduceEqDiff, Nat.reduceLT, Nat.reduceLeDiff, Nat.reduceAdd, Nat.reduceMul, Nat.reduceSub, Nat.reduceBEq, reduceCtorEq, ↓zR, zQ, Tr, StA, StT, e_l1In, hb]
    have e1 : ¬ (kd = 1) := fun e => k1 (.inl e)
    have e2 : ¬ (kd = 2) := fun e => k1 (.inr e)
    simpa [clueOk, k0, e1, e2, k3, k4, k5, encC, hb] using hq
theorem e_pzCells (n : Int) {h : AH} {post : AV → AH → Prop} : S 171 [.int .i64 n] h post k = post (.bool (decide (1 ≤ n ∧ n ≤ 5))) h := by
  refine S_eq fun post hp => ?_
  refine S_of rfl T171 ?_; unfold fi171
  simp (maxSteps := 1000000) (disch := first | omega | rfl | (simp only [zL, two63, room] <;> omega) | fail) only [↓reduceIte, ↓zP, zW, WOp, evOp, evBin, binI, binSh, binS, evNil, keyIs, keyEq, mkv, AV.cells, AV.sc, optv, bnd, env, put, Env.get, Env.set, Env.del, Env.dels, Env.init, res1, resL, resV, fillP, splice, newRow, Nat.reduceEqDiff, Nat.reduceLT, Nat.reduceLeDiff, Nat.reduceAdd, Nat.reduceMul, Nat.reduceSub, Nat.reduceBEq, reduceCtorEq, ↓zR, zQ, Tr, StA, StT, e_l1In]
  exact hp

/-! ### What a clue tells -/
def clueB (kd cell : Int) (w : List UInt8) : Int × Int × Int :=
  if kd = 0 then (0, cell, Go.Lib.indexByte [46, 70, 84] (w.getD cell.toNat 0)) else if kd = 1 then (1, w.count 84, 0) else if kd = 2 then (2, w.count 70, 0) else if kd = 3 then (3, (movesB w [84, 70]).length, 0) else if kd = 4 then (4, pairsB w, 0) else
  (5, Go.Lib.indexByte [49, 50, 70, 84] ((outcS (winB w true) (winB w false)).getD 0 0), 0)
theorem outcS_one (a b : Bool) : outcS a b = [(outcS a b).getD 0 0] := by cases a <;> cases b <;> rfl
theorem c_clueOf (kd cell : Int) (w : List UInt8) (hw : w.length < 1073741824) (hc : kd = 0 → 0 ≤ cell ∧ cell < w.length) {h : AH} {post : AV → AH → Prop} (hp : ∀ h', Pre h h' → post (.agg (encC (clueB kd cell w))) h') : S 187 [.int .i64 kd, .int .i64 cell, .str w] h post k := by
  have hpre := Pre.push h (AO.row [.int .i64 0, .int .i64 0, .int .i64 0] 0 0 false)
  refine S_of rfl T187 ?_; unfold fi187
  unfold clueB at hp
  by_cases k0 : kd = 0
  · have hc0 := hc k0
    have e1 : S 190 [.str [46, 70, 84], by8 (w.getD cell.toNat 0)] = S 190 [.str [46, 70, 84], by8 (w.getD cell.toNat 0)] := rfl
    simp (maxSteps := 1000000) (disch := first | omega | rfl | (simp only [zL, two63, room] <;> omega) | fail) only [↓reduceIte, ↓zP, zW, WOp, evOp, evBin, binI, binSh, binS, evNil, keyIs, keyEq, mkv, AV.cells, AV.sc, optv, bnd, env, put, Env.get, Env.set, Env.del, Env.dels, Env.init, res1, resL, resV, fillP, splice, newRow, Nat.reduceEqDiff, Nat.reduceLT, Nat.reduceLeDiff, Nat.reduceAdd, Nat.reduceMul, Nat.reduceSub, Nat.reduceBEq, reduceCtorEq, ↓zR, zQ, Tr, StA, StT, e_count, k0]
    refine S_ext rfl rfl ?_
    simp (maxSteps := 1000000) (disch := first | omega | rfl | (simp only [zL, two63, room] <;> omega) | fail) only [↓reduceIte, ↓zP, zW, WOp, evOp, evBin, binI, binSh, binS, evNil, keyIs, keyEq, mkv, AV.cells, AV.sc, optv, bnd, env, put, Env.get, Env.set, Env.del, Env.dels, Env.init, res1, resL, resV, fillP, splice, newRow, Nat.reduceEqDiff, Nat.reduceLT, Nat.reduceLeDiff, Nat.reduceAdd, Nat.reduceMul, Nat.reduceSub, Nat.reduceBEq, reduceCtorEq, ↓zR, zQ, Tr, StA, StT]
    rw [if_pos k0] at hp
    simpa using hp _ (Pre.push h _)
  rw [if_neg k0] at hp
  by_cases k1 : kd = 1
  · rw [if_pos k1] at hp
    simp (maxSteps := 1000000) (disch := first | omega | rfl | (simp only [zL, two63, room] <;> omega) | fail) only [↓reduceIte, ↓zP, zW, WOp, evOp, evBin, binI, binSh, binS, evNil, keyIs, keyEq, mkv, AV.cells, AV.sc, optv, bnd, env, put, Env.get, Env.set, Env.del, Env.dels, Env.init, res1, resL, resV, fillP, splice, newRow, Nat.reduceEqDiff, Nat.reduceLT, Nat.reduceLeDiff, Nat.reduceAdd, Nat.reduceMul, Nat.reduceSub, Nat.reduceBEq, reduceCtorEq, ↓zR, zQ, Tr, StA, StT, e_count, k1]
    exact hp _ (Pre.push h _)
  rw [if_neg k1] at hp
  by_cases k2 : kd = 2
  · rw [if_pos k2] at hp
    simp (maxSteps := 1000000) (disch := first | omega | rfl | (simp only [zL, two63, room] <;> omega) | fail) only [↓reduceIte, ↓zP, zW, WOp, evOp, evBin, binI, binSh, binS, evNil, keyIs, keyEq, mkv, AV.cells, AV.sc, optv, bnd, env, put, Env.get, Env.set, Env.del, Env.dels, Env.init, res1, resL, resV, fillP, splice, newRow, Nat.reduceEqDiff, Nat.reduceLT, Nat.reduceLeDiff, Nat.reduceAdd, Nat.reduceMul, Nat.reduceSub, Nat.reduceBEq, reduceCtorEq, ↓zR, zQ, Tr, StA, StT, e_count, k2]
    exact hp _ (Pre.push h _)
  rw [if_neg k2] at hp
  by_cases k3 : kd = 3
  · rw [if_pos k3] at hp
    simp (maxSteps := 1000000) (disch := first | omega | rfl | (simp only [zL, two63, room] <;> omega) | fail) only [↓reduceIte, ↓zP, zW, WOp, evOp, evBin, binI, binSh, binS, evNil, keyIs, keyEq, mkv, AV.cells, AV.sc, optv, bnd, env, put, Env.get, Env.set, Env.del, Env.dels, Env.init, res1, resL, resV, fillP, splice, newRow, Nat.reduceEqDiff, Nat.reduceLT, Nat.reduceLeDiff, Nat.reduceAdd, Nat.reduceMul, Nat.reduceSub, Nat.reduceBEq, reduceCtorEq, ↓zR, zQ, Tr, StA, StT, e_count, k3]
    refine c_moves w [84, 70] hw ?_
    intro v h2 ho hp2
    have hs : Slc 2 encM h2 v (movesB w [84, 70]) := ho.sl
    have hv := fun g => Slc.lenV (hs) (g := g) (ρ := fun _ => _) (x := .t 0) rfl; simp only [evOp] at hv
    have hlt := pre_last_lt hp2
    simp (maxSteps := 1000000) (disch := first | omega | rfl | (simp only [zL, two63, room] <;> omega) | fail) only [↓reduceIte, ↓zP, zW, WOp, evOp, evBin, binI, binSh, binS, evNil, keyIs, keyEq, mkv, AV.cells, AV.sc, optv, bnd, env, put, Env.get, Env.set, Env.del, Env.dels, Env.init, res1, resL, resV, fillP, splice, newRow, Nat.reduceEqDiff, Nat.reduceLT, Nat.reduceLeDiff, Nat.reduceAdd, Nat.reduceMul, Nat.reduceSub, Nat.reduceBEq, reduceCtorEq, ↓zR, zQ, Tr, StA, StT, hv, wr_of (pre_last hp2)]
    exact hp _ (pre_set_last hp2)
  rw [if_neg k3] at hp
  by_cases k4 : kd = 4
  · rw [if_pos k4] at hp
    simp (maxSteps := 1000000) (disch := first | omega | rfl | (simp only [zL, two63, room] <;> omega) | fail) only [↓reduceIte, ↓zP, zW, WOp, evOp, evBin, binI, binSh, binS, evNil, keyIs, keyEq, mkv, AV.cells, AV.sc, optv, bnd, env, put, Env.get, Env.set, Env.del, Env.dels, Env.init, res1, resL, resV, fillP, splice, newRow, Nat.reduceEqDiff, Nat.reduceLT, Nat.reduceLeDiff, Nat.reduceAdd, Nat.reduceMul, Nat.reduceSub, Nat.reduceBEq, reduceCtorEq, ↓zR, zQ, Tr, StA, StT, e_count, e_pairs, k4]
    exact hp _ (Pre.push h _)
  rw [if_neg k4] at hp
  · simp (maxSteps := 1000000) (disch := first | omega | rfl | (simp only [zL, two63, room] <;> omega) | fail) only [↓reduceIte, ↓zP, zW, WOp, evOp, evBin, binI, binSh, binS, evNil, keyIs, keyEq, mkv, AV.cells, AV.sc, optv, bnd, env, put, Env.get, Env.set, Env.del, Env.dels, Env.init, res1, resL, resV, fillP, splice, newRow, Nat.reduceEqDiff, Nat.reduceLT, Nat.reduceLeDiff, Nat.reduceAdd, Nat.reduceMul, Nat.reduceSub, Nat.reduceBEq, reduceCtorEq, ↓zR, zQ, Tr, StA, StT, e_count]
    refine c_newGames ?_
    intro c h2 hp2 hc2 hm2
    simp (maxSteps := 1000000) (disch := first | omega | rfl | (simp only [zL, two63, room] <;> omega) | fail) only [↓reduceIte, ↓zP, zW, WOp, evOp, evBin, binI, binSh, binS, evNil, keyIs, keyEq, mkv, AV.cells, AV.sc, optv, bnd, env, put, Env.get, Env.set, Env.del, Env.dels, Env.init, res1, resL, resV, fillP, splice, newRow, Nat.reduceEqDiff, Nat.reduceLT, Nat.reduceLeDiff, Nat.reduceAdd, Nat.reduceMul, Nat.reduceSub, Nat.reduceBEq, reduceCtorEq, ↓zR, zQ, Tr, StA, StT]
    refine c_outcome w hw hm2 ?_
    intro h3 hp3
    rw [outcS_one]
    simp (maxSteps := 1000000) (disch := first | omega | rfl | (simp only [zL, two63, room] <;> omega) | fail) only [↓reduceIte, ↓zP, zW, WOp, evOp, evBin, binI, binSh, binS, evNil, keyIs, keyEq, mkv, AV.cells, AV.sc, optv, bnd, env, put, Env.get, Env.set, Env.del, Env.dels, Env.init, res1, resL, resV, fillP, splice, newRow, Nat.reduceEqDiff, Nat.reduceLT, Nat.reduceLeDiff, Nat.reduceAdd, Nat.reduceMul, Nat.reduceSub, Nat.reduceBEq, reduceCtorEq, ↓zR, zQ, Tr, StA, StT]
    refine S_ext rfl rfl ?_
    have hx : h3[h.length]? = some (AO.row [.int .i64 0, .int .i64 0, .int .i64 0] 0 0 false) := by
      have := hc2; simp at this
      rw [hp3.2 _ (by have := hp2.1; simp at this; omega) (by omega), pre_last hp2]
    have hlt := (List.getElem?_eq_some_iff.1 hx).1
    simp (maxSteps := 1000000) (disch := first | omega | rfl | (simp only [zL, two63, room] <;> omega) | fail) only [↓reduceIte, ↓zP, zW, WOp, evOp, evBin, binI, binSh, binS, evNil, keyIs, keyEq, mkv, AV.cells, AV.sc, optv, bnd, env, put, Env.get, Env.set, Env.del, Env.dels, Env.init, res1, resL, resV, fillP, splice, newRow, Nat.reduceEqDiff, Nat.reduceLT, Nat.reduceLeDiff, Nat.reduceAdd, Nat.reduceMul, Nat.reduceSub, Nat.reduceBEq, reduceCtorEq, ↓zR, zQ, Tr, StA, StT, wr_of hx]
    refine hp _ (((hp2.x c).trans hp3).pre2 (by simpa using hc2))
end Go.Proofs.YtnamhjdfegohbaaGreatDoor.Ab

/- PUZZLES: which lines fit a clue. -/
namespace Go.Proofs.YtnamhjdfegohbaaGreatDoor.Ab
open Go
set_option maxRecDepth 100000
set_option maxHeartbeats 4000000

theorem idx_cons (x : UInt8) (l : List UInt8) (b : UInt8) : Go.Lib.indexByte (x :: l) b = if x == b then 0 else if Go.Lib.indexByte l b == -1 then -1 else Go.Lib.indexByte l b + 1 := rfl
theorem lp_pzIndex (s : List UInt8) (hs : s.all isSign = true ∨ s = [49, 50, 70, 84]) (b : UInt8) (h0 : AH) (c : Nat) (hc : c = h0.length) {R : X → Env → AH → Prop} : ∀ (rest pre : List UInt8) (h : AH), s = pre ++ rest → s.length < 2 ^ 30 → h[c]? = some (.iter s pre.length) → Pre h0 h →
    (∀ h', Pre h0 h' → 0 ≤ Go.Lib.indexByte rest b → R .ret [(4, .int .i64 (pre.length + Go.Lib.indexByte rest b))] h') → (∀ h', Pre h0 h' → Go.Lib.indexByte rest b = -1 → R (.exit 0) [] h') →
    Cx (.loop lp195_0) [(0, .str s), (1, .str [b]), (7, .iter c)] h R k k
  | [], pre, h, hpre, hl, hi, hp, h1, h2 => by
    rw [w_loopb (c := lp195_0) (d := lb195_0) rfl]; unfold lb195_0
    have hlt : ¬ pre.length < s.length := by rw [hpre]; simp
    simp (maxSteps := 1000000) (disch := first | omega | rfl | (simp only [zL, two63, room] <;> omega) | fail) only [↓reduceIte, ↓zP, zW, WOp, evOp, evBin, binI, binSh, binS, evNil, keyIs, keyEq, mkv, AV.cells, AV.sc, optv, bnd, env, put, Env.get, Env.set, Env.del, Env.dels, Env.init, res1, resL, resV, fillP, splice, newRow, Nat.reduceEqDiff, Nat.reduceLT, Nat.reduceLeDiff, Nat.reduceAdd, Nat.reduceMul, Nat.reduceSub, Nat.reduceBEq, reduceCtorEq, ↓zR, zQ, Tr, StA, StT, hi, hlt]
    exact h2 h hp rfl
  | x :: rest, pre, h, hpre, hl, hi, hp, h1, h2 => by
    have ih := lp_pzIndex s hs b h0 c hc (R := R) rest (pre ++ [x])
    have hlt : pre.length < s.length := by rw [hpre]; simp
    have hx : s.getD pre.length 0 = x := by rw [hpre]; simp [List.getD_eq_getElem?_getD]
    have hlow : (s.getD pre.length 0).toNat < 128 := by
      rcases hs with hs | hs
      · exact sign_low (sign_at hs hlt)
      · have : ∀ i, i < 4 → (([49, 50, 70, 84] : List UInt8).getD i 0).toNat < 128 := by decide
        rw [hs] at hlt ⊢
        exact this _ hlt
    have hdec := dec_low hlt hlow
    have hd1 : (dec s pre.length).1 = ((s.getD pre.length 0).toNat : Int) := by rw [hdec]
    have hd2 : (dec s pre.length).2 = 1 := by rw [hdec]
    have hsub := sub_one s pre.length hlt
    have hi' : (h.set c (.iter s (pre.length + 1)))[c]? = some (.iter s (pre ++ [x]).length) := by
      rw [List.getElem?_set, if_pos rfl, if_pos (List.getElem?_eq_some_iff.1 hi).1]; simp
    have hp' : Pre h0 (h.set c (.iter s (pre.length + 1))) := hp.set (by omega)
    have e1 : ((pre.length : Int) + 1).toNat = pre.length + 1 := by omega
    have hbeq : ([x] == [b]) = (x == b) := by simp [List.beq_cons_cons, BEq.beq, List.beq]
    rw [w_loopb (c := lp195_0) (d := lb195_0) rfl]; unfold lb195_0
    cases e : (x == b)
    · simp (maxSteps := 1000000) (disch := first | omega | rfl | (simp only [zL, two63, room] <;> omega) | fail) only [↓reduceIte, ↓zP, zW, WOp, evOp, evBin, binI, binSh, binS, evNil, keyIs, keyEq, mkv, AV.cells, AV.sc, optv, bnd, env, put, Env.get, Env.set, Env.del, Env.dels, Env.init, res1, resL, resV, fillP, splice, newRow, Nat.reduceEqDiff, Nat.reduceLT, Nat.reduceLeDiff, Nat.reduceAdd, Nat.reduceMul, Nat.reduceSub, Nat.reduceBEq, reduceCtorEq, ↓zR, zQ, Tr, StA, StT, hi, hlt, hd1, hd2, e1, hsub, hx, hbeq, e]
      rw [w_loopn (c := lp195_0) rfl]
      simp (maxSteps := 1000000) (disch := first | omega | rfl | (simp only [zL, two63, room] <;> omega) | fail) only [↓reduceIte, ↓zP, zW, WOp, evOp, evBin, binI, binSh, binS, evNil, keyIs, keyEq, mkv, AV.cells, AV.sc, optv, bnd, env, put, Env.get, Env.set, Env.del, Env.dels, Env.init, res1, resL, resV, fillP, splice, newRow, Nat.reduceEqDiff, Nat.reduceLT, Nat.reduceLeDiff, Nat.reduceAdd, Nat.reduceMul, Nat.reduceSub, Nat.reduceBEq, reduceCtorEq, ↓zR, zQ, Tr, StA, StT]
      refine ih _ (by rw [hpre]; simp) hl hi' hp' ?_ ?_
      · intro h' hp2 hge
        have := h1 h' hp2 (by rw [idx_cons, e]; simp; split <;> omega)
        rw [idx_cons, e] at this
        rw [if_neg (by simp), if_neg (by simp; omega)] at this
        have e3 : (pre.length : Int) + (Go.Lib.indexByte rest b + 1) = ((pre ++ [x]).length : Int) + Go.Lib.indexByte rest b := by simp; omega
        rw [e3] at this
        exact this
      · intro h' hp2 hm
        exact h2 h' hp2 (by rw [idx_cons, e, hm]; rfl)
    · simp (maxSteps := 1000000) (disch := first | omega | rfl | (simp only [zL, two63, room] <;> omega) | fail) only [↓reduceIte, ↓zP, zW, WOp, evOp, evBin, binI, binSh, binS, evNil, keyIs, keyEq, mkv, AV.cells, AV.sc, optv, bnd, env, put, Env.get, Env.set, Env.del, Env.dels, Env.init, res1, resL, resV, fillP, splice, newRow, Nat.reduceEqDiff, Nat.reduceLT, Nat.reduceLeDiff, Nat.reduceAdd, Nat.reduceMul, Nat.reduceSub, Nat.reduceBEq, reduceCtorEq, ↓zR, zQ, Tr, StA, StT, hi, hlt, hd1, hd2, e1, hsub, hx, hbeq, e]
      have := h1 _ hp' (by rw [idx_cons, e]; simp)
      rw [idx_cons, e] at this
      simpa using this
def pzI (s : List UInt8) (b : UInt8) : Int := if Go.Lib.indexByte s b = -1 then 0 else Go.Lib.indexByte s b
theorem c_pzIndex (s : List UInt8) (hs : s.all isSign = true ∨ s = [49, 50, 70, 84]) (hl : s.length < 2 ^ 30) (b : UInt8) {h : AH} {post : AV → AH → Prop} (hp : ∀ h', Pre h h' → post (.int .i64 (pzI s b)) h') : S 195 [.str s, .str [b]] h post k := by
  refine S_of rfl T195 ?_; unfold fi195
  simp (maxSteps := 1000000) (disch := first | omega | rfl | (simp only [zL, two63, room] <;> omega) | fail) only [↓reduceIte, ↓zP, zW, WOp, evOp, evBin, binI, binSh, binS, evNil, keyIs, keyEq, mkv, AV.cells, AV.sc, optv, bnd, env, put, Env.get, Env.set, Env.del, Env.dels, Env.init, res1, resL, resV, fillP, splice, newRow, Nat.reduceEqDiff, Nat.reduceLT, Nat.reduceLeDiff, Nat.reduceAdd, Nat.reduceMul, Nat.reduceSub, Nat.reduceBEq, reduceCtorEq, ↓zR, zQ, Tr, StA, StT]
  refine lp_pzIndex s hs b h h.length rfl s [] _ rfl hl (by simp) (Pre.push _ _) ?_ ?_
  · intro h' hp' hge
    have := hp h' hp'
    unfold pzI at this
    rw [if_neg (by omega)] at this
    simp (maxSteps := 1000000) (disch := first | omega | rfl | (simp only [zL, two63, room] <;> omega) | fail) only [↓reduceIte, ↓zP, zW, WOp, evOp, evBin, binI, binSh, binS, evNil, keyIs, keyEq, mkv, AV.cells, AV.sc, optv, bnd, env, put, Env.get, Env.set, Env.del, Env.dels, Env.init, res1, resL, resV, fillP, splice, newRow, Nat.reduceEqDiff, Nat.reduceLT, Nat.reduceLeDiff, Nat.reduceAdd, Nat.reduceMul, Nat.reduceSub, Nat.reduceBEq, reduceCtorEq, ↓zR, zQ, Tr, StA, StT]
    simpa using this
  · intro h' hp' hm
    have := hp h' hp'
    unfold pzI at this
    rw [if_pos hm] at this
    simp (maxSteps := 1000000) (disch := first | omega | rfl | (simp only [zL, two63, room] <;> omega) | fail) only [↓reduceIte, ↓zP, zW, WOp, evOp, evBin, binI, binSh, binS, evNil, keyIs, keyEq, mkv, AV.cells, AV.sc, optv, bnd, env, put, Env.get, Env.set, Env.del, Env.dels, Env.init, res1, resL, resV, fillP, splice, newRow, Nat.reduceEqDiff, Nat.reduceLT, Nat.reduceLeDiff, Nat.reduceAdd, Nat.reduceMul, Nat.reduceSub, Nat.reduceBEq, reduceCtorEq, ↓zR, zQ, Tr, StA, StT]
    exact this

def valB (kd at' : Int) (w : List UInt8) : Int :=
  if kd = 0 then pzI [46, 70, 84] (w.getD at'.toNat 0) else if kd = 1 then w.count 84 else if kd = 2 then w.count 70 else if kd = 3 then (movesB w [84, 70]).length else if kd = 4 then pairsB w else
  pzI [49, 50, 70, 84] ((outcS (winB w true) (winB w false)).getD 0 0)
theorem c_pzValue (kd cell : Int) (w : List UInt8) (hs : w.all isSign = true) (hw : w.length ≤ 12) (hc : kd = 0 → 0 ≤ cell ∧ cell < w.length) {h : AH} {post : AV → AH → Prop} (hp : ∀ h', Pre h h' → post (.int .i64 (valB kd cell w)) h') : S 188 [.int .i64 kd, .int .i64 cell, .str w] h post k := by
  refine S_of rfl T188 ?_; unfold fi188
  unfold valB at hp
  have hw1 : w.length < 1073741824 := by omega
  by_cases k0 : kd = 0
  · obtain ⟨hc1, hc2⟩ := hc k0
    obtain ⟨i, rfl⟩ := Int.eq_ofNat_of_zero_le hc1
    have e1 : ((i : Int) + 1).toNat = i + 1 := by omega
    have e2 := sub_one w i (by omega)
    rw [if_pos k0] at hp
    simp (maxSteps := 1000000) (disch := first | omega | rfl | (simp only [zL, two63, room] <;> omega) | fail) only [↓reduceIte, ↓zP, zW, WOp, evOp, evBin, binI, binSh, binS, evNil, keyIs, keyEq, mkv, AV.cells, AV.sc, optv, bnd, env, put, Env.get, Env.set, Env.del, Env.dels, Env.init, res1, resL, resV, fillP, splice, newRow, Nat.reduceEqDiff, Nat.reduceLT, Nat.reduceLeDiff, Nat.reduceAdd, Nat.reduceMul, Nat.reduceSub, Nat.reduceBEq, reduceCtorEq, ↓zR, zQ, Tr, StA, StT, k0, e1, e2]
    refine c_pzIndex _ (.inl rfl) (by simp) _ ?_
    intro h2 hp2
    simp (maxSteps := 1000000) (disch := first | omega | rfl | (simp only [zL, two63, room] <;> omega) | fail) only [↓reduceIte, ↓zP, zW, WOp, evOp, evBin, binI, binSh, binS, evNil, keyIs, keyEq, mkv, AV.cells, AV.sc, optv, bnd, env, put, Env.get, Env.set, Env.del, Env.dels, Env.init, res1, resL, resV, fillP, splice, newRow, Nat.reduceEqDiff, Nat.reduceLT, Nat.reduceLeDiff, Nat.reduceAdd, Nat.reduceMul, Nat.reduceSub, Nat.reduceBEq, reduceCtorEq, ↓zR, zQ, Tr, StA, StT]
    exact hp h2 hp2
  rw [if_neg k0] at hp
  by_cases k1 : kd = 1
  · rw [if_pos k1] at hp
    simp (maxSteps := 1000000) (disch := first | omega | rfl | (simp only [zL, two63, room] <;> omega) | fail) only [↓reduceIte, ↓zP, zW, WOp, evOp, evBin, binI, binSh, binS, evNil, keyIs, keyEq, mkv, AV.cells, AV.sc, optv, bnd, env, put, Env.get, Env.set, Env.del, Env.dels, Env.init, res1, resL, resV, fillP, splice, newRow, Nat.reduceEqDiff, Nat.reduceLT, Nat.reduceLeDiff, Nat.reduceAdd, Nat.reduceMul, Nat.reduceSub, Nat.reduceBEq, reduceCtorEq, ↓zR, zQ, Tr, StA, StT, k1, e_liCountT]
    exact hp _ (Pre.refl _)
  rw [if_neg k1] at hp
  by_cases k2 : kd = 2
  · rw [if_pos k2] at hp
    simp (maxSteps := 1000000) (disch := first | omega | rfl | (simp only [zL, two63, room] <;> omega) | fail) only [↓reduceIte, ↓zP, zW, WOp, evOp, evBin, binI, binSh, binS, evNil, keyIs, keyEq, mkv, AV.cells, AV.sc, optv, bnd, env, put, Env.get, Env.set, Env.del, Env.dels, Env.init, res1, resL, resV, fillP, splice, newRow, Nat.reduceEqDiff, Nat.reduceLT, Nat.reduceLeDiff, Nat.reduceAdd, Nat.reduceMul, Nat.reduceSub, Nat.reduceBEq, reduceCtorEq, ↓zR, zQ, Tr, StA, StT, k2, e_liCountF]
    exact hp _ (Pre.refl _)
  rw [if_neg k2] at hp
  by_cases k3 : kd = 3
  · rw [if_pos k3] at hp
    simp (maxSteps := 1000000) (disch := first | omega | rfl | (simp only [zL, two63, room] <;> omega) | fail) only [↓reduceIte, ↓zP, zW, WOp, evOp, evBin, binI, binSh, binS, evNil, keyIs, keyEq, mkv, AV.cells, AV.sc, optv, bnd, env, put, Env.get, Env.set, Env.del, Env.dels, Env.init, res1, resL, resV, fillP, splice, newRow, Nat.reduceEqDiff, Nat.reduceLT, Nat.reduceLeDiff, Nat.reduceAdd, Nat.reduceMul, Nat.reduceSub, Nat.reduceBEq, reduceCtorEq, ↓zR, zQ, Tr, StA, StT, k3]
    refine c_liMoves w hs (by omega) true true ?_
    intro v h2 ho hp2
    rw [liMovesB_eq] at ho
    have hsl : Slc 2 encM h2 v (movesB w [84, 70]) := ho.slc
    have hv := fun g => Slc.lenV (hsl) (g := g) (ρ := fun _ => _) (x := .t 0) rfl; simp only [evOp] at hv
    simp (maxSteps := 1000000) (disch := first | omega | rfl | (simp only [zL, two63, room] <;> omega) | fail) only [↓reduceIte, ↓zP, zW, WOp, evOp, evBin, binI, binSh, binS, evNil, keyIs, keyEq, mkv, AV.cells, AV.sc, optv, bnd, env, put, Env.get, Env.set, Env.del, Env.dels, Env.init, res1, resL, resV, fillP, splice, newRow, Nat.reduceEqDiff, Nat.reduceLT, Nat.reduceLeDiff, Nat.reduceAdd, Nat.reduceMul, Nat.reduceSub, Nat.reduceBEq, reduceCtorEq, ↓zR, zQ, Tr, StA, StT, hv]
    exact hp _ hp2
  rw [if_neg k3] at hp
  by_cases k4 : kd = 4
  · rw [if_pos k4] at hp
    simp (maxSteps := 1000000) (disch := first | omega | rfl | (simp only [zL, two63, room] <;> omega) | fail) only [↓reduceIte, ↓zP, zW, WOp, evOp, evBin, binI, binSh, binS, evNil, keyIs, keyEq, mkv, AV.cells, AV.sc, optv, bnd, env, put, Env.get, Env.set, Env.del, Env.dels, Env.init, res1, resL, resV, fillP, splice, newRow, Nat.reduceEqDiff, Nat.reduceLT, Nat.reduceLeDiff, Nat.reduceAdd, Nat.reduceMul, Nat.reduceSub, Nat.reduceBEq, reduceCtorEq, ↓zR, zQ, Tr, StA, StT, k4, e_liPairs]
    exact hp _ (Pre.refl _)
  rw [if_neg k4] at hp
  · simp (maxSteps := 1000000) (disch := first | omega | rfl | (simp only [zL, two63, room] <;> omega) | fail) only [↓reduceIte, ↓zP, zW, WOp, evOp, evBin, binI, binSh, binS, evNil, keyIs, keyEq, mkv, AV.cells, AV.sc, optv, bnd, env, put, Env.get, Env.set, Env.del, Env.dels, Env.init, res1, resL, resV, fillP, splice, newRow, Nat.reduceEqDiff, Nat.reduceLT, Nat.reduceLeDiff, Nat.reduceAdd, Nat.reduceMul, Nat.reduceSub, Nat.reduceBEq, reduceCtorEq, ↓zR, zQ, Tr, StA, StT]
    have hsl : Slc 1 encS (h ++ [AO.row [.str w] 0 0 false]) (.slice h.length 0 0 1 1) [w] := by
      unfold Slc Sl
      exact ⟨rfl, rfl, rfl, by simp (maxSteps := 1000000) (disch := first | omega | rfl | (simp only [zL, two63, room] <;> omega) | fail) only [↓reduceIte, ↓zP, zW, WOp, evOp, evBin, binI, binSh, binS, evNil, keyIs, keyEq, mkv, AV.cells, AV.sc, optv, bnd, env, put, Env.get, Env.set, Env.del, Env.dels, Env.init, res1, resL, resV, fillP, splice, newRow, Nat.reduceEqDiff, Nat.reduceLT, Nat.reduceLeDiff, Nat.reduceAdd, Nat.reduceMul, Nat.reduceSub, Nat.reduceBEq, reduceCtorEq, ↓zR, zQ, Tr, StA, StT]; rfl⟩
    refine c_gaOutcome hsl (by simpa [signs] using hs) (by simp [gaTail]; omega) ?_
    intro h2 l2 a2
    rw [winL_one (mu w + 1) w true (by omega), winL_one (mu w + 1) w false (by omega), outcS_one]
    simp (maxSteps := 1000000) (disch := first | omega | rfl | (simp only [zL, two63, room] <;> omega) | fail) only [↓reduceIte, ↓zP, zW, WOp, evOp, evBin, binI, binSh, binS, evNil, keyIs, keyEq, mkv, AV.cells, AV.sc, optv, bnd, env, put, Env.get, Env.set, Env.del, Env.dels, Env.init, res1, resL, resV, fillP, splice, newRow, Nat.reduceEqDiff, Nat.reduceLT, Nat.reduceLeDiff, Nat.reduceAdd, Nat.reduceMul, Nat.reduceSub, Nat.reduceBEq, reduceCtorEq, ↓zR, zQ, Tr, StA, StT]
    refine c_pzIndex _ (.inr rfl) (by simp) _ ?_
    intro h3 hp3
    simp (maxSteps := 1000000) (disch := first | omega | rfl | (simp only [zL, two63, room] <;> omega) | fail) only [↓reduceIte, ↓zP, zW, WOp, evOp, evBin, binI, binSh, binS, evNil, keyIs, keyEq, mkv, AV.cells, AV.sc, optv, bnd, env, put, Env.get, Env.set, Env.del, Env.dels, Env.init, res1, resL, resV, fillP, splice, newRow, Nat.reduceEqDiff, Nat.reduceLT, Nat.reduceLeDiff, Nat.reduceAdd, Nat.reduceMul, Nat.reduceSub, Nat.reduceBEq, reduceCtorEq, ↓zR, zQ, Tr, StA, StT]
    have q : Pre (h ++ [AO.row [.str w] 0 0 false]) h2 := ⟨l2, a2⟩
    exact hp h3 ((pre_of_last q).trans hp3)

def fitB (c : Int × Int × Int) (w : List UInt8) : Bool := if c.1 = 0 then valB 0 c.2.1 w == c.2.2 else valB c.1 0 w == c.2.1
theorem c_pzFits (kd a b : Int) (w : List UInt8) (hs : w.all isSign = true) (hw : w.length ≤ 12) (hc : kd = 0 → 0 ≤ a ∧ a < w.length) {h : AH} {post : AV → AH → Prop} (hp : ∀ h', Pre h h' → post (.bool (fitB (kd, a, b) w)) h') : S 181 [.agg (encC (kd, a, b)), .str w] h post k := by
  refine S_of rfl T181 ?_; unfold fi181
  have r0 : rdRow (h ++ [AO.row [.int .i64 kd, .int .i64 a, .int .i64 b] 0 0 false]) h.length 0 2 1 = some [.int .i64 b] := by simp (maxSteps := 1000000) (disch := first | omega | rfl | (simp only [zL, two63, room] <;> omega) | fail) only [↓reduceIte, ↓zP, zW, WOp, evOp, evBin, binI, binSh, binS, evNil, keyIs, keyEq, mkv, AV.cells, AV.sc, optv, bnd, env, put, Env.get, Env.set, Env.del, Env.dels, Env.init, res1, resL, resV, fillP, splice, newRow, Nat.reduceEqDiff, Nat.reduceLT, Nat.reduceLeDiff, Nat.reduceAdd, Nat.reduceMul, Nat.reduceSub, Nat.reduceBEq, reduceCtorEq, ↓zR, zQ, Tr, StA, StT]
  have r1 : rdRow (h ++ [AO.row [.int .i64 kd, .int .i64 a, .int .i64 b] 0 0 false]) h.length 0 1 1 = some [.int .i64 a] := by simp (maxSteps := 1000000) (disch := first | omega | rfl | (simp only [zL, two63, room] <;> omega) | fail) only [↓reduceIte, ↓zP, zW, WOp, evOp, evBin, binI, binSh, binS, evNil, keyIs, keyEq, mkv, AV.cells, AV.sc, optv, bnd, env, put, Env.get, Env.set, Env.del, Env.dels, Env.init, res1, resL, resV, fillP, splice, newRow, Nat.reduceEqDiff, Nat.reduceLT, Nat.reduceLeDiff, Nat.reduceAdd, Nat.reduceMul, Nat.reduceSub, Nat.reduceBEq, reduceCtorEq, ↓zR, zQ, Tr, StA, StT]
  unfold fitB at hp
  by_cases k0 : kd = 0
  · rw [if_pos k0] at hp
    simp (maxSteps := 1000000) (disch := first | omega | rfl | (simp only [zL, two63, room] <;> omega) | fail) only [↓reduceIte, ↓zP, zW, WOp, evOp, evBin, binI, binSh, binS, evNil, keyIs, keyEq, mkv, AV.cells, AV.sc, optv, bnd, env, put, Env.get, Env.set, Env.del, Env.dels, Env.init, res1, resL, resV, fillP, splice, newRow, Nat.reduceEqDiff, Nat.reduceLT, Nat.reduceLeDiff, Nat.reduceAdd, Nat.reduceMul, Nat.reduceSub, Nat.reduceBEq, reduceCtorEq, ↓zR, zQ, Tr, StA, StT, k0]
    refine w_drw ?_
    simp (maxSteps := 1000000) (disch := first | omega | rfl | (simp only [zL, two63, room] <;> omega) | fail) only [↓reduceIte, ↓zP, zW, WOp, evOp, evBin, binI, binSh, binS, evNil, keyIs, keyEq, mkv, AV.cells, AV.sc, optv, bnd, env, put, Env.get, Env.set, Env.del, Env.dels, Env.init, res1, resL, resV, fillP, splice, newRow, Nat.reduceEqDiff, Nat.reduceLT, Nat.reduceLeDiff, Nat.reduceAdd, Nat.reduceMul, Nat.reduceSub, Nat.reduceBEq, reduceCtorEq, ↓zR, zQ, Tr, StA, StT, k0]
    refine c_pzValue 0 a w hs hw (fun _ => hc k0) ?_
    intro h2 hp2
    have q0 := rdRow_pre hp2 (k0 ▸ r0)
    simp (maxSteps := 1000000) (disch := first | omega | rfl | (simp only [zL, two63, room] <;> omega) | fail) only [↓reduceIte, ↓zP, zW, WOp, evOp, evBin, binI, binSh, binS, evNil, keyIs, keyEq, mkv, AV.cells, AV.sc, optv, bnd, env, put, Env.get, Env.set, Env.del, Env.dels, Env.init, res1, resL, resV, fillP, splice, newRow, Nat.reduceEqDiff, Nat.reduceLT, Nat.reduceLeDiff, Nat.reduceAdd, Nat.reduceMul, Nat.reduceSub, Nat.reduceBEq, reduceCtorEq, ↓zR, zQ, Tr, StA, StT, q0]
    exact hp h2 (pre_of_last hp2)
  · rw [if_neg k0] at hp
    simp (maxSteps := 1000000) (disch := first | omega | rfl | (simp only [zL, two63, room] <;> omega) | fail) only [↓reduceIte, ↓zP, zW, WOp, evOp, evBin, binI, binSh, binS, evNil, keyIs, keyEq, mkv, AV.cells, AV.sc, optv, bnd, env, put, Env.get, Env.set, Env.del, Env.dels, Env.init, res1, resL, resV, fillP, splice, newRow, Nat.reduceEqDiff, Nat.reduceLT, Nat.reduceLeDiff, Nat.reduceAdd, Nat.reduceMul, Nat.reduceSub, Nat.reduceBEq, reduceCtorEq, ↓zR, zQ, Tr, StA, StT, k0]
    refine w_drw ?_
    simp (maxSteps := 1000000) (disch := first | omega | rfl | (simp only [zL, two63, room] <;> omega) | fail) only [↓reduceIte, ↓zP, zW, WOp, evOp, evBin, binI, binSh, binS, evNil, keyIs, keyEq, mkv, AV.cells, AV.sc, optv, bnd, env, put, Env.get, Env.set, Env.del, Env.dels, Env.init, res1, resL, resV, fillP, splice, newRow, Nat.reduceEqDiff, Nat.reduceLT, Nat.reduceLeDiff, Nat.reduceAdd, Nat.reduceMul, Nat.reduceSub, Nat.reduceBEq, reduceCtorEq, ↓zR, zQ, Tr, StA, StT, k0]
    refine c_pzValue kd 0 w hs hw (fun e => absurd e k0) ?_
    intro h2 hp2
    have q1 := rdRow_pre hp2 r1
    simp (maxSteps := 1000000) (disch := first | omega | rfl | (simp only [zL, two63, room] <;> omega) | fail) only [↓reduceIte, ↓zP, zW, WOp, evOp, evBin, binI, binSh, binS, evNil, keyIs, keyEq, mkv, AV.cells, AV.sc, optv, bnd, env, put, Env.get, Env.set, Env.del, Env.dels, Env.init, res1, resL, resV, fillP, splice, newRow, Nat.reduceEqDiff, Nat.reduceLT, Nat.reduceLeDiff, Nat.reduceAdd, Nat.reduceMul, Nat.reduceSub, Nat.reduceBEq, reduceCtorEq, ↓zR, zQ, Tr, StA, StT, q1]
    exact hp h2 (pre_of_last hp2)

theorem pzI_sign {b : UInt8} (hb : isSign b = true) : pzI [46, 70, 84] b = Go.Lib.indexByte [46, 70, 84] b := by
  simp only [isSign, Bool.or_eq_true, beq_iff_eq] at hb
  rcases hb with (rfl | rfl) | rfl <;> decide
theorem pzI_out (a b : Bool) : pzI [49, 50, 70, 84] ((outcS a b).getD 0 0) = Go.Lib.indexByte [49, 50, 70, 84] ((outcS a b).getD 0 0) := by cases a <;> cases b <;> decide
theorem fit_eq {n : Int} {kd a b cell : Int} {w : List UInt8} (hs : w.all isSign = true) (hn : n = w.length) (hc : clueOk n (kd, a, b) = true) (hcell : kd = 0 → cell = a) : seqL [0, 0, 0] (encC (clueB kd cell w)) (encC (kd, a, b)) = some (fitB (kd, a, b) w) := by
  have key : ∀ x y z : Int, seqL [0, 0, 0] (encC (x, y, z)) (encC (kd, a, b)) = some ((x == kd) && ((y == a) && (z == b))) := by
    intro x y z
    simp [seqL, keyIs, keyEq]
  unfold fitB clueB valB
  by_cases k0 : kd = 0
  · subst k0
    have := hcell rfl
    subst this
    simp only [if_true]
    simp only [clueOk, if_true, Bool.and_eq_true, decide_eq_true_eq] at hc
    rw [key, pzI_sign (sign_at hs (by omega))]
    simp
  have hb : b = 0 := by
    simp only [clueOk, if_neg k0, Bool.and_eq_true, decide_eq_true_eq] at hc
    exact hc.1
  subst hb
  simp only [if_neg k0]
  by_cases k1 : kd = 1
  · subst k1; rw [if_pos rfl, if_pos rfl, key]; simp
  rw [if_neg k1, if_neg k1]
  by_cases k2 : kd = 2
  · subst k2; rw [if_pos rfl, if_pos rfl, key]; simp
  rw [if_neg k2, if_neg k2]
  by_cases k3 : kd = 3
  · subst k3; rw [if_pos rfl, if_pos rfl, key]; simp
  rw [if_neg k3, if_neg k3]
  by_cases k4 : kd = 4
  · subst k4; rw [if_pos rfl, if_pos rfl, key]; simp
  rw [if_neg k4, if_neg k4]
  have k5 : kd = 5 := by
    simp [clueOk, k0, k1, k2, k3, k4] at hc
    exact hc.1
  subst k5
  rw [key, pzI_out]
  simp
theorem c_fits (kd a b : Int) (w : List UInt8) (hs : w.all isSign = true) (hw : w.length < 1073741824) (hc : clueOk w.length (kd, a, b) = true) {h : AH} {post : AV → AH → Prop} (hp : ∀ h', Pre h h' → post (.bool (fitB (kd, a, b) w)) h') : S 186 [.agg (encC (kd, a, b)), .str w] h post k := by
  have hcell : kd = 0 → 0 ≤ a ∧ a < w.length := by
    rintro rfl
    simp only [clueOk, if_true, Bool.and_eq_true, decide_eq_true_eq] at hc
    omega
  refine S_of rfl T186 ?_; unfold fi186
  have r0 : rdRow (h ++ [AO.row [.int .i64 kd, .int .i64 a, .int .i64 b] 0 0 false]) h.length 0 0 3 = some [.int .i64 kd, .int .i64 a, .int .i64 b] := by simp (maxSteps := 1000000) (disch := first | omega | rfl | (simp only [zL, two63, room] <;> omega) | fail) only [↓reduceIte, ↓zP, zW, WOp, evOp, evBin, binI, binSh, binS, evNil, keyIs, keyEq, mkv, AV.cells, AV.sc, optv, bnd, env, put, Env.get, Env.set, Env.del, Env.dels, Env.init, res1, resL, resV, fillP, splice, newRow, Nat.reduceEqDiff, Nat.reduceLT, Nat.reduceLeDiff, Nat.reduceAdd, Nat.reduceMul, Nat.reduceSub, Nat.reduceBEq, reduceCtorEq, ↓zR, zQ, Tr, StA, StT]
  simp (maxSteps := 1000000) (disch := first | omega | rfl | (simp only [zL, two63, room] <;> omega) | fail) only [↓reduceIte, ↓zP, zW, WOp, evOp, evBin, binI, binSh, binS, evNil, keyIs, keyEq, mkv, AV.cells, AV.sc, optv, bnd, env, put, Env.get, Env.set, Env.del, Env.dels, Env.init, res1, resL, resV, fillP, splice, newRow, Nat.reduceEqDiff, Nat.reduceLT, Nat.reduceLeDiff, Nat.reduceAdd, Nat.reduceMul, Nat.reduceSub, Nat.reduceBEq, reduceCtorEq, ↓zR, zQ, Tr, StA, StT]
  refine w_drw ?_
  simp (maxSteps := 1000000) (disch := first | omega | rfl | (simp only [zL, two63, room] <;> omega) | fail) only [↓reduceIte, ↓zP, zW, WOp, evOp, evBin, binI, binSh, binS, evNil, keyIs, keyEq, mkv, AV.cells, AV.sc, optv, bnd, env, put, Env.get, Env.set, Env.del, Env.dels, Env.init, res1, resL, resV, fillP, splice, newRow, Nat.reduceEqDiff, Nat.reduceLT, Nat.reduceLeDiff, Nat.reduceAdd, Nat.reduceMul, Nat.reduceSub, Nat.reduceBEq, reduceCtorEq, ↓zR, zQ, Tr, StA, StT]
  refine c_clueOf kd a w hw hcell ?_
  intro h2 hp2
  have q0 := rdRow_pre hp2 r0
  have hf := fit_eq (cell := a) hs rfl hc (fun _ => rfl)
  unfold encC at hf
  simp (maxSteps := 1000000) (disch := first | omega | rfl | (simp only [zL, two63, room] <;> omega) | fail) only [↓reduceIte, ↓zP, zW, WOp, evOp, evBin, binI, binSh, binS, evNil, keyIs, keyEq, mkv, AV.cells, AV.sc, optv, bnd, env, put, Env.get, Env.set, Env.del, Env.dels, Env.init, res1, resL, resV, fillP, splice, newRow, Nat.reduceEqDiff, Nat.reduceLT, Nat.reduceLeDiff, Nat.reduceAdd, Nat.reduceMul, Nat.reduceSub, Nat.reduceBEq, reduceCtorEq, ↓zR, zQ, Tr, StA, StT, q0, hf]
  exact hp h2 (pre_of_last hp2)
theorem c_DoesFit (kd a b : Int) (w : List UInt8) (hs : w.all isSign = true) (hl : 1 ≤ w.length ∧ w.length ≤ 5) (hc : clueOk w.length (kd, a, b) = true) {h : AH} {post : AV → AH → Prop} (hp : ∀ h', Pre h h' → post (.tup [.bool (fitB (kd, a, b) w), .bool true]) h') : S 185 [.agg (encC (kd, a, b)), .str w] h post k := by
  refine S_of rfl T185 ?_; unfold fi185
  have r0 : rdRow (h ++ [AO.row [.int .i64 kd, .int .i64 a, .int .i64 b] 0 0 false]) h.length 0 0 3 = some [.int .i64 kd, .int .i64 a, .int .i64 b] := by simp (maxSteps := 1000000) (disch := first | omega | rfl | (simp only [zL, two63, room] <;> omega) | fail) only [↓reduceIte, ↓zP, zW, WOp, evOp, evBin, binI, binSh, binS, evNil, keyIs, keyEq, mkv, AV.cells, AV.sc, optv, bnd, env, put, Env.get, Env.set, Env.del, Env.dels, Env.init, res1, resL, resV, fillP, splice, newRow, Nat.reduceEqDiff, Nat.reduceLT, Nat.reduceLeDiff, Nat.reduceAdd, Nat.reduceMul, Nat.reduceSub, Nat.reduceBEq, reduceCtorEq, ↓zR, zQ, Tr, StA, StT]
  have r1 : rdRow (h ++ [AO.row [.int .i64 kd, .int .i64 a, .int .i64 b] 0 0 false]) h.length 0 0 1 = some [.int .i64 kd] := by simp (maxSteps := 1000000) (disch := first | omega | rfl | (simp only [zL, two63, room] <;> omega) | fail) only [↓reduceIte, ↓zP, zW, WOp, evOp, evBin, binI, binSh, binS, evNil, keyIs, keyEq, mkv, AV.cells, AV.sc, optv, bnd, env, put, Env.get, Env.set, Env.del, Env.dels, Env.init, res1, resL, resV, fillP, splice, newRow, Nat.reduceEqDiff, Nat.reduceLT, Nat.reduceLeDiff, Nat.reduceAdd, Nat.reduceMul, Nat.reduceSub, Nat.reduceBEq, reduceCtorEq, ↓zR, zQ, Tr, StA, StT]
  simp (maxSteps := 1000000) (disch := first | omega | rfl | (simp only [zL, two63, room] <;> omega) | fail) only [↓reduceIte, ↓zP, zW, WOp, evOp, evBin, binI, binSh, binS, evNil, keyIs, keyEq, mkv, AV.cells, AV.sc, optv, bnd, env, put, Env.get, Env.set, Env.del, Env.dels, Env.init, res1, resL, resV, fillP, splice, newRow, Nat.reduceEqDiff, Nat.reduceLT, Nat.reduceLeDiff, Nat.reduceAdd, Nat.reduceMul, Nat.reduceSub, Nat.reduceBEq, reduceCtorEq, ↓zR, zQ, Tr, StA, StT]
  refine c_isLineOf w 5 (by omega) (by omega) ?_
  have hl2 : (1 : Int) ≤ w.length ∧ (w.length : Int) ≤ 5 := by omega
  simp (maxSteps := 1000000) (disch := first | omega | rfl | (simp only [zL, two63, room] <;> omega) | fail) only [↓reduceIte, ↓zP, zW, WOp, evOp, evBin, binI, binSh, binS, evNil, keyIs, keyEq, mkv, AV.cells, AV.sc, optv, bnd, env, put, Env.get, Env.set, Env.del, Env.dels, Env.init, res1, resL, resV, fillP, splice, newRow, Nat.reduceEqDiff, Nat.reduceLT, Nat.reduceLeDiff, Nat.reduceAdd, Nat.reduceMul, Nat.reduceSub, Nat.reduceBEq, reduceCtorEq, ↓zR, zQ, Tr, StA, StT, hl2, hs]
  refine c_IsClue w.length kd a b (by omega) ?_
  intro h2 hp2
  have q0 := rdRow_pre hp2 r0
  have q1 := rdRow_pre hp2 r1
  by_cases k0 : kd = 0
  · subst k0
    simp (maxSteps := 1000000) (disch := first | omega | rfl | (simp only [zL, two63, room] <;> omega) | fail) only [↓reduceIte, ↓zP, zW, WOp, evOp, evBin, binI, binSh, binS, evNil, keyIs, keyEq, mkv, AV.cells, AV.sc, optv, bnd, env, put, Env.get, Env.set, Env.del, Env.dels, Env.init, res1, resL, resV, fillP, splice, newRow, Nat.reduceEqDiff, Nat.reduceLT, Nat.reduceLeDiff, Nat.reduceAdd, Nat.reduceMul, Nat.reduceSub, Nat.reduceBEq, reduceCtorEq, ↓zR, zQ, Tr, StA, StT, hl2, hc, q0, q1]
    refine c_fits 0 a b w hs (by omega) hc ?_
    intro h3 hp3
    simp (maxSteps := 1000000) (disch := first | omega | rfl | (simp only [zL, two63, room] <;> omega) | fail) only [↓reduceIte, ↓zP, zW, WOp, evOp, evBin, binI, binSh, binS, evNil, keyIs, keyEq, mkv, AV.cells, AV.sc, optv, bnd, env, put, Env.get, Env.set, Env.del, Env.dels, Env.init, res1, resL, resV, fillP, splice, newRow, Nat.reduceEqDiff, Nat.reduceLT, Nat.reduceLeDiff, Nat.reduceAdd, Nat.reduceMul, Nat.reduceSub, Nat.reduceBEq, reduceCtorEq, ↓zR, zQ, Tr, StA, StT]
    exact hp h3 ((pre_of_last hp2).trans hp3)
  · simp (maxSteps := 1000000) (disch := first | omega | rfl | (simp only [zL, two63, room] <;> omega) | fail) only [↓reduceIte, ↓zP, zW, WOp, evOp, evBin, binI, binSh, binS, evNil, keyIs, keyEq, mkv, AV.cells, AV.sc, optv, bnd, env, put, Env.get, Env.set, Env.del, Env.dels, Env.init, res1, resL, resV, fillP, splice, newRow, Nat.reduceEqDiff, Nat.reduceLT, Nat.reduceLeDiff, Nat.reduceAdd, Nat.reduceMul, Nat.reduceSub, Nat.reduceBEq, reduceCtorEq, ↓zR, zQ, Tr, StA, StT, hl2, hc, q0, q1, k0]
    refine w_drw ?_
    simp (maxSteps := 1000000) (disch := first | omega | rfl | (simp only [zL, two63, room] <;> omega) | fail) only [↓reduceIte, ↓zP, zW, WOp, evOp, evBin, binI, binSh, binS, evNil, keyIs, keyEq, mkv, AV.cells, AV.sc, optv, bnd, env, put, Env.get, Env.set, Env.del, Env.dels, Env.init, res1, resL, resV, fillP, splice, newRow, Nat.reduceEqDiff, Nat.reduceLT, Nat.reduceLeDiff, Nat.reduceAdd, Nat.reduceMul, Nat.reduceSub, Nat.reduceBEq, reduceCtorEq, ↓zR, zQ, Tr, StA, StT, q0, q1]
    refine c_clueOf kd 0 w (by omega) (fun e => absurd e k0) ?_
    intro h3 hp3
    have s0 := rdRow_pre hp3 q0
    have hf := fit_eq (cell := 0) hs rfl hc (fun e => absurd e k0)
    unfold encC at hf
    simp (maxSteps := 1000000) (disch := first | omega | rfl | (simp only [zL, two63, room] <;> omega) | fail) only [↓reduceIte, ↓zP, zW, WOp, evOp, evBin, binI, binSh, binS, evNil, keyIs, keyEq, mkv, AV.cells, AV.sc, optv, bnd, env, put, Env.get, Env.set, Env.del, Env.dels, Env.init, res1, resL, resV, fillP, splice, newRow, Nat.reduceEqDiff, Nat.reduceLT, Nat.reduceLeDiff, Nat.reduceAdd, Nat.reduceMul, Nat.reduceSub, Nat.reduceBEq, reduceCtorEq, ↓zR, zQ, Tr, StA, StT, q0, s0, hf]
    exact hp h3 ((pre_of_last hp2).trans hp3)
end Go.Proofs.YtnamhjdfegohbaaGreatDoor.Ab

/- PLAIN: all lines of so many cells, in order. -/
namespace Go.Proofs.YtnamhjdfegohbaaGreatDoor.Ab

def ext3 (w : List UInt8) : List (List UInt8) := [w ++ [46], w ++ [70], w ++ [84]]
def allL : Nat → List (List UInt8)
  | 0 => [[]]
  | n + 1 => (allL n).flatMap ext3
/-- All that go on so many cells. -/
def goOn : Nat → List UInt8 → List (List UInt8)
  | 0, w => [w]
  | n + 1, w => goOn n (w ++ [46]) ++ goOn n (w ++ [70]) ++ goOn n (w ++ [84])
theorem goOn_succ : ∀ (n : Nat) (w : List UInt8), goOn (n + 1) w = (goOn n w).flatMap ext3
  | 0, w => by simp [goOn, ext3]
  | n + 1, w => by
    rw [goOn, goOn_succ n, goOn_succ n, goOn_succ n]
    conv => rhs; rw [goOn]
    simp only [List.flatMap_append]
theorem goOn_all : ∀ n : Nat, goOn n [] = allL n
  | 0 => rfl
  | n + 1 => by rw [goOn_succ, goOn_all n]; rfl
theorem allL_good : ∀ (n : Nat) (w : List UInt8), w ∈ allL n → w.length = n ∧ w.all isSign = true
  | 0, w, h => by simp [allL] at h; subst h; exact ⟨rfl, rfl⟩
  | n + 1, w, h => by
    simp only [allL, List.mem_flatMap] at h
    obtain ⟨v, hv, h⟩ := h
    obtain ⟨h1, h2⟩ := allL_good n v hv
    simp only [ext3, List.mem_cons, List.not_mem_nil, or_false] at h
    rcases h with rfl | rfl | rfl <;> simp [h1, h2, isSign, List.all_append]
theorem allL_length : ∀ n : Nat, (allL n).length = 3 ^ n
  | 0 => rfl
  | n + 1 => by
    have key : ∀ l : List (List UInt8), (l.flatMap ext3).length = l.length * 3 := by
      intro l
      induction l with
      | nil => rfl
      | cons a l ih => rw [List.flatMap_cons, List.length_append, ih]; simp [ext3]; omega
    rw [allL, key, allL_length n, Nat.pow_succ]
end Go.Proofs.YtnamhjdfegohbaaGreatDoor.Ab

/- A CELL that holds a slice of one's own, to which is appended through a pointer. -/
namespace Go.Proofs.YtnamhjdfegohbaaGreatDoor.Ab
open Go
set_option maxRecDepth 100000
set_option maxHeartbeats 4000000

/-- Rows that belong to a cell: its own, and those of the slices that it holds. -/
def grc (c : Nat) (h : AH) (i : Nat) : Prop := i = c ∨ ∃ cs ver fl ro, h[c]? = some (.row cs ver fl ro) ∧ ∃ v ∈ cs, rowOf v = some i
def FrC (c : Nat) (h h' : AH) : Prop := h.length ≤ h'.length ∧ ∀ i, i < h.length → ¬ grc c h i → h'[i]? = h[i]? ∧ ¬ grc c h' i
theorem FrC.refl (c : Nat) (h : AH) : FrC c h h := ⟨Nat.le_refl _, fun _ _ hg => ⟨rfl, hg⟩⟩
theorem FrC.trans {c : Nat} {x y z : AH} (p : FrC c x y) (q : FrC c y z) : FrC c x z := ⟨Nat.le_trans p.1 q.1, fun i hi hg => by
  obtain ⟨h1, h2⟩ := p.2 i hi hg
  obtain ⟨h3, h4⟩ := q.2 i (Nat.lt_of_lt_of_le hi p.1) h2
  exact ⟨by rw [h3, h1], h4⟩⟩
theorem grc_pre {c : Nat} {h h' : AH} (hp : Pre h h') (hc : c < h.length) (i : Nat) : grc c h' i ↔ grc c h i := by
  unfold grc; rw [hp.2 c hc]
theorem Pre.frc {c : Nat} {h h' : AH} (hp : Pre h h') (hc : c < h.length) : FrC c h h' := ⟨hp.1, fun i hi hg => ⟨hp.2 i hi, by rw [grc_pre hp hc]; exact hg⟩⟩
theorem rd_frc {c : Nat} {h h' : AH} (hf : FrC c h h') {r k o n : Nat} {cs : List AV} (hg : ¬ grc c h r) (hr : rdRow h r k o n = some cs) : rdRow h' r k o n = some cs := by
  have := rd_lt hr
  unfold rdRow at hr ⊢
  rw [(hf.2 r this hg).1]; exact hr
/-- A slice that is read, and does not belong to the cell. -/
def SlcC {α : Type} (esz : Nat) (enc : α → List AV) (c : Nat) (h : AH) (v : AV) (L : List α) : Prop := Slc esz enc h v L ∧ ∀ r, rowOf v = some r → ¬ grc c h r
theorem SlcC.fr {α : Type} {esz : Nat} {enc : α → List AV} {c : Nat} {h h' : AH} {v : AV} {L : List α} (hs : SlcC esz enc c h v L) (hf : FrC c h h') : SlcC esz enc c h' v L := by
  obtain ⟨h1, h2⟩ := hs
  unfold SlcC Slc Sl at *
  cases v <;> simp only [rowOf] at * <;> first
    | (exact ⟨h1, fun r hr => by cases hr⟩)
    | (obtain ⟨k1, k2, k3, k4⟩ := h1
       exact ⟨⟨k1, k2, k3, rd_frc hf (h2 _ rfl) k4⟩, fun r hr => by cases hr; exact (hf.2 _ (rd_lt k4) (h2 _ rfl)).2⟩)
section
variable {α : Type} {esz : Nat} {enc : α → List AV}
/-- The cell r holds a slice of one's own. -/
def OutP (esz : Nat) (enc : α → List AV) (r : Nat) (b h : AH) (l : List α) : Prop := ∃ vo, h[r]? = some (.row [vo] 0 0 false) ∧ OwL esz enc b h vo l ∧ rowOf vo ≠ some r
theorem OutP.lt {r : Nat} {b h : AH} {l : List α} (ho : OutP esz enc r b h l) : r < h.length := by
  obtain ⟨vo, h1, _⟩ := ho
  exact (List.getElem?_eq_some_iff.1 h1).1
theorem OutP.pre {r : Nat} {b h h' : AH} {l : List α} (ho : OutP esz enc r b h l) (hp : Pre h h') : OutP esz enc r b h' l := by
  have := ho.lt
  obtain ⟨vo, h1, h2, h3⟩ := ho
  exact ⟨vo, by rw [hp.2 r this]; exact h1, h2.pre hp, h3⟩
theorem OutP.grc_lt {r : Nat} {b h : AH} {l : List α} (ho : OutP esz enc r b h l) {i : Nat} (hg : grc r h i) : i < h.length := by
  have hlt := ho.lt
  obtain ⟨vo, h1, h2, h3⟩ := ho
  rcases hg with rfl | ⟨cs, ver, fl, ro, h4, v, hv, h5⟩
  · exact hlt
  · rw [h1] at h4
    simp only [Option.some.injEq, AO.row.injEq] at h4
    obtain ⟨rfl, _⟩ := h4
    simp at hv
    subst hv
    exact own_lt h2 h5
theorem OutP.fresh {r : Nat} {b h h' : AH} {l : List α} (ho : OutP esz enc r b h l) (hp : Pre h h') {i : Nat} (hi : h.length ≤ i) : ¬ grc r h' i := by
  rw [grc_pre hp ho.lt]
  intro hg
  have := ho.grc_lt hg
  omega
theorem OutP.rd {r : Nat} {b h : AH} {l : List α} (ho : OutP esz enc r b h l) : ∃ vo, rdRow h r 0 0 1 = some [vo] ∧ OwL esz enc b h vo l := by
  obtain ⟨vo, h1, h2, _⟩ := ho
  exact ⟨vo, by simp [rdRow, h1], h2⟩
theorem OutP.push (hl : ∀ x, (enc x).length = esz) (hsc : ∀ x, (enc x).all AV.sc = true) {r : Nat} {b h : AH} {l : List α} (ho : OutP esz enc r b h l) (hb : b.length ≤ h.length) (x : α) (hr : l.length + 1 ≤ 1099511627776) :
    ∃ vo v' h3, rdRow h r 0 0 1 = some [vo] ∧ rdRow (h ++ [AO.row (enc x) 0 0 false]) h.length 0 0 esz = some (enc x) ∧ apRow (h ++ [AO.row (enc x) 0 0 false]) esz vo 1 (enc x) = some (v', h3) ∧ v'.cells = [v'] ∧ v'.sc = true ∧
      wrRow h3 r 0 0 [v'] = some (h3.set r (.row [v'] 0 0 false)) ∧ OutP esz enc r b (h3.set r (.row [v'] 0 0 false)) (l ++ [x]) ∧ FrC r h (h3.set r (.row [v'] 0 0 false)) := by
  have hlt := ho.lt
  obtain ⟨vo, h1, h2, h3⟩ := ho
  have hpush := Pre.push h (AO.row (enc x) 0 0 false)
  obtain ⟨v', g, ha, ho', hag⟩ := apA hl hsc (h2.pre hpush) (by simp; omega) x hr
  obtain ⟨f1, f2, f3⟩ := apRow_fr ha
  have hll : (h ++ [AO.row (enc x) 0 0 false]).length = h.length + 1 := by simp
  have hrg : g[r]? = some (.row [vo] 0 0 false) := by rw [f1 r (by omega) h3, hpush.2 r hlt, h1]
  have hlg : r < g.length := by omega
  have n1 : rowOf v' ≠ some r := fun e => by
    rcases f3 r e with h4 | h4
    · exact h3 h4
    · omega
  have hrx : rdRow (h ++ [AO.row (enc x) 0 0 false]) h.length 0 0 esz = some (enc x) := by
    rw [rd_last, if_pos (by rw [hl]; omega), List.drop_zero, List.take_of_length_le (by rw [hl]; exact Nat.le_refl _)]
  refine ⟨vo, v', g, by simp [rdRow, h1], hrx, ha, ho'.cells, ho'.sc1, ?_, ?_, ?_⟩
  · simp [wrRow, hrg, splice, ho'.sc1]
  · refine ⟨v', by rw [List.getElem?_set, if_pos rfl, if_pos hlg], own_row ho' fun i hi => ?_, n1⟩
    rw [List.getElem?_set, if_neg (by rintro rfl; exact n1 hi)]
  · refine ⟨by simp; omega, fun i hi hg => ?_⟩
    have g1 : i ≠ r := fun e => hg (.inl e)
    have g2 : rowOf vo ≠ some i := fun e => hg (.inr ⟨_, _, _, _, h1, vo, by simp, e⟩)
    refine ⟨by rw [List.getElem?_set, if_neg (Ne.symm g1), f1 i (by omega) g2, hpush.2 i hi], ?_⟩
    rintro (e | ⟨cs, ver, fl, ro, e1, v, hv, e2⟩)
    · exact g1 e
    · rw [List.getElem?_set, if_pos rfl, if_pos hlg] at e1
      simp only [Option.some.injEq, AO.row.injEq] at e1
      obtain ⟨rfl, _⟩ := e1
      simp at hv
      subst hv
      rcases f3 i e2 with h4 | h4
      · exact g2 h4
      · omega
end
end Go.Proofs.YtnamhjdfegohbaaGreatDoor.Ab

/- PUZZLES: all lines, and those that fit. -/
namespace Go.Proofs.YtnamhjdfegohbaaGreatDoor.Ab
open Go
set_option maxRecDepth 100000
set_option maxHeartbeats 4000000

theorem dec3 (i : Nat) (h : i < 3) : dec [46, 70, 84] i = (((([46, 70, 84] : List UInt8).getD i 0).toNat : Int), 1) := dec_low h (by
  have : ∀ i, i < 3 → (([46, 70, 84] : List UInt8).getD i 0).toNat < 128 := by decide
  exact this i h)
theorem enc3 : ∀ b : UInt8, b = 46 ∨ b = 70 ∨ b = 84 → (Utf8.encode (b.toNat : Int)).data.toList = [b] := by
  rintro b (rfl | rfl | rfl) <;> decide +kernel
theorem own_ne_iter {esz : Nat} {b h : AH} {v : AV} {n : Nat} {cs : List AV} (ho : Own esz b h v n cs) {c : Nat} {s : List UInt8} {p : Nat} (hc : h[c]? = some (.iter s p)) : rowOf v ≠ some c := by
  unfold Own at ho
  intro hr
  cases v <;> simp only [rowOf] at ho hr <;> first
    | (cases hr; done)
    | (cases hr
       obtain ⟨_, _, _, _, cells, fl, h5, _⟩ := ho
       rw [hc] at h5; cases h5)
theorem lp_hidden2 (w : List UInt8) (hw : w.length < 2 ^ 20) (b : AH) (c : Nat) (hcb : b.length ≤ c) (n10 i11 v14 n15 i16 : AV) {R : X → Env → AH → Prop} : ∀ (d i : Nat) (o : AV) (l : List (List UInt8)) (h : AH), i + d = 3 → OwL 1 encS b h o l → h[c]? = some (.iter [46, 70, 84] i) → l.length + d ≤ 2 ^ 33 →
    (∀ o' h', OwL 1 encS b h' o' (l ++ (([46, 70, 84] : List UInt8).drop i).map fun x => w ++ [x]) → Ag b.length h h' → R (.exit 4) [(4, o'), (10, n10), (11, i11), (14, v14), (15, n15), (16, i16)] h') →
    Cx (.loop lp178_2) [(4, o), (6, .str w), (10, n10), (11, i11), (14, v14), (15, n15), (16, i16), (20, .iter c)] h R k k
  | 0, i, o, l, h, hd, ho, hc, hl, hR => by
    obtain rfl : i = 3 := by omega
    rw [w_loopb (c := lp178_2) (d := lb178_2) rfl]; unfold lb178_2
    simp (maxSteps := 1000000) (disch := first | omega | rfl | (simp only [zL, two63, room] <;> omega) | fail) only [↓reduceIte, ↓zP, zW, WOp, evOp, evBin, binI, binSh, binS, evNil, keyIs, keyEq, mkv, AV.cells, AV.sc, optv, bnd, env, put, Env.get, Env.set, Env.del, Env.dels, Env.init, res1, resL, resV, fillP, splice, newRow, Nat.reduceEqDiff, Nat.reduceLT, Nat.reduceLeDiff, Nat.reduceAdd, Nat.reduceMul, Nat.reduceSub, Nat.reduceBEq, reduceCtorEq, ↓zR, zQ, Tr, StA, StT, hc]
    exact hR o h (by simpa using ho) (Ag.refl _ _)
  | d + 1, i, o, l, h, hd, ho, hc, hl, hR => by
    have ih := lp_hidden2 w hw b c hcb n10 i11 v14 n15 i16 (R := R) d (i + 1)
    have hi : i < 3 := by omega
    have hdec := dec3 i hi
    have hd1 : (dec [46, 70, 84] i).1 = (((([46, 70, 84] : List UInt8).getD i 0).toNat : Int)) := by rw [hdec]
    have hd2 : (dec [46, 70, 84] i).2 = 1 := by rw [hdec]
    have hx : ([46, 70, 84] : List UInt8).getD i 0 = 46 ∨ ([46, 70, 84] : List UInt8).getD i 0 = 70 ∨ ([46, 70, 84] : List UInt8).getD i 0 = 84 := by
      have : ∀ i, i < 3 → ([46, 70, 84] : List UInt8).getD i 0 = 46 ∨ ([46, 70, 84] : List UInt8).getD i 0 = 70 ∨ ([46, 70, 84] : List UInt8).getD i 0 = 84 := by decide
      exact this i hi
    have hdrop : ([46, 70, 84] : List UInt8).drop i = ([46, 70, 84] : List UInt8).getD i 0 :: ([46, 70, 84] : List UInt8).drop (i + 1) := by
      have : ∀ i, i < 3 → ([46, 70, 84] : List UInt8).drop i = ([46, 70, 84] : List UInt8).getD i 0 :: ([46, 70, 84] : List UInt8).drop (i + 1) := by decide
      exact this i hi
    rw [hdrop] at hR
    generalize ([46, 70, 84] : List UInt8).getD i 0 = x at *
    have henc := enc3 x hx
    have hlt : i < ([46, 70, 84] : List UInt8).length := hi
    have hcl := (List.getElem?_eq_some_iff.1 hc).1
    obtain ⟨o2, h3, ha, ho3, hag⟩ := apA hlS scS ((show OwL 1 encS b (h.set c (.iter [46, 70, 84] (i + 1))) o l from own_iter ho hc).pre (Pre.push (h.set c (.iter [46, 70, 84] (i + 1))) (AO.row [.str (w ++ [x])] 0 0 false))) (by simp; omega) (w ++ [x]) (by omega)
    rw [w_loopb (c := lp178_2) (d := lb178_2) rfl]; unfold lb178_2
    simp (maxSteps := 1000000) (disch := first | omega | rfl | (simp only [zL, two63, room] <;> omega) | fail) only [↓reduceIte, ↓zP, zW, WOp, evOp, evBin, binI, binSh, binS, evNil, keyIs, keyEq, mkv, AV.cells, AV.sc, optv, bnd, env, put, Env.get, Env.set, Env.del, Env.dels, Env.init, res1, resL, resV, fillP, splice, newRow, Nat.reduceEqDiff, Nat.reduceLT, Nat.reduceLeDiff, Nat.reduceAdd, Nat.reduceMul, Nat.reduceSub, Nat.reduceBEq, reduceCtorEq, ↓zR, zQ, Tr, StA, StT, hc, hi, hd1, hd2, henc, ha]
    rw [w_loopn (c := lp178_2) rfl]
    simp (maxSteps := 1000000) (disch := first | omega | rfl | (simp only [zL, two63, room] <;> omega) | fail) only [↓reduceIte, ↓zP, zW, WOp, evOp, evBin, binI, binSh, binS, evNil, keyIs, keyEq, mkv, AV.cells, AV.sc, optv, bnd, env, put, Env.get, Env.set, Env.del, Env.dels, Env.init, res1, resL, resV, fillP, splice, newRow, Nat.reduceEqDiff, Nat.reduceLT, Nat.reduceLeDiff, Nat.reduceAdd, Nat.reduceMul, Nat.reduceSub, Nat.reduceBEq, reduceCtorEq, ↓zR, zQ, Tr, StA, StT]
    have hpush := Pre.push (h.set c (.iter [46, 70, 84] (i + 1))) (AO.row [.str (w ++ [x])] 0 0 false)
    have hag2 : Ag b.length h h3 := ((Ag.refl b.length h).set hcb).trans ((hpush.ag (by simp; omega)).trans hag)
    refine ih o2 (l ++ [w ++ [x]]) h3 (by omega) ho3 ?_ (by simp; omega) ?_
    · have ho2 : OwL 1 encS b (h.set c (.iter [46, 70, 84] (i + 1))) o l := own_iter ho hc
      have hc2 : (h.set c (.iter [46, 70, 84] (i + 1)))[c]? = some (.iter [46, 70, 84] (i + 1)) := by rw [List.getElem?_set, if_pos rfl, if_pos hcl]
      rw [(apRow_fr ha).1 c (by simp; omega) (own_ne_iter ho2 hc2), hpush.2 c (by simpa using hcl), hc2]
    · intro o' h' ho' ha'
      exact hR o' h' (by simpa using ho') (hag2.trans ha')

theorem lp_hidden1 (b : AH) (n10 i11 : AV) {v : AV} {L : List (List UInt8)} (hL : L.length < 2 ^ 30) (hw : ∀ w ∈ L, w.length < 2 ^ 20) (hs : Slc 1 encS b v L) {R : X → Env → AH → Prop} : ∀ (rest pre : List (List UInt8)) (o : AV) (l : List (List UInt8)) (h : AH), L = pre ++ rest → OwL 1 encS b h o l → Ag b.length b h → l.length = 3 * pre.length →
    (∀ o' h', OwL 1 encS b h' o' (l ++ rest.flatMap ext3) → Ag b.length b h' → R (.exit 2) [(4, o'), (10, n10), (11, i11)] h') →
    Cx (.loop lp178_1) [(4, o), (10, n10), (11, i11), (14, v), (15, .int .i64 L.length), (16, .int .i64 pre.length)] h R k k
  | [], pre, o, l, h, hpre, ho, hag, hl, hR => by
    subst hpre
    rw [w_loopb (c := lp178_1) (d := lb178_1) rfl]; unfold lb178_1
    simp only [List.append_nil]
    simp (maxSteps := 1000000) (disch := first | omega | rfl | (simp only [zL, two63, room] <;> omega) | fail) only [↓reduceIte, ↓zP, zW, WOp, evOp, evBin, binI, binSh, binS, evNil, keyIs, keyEq, mkv, AV.cells, AV.sc, optv, bnd, env, put, Env.get, Env.set, Env.del, Env.dels, Env.init, res1, resL, resV, fillP, splice, newRow, Nat.reduceEqDiff, Nat.reduceLT, Nat.reduceLeDiff, Nat.reduceAdd, Nat.reduceMul, Nat.reduceSub, Nat.reduceBEq, reduceCtorEq, ↓zR, zQ, Tr, StA, StT]
    exact hR o h (by simpa using ho) hag
  | w :: rest, pre, o, l, h, hpre, ho, hag, hl, hR => by
    have ih := lp_hidden1 b n10 i11 hL hw hs (R := R) rest (pre ++ [w])
    have hlen : L.length = pre.length + 1 + rest.length := by rw [hpre]; simp; omega
    have hww := hw w (by rw [hpre]; simp)
    have hs' := hs.pre (hag.pre (Nat.le_refl _))
    rw [hpre] at hs'
    obtain ⟨c, kk, off, hv, hr⟩ := hs'.at hlS
    rw [← hpre, hlen] at hv
    subst hv
    rw [hlen] at ih hL ⊢
    have hlt : (pre.length : Int) < ((pre.length + 1 + rest.length : Nat) : Int) := by omega
    have hw1 : (pre.length : Int) + 1 = ((pre ++ [w]).length : Int) := by simp
    rw [w_loopb (c := lp178_1) (d := lb178_1) rfl]; unfold lb178_1
    simp (maxSteps := 1000000) (disch := first | omega | rfl | (simp only [zL, two63, room] <;> omega) | fail) only [↓reduceIte, ↓zP, zW, WOp, evOp, evBin, binI, binSh, binS, evNil, keyIs, keyEq, mkv, AV.cells, AV.sc, optv, bnd, env, put, Env.get, Env.set, Env.del, Env.dels, Env.init, res1, resL, resV, fillP, splice, newRow, Nat.reduceEqDiff, Nat.reduceLT, Nat.reduceLeDiff, Nat.reduceAdd, Nat.reduceMul, Nat.reduceSub, Nat.reduceBEq, reduceCtorEq, ↓zR, zQ, Tr, StA, StT, hlt, hr]
    refine lp_hidden2 w hww b h.length hag.1 _ _ _ _ _ 3 0 o l _ (by omega) (ho.pre (Pre.push _ _)) (by simp) (by omega) ?_
    intro o2 h2 ho2 hag2
    simp (maxSteps := 1000000) (disch := first | omega | rfl | (simp only [zL, two63, room] <;> omega) | fail) only [↓reduceIte, ↓zP, zW, WOp, evOp, evBin, binI, binSh, binS, evNil, keyIs, keyEq, mkv, AV.cells, AV.sc, optv, bnd, env, put, Env.get, Env.set, Env.del, Env.dels, Env.init, res1, resL, resV, fillP, splice, newRow, Nat.reduceEqDiff, Nat.reduceLT, Nat.reduceLeDiff, Nat.reduceAdd, Nat.reduceMul, Nat.reduceSub, Nat.reduceBEq, reduceCtorEq, ↓zR, zQ, Tr, StA, StT, hw1]
    rw [w_loopn (c := lp178_1) rfl]
    simp (maxSteps := 1000000) (disch := first | omega | rfl | (simp only [zL, two63, room] <;> omega) | fail) only [↓reduceIte, ↓zP, zW, WOp, evOp, evBin, binI, binSh, binS, evNil, keyIs, keyEq, mkv, AV.cells, AV.sc, optv, bnd, env, put, Env.get, Env.set, Env.del, Env.dels, Env.init, res1, resL, resV, fillP, splice, newRow, Nat.reduceEqDiff, Nat.reduceLT, Nat.reduceLeDiff, Nat.reduceAdd, Nat.reduceMul, Nat.reduceSub, Nat.reduceBEq, reduceCtorEq, ↓zR, zQ, Tr, StA, StT]
    refine ih o2 _ h2 (by rw [hpre]; simp) ho2 ((hag.trans ((Pre.push h (.iter [46, 70, 84] 0)).ag hag.1)).trans hag2) (by simp; omega) ?_
    intro o' h' ho' ha'
    exact hR o' h' (by simpa [ext3] using ho') ha'
theorem lp_hidden0 (n : Nat) (hn : n ≤ 5) (h0 : AH) {R : X → Env → AH → Prop} : ∀ (d i : Nat) (v : AV) (h : AH), i + d = n → OwL 1 encS h0 h v (allL i) → Pre h0 h →
    (∀ v' h', OwL 1 encS h0 h' v' (allL n) → Pre h0 h' → R (.exit 0) [(3, v')] h') →
    Cx (.loop lp178_0) [(3, v), (10, .int .i64 n), (11, .int .i64 i)] h R k k
  | 0, i, v, h, hi, ho, hp, hR => by
    obtain rfl : i = n := by omega
    rw [w_loopb (c := lp178_0) (d := lb178_0) rfl]; unfold lb178_0
    simp (maxSteps := 1000000) (disch := first | omega | rfl | (simp only [zL, two63, room] <;> omega) | fail) only [↓reduceIte, ↓zP, zW, WOp, evOp, evBin, binI, binSh, binS, evNil, keyIs, keyEq, mkv, AV.cells, AV.sc, optv, bnd, env, put, Env.get, Env.set, Env.del, Env.dels, Env.init, res1, resL, resV, fillP, splice, newRow, Nat.reduceEqDiff, Nat.reduceLT, Nat.reduceLeDiff, Nat.reduceAdd, Nat.reduceMul, Nat.reduceSub, Nat.reduceBEq, reduceCtorEq, ↓zR, zQ, Tr, StA, StT]
    exact hR v h ho hp
  | d + 1, i, v, h, hi, ho, hp, hR => by
    have ih := lp_hidden0 n hn h0 (R := R) d (i + 1)
    have hlt : (i : Int) < (n : Int) := by omega
    have hw1 : (i : Int) + 1 = ((i + 1 : Nat) : Int) := by omega
    have hlen := allL_length i
    have hpow : 3 ^ i ≤ 3 ^ 5 := Nat.pow_le_pow_right (by omega) (by omega)
    rw [w_loopb (c := lp178_0) (d := lb178_0) rfl]; unfold lb178_0
    have hv := fun g => Slc.lenV (ho.slc) (g := g) (ρ := fun _ => _) (x := .t 0) rfl; simp only [evOp] at hv
    simp (maxSteps := 1000000) (disch := first | omega | rfl | (simp only [zL, two63, room] <;> omega) | fail) only [↓reduceIte, ↓zP, zW, WOp, evOp, evBin, binI, binSh, binS, evNil, keyIs, keyEq, mkv, AV.cells, AV.sc, optv, bnd, env, put, Env.get, Env.set, Env.del, Env.dels, Env.init, res1, resL, resV, fillP, splice, newRow, Nat.reduceEqDiff, Nat.reduceLT, Nat.reduceLeDiff, Nat.reduceAdd, Nat.reduceMul, Nat.reduceSub, Nat.reduceBEq, reduceCtorEq, ↓zR, zQ, Tr, StA, StT, hlt, hv]
    refine lp_hidden1 h _ _ (by rw [hlen]; omega) (fun w hw => by rw [(allL_good i w hw).1]; omega) ho.slc (allL i) [] .empS [] h rfl OwL.emp (Ag.refl _ _) rfl ?_
    intro o2 h2 ho2 hag
    simp (maxSteps := 1000000) (disch := first | omega | rfl | (simp only [zL, two63, room] <;> omega) | fail) only [↓reduceIte, ↓zP, zW, WOp, evOp, evBin, binI, binSh, binS, evNil, keyIs, keyEq, mkv, AV.cells, AV.sc, optv, bnd, env, put, Env.get, Env.set, Env.del, Env.dels, Env.init, res1, resL, resV, fillP, splice, newRow, Nat.reduceEqDiff, Nat.reduceLT, Nat.reduceLeDiff, Nat.reduceAdd, Nat.reduceMul, Nat.reduceSub, Nat.reduceBEq, reduceCtorEq, ↓zR, zQ, Tr, StA, StT, hw1]
    rw [w_loopn (c := lp178_0) rfl]
    simp (maxSteps := 1000000) (disch := first | omega | rfl | (simp only [zL, two63, room] <;> omega) | fail) only [↓reduceIte, ↓zP, zW, WOp, evOp, evBin, binI, binSh, binS, evNil, keyIs, keyEq, mkv, AV.cells, AV.sc, optv, bnd, env, put, Env.get, Env.set, Env.del, Env.dels, Env.init, res1, resL, resV, fillP, splice, newRow, Nat.reduceEqDiff, Nat.reduceLT, Nat.reduceLeDiff, Nat.reduceAdd, Nat.reduceMul, Nat.reduceSub, Nat.reduceBEq, reduceCtorEq, ↓zR, zQ, Tr, StA, StT]
    exact ih o2 h2 (by omega) (OwL.old ho2 hp.1) (hp.trans (hag.pre (Nat.le_refl _))) hR
theorem c_hidden (n : Nat) (hn : n ≤ 5) {h : AH} {post : AV → AH → Prop} (hp : ∀ v h', OwL 1 encS h h' v (allL n) → Pre h h' → post v h') : S 178 [.int .i64 n] h post k := by
  refine S_of rfl T178 ?_; unfold fi178
  simp (maxSteps := 1000000) (disch := first | omega | rfl | (simp only [zL, two63, room] <;> omega) | fail) only [↓reduceIte, ↓zP, zW, WOp, evOp, evBin, binI, binSh, binS, evNil, keyIs, keyEq, mkv, AV.cells, AV.sc, optv, bnd, env, put, Env.get, Env.set, Env.del, Env.dels, Env.init, res1, resL, resV, fillP, splice, newRow, Nat.reduceEqDiff, Nat.reduceLT, Nat.reduceLeDiff, Nat.reduceAdd, Nat.reduceMul, Nat.reduceSub, Nat.reduceBEq, reduceCtorEq, ↓zR, zQ, Tr, StA, StT]
  refine lp_hidden0 n hn h n 0 _ _ (by omega) ?_ (Pre.push _ _) ?_
  · unfold OwL Own
    exact ⟨rfl, rfl, rfl, Nat.le_refl _, [.str []], 0, by simp, Nat.le_refl _, rfl, rfl⟩
  · intro v' h' ho hp'
    simp (maxSteps := 1000000) (disch := first | omega | rfl | (simp only [zL, two63, room] <;> omega) | fail) only [↓reduceIte, ↓zP, zW, WOp, evOp, evBin, binI, binSh, binS, evNil, keyIs, keyEq, mkv, AV.cells, AV.sc, optv, bnd, env, put, Env.get, Env.set, Env.del, Env.dels, Env.init, res1, resL, resV, fillP, splice, newRow, Nat.reduceEqDiff, Nat.reduceLT, Nat.reduceLeDiff, Nat.reduceAdd, Nat.reduceMul, Nat.reduceSub, Nat.reduceBEq, reduceCtorEq, ↓zR, zQ, Tr, StA, StT]
    exact hp v' h' ho hp'

abbrev Clu := Int × Int × Int
theorem c_solve1 (c : Clu) (x : List UInt8) (hs : x.all isSign = true) (hl : 1 ≤ x.length ∧ x.length ≤ 5) (hc : clueOk x.length c = true) {r : Nat} {h : AH} (hr : rdRow h r 0 0 3 = some (encC c)) {post : AV → AH → Prop} (hp : ∀ h', Pre h h' → post (.bool (!fitB c x)) h') : S 179 [.str x, .ptr r 0 0 3] h post k := by
  refine S_of rfl T179 ?_; unfold fi179
  simp (maxSteps := 1000000) (disch := first | omega | rfl | (simp only [zL, two63, room] <;> omega) | fail) only [↓reduceIte, ↓zP, zW, WOp, evOp, evBin, binI, binSh, binS, evNil, keyIs, keyEq, mkv, AV.cells, AV.sc, optv, bnd, env, put, Env.get, Env.set, Env.del, Env.dels, Env.init, res1, resL, resV, fillP, splice, newRow, Nat.reduceEqDiff, Nat.reduceLT, Nat.reduceLeDiff, Nat.reduceAdd, Nat.reduceMul, Nat.reduceSub, Nat.reduceBEq, reduceCtorEq, ↓zR, zQ, Tr, StA, StT, hr]
  refine c_DoesFit c.1 c.2.1 c.2.2 x hs hl hc ?_
  intro h2 hp2
  simp (maxSteps := 1000000) (disch := first | omega | rfl | (simp only [zL, two63, room] <;> omega) | fail) only [↓reduceIte, ↓zP, zW, WOp, evOp, evBin, binI, binSh, binS, evNil, keyIs, keyEq, mkv, AV.cells, AV.sc, optv, bnd, env, put, Env.get, Env.set, Env.del, Env.dels, Env.init, res1, resL, resV, fillP, splice, newRow, Nat.reduceEqDiff, Nat.reduceLT, Nat.reduceLeDiff, Nat.reduceAdd, Nat.reduceMul, Nat.reduceSub, Nat.reduceBEq, reduceCtorEq, ↓zR, zQ, Tr, StA, StT]
  exact hp h2 hp2
/-- All lines that fit. -/
def fitL (n : Nat) (cs : List Clu) : List (List UInt8) := (allL n).filter fun w => cs.all fun c => fitB c w
theorem lp_solve (n : Nat) (hn : 1 ≤ n ∧ n ≤ 5) {v : AV} {cs : List Clu} (hlen : cs.length < 2 ^ 30) (hok : ∀ c ∈ cs, clueOk n c = true) {h0 : AH} (hs : Slc 3 encC h0 v cs) {R : X → Env → AH → Prop} : ∀ (rest pre : List Clu) (o : AV) (h : AH), cs = pre ++ rest → OwW 1 encS h0 h o ((allL n).filter fun w => pre.all fun c => fitB c w) → Pre h0 h →
    (∀ o' h', OwW 1 encS h0 h' o' (fitL n cs) → Pre h0 h' → R (.exit 0) [(5, o')] h') →
    Cx (.loop lp167_0) [(5, o), (10, v), (11, .int .i64 cs.length), (12, .int .i64 pre.length)] h R k k
  | [], pre, o, h, hpre, ho, hp, hR => by
    subst hpre
    rw [w_loopb (c := lp167_0) (d := lb167_0) rfl]; unfold lb167_0
    simp only [List.append_nil]
    simp (maxSteps := 1000000) (disch := first | omega | rfl | (simp only [zL, two63, room] <;> omega) | fail) only [↓reduceIte, ↓zP, zW, WOp, evOp, evBin, binI, binSh, binS, evNil, keyIs, keyEq, mkv, AV.cells, AV.sc, optv, bnd, env, put, Env.get, Env.set, Env.del, Env.dels, Env.init, res1, resL, resV, fillP, splice, newRow, Nat.reduceEqDiff, Nat.reduceLT, Nat.reduceLeDiff, Nat.reduceAdd, Nat.reduceMul, Nat.reduceSub, Nat.reduceBEq, reduceCtorEq, ↓zR, zQ, Tr, StA, StT]
    exact hR o h (by simpa [fitL] using ho) hp
  | c :: rest, pre, o, h, hpre, ho, hp, hR => by
    have ih := lp_solve n hn hlen hok hs (R := R) rest (pre ++ [c])
    have hll : cs.length = pre.length + 1 + rest.length := by rw [hpre]; simp; omega
    have hck := hok c (by rw [hpre]; simp)
    have hs' := hs.pre hp
    rw [hpre] at hs'
    obtain ⟨r1, k1, o1, hv, hr⟩ := hs'.at hlC
    rw [← hpre, hll] at hv
    subst hv
    rw [hll] at ih hlen ⊢
    have hlt : (pre.length : Int) < ((pre.length + 1 + rest.length : Nat) : Int) := by omega
    have hw1 : (pre.length : Int) + 1 = ((pre ++ [c]).length : Int) := by simp
    have hpow : 3 ^ n ≤ 3 ^ 5 := Nat.pow_le_pow_right (by omega) hn.2
    have hal := allL_length n
    have hpush := Pre.push h (AO.row (encC c) 0 0 false)
    have hrd : rdRow (h ++ [AO.row (encC c) 0 0 false]) h.length 0 0 3 = some (encC c) := rd_lasT ⟨by simp, by simp, by simp⟩
    rw [w_loopb (c := lp167_0) (d := lb167_0) rfl]; unfold lb167_0
    simp (maxSteps := 1000000) (disch := first | omega | rfl | (simp only [zL, two63, room] <;> omega) | fail) only [↓reduceIte, ↓zP, zW, WOp, evOp, evBin, binI, binSh, binS, evNil, keyIs, keyEq, mkv, AV.cells, AV.sc, optv, bnd, env, put, Env.get, Env.set, Env.del, Env.dels, Env.init, res1, resL, resV, fillP, splice, newRow, Nat.reduceEqDiff, Nat.reduceLT, Nat.reduceLeDiff, Nat.reduceAdd, Nat.reduceMul, Nat.reduceSub, Nat.reduceBEq, reduceCtorEq, ↓zR, zQ, Tr, StA, StT, hlt, hr]
    refine c_DeleteFuncS _ _ (fun w => !fitB c w) (ho.pre hpush) ?_ ?_ ?_
    · have := List.length_filter_le (fun w => pre.all fun c => fitB c w) (allL n)
      omega
    · intro x hx h' hpv post hpost
      have hxg := allL_good n x (List.mem_filter.1 hx).1
      have hrd2 : rdRow h' h.length 0 0 3 = some (encC c) := by
        unfold rdRow at hrd ⊢
        rw [hpv.2 h.length (by simp) ?_]
        · exact hrd
        · rintro c' k' o' n' e' rfl
          unfold OwW at ho
          obtain ⟨_, _, _, A, Z, fl, h4, _⟩ := ho
          have := (List.getElem?_eq_some_iff.1 h4).1
          omega
      exact c_solve1 c x hxg.2 (by rw [hxg.1]; exact hn) (by rw [hxg.1]; exact hck) hrd2 hpost
    · intro o2 h2 ho2 hpv2
      have hf : ((allL n).filter fun w => pre.all fun c => fitB c w).filter (fun x => !!fitB c x) = (allL n).filter fun w => (pre ++ [c]).all fun c => fitB c w := by
        rw [List.filter_filter]
        apply List.filter_congr
        intro w _
        simp [Bool.and_comm]
      rw [hf] at ho2
      simp (maxSteps := 1000000) (disch := first | omega | rfl | (simp only [zL, two63, room] <;> omega) | fail) only [↓reduceIte, ↓zP, zW, WOp, evOp, evBin, binI, binSh, binS, evNil, keyIs, keyEq, mkv, AV.cells, AV.sc, optv, bnd, env, put, Env.get, Env.set, Env.del, Env.dels, Env.init, res1, resL, resV, fillP, splice, newRow, Nat.reduceEqDiff, Nat.reduceLT, Nat.reduceLeDiff, Nat.reduceAdd, Nat.reduceMul, Nat.reduceSub, Nat.reduceBEq, reduceCtorEq, ↓zR, zQ, Tr, StA, StT, hw1]
      rw [w_loopn (c := lp167_0) rfl]
      simp (maxSteps := 1000000) (disch := first | omega | rfl | (simp only [zL, two63, room] <;> omega) | fail) only [↓reduceIte, ↓zP, zW, WOp, evOp, evBin, binI, binSh, binS, evNil, keyIs, keyEq, mkv, AV.cells, AV.sc, optv, bnd, env, put, Env.get, Env.set, Env.del, Env.dels, Env.init, res1, resL, resV, fillP, splice, newRow, Nat.reduceEqDiff, Nat.reduceLT, Nat.reduceLeDiff, Nat.reduceAdd, Nat.reduceMul, Nat.reduceSub, Nat.reduceBEq, reduceCtorEq, ↓zR, zQ, Tr, StA, StT]
      refine ih o2 h2 (by rw [hpre]; simp) ho2 ?_ hR
      refine ⟨Nat.le_trans hp.1 (Nat.le_trans hpush.1 hpv2.1), fun i hi => ?_⟩
      rw [hpv2.2 i (by have := hp.1; simp; omega) ?_, hpush.2 i (Nat.lt_of_lt_of_le hi hp.1), hp.2 i hi]
      rintro c' k' o' n' e' rfl
      unfold OwW at ho
      obtain ⟨_, _, h3, _⟩ := ho
      omega
theorem c_solve (n : Nat) (hn : 1 ≤ n ∧ n ≤ 5) {v : AV} {cs : List Clu} (hlen : cs.length < 2 ^ 30) (hok : ∀ c ∈ cs, clueOk n c = true) {h : AH} (hs : Slc 3 encC h v cs) {post : AV → AH → Prop} (hp : ∀ o' h', OwW 1 encS h h' o' (fitL n cs) → Pre h h' → post o' h') : S 167 [.int .i64 n, v] h post k := by
  refine S_of rfl T167 ?_; unfold fi167
  simp (maxSteps := 1000000) (disch := first | omega | rfl | (simp only [zL, two63, room] <;> omega) | fail) only [↓reduceIte, ↓zP, zW, WOp, evOp, evBin, binI, binSh, binS, evNil, keyIs, keyEq, mkv, AV.cells, AV.sc, optv, bnd, env, put, Env.get, Env.set, Env.del, Env.dels, Env.init, res1, resL, resV, fillP, splice, newRow, Nat.reduceEqDiff, Nat.reduceLT, Nat.reduceLeDiff, Nat.reduceAdd, Nat.reduceMul, Nat.reduceSub, Nat.reduceBEq, reduceCtorEq, ↓zR, zQ, Tr, StA, StT]
  refine c_hidden n hn.2 ?_
  intro o h2 ho hp2
  have hv := fun g => Slc.lenV (hs) (g := g) (ρ := fun _ => _) (x := .t 0) rfl; simp only [evOp] at hv
  simp (maxSteps := 1000000) (disch := first | omega | rfl | (simp only [zL, two63, room] <;> omega) | fail) only [↓reduceIte, ↓zP, zW, WOp, evOp, evBin, binI, binSh, binS, evNil, keyIs, keyEq, mkv, AV.cells, AV.sc, optv, bnd, env, put, Env.get, Env.set, Env.del, Env.dels, Env.init, res1, resL, resV, fillP, splice, newRow, Nat.reduceEqDiff, Nat.reduceLT, Nat.reduceLeDiff, Nat.reduceAdd, Nat.reduceMul, Nat.reduceSub, Nat.reduceBEq, reduceCtorEq, ↓zR, zQ, Tr, StA, StT, hv]
  refine lp_solve n hn hlen hok hs cs [] o h2 rfl ?_ hp2 ?_
  · have : ((allL n).filter fun w => ([] : List Clu).all fun c => fitB c w) = allL n := List.filter_eq_self.2 (by simp)
    rw [this]
    exact ho.w
  · intro o' h' ho' hp'
    simp (maxSteps := 1000000) (disch := first | omega | rfl | (simp only [zL, two63, room] <;> omega) | fail) only [↓reduceIte, ↓zP, zW, WOp, evOp, evBin, binI, binSh, binS, evNil, keyIs, keyEq, mkv, AV.cells, AV.sc, optv, bnd, env, put, Env.get, Env.set, Env.del, Env.dels, Env.init, res1, resL, resV, fillP, splice, newRow, Nat.reduceEqDiff, Nat.reduceLT, Nat.reduceLeDiff, Nat.reduceAdd, Nat.reduceMul, Nat.reduceSub, Nat.reduceBEq, reduceCtorEq, ↓zR, zQ, Tr, StA, StT]
    exact hp o' h' ho' hp'

/-! ### The reference's search -/
theorem lp_pzLook0 {v : AV} {cs : List Clu} {h0 : AH} (hs : Slc 3 encC h0 v cs) (hlen : cs.length < 2 ^ 30) (w : List UInt8) (hw : w.all isSign = true) (hl : w.length ≤ 12) (hok : ∀ c ∈ cs, clueOk w.length c = true) (p : AV) {R : X → Env → AH → Prop} : ∀ (rest pre : List Clu) (h : AH), cs = pre ++ rest → Pre h0 h →
    (∀ h', Pre h0 h' → (rest.all fun c => fitB c w) = true → R (.exit 0) [(2, .str w), (3, p)] h') → (∀ h', Pre h0 h' → (rest.all fun c => fitB c w) = false → R .ret [] h') →
    Cx (.loop lp173_0) [(2, .str w), (3, p), (16, v), (17, .int .i64 cs.length), (18, .int .i64 pre.length)] h R k k
  | [], pre, h, hpre, hp, h1, h2 => by
    subst hpre
    rw [w_loopb (c := lp173_0) (d := lb173_0) rfl]; unfold lb173_0
    simp only [List.append_nil]
    simp (maxSteps := 1000000) (disch := first | omega | rfl | (simp only [zL, two63, room] <;> omega) | fail) only [↓reduceIte, ↓zP, zW, WOp, evOp, evBin, binI, binSh, binS, evNil, keyIs, keyEq, mkv, AV.cells, AV.sc, optv, bnd, env, put, Env.get, Env.set, Env.del, Env.dels, Env.init, res1, resL, resV, fillP, splice, newRow, Nat.reduceEqDiff, Nat.reduceLT, Nat.reduceLeDiff, Nat.reduceAdd, Nat.reduceMul, Nat.reduceSub, Nat.reduceBEq, reduceCtorEq, ↓zR, zQ, Tr, StA, StT]
    exact h1 h hp rfl
  | c :: rest, pre, h, hpre, hp, h1, h2 => by
    have ih := lp_pzLook0 hs hlen w hw hl hok p (R := R) rest (pre ++ [c])
    have hll : cs.length = pre.length + 1 + rest.length := by rw [hpre]; simp; omega
    have hck := hok c (by rw [hpre]; simp)
    have hs' := hs.pre hp
    rw [hpre] at hs'
    obtain ⟨r1, k1, o1, hv, hr⟩ := hs'.at hlC
    rw [← hpre, hll] at hv
    subst hv
    rw [hll] at ih hlen ⊢
    have hlt : (pre.length : Int) < ((pre.length + 1 + rest.length : Nat) : Int) := by omega
    have hw1 : (pre.length : Int) + 1 = ((pre ++ [c]).length : Int) := by simp
    have hcell : c.1 = 0 → 0 ≤ c.2.1 ∧ c.2.1 < w.length := by
      intro e
      simp only [clueOk, if_pos e, Bool.and_eq_true, decide_eq_true_eq] at hck
      omega
    have hpush := Pre.push h (AO.row (encC c) 0 0 false)
    rw [w_loopb (c := lp173_0) (d := lb173_0) rfl]; unfold lb173_0
    simp (maxSteps := 1000000) (disch := first | omega | rfl | (simp only [zL, two63, room] <;> omega) | fail) only [↓reduceIte, ↓zP, zW, WOp, evOp, evBin, binI, binSh, binS, evNil, keyIs, keyEq, mkv, AV.cells, AV.sc, optv, bnd, env, put, Env.get, Env.set, Env.del, Env.dels, Env.init, res1, resL, resV, fillP, splice, newRow, Nat.reduceEqDiff, Nat.reduceLT, Nat.reduceLeDiff, Nat.reduceAdd, Nat.reduceMul, Nat.reduceSub, Nat.reduceBEq, reduceCtorEq, ↓zR, zQ, Tr, StA, StT, hlt, hr]
    refine c_pzFits c.1 c.2.1 c.2.2 w hw hl hcell ?_
    intro h3 hp3
    have hpp : Pre h0 h3 := hp.trans (hpush.trans hp3)
    cases e : fitB c w
    · simp (maxSteps := 1000000) (disch := first | omega | rfl | (simp only [zL, two63, room] <;> omega) | fail) only [↓reduceIte, ↓zP, zW, WOp, evOp, evBin, binI, binSh, binS, evNil, keyIs, keyEq, mkv, AV.cells, AV.sc, optv, bnd, env, put, Env.get, Env.set, Env.del, Env.dels, Env.init, res1, resL, resV, fillP, splice, newRow, Nat.reduceEqDiff, Nat.reduceLT, Nat.reduceLeDiff, Nat.reduceAdd, Nat.reduceMul, Nat.reduceSub, Nat.reduceBEq, reduceCtorEq, ↓zR, zQ, Tr, StA, StT, e]
      exact h2 h3 hpp (by rw [List.all_cons, e]; rfl)
    · simp (maxSteps := 1000000) (disch := first | omega | rfl | (simp only [zL, two63, room] <;> omega) | fail) only [↓reduceIte, ↓zP, zW, WOp, evOp, evBin, binI, binSh, binS, evNil, keyIs, keyEq, mkv, AV.cells, AV.sc, optv, bnd, env, put, Env.get, Env.set, Env.del, Env.dels, Env.init, res1, resL, resV, fillP, splice, newRow, Nat.reduceEqDiff, Nat.reduceLT, Nat.reduceLeDiff, Nat.reduceAdd, Nat.reduceMul, Nat.reduceSub, Nat.reduceBEq, reduceCtorEq, ↓zR, zQ, Tr, StA, StT, e, hw1]
      rw [w_loopn (c := lp173_0) rfl]
      simp (maxSteps := 1000000) (disch := first | omega | rfl | (simp only [zL, two63, room] <;> omega) | fail) only [↓reduceIte, ↓zP, zW, WOp, evOp, evBin, binI, binSh, binS, evNil, keyIs, keyEq, mkv, AV.cells, AV.sc, optv, bnd, env, put, Env.get, Env.set, Env.del, Env.dels, Env.init, res1, resL, resV, fillP, splice, newRow, Nat.reduceEqDiff, Nat.reduceLT, Nat.reduceLeDiff, Nat.reduceAdd, Nat.reduceMul, Nat.reduceSub, Nat.reduceBEq, reduceCtorEq, ↓zR, zQ, Tr, StA, StT]
      exact ih h3 (by rw [hpre]; simp) hpp (fun h' q1 q2 => h1 h' q1 (by rw [List.all_cons, e, q2]; rfl)) (fun h' q1 q2 => h2 h' q1 (by rw [List.all_cons, e, q2]; rfl))
def LookAt (n : Nat) (v : AV) (cs : List Clu) (b : AH) (r : Nat) (d : Nat) : Prop := ∀ (w : List UInt8) (h : AH) (l : List (List UInt8)), w.length + d = n → w.all isSign = true → OutP 1 encS r b h l → b.length ≤ h.length → SlcC 3 encC r h v cs → l.length + 3 ^ d ≤ 2 ^ 30 → ∀ post : AV → AH → Prop,
  (∀ h', OutP 1 encS r b h' (l ++ (goOn d w).filter fun w => cs.all fun c => fitB c w) → FrC r h h' → post (.tup []) h') → S 173 [.int .i64 n, v, .str w, .ptr r 0 0 1] h post k
theorem goOn_length : ∀ (d : Nat) (w : List UInt8), (goOn d w).length = 3 ^ d
  | 0, _ => rfl
  | d + 1, w => by simp only [goOn, List.length_append, goOn_length d]; rw [Nat.pow_succ]; omega
abbrev S3 : List (List UInt8) := [[46], [70], [84]]
theorem lp_pzLook1 {n : Nat} {v : AV} {cs : List Clu} {b : AH} {r d : Nat} (ih : LookAt n v cs b r d) (hn : n ≤ 5) (w : List UInt8) (hwd : w.length + (d + 1) = n) (hw : w.all isSign = true) (vs : AV) {h0 : AH} {R : X → Env → AH → Prop} : ∀ (rest pre : List (List UInt8)) (l : List (List UInt8)) (h : AH), S3 = pre ++ rest → OutP 1 encS r b h l → b.length ≤ h.length → SlcC 3 encC r h v cs → SlcC 1 encS r h vs S3 → FrC r h0 h → l.length + rest.length * 3 ^ d ≤ 2 ^ 30 →
    (∀ h', OutP 1 encS r b h' (l ++ rest.flatMap fun s => (goOn d (w ++ s)).filter fun w => cs.all fun c => fitB c w) → FrC r h0 h' → R (.exit 2) [] h') →
    Cx (.loop lp173_1) [(0, .int .i64 n), (1, v), (2, .str w), (3, .ptr r 0 0 1), (35, vs), (36, .int .i64 3), (37, .int .i64 pre.length)] h R k k
  | [], pre, l, h, hpre, ho, hb, hs, hss, hf, hl, hR => by
    have hll : pre.length = 3 := by have := congrArg List.length hpre; simp at this; omega
    rw [w_loopb (c := lp173_1) (d := lb173_1) rfl]; unfold lb173_1
    simp (maxSteps := 1000000) (disch := first | omega | rfl | (simp only [zL, two63, room] <;> omega) | fail) only [↓reduceIte, ↓zP, zW, WOp, evOp, evBin, binI, binSh, binS, evNil, keyIs, keyEq, mkv, AV.cells, AV.sc, optv, bnd, env, put, Env.get, Env.set, Env.del, Env.dels, Env.init, res1, resL, resV, fillP, splice, newRow, Nat.reduceEqDiff, Nat.reduceLT, Nat.reduceLeDiff, Nat.reduceAdd, Nat.reduceMul, Nat.reduceSub, Nat.reduceBEq, reduceCtorEq, ↓zR, zQ, Tr, StA, StT, hll]
    exact hR h (by simpa using ho) hf
  | s :: rest, pre, l, h, hpre, ho, hb, hs, hss, hf, hl, hR => by
    have ihl := lp_pzLook1 ih hn w hwd hw vs (h0 := h0) (R := R) rest (pre ++ [s])
    have hll : pre.length + 1 + rest.length = 3 := by have := congrArg List.length hpre; simp at this; omega
    have hs3 : s ∈ S3 := by rw [hpre]; simp
    have hsg : s.length = 1 ∧ s.all isSign = true := by
      simp only [List.mem_cons, List.not_mem_nil, or_false] at hs3
      rcases hs3 with rfl | rfl | rfl <;> exact ⟨rfl, rfl⟩
    have hss' := hss
    rw [hpre] at hss'
    obtain ⟨c1, k1, o1, hv, hr⟩ := hss'.1.at hlS
    rw [← hpre] at hv
    subst hv
    have hlt : (pre.length : Int) < 3 := by omega
    have hw1 : (pre.length : Int) + 1 = ((pre ++ [s]).length : Int) := by simp
    have hlS3 : (S3.length : Nat) = 3 := rfl
    rw [w_loopb (c := lp173_1) (d := lb173_1) rfl]; unfold lb173_1
    simp (maxSteps := 1000000) (disch := first | omega | rfl | (simp only [zL, two63, room] <;> omega) | fail) only [↓reduceIte, ↓zP, zW, WOp, evOp, evBin, binI, binSh, binS, evNil, keyIs, keyEq, mkv, AV.cells, AV.sc, optv, bnd, env, put, Env.get, Env.set, Env.del, Env.dels, Env.init, res1, resL, resV, fillP, splice, newRow, Nat.reduceEqDiff, Nat.reduceLT, Nat.reduceLeDiff, Nat.reduceAdd, Nat.reduceMul, Nat.reduceSub, Nat.reduceBEq, reduceCtorEq, ↓zR, zQ, Tr, StA, StT, hlt, hr, hlS3]
    simp only [List.length_cons] at hl
    rw [Nat.succ_mul] at hl
    refine ih (w ++ s) h l (by simp; omega) (by simp [hw, hsg.2]) ho hb hs (by omega) _ ?_
    intro h2 ho2 hf2
    have hfl : ((goOn d (w ++ s)).filter fun w => cs.all fun c => fitB c w).length ≤ 3 ^ d := by rw [← goOn_length d (w ++ s)]; exact List.length_filter_le _ _
    simp (maxSteps := 1000000) (disch := first | omega | rfl | (simp only [zL, two63, room] <;> omega) | fail) only [↓reduceIte, ↓zP, zW, WOp, evOp, evBin, binI, binSh, binS, evNil, keyIs, keyEq, mkv, AV.cells, AV.sc, optv, bnd, env, put, Env.get, Env.set, Env.del, Env.dels, Env.init, res1, resL, resV, fillP, splice, newRow, Nat.reduceEqDiff, Nat.reduceLT, Nat.reduceLeDiff, Nat.reduceAdd, Nat.reduceMul, Nat.reduceSub, Nat.reduceBEq, reduceCtorEq, ↓zR, zQ, Tr, StA, StT, hw1]
    rw [w_loopn (c := lp173_1) rfl]
    simp (maxSteps := 1000000) (disch := first | omega | rfl | (simp only [zL, two63, room] <;> omega) | fail) only [↓reduceIte, ↓zP, zW, WOp, evOp, evBin, binI, binSh, binS, evNil, keyIs, keyEq, mkv, AV.cells, AV.sc, optv, bnd, env, put, Env.get, Env.set, Env.del, Env.dels, Env.init, res1, resL, resV, fillP, splice, newRow, Nat.reduceEqDiff, Nat.reduceLT, Nat.reduceLeDiff, Nat.reduceAdd, Nat.reduceMul, Nat.reduceSub, Nat.reduceBEq, reduceCtorEq, ↓zR, zQ, Tr, StA, StT]
    refine ihl _ h2 (by rw [hpre]; simp) ho2 (Nat.le_trans hb hf2.1) (hs.fr hf2) (hss.fr hf2) (hf.trans hf2) (by simp; omega) ?_
    intro h' ho' hf'
    exact hR h' (by simpa using ho') hf'
theorem c_pzLook {n : Nat} (hn : n ≤ 5) {v : AV} {cs : List Clu} (hlen : cs.length < 2 ^ 30) (hok : ∀ c ∈ cs, clueOk n c = true) {b : AH} {r : Nat} : ∀ d : Nat, LookAt n v cs b r d
  | 0 => by
    intro w h l hwd hw ho hb hs hl post hp
    have hlw : w.length = n := by omega
    refine S_of rfl T173 ?_; unfold fi173
    have hv := fun g => Slc.lenV (hs.1) (g := g) (ρ := fun _ => _) (x := .t 0) rfl; simp only [evOp] at hv
    simp (maxSteps := 1000000) (disch := first | omega | rfl | (simp only [zL, two63, room] <;> omega) | fail) only [↓reduceIte, ↓zP, zW, WOp, evOp, evBin, binI, binSh, binS, evNil, keyIs, keyEq, mkv, AV.cells, AV.sc, optv, bnd, env, put, Env.get, Env.set, Env.del, Env.dels, Env.init, res1, resL, resV, fillP, splice, newRow, Nat.reduceEqDiff, Nat.reduceLT, Nat.reduceLeDiff, Nat.reduceAdd, Nat.reduceMul, Nat.reduceSub, Nat.reduceBEq, reduceCtorEq, ↓zR, zQ, Tr, StA, StT, hlw, hv]
    refine lp_pzLook0 hs.1 hlen w hw (by omega) (by rw [hlw]; exact hok) _ cs [] h rfl (Pre.refl _) ?_ ?_
    · intro h2 hp2 hall
      obtain ⟨vo, v', h3, r1, r2, r3, r4, r5, r6, r7, r8⟩ := (ho.pre hp2).push hlS scS (Nat.le_trans hb hp2.1) w (by omega)
      simp only [AV.cells] at r4
      simp (maxSteps := 1000000) (disch := first | omega | rfl | (simp only [zL, two63, room] <;> omega) | fail) only [↓reduceIte, ↓zP, zW, WOp, evOp, evBin, binI, binSh, binS, evNil, keyIs, keyEq, mkv, AV.cells, AV.sc, optv, bnd, env, put, Env.get, Env.set, Env.del, Env.dels, Env.init, res1, resL, resV, fillP, splice, newRow, Nat.reduceEqDiff, Nat.reduceLT, Nat.reduceLeDiff, Nat.reduceAdd, Nat.reduceMul, Nat.reduceSub, Nat.reduceBEq, reduceCtorEq, ↓zR, zQ, Tr, StA, StT, r1, r2, r3, r4, r6]
      have hg : (goOn 0 w).filter (fun w => cs.all fun c => fitB c w) = [w] := by simp [goOn, hall]
      rw [hg] at hp
      exact hp _ r7 ((hp2.frc ho.lt).trans r8)
    · intro h2 hp2 hall
      have hg : (goOn 0 w).filter (fun w => cs.all fun c => fitB c w) = [] := by simp [goOn, hall]
      rw [hg, List.append_nil] at hp
      simp (maxSteps := 1000000) (disch := first | omega | rfl | (simp only [zL, two63, room] <;> omega) | fail) only [↓reduceIte, ↓zP, zW, WOp, evOp, evBin, binI, binSh, binS, evNil, keyIs, keyEq, mkv, AV.cells, AV.sc, optv, bnd, env, put, Env.get, Env.set, Env.del, Env.dels, Env.init, res1, resL, resV, fillP, splice, newRow, Nat.reduceEqDiff, Nat.reduceLT, Nat.reduceLeDiff, Nat.reduceAdd, Nat.reduceMul, Nat.reduceSub, Nat.reduceBEq, reduceCtorEq, ↓zR, zQ, Tr, StA, StT]
      exact hp _ (ho.pre hp2) (hp2.frc ho.lt)
  | d + 1 => by
    intro w h l hwd hw ho hb hs hl post hp
    have ih := c_pzLook hn (v := v) hlen hok (b := b) (r := r) d
    have hne : ((w.length : Int) == (n : Int)) = false := by simp; omega
    refine S_of rfl T173 ?_; unfold fi173
    simp (maxSteps := 1000000) (disch := first | omega | rfl | (simp only [zL, two63, room] <;> omega) | fail) only [↓reduceIte, ↓zP, zW, WOp, evOp, evBin, binI, binSh, binS, evNil, keyIs, keyEq, mkv, AV.cells, AV.sc, optv, bnd, env, put, Env.get, Env.set, Env.del, Env.dels, Env.init, res1, resL, resV, fillP, splice, newRow, Nat.reduceEqDiff, Nat.reduceLT, Nat.reduceLeDiff, Nat.reduceAdd, Nat.reduceMul, Nat.reduceSub, Nat.reduceBEq, reduceCtorEq, ↓zR, zQ, Tr, StA, StT, hne]
    have hp2 := Pre.push h (AO.row [.str [46], .str [70], .str [84]] 0 0 false)
    have hs3 : SlcC 1 encS r (h ++ [AO.row [.str [46], .str [70], .str [84]] 0 0 false]) (.slice h.length 0 0 3 1) S3 := by
      refine ⟨⟨rfl, rfl, rfl, rd_lasT ⟨Nat.le_refl _, Nat.le_refl _, Nat.le_refl _⟩⟩, fun i hi => ?_⟩
      simp only [rowOf, Option.some.injEq] at hi
      exact ho.fresh hp2 (by omega)
    have hf2 := hp2.frc (c := r) ho.lt
    refine lp_pzLook1 ih hn w hwd hw _ (h0 := h) S3 [] l _ rfl (ho.pre hp2) (Nat.le_trans hb hp2.1) (hs.fr hf2) hs3 hf2 ?_ ?_
    · simp only [List.length_cons, List.length_nil]; rw [Nat.pow_succ] at hl; omega
    · intro h' ho' hf'
      simp (maxSteps := 1000000) (disch := first | omega | rfl | (simp only [zL, two63, room] <;> omega) | fail) only [↓reduceIte, ↓zP, zW, WOp, evOp, evBin, binI, binSh, binS, evNil, keyIs, keyEq, mkv, AV.cells, AV.sc, optv, bnd, env, put, Env.get, Env.set, Env.del, Env.dels, Env.init, res1, resL, resV, fillP, splice, newRow, Nat.reduceEqDiff, Nat.reduceLT, Nat.reduceLeDiff, Nat.reduceAdd, Nat.reduceMul, Nat.reduceSub, Nat.reduceBEq, reduceCtorEq, ↓zR, zQ, Tr, StA, StT]
      refine hp h' ?_ hf'
      simpa [goOn] using ho'
theorem c_pzAll (n : Nat) (hn : n ≤ 5) {v : AV} {cs : List Clu} (hlen : cs.length < 2 ^ 30) (hok : ∀ c ∈ cs, clueOk n c = true) {h : AH} (hs : Slc 3 encC h v cs) {post : AV → AH → Prop} (hp : ∀ o' h', OwL 1 encS h h' o' (fitL n cs) → Pre h h' → post o' h') : S 161 [.int .i64 n, v] h post k := by
  have hpush := Pre.push h (AO.row [.nilS] 0 0 false)
  have ho : OutP 1 encS h.length h (h ++ [AO.row [.nilS] 0 0 false]) [] := ⟨.nilS, by simp, OwL.nil, by simp [rowOf]⟩
  have hng : ∀ i, i < h.length → ¬ grc h.length (h ++ [AO.row [.nilS] 0 0 false]) i := by
    rintro i hi (rfl | ⟨cs, ver, fl, ro, e1, v, hv, e2⟩)
    · exact Nat.lt_irrefl _ hi
    · simp at e1
      obtain ⟨rfl, _⟩ := e1
      simp at hv
      subst hv
      simp [rowOf] at e2
  have hs1 : SlcC 3 encC h.length (h ++ [AO.row [.nilS] 0 0 false]) v cs := by
    refine ⟨hs.pre hpush, fun i hi => hng i ?_⟩
    unfold Slc Sl at hs
    cases v <;> simp only [rowOf] at hi hs <;> first
      | (cases hi; done)
      | (cases hi; exact rd_lt hs.2.2.2)
  have hpow : 3 ^ n ≤ 3 ^ 5 := Nat.pow_le_pow_right (by omega) hn
  refine S_of rfl T161 ?_; unfold fi161
  simp (maxSteps := 1000000) (disch := first | omega | rfl | (simp only [zL, two63, room] <;> omega) | fail) only [↓reduceIte, ↓zP, zW, WOp, evOp, evBin, binI, binSh, binS, evNil, keyIs, keyEq, mkv, AV.cells, AV.sc, optv, bnd, env, put, Env.get, Env.set, Env.del, Env.dels, Env.init, res1, resL, resV, fillP, splice, newRow, Nat.reduceEqDiff, Nat.reduceLT, Nat.reduceLeDiff, Nat.reduceAdd, Nat.reduceMul, Nat.reduceSub, Nat.reduceBEq, reduceCtorEq, ↓zR, zQ, Tr, StA, StT]
  refine c_pzLook hn hlen hok n [] _ [] (by simp) rfl ho hpush.1 hs1 (by simp; omega) _ ?_
  intro h2 ho2 hf2
  rw [goOn_all, List.nil_append] at ho2
  obtain ⟨vo, hr, hown⟩ := ho2.rd
  simp (maxSteps := 1000000) (disch := first | omega | rfl | (simp only [zL, two63, room] <;> omega) | fail) only [↓reduceIte, ↓zP, zW, WOp, evOp, evBin, binI, binSh, binS, evNil, keyIs, keyEq, mkv, AV.cells, AV.sc, optv, bnd, env, put, Env.get, Env.set, Env.del, Env.dels, Env.init, res1, resL, resV, fillP, splice, newRow, Nat.reduceEqDiff, Nat.reduceLT, Nat.reduceLeDiff, Nat.reduceAdd, Nat.reduceMul, Nat.reduceSub, Nat.reduceBEq, reduceCtorEq, ↓zR, zQ, Tr, StA, StT, hr]
  refine hp vo h2 hown ⟨by have := hf2.1; simp at this; omega, fun i hi => ?_⟩
  rw [(hf2.2 i (by simp; omega) (hng i hi)).1, hpush.2 i hi]
end Go.Proofs.YtnamhjdfegohbaaGreatDoor.Ab

/- PUZZLES: which there are, their solutions; the law's helpers. -/
namespace Go.Proofs.YtnamhjdfegohbaaGreatDoor.Ab
open Go
set_option maxRecDepth 100000
set_option maxHeartbeats 4000000

def goodP (n : Int) (cs : List Clu) : Bool := decide (1 ≤ n ∧ n ≤ 5) && (decide (cs.length ≤ 6) && cs.all fun c => clueOk n c)
theorem goodP_iff {n : Int} {cs : List Clu} (h : goodP n cs = true) : ∃ m : Nat, n = m ∧ 1 ≤ m ∧ m ≤ 5 ∧ cs.length ≤ 6 ∧ ∀ c ∈ cs, clueOk n c = true := by
  simp only [goodP, Bool.and_eq_true, decide_eq_true_eq, List.all_eq_true] at h
  obtain ⟨⟨h1, h2⟩, h3, h4⟩ := h
  exact ⟨n.toNat, by omega, by omega, by omega, h3, h4⟩
theorem lp_pzGood (n : Int) (hn : 1 ≤ n ∧ n ≤ 5) {v : AV} {cs : List Clu} (hlen : cs.length < 2 ^ 30) {h0 : AH} {r : Nat} (hr0 : rdRow h0 r 0 0 1 = some [.int .i64 n]) (hs : Slc 3 encC h0 v cs) {R : X → Env → AH → Prop} : ∀ (rest pre : List Clu) (h : AH), cs = pre ++ rest → Pre h0 h →
    (∀ h', Pre h0 h' → (rest.all fun c => clueOk n c) = true → R (.exit 0) [] h') → (∀ h', Pre h0 h' → (rest.all fun c => clueOk n c) = false → R .ret [(2, .bool false)] h') →
    Cx (.loop lp160_0) [(1, .ptr r 0 0 2), (16, v), (17, .int .i64 cs.length), (18, .int .i64 pre.length)] h R k k
  | [], pre, h, hpre, hp, h1, h2 => by
    subst hpre
    rw [w_loopb (c := lp160_0) (d := lb160_0) rfl]; unfold lb160_0
    simp only [List.append_nil]
    simp (maxSteps := 1000000) (disch := first | omega | rfl | (simp only [zL, two63, room] <;> omega) | fail) only [↓reduceIte, ↓zP, zW, WOp, evOp, evBin, binI, binSh, binS, evNil, keyIs, keyEq, mkv, AV.cells, AV.sc, optv, bnd, env, put, Env.get, Env.set, Env.del, Env.dels, Env.init, res1, resL, resV, fillP, splice, newRow, Nat.reduceEqDiff, Nat.reduceLT, Nat.reduceLeDiff, Nat.reduceAdd, Nat.reduceMul, Nat.reduceSub, Nat.reduceBEq, reduceCtorEq, ↓zR, zQ, Tr, StA, StT]
    exact h1 h hp rfl
  | c :: rest, pre, h, hpre, hp, h1, h2 => by
    have ih := lp_pzGood n hn hlen hr0 hs (R := R) rest (pre ++ [c])
    have hll : cs.length = pre.length + 1 + rest.length := by rw [hpre]; simp; omega
    have hs' := hs.pre hp
    rw [hpre] at hs'
    obtain ⟨r1, k1, o1, hv, hr⟩ := hs'.at hlC
    rw [← hpre, hll] at hv
    subst hv
    rw [hll] at ih hlen ⊢
    have hlt : (pre.length : Int) < ((pre.length + 1 + rest.length : Nat) : Int) := by omega
    have hw1 : (pre.length : Int) + 1 = ((pre ++ [c]).length : Int) := by simp
    have hrr := rdRow_pre hp hr0
    have hrl := rd_lt hrr
    have hpush := Pre.push h (AO.row (encC c) 0 0 false)
    rw [w_loopb (c := lp160_0) (d := lb160_0) rfl]; unfold lb160_0
    simp (maxSteps := 1000000) (disch := first | omega | rfl | (simp only [zL, two63, room] <;> omega) | fail) only [↓reduceIte, ↓zP, zW, WOp, evOp, evBin, binI, binSh, binS, evNil, keyIs, keyEq, mkv, AV.cells, AV.sc, optv, bnd, env, put, Env.get, Env.set, Env.del, Env.dels, Env.init, res1, resL, resV, fillP, splice, newRow, Nat.reduceEqDiff, Nat.reduceLT, Nat.reduceLeDiff, Nat.reduceAdd, Nat.reduceMul, Nat.reduceSub, Nat.reduceBEq, reduceCtorEq, ↓zR, zQ, Tr, StA, StT, hlt, hr, hrr]
    refine c_pzClue n c.1 c.2.1 c.2.2 (by omega) ?_
    intro h3 hp3
    have hpp : Pre h0 h3 := hp.trans (hpush.trans hp3)
    cases e : clueOk n c
    · simp (maxSteps := 1000000) (disch := first | omega | rfl | (simp only [zL, two63, room] <;> omega) | fail) only [↓reduceIte, ↓zP, zW, WOp, evOp, evBin, binI, binSh, binS, evNil, keyIs, keyEq, mkv, AV.cells, AV.sc, optv, bnd, env, put, Env.get, Env.set, Env.del, Env.dels, Env.init, res1, resL, resV, fillP, splice, newRow, Nat.reduceEqDiff, Nat.reduceLT, Nat.reduceLeDiff, Nat.reduceAdd, Nat.reduceMul, Nat.reduceSub, Nat.reduceBEq, reduceCtorEq, ↓zR, zQ, Tr, StA, StT, e]
      exact h2 h3 hpp (by rw [List.all_cons, e]; rfl)
    · simp (maxSteps := 1000000) (disch := first | omega | rfl | (simp only [zL, two63, room] <;> omega) | fail) only [↓reduceIte, ↓zP, zW, WOp, evOp, evBin, binI, binSh, binS, evNil, keyIs, keyEq, mkv, AV.cells, AV.sc, optv, bnd, env, put, Env.get, Env.set, Env.del, Env.dels, Env.init, res1, resL, resV, fillP, splice, newRow, Nat.reduceEqDiff, Nat.reduceLT, Nat.reduceLeDiff, Nat.reduceAdd, Nat.reduceMul, Nat.reduceSub, Nat.reduceBEq, reduceCtorEq, ↓zR, zQ, Tr, StA, StT, e, hw1]
      rw [w_loopn (c := lp160_0) rfl]
      simp (maxSteps := 1000000) (disch := first | omega | rfl | (simp only [zL, two63, room] <;> omega) | fail) only [↓reduceIte, ↓zP, zW, WOp, evOp, evBin, binI, binSh, binS, evNil, keyIs, keyEq, mkv, AV.cells, AV.sc, optv, bnd, env, put, Env.get, Env.set, Env.del, Env.dels, Env.init, res1, resL, resV, fillP, splice, newRow, Nat.reduceEqDiff, Nat.reduceLT, Nat.reduceLeDiff, Nat.reduceAdd, Nat.reduceMul, Nat.reduceSub, Nat.reduceBEq, reduceCtorEq, ↓zR, zQ, Tr, StA, StT]
      exact ih h3 (by rw [hpre]; simp) hpp (fun h' q1 q2 => h1 h' q1 (by rw [List.all_cons, e, q2]; rfl)) (fun h' q1 q2 => h2 h' q1 (by rw [List.all_cons, e, q2]; rfl))
abbrev pzV (n : Int) (v : AV) : AV := .agg [.int .i64 n, v]
theorem sl_cells {α : Type} {esz : Nat} {enc : α → List AV} {h : AH} {v : AV} {L : List α} (hs : Slc esz enc h v L) : v.cells = [v] ∧ v.sc = true := by
  unfold Slc Sl at hs
  cases v <;> simp only at hs <;> first
    | exact ⟨rfl, rfl⟩
    | (exact hs.elim)
theorem c_pzGood (n : Int) {v : AV} {cs : List Clu} (hlen : cs.length < 2 ^ 30) {h : AH} (hs : Slc 3 encC h v cs) {post : AV → AH → Prop} (hp : ∀ h', Pre h h' → post (.bool (goodP n cs)) h') : S 160 [pzV n v] h post k := by
  have hpush := Pre.push h (AO.row [.int .i64 n, v] 0 0 false)
  have hsc := (sl_cells hs).2
  unfold AV.sc at hsc
  refine S_of rfl T160 ?_; unfold fi160
  unfold goodP at hp
  have hv := fun g => Slc.lenV (hs) (g := g) (ρ := fun _ => _) (x := .t 0) rfl; simp only [evOp] at hv
  by_cases h5 : 1 ≤ n ∧ n ≤ 5
  case neg =>
    simp (maxSteps := 1000000) (disch := first | omega | rfl | (simp only [zL, two63, room] <;> omega) | fail) only [↓reduceIte, ↓zP, zW, WOp, evOp, evBin, binI, binSh, binS, evNil, keyIs, keyEq, mkv, AV.cells, AV.sc, optv, bnd, env, put, Env.get, Env.set, Env.del, Env.dels, Env.init, res1, resL, resV, fillP, splice, newRow, Nat.reduceEqDiff, Nat.reduceLT, Nat.reduceLeDiff, Nat.reduceAdd, Nat.reduceMul, Nat.reduceSub, Nat.reduceBEq, reduceCtorEq, ↓zR, zQ, Tr, StA, StT, e_pzCells, h5, hsc]
    simpa [h5] using hp _ hpush
  by_cases h6 : cs.length ≤ 6
  case neg =>
    have h6' : (cs.length : Int) > 6 := by omega
    simp (maxSteps := 1000000) (disch := first | omega | rfl | (simp only [zL, two63, room] <;> omega) | fail) only [↓reduceIte, ↓zP, zW, WOp, evOp, evBin, binI, binSh, binS, evNil, keyIs, keyEq, mkv, AV.cells, AV.sc, optv, bnd, env, put, Env.get, Env.set, Env.del, Env.dels, Env.init, res1, resL, resV, fillP, splice, newRow, Nat.reduceEqDiff, Nat.reduceLT, Nat.reduceLeDiff, Nat.reduceAdd, Nat.reduceMul, Nat.reduceSub, Nat.reduceBEq, reduceCtorEq, ↓zR, zQ, Tr, StA, StT, e_pzCells, h5, hv, h6', hsc]
    simpa [h6] using hp _ hpush
  have h6' : ¬ ((cs.length : Int) > 6) := by omega
  simp (maxSteps := 1000000) (disch := first | omega | rfl | (simp only [zL, two63, room] <;> omega) | fail) only [↓reduceIte, ↓zP, zW, WOp, evOp, evBin, binI, binSh, binS, evNil, keyIs, keyEq, mkv, AV.cells, AV.sc, optv, bnd, env, put, Env.get, Env.set, Env.del, Env.dels, Env.init, res1, resL, resV, fillP, splice, newRow, Nat.reduceEqDiff, Nat.reduceLT, Nat.reduceLeDiff, Nat.reduceAdd, Nat.reduceMul, Nat.reduceSub, Nat.reduceBEq, reduceCtorEq, ↓zR, zQ, Tr, StA, StT, e_pzCells, h5, hv, h6', hsc]
  refine lp_pzGood n h5 hlen (r := h.length) ?_ (hs.pre hpush) cs [] _ rfl (Pre.refl _) ?_ ?_
  · rw [rd_last, if_pos (by simp)]; simp
  · intro h' hp' hall
    simp (maxSteps := 1000000) (disch := first | omega | rfl | (simp only [zL, two63, room] <;> omega) | fail) only [↓reduceIte, ↓zP, zW, WOp, evOp, evBin, binI, binSh, binS, evNil, keyIs, keyEq, mkv, AV.cells, AV.sc, optv, bnd, env, put, Env.get, Env.set, Env.del, Env.dels, Env.init, res1, resL, resV, fillP, splice, newRow, Nat.reduceEqDiff, Nat.reduceLT, Nat.reduceLeDiff, Nat.reduceAdd, Nat.reduceMul, Nat.reduceSub, Nat.reduceBEq, reduceCtorEq, ↓zR, zQ, Tr, StA, StT]
    simpa [h5, h6, hall] using hp h' (hpush.trans hp')
  · intro h' hp' hall
    simp (maxSteps := 1000000) (disch := first | omega | rfl | (simp only [zL, two63, room] <;> omega) | fail) only [↓reduceIte, ↓zP, zW, WOp, evOp, evBin, binI, binSh, binS, evNil, keyIs, keyEq, mkv, AV.cells, AV.sc, optv, bnd, env, put, Env.get, Env.set, Env.del, Env.dels, Env.init, res1, resL, resV, fillP, splice, newRow, Nat.reduceEqDiff, Nat.reduceLT, Nat.reduceLeDiff, Nat.reduceAdd, Nat.reduceMul, Nat.reduceSub, Nat.reduceBEq, reduceCtorEq, ↓zR, zQ, Tr, StA, StT]
    simpa [h5, h6, hall] using hp h' (hpush.trans hp')
theorem c_IsPuzzle1 (n : Int) (h5 : 1 ≤ n ∧ n ≤ 5) (c : Clu) {h : AH} {r : Nat} (hr : rdRow h r 0 0 1 = some [.int .i64 n]) {post : AV → AH → Prop} (hp : ∀ h', Pre h h' → post (.bool (!clueOk n c)) h') : S 176 [.agg (encC c), .ptr r 0 0 2] h post k := by
  have hpush := Pre.push h (AO.row (encC c) 0 0 false)
  have hrl := rd_lt hr
  refine S_of rfl T176 ?_; unfold fi176
  simp (maxSteps := 1000000) (disch := first | omega | rfl | (simp only [zL, two63, room] <;> omega) | fail) only [↓reduceIte, ↓zP, zW, WOp, evOp, evBin, binI, binSh, binS, evNil, keyIs, keyEq, mkv, AV.cells, AV.sc, optv, bnd, env, put, Env.get, Env.set, Env.del, Env.dels, Env.init, res1, resL, resV, fillP, splice, newRow, Nat.reduceEqDiff, Nat.reduceLT, Nat.reduceLeDiff, Nat.reduceAdd, Nat.reduceMul, Nat.reduceSub, Nat.reduceBEq, reduceCtorEq, ↓zR, zQ, Tr, StA, StT, hr]
  refine c_IsClue n c.1 c.2.1 c.2.2 (by omega) ?_
  intro h2 hp2
  have := hp h2 (hpush.trans hp2)
  simp (maxSteps := 1000000) (disch := first | omega | rfl | (simp only [zL, two63, room] <;> omega) | fail) only [↓reduceIte, ↓zP, zW, WOp, evOp, evBin, binI, binSh, binS, evNil, keyIs, keyEq, mkv, AV.cells, AV.sc, optv, bnd, env, put, Env.get, Env.set, Env.del, Env.dels, Env.init, res1, resL, resV, fillP, splice, newRow, Nat.reduceEqDiff, Nat.reduceLT, Nat.reduceLeDiff, Nat.reduceAdd, Nat.reduceMul, Nat.reduceSub, Nat.reduceBEq, reduceCtorEq, ↓zR, zQ, Tr, StA, StT, h5]
  exact this
theorem c_IsPuzzle (n : Int) {v : AV} {cs : List Clu} (hlen : cs.length < 2 ^ 30) {h : AH} (hs : Slc 3 encC h v cs) {post : AV → AH → Prop} (hp : ∀ h', Pre h h' → post (.bool (goodP n cs)) h') : S 166 [pzV n v] h post k := by
  have hpush := Pre.push h (AO.row [.int .i64 n, v] 0 0 false)
  have hsc := (sl_cells hs).2
  unfold AV.sc at hsc
  refine S_of rfl T166 ?_; unfold fi166
  unfold goodP at hp
  have hv := fun g => Slc.lenV (hs) (g := g) (ρ := fun _ => _) (x := .t 0) rfl; simp only [evOp] at hv
  by_cases h5 : 1 ≤ n ∧ n ≤ 5
  case neg =>
    simp (maxSteps := 1000000) (disch := first | omega | rfl | (simp only [zL, two63, room] <;> omega) | fail) only [↓reduceIte, ↓zP, zW, WOp, evOp, evBin, binI, binSh, binS, evNil, keyIs, keyEq, mkv, AV.cells, AV.sc, optv, bnd, env, put, Env.get, Env.set, Env.del, Env.dels, Env.init, res1, resL, resV, fillP, splice, newRow, Nat.reduceEqDiff, Nat.reduceLT, Nat.reduceLeDiff, Nat.reduceAdd, Nat.reduceMul, Nat.reduceSub, Nat.reduceBEq, reduceCtorEq, ↓zR, zQ, Tr, StA, StT, e_within, h5, hsc]
    simpa [h5] using hp _ hpush
  by_cases h6 : cs.length ≤ 6
  case neg =>
    have h6' : ¬ ((cs.length : Int) ≤ 6) := by omega
    simp (maxSteps := 1000000) (disch := first | omega | rfl | (simp only [zL, two63, room] <;> omega) | fail) only [↓reduceIte, ↓zP, zW, WOp, evOp, evBin, binI, binSh, binS, evNil, keyIs, keyEq, mkv, AV.cells, AV.sc, optv, bnd, env, put, Env.get, Env.set, Env.del, Env.dels, Env.init, res1, resL, resV, fillP, splice, newRow, Nat.reduceEqDiff, Nat.reduceLT, Nat.reduceLeDiff, Nat.reduceAdd, Nat.reduceMul, Nat.reduceSub, Nat.reduceBEq, reduceCtorEq, ↓zR, zQ, Tr, StA, StT, e_within, h5, hv, h6', hsc]
    simpa [h6] using hp _ hpush
  have h6' : (cs.length : Int) ≤ 6 := by omega
  simp (maxSteps := 1000000) (disch := first | omega | rfl | (simp only [zL, two63, room] <;> omega) | fail) only [↓reduceIte, ↓zP, zW, WOp, evOp, evBin, binI, binSh, binS, evNil, keyIs, keyEq, mkv, AV.cells, AV.sc, optv, bnd, env, put, Env.get, Env.set, Env.del, Env.dels, Env.init, res1, resL, resV, fillP, splice, newRow, Nat.reduceEqDiff, Nat.reduceLT, Nat.reduceLeDiff, Nat.reduceAdd, Nat.reduceMul, Nat.reduceSub, Nat.reduceBEq, reduceCtorEq, ↓zR, zQ, Tr, StA, StT, e_within, h5, hv, h6', hsc]
  refine c_ContainsFuncC _ _ (fun c => !clueOk n c) (fun h' => Pre (h ++ [AO.row [.int .i64 n, v] 0 0 false]) h') (v := v) (L := cs) (by omega) (fun h' hp' => (hs.pre hpush).pre hp') ?_ (Pre.refl _) ?_
  · intro c hc h' hp' post hpost
    refine c_IsPuzzle1 n h5 c (r := h.length) ?_ fun h'' hp'' => hpost h'' (hp'.trans hp'')
    refine rdRow_pre hp' ?_
    rw [rd_last, if_pos (by simp)]; simp
  · intro h' hp'
    have := hp h' (hpush.trans hp')
    have e : (cs.all fun c => clueOk n c) = !(cs.any fun c => !clueOk n c) := by
      rw [Bool.eq_iff_iff]; simp
    rw [e] at this
    simp (maxSteps := 1000000) (disch := first | omega | rfl | (simp only [zL, two63, room] <;> omega) | fail) only [↓reduceIte, ↓zP, zW, WOp, evOp, evBin, binI, binSh, binS, evNil, keyIs, keyEq, mkv, AV.cells, AV.sc, optv, bnd, env, put, Env.get, Env.set, Env.del, Env.dels, Env.init, res1, resL, resV, fillP, splice, newRow, Nat.reduceEqDiff, Nat.reduceLT, Nat.reduceLeDiff, Nat.reduceAdd, Nat.reduceMul, Nat.reduceSub, Nat.reduceBEq, reduceCtorEq, ↓zR, zQ, Tr, StA, StT]
    simpa [h5, h6] using this

def solN (n : Int) (cs : List Clu) : List (List UInt8) := fitL n.toNat cs
theorem c_Solutions (n : Int) {v : AV} {cs : List Clu} (hlen : cs.length < 2 ^ 30) {h : AH} (hs : Slc 3 encC h v cs) {post : AV → AH → Prop} (hp : ∀ v' h', OwW 1 encS h h' v' (if goodP n cs then solN n cs else []) → Pre h h' → post (.tup [v', .bool (goodP n cs)]) h') : S 163 [pzV n v] h post k := by
  have hpush := Pre.push h (AO.row [.int .i64 n, v] 0 0 false)
  have hsc := (sl_cells hs).2
  unfold AV.sc at hsc
  have r2 : rdRow (h ++ [AO.row [.int .i64 n, v] 0 0 false]) h.length 0 0 2 = some [.int .i64 n, v] := by rw [rd_last, if_pos (by simp)]; simp
  have r0 : rdRow (h ++ [AO.row [.int .i64 n, v] 0 0 false]) h.length 0 0 1 = some [.int .i64 n] := by rw [rd_last, if_pos (by simp)]; simp
  have r1 : rdRow (h ++ [AO.row [.int .i64 n, v] 0 0 false]) h.length 0 1 1 = some [v] := by rw [rd_last, if_pos (by simp)]; simp
  refine S_of rfl T163 ?_; unfold fi163
  simp (maxSteps := 1000000) (disch := first | omega | rfl | (simp only [zL, two63, room] <;> omega) | fail) only [↓reduceIte, ↓zP, zW, WOp, evOp, evBin, binI, binSh, binS, evNil, keyIs, keyEq, mkv, AV.cells, AV.sc, optv, bnd, env, put, Env.get, Env.set, Env.del, Env.dels, Env.init, res1, resL, resV, fillP, splice, newRow, Nat.reduceEqDiff, Nat.reduceLT, Nat.reduceLeDiff, Nat.reduceAdd, Nat.reduceMul, Nat.reduceSub, Nat.reduceBEq, reduceCtorEq, ↓zR, zQ, Tr, StA, StT, hsc]
  refine c_IsPuzzle n hlen (hs.pre hpush) ?_
  intro h2 hp2
  have q0 := rdRow_pre hp2 r0
  have q1 := rdRow_pre hp2 r1
  cases e : goodP n cs
  · rw [e] at hp
    simp (maxSteps := 1000000) (disch := first | omega | rfl | (simp only [zL, two63, room] <;> omega) | fail) only [↓reduceIte, ↓zP, zW, WOp, evOp, evBin, binI, binSh, binS, evNil, keyIs, keyEq, mkv, AV.cells, AV.sc, optv, bnd, env, put, Env.get, Env.set, Env.del, Env.dels, Env.init, res1, resL, resV, fillP, splice, newRow, Nat.reduceEqDiff, Nat.reduceLT, Nat.reduceLeDiff, Nat.reduceAdd, Nat.reduceMul, Nat.reduceSub, Nat.reduceBEq, reduceCtorEq, ↓zR, zQ, Tr, StA, StT]
    exact hp .nilS h2 rfl (hpush.trans hp2)
  · rw [e] at hp
    obtain ⟨m, rfl, m1, m5, m6, mok⟩ := goodP_iff e
    simp (maxSteps := 1000000) (disch := first | omega | rfl | (simp only [zL, two63, room] <;> omega) | fail) only [↓reduceIte, ↓zP, zW, WOp, evOp, evBin, binI, binSh, binS, evNil, keyIs, keyEq, mkv, AV.cells, AV.sc, optv, bnd, env, put, Env.get, Env.set, Env.del, Env.dels, Env.init, res1, resL, resV, fillP, splice, newRow, Nat.reduceEqDiff, Nat.reduceLT, Nat.reduceLeDiff, Nat.reduceAdd, Nat.reduceMul, Nat.reduceSub, Nat.reduceBEq, reduceCtorEq, ↓zR, zQ, Tr, StA, StT, q0, q1]
    refine c_solve m ⟨m1, m5⟩ hlen mok ((hs.pre hpush).pre hp2) ?_
    intro v' h3 ho hp3
    simp (maxSteps := 1000000) (disch := first | omega | rfl | (simp only [zL, two63, room] <;> omega) | fail) only [↓reduceIte, ↓zP, zW, WOp, evOp, evBin, binI, binSh, binS, evNil, keyIs, keyEq, mkv, AV.cells, AV.sc, optv, bnd, env, put, Env.get, Env.set, Env.del, Env.dels, Env.init, res1, resL, resV, fillP, splice, newRow, Nat.reduceEqDiff, Nat.reduceLT, Nat.reduceLeDiff, Nat.reduceAdd, Nat.reduceMul, Nat.reduceSub, Nat.reduceBEq, reduceCtorEq, ↓zR, zQ, Tr, StA, StT]
    refine hp v' h3 ?_ ((hpush.trans hp2).trans hp3)
    rw [if_pos rfl]
    exact ho.base (hpush.trans hp2).1
def countP (n : Int) (cs : List Clu) : Int := if goodP n cs then (solN n cs).length else 0
theorem c_CountSolutions (n : Int) {v : AV} {cs : List Clu} (hlen : cs.length < 2 ^ 30) {h : AH} (hs : Slc 3 encC h v cs) {post : AV → AH → Prop} (hp : ∀ h', Pre h h' → post (.tup [.int .i64 (countP n cs), .bool (goodP n cs)]) h') : S 138 [pzV n v] h post k := by
  have hpush := Pre.push h (AO.row [.int .i64 n, v] 0 0 false)
  have hsc := (sl_cells hs).2
  unfold AV.sc at hsc
  refine S_of rfl T138 ?_; unfold fi138
  simp (maxSteps := 1000000) (disch := first | omega | rfl | (simp only [zL, two63, room] <;> omega) | fail) only [↓reduceIte, ↓zP, zW, WOp, evOp, evBin, binI, binSh, binS, evNil, keyIs, keyEq, mkv, AV.cells, AV.sc, optv, bnd, env, put, Env.get, Env.set, Env.del, Env.dels, Env.init, res1, resL, resV, fillP, splice, newRow, Nat.reduceEqDiff, Nat.reduceLT, Nat.reduceLeDiff, Nat.reduceAdd, Nat.reduceMul, Nat.reduceSub, Nat.reduceBEq, reduceCtorEq, ↓zR, zQ, Tr, StA, StT, hsc]
  refine c_Solutions n hlen (hs.pre hpush) ?_
  intro v' h2 ho hp2
  have := hp h2 (hpush.trans hp2)
  have hsl := ho.slc hlS
  have hv := fun g => Slc.lenV (hsl) (g := g) (ρ := fun _ => _) (x := .t 0) rfl; simp only [evOp] at hv
  simp (maxSteps := 1000000) (disch := first | omega | rfl | (simp only [zL, two63, room] <;> omega) | fail) only [↓reduceIte, ↓zP, zW, WOp, evOp, evBin, binI, binSh, binS, evNil, keyIs, keyEq, mkv, AV.cells, AV.sc, optv, bnd, env, put, Env.get, Env.set, Env.del, Env.dels, Env.init, res1, resL, resV, fillP, splice, newRow, Nat.reduceEqDiff, Nat.reduceLT, Nat.reduceLeDiff, Nat.reduceAdd, Nat.reduceMul, Nat.reduceSub, Nat.reduceBEq, reduceCtorEq, ↓zR, zQ, Tr, StA, StT, hv]
  unfold countP at this
  cases e : goodP n cs <;> simpa [e] using this
end Go.Proofs.YtnamhjdfegohbaaGreatDoor.Ab

/- PUZZLES: the first solution, whether one alone is left; their laws. -/
namespace Go.Proofs.YtnamhjdfegohbaaGreatDoor.Ab
open Go
set_option maxRecDepth 100000
set_option maxHeartbeats 4000000

def solP (n : Int) (cs : List Clu) : List (List UInt8) := if goodP n cs then solN n cs else []

theorem c_IsSolved (n : Int) {v : AV} {cs : List Clu} (hlen : cs.length < 2 ^ 30) {h : AH} (hs : Slc 3 encC h v cs) {post : AV → AH → Prop} (hp : ∀ h', Pre h h' → post (.tup [.bool (countP n cs == 1), .bool (goodP n cs)]) h') : S 142 [pzV n v] h post k := by
  have hpush := Pre.push h (AO.row [.int .i64 n, v] 0 0 false)
  have hsc := (sl_cells hs).2
  unfold AV.sc at hsc
  refine S_of rfl T142 ?_; unfold fi142
  simp (maxSteps := 1000000) (disch := first | omega | rfl | (simp only [zL, two63, room] <;> omega) | fail) only [↓reduceIte, ↓zP, zW, WOp, evOp, evBin, binI, binSh, binS, evNil, keyIs, keyEq, mkv, AV.cells, AV.sc, optv, bnd, env, put, Env.get, Env.set, Env.del, Env.dels, Env.init, res1, resL, resV, fillP, splice, newRow, Nat.reduceEqDiff, Nat.reduceLT, Nat.reduceLeDiff, Nat.reduceAdd, Nat.reduceMul, Nat.reduceSub, Nat.reduceBEq, reduceCtorEq, ↓zR, zQ, Tr, StA, StT, hsc]
  refine c_CountSolutions n hlen (hs.pre hpush) ?_
  intro h2 hp2
  simp (maxSteps := 1000000) (disch := first | omega | rfl | (simp only [zL, two63, room] <;> omega) | fail) only [↓reduceIte, ↓zP, zW, WOp, evOp, evBin, binI, binSh, binS, evNil, keyIs, keyEq, mkv, AV.cells, AV.sc, optv, bnd, env, put, Env.get, Env.set, Env.del, Env.dels, Env.init, res1, resL, resV, fillP, splice, newRow, Nat.reduceEqDiff, Nat.reduceLT, Nat.reduceLeDiff, Nat.reduceAdd, Nat.reduceMul, Nat.reduceSub, Nat.reduceBEq, reduceCtorEq, ↓zR, zQ, Tr, StA, StT]
  exact hp h2 (hpush.trans hp2)
theorem c_pzSolved (m : Nat) (m5 : m ≤ 5) {v : AV} {cs : List Clu} (hlen : cs.length < 2 ^ 30) (mok : ∀ c ∈ cs, clueOk m c = true) {h : AH} (hs : Slc 3 encC h v cs) {post : AV → AH → Prop} (hp : ∀ h', Pre h h' → post (.bool (((fitL m cs).length : Int) == 1)) h') : S 165 [.int .i64 m, v] h post k := by
  refine S_of rfl T165 ?_; unfold fi165
  simp (maxSteps := 1000000) (disch := first | omega | rfl | (simp only [zL, two63, room] <;> omega) | fail) only [↓reduceIte, ↓zP, zW, WOp, evOp, evBin, binI, binSh, binS, evNil, keyIs, keyEq, mkv, AV.cells, AV.sc, optv, bnd, env, put, Env.get, Env.set, Env.del, Env.dels, Env.init, res1, resL, resV, fillP, splice, newRow, Nat.reduceEqDiff, Nat.reduceLT, Nat.reduceLeDiff, Nat.reduceAdd, Nat.reduceMul, Nat.reduceSub, Nat.reduceBEq, reduceCtorEq, ↓zR, zQ, Tr, StA, StT]
  refine c_pzAll m m5 hlen mok hs ?_
  intro v' h3 ho hp3
  have hv := fun g => Slc.lenV (ho.slc) (g := g) (ρ := fun _ => _) (x := .t 0) rfl; simp only [evOp] at hv
  simp (maxSteps := 1000000) (disch := first | omega | rfl | (simp only [zL, two63, room] <;> omega) | fail) only [↓reduceIte, ↓zP, zW, WOp, evOp, evBin, binI, binSh, binS, evNil, keyIs, keyEq, mkv, AV.cells, AV.sc, optv, bnd, env, put, Env.get, Env.set, Env.del, Env.dels, Env.init, res1, resL, resV, fillP, splice, newRow, Nat.reduceEqDiff, Nat.reduceLT, Nat.reduceLeDiff, Nat.reduceAdd, Nat.reduceMul, Nat.reduceSub, Nat.reduceBEq, reduceCtorEq, ↓zR, zQ, Tr, StA, StT, hv]
  exact hp h3 hp3
end Go.Proofs.YtnamhjdfegohbaaGreatDoor.Ab

/- MARKS: what the laws' helpers write into a slice and find there again; slices of numbers compared. -/
namespace Go.Proofs.YtnamhjdfegohbaaGreatDoor.Ab
open Go
set_option maxRecDepth 100000
set_option maxHeartbeats 4000000

theorem splice_in {X vs : List AV} {o : Nat} (h : o + vs.length ≤ X.length) (A Z : List AV) {n : Nat} (hn : n = A.length + o) : splice (A ++ (X ++ Z)) n vs = A ++ (splice X o vs ++ Z) := by
  subst hn
  unfold splice
  rw [List.take_append, List.take_of_length_le (by omega), show A.length + o - A.length = o by omega, List.take_append_of_le_length (by omega),
    List.drop_append, List.drop_of_length_le (by omega), show A.length + o + vs.length - A.length = o + vs.length by omega, List.drop_append_of_le_length (by omega)]
  simp
theorem OwW.store {α : Type} {esz : Nat} {enc : α → List AV} (hl : ∀ x, (enc x).length = esz) {b h : AH} {v : AV} {pre : List α} {x : α} {rest : List α} (ho : OwW esz enc b h v (pre ++ x :: rest)) (y : α) (o : Nat) (vs : List AV) (hvs : o + vs.length ≤ esz) (hsc : vs.all AV.sc = true) (hy : splice (enc x) o vs = enc y) :
    ∃ c kk off h', v = .slice c kk off (pre ++ x :: rest).length esz ∧ wrRow h c kk (off + pre.length * esz + o) vs = some h' ∧ OwW esz enc b h' v (pre ++ y :: rest) ∧ PreV v h h' := by
  unfold OwW at ho
  cases v <;> simp only at ho <;> first
    | (exact ho.elim)
    | (simp at ho; done)
    | skip
  rename_i c kk off len e
  obtain ⟨rfl, rfl, h3, A, Z, fl, h4, h5, h6⟩ := ho
  have hlt := (List.getElem?_eq_some_iff.1 h4).1
  have hpl := flat_len hl pre
  have hrow : A ++ (pre ++ x :: rest).flatMap enc ++ Z = (A ++ pre.flatMap enc) ++ (enc x ++ (rest.flatMap enc ++ Z)) := by simp
  have hsp := splice_in (X := enc x) (vs := vs) (o := o) (by rw [hl]; exact hvs) (A ++ pre.flatMap enc) (rest.flatMap enc ++ Z) (n := off + pre.length * e + o) (by rw [List.length_append, hpl, h6])
  rw [hrow] at h4
  refine ⟨c, kk, off, h.set c (.row (splice ((A ++ pre.flatMap enc) ++ (enc x ++ (rest.flatMap enc ++ Z))) (off + pre.length * e + o) vs) kk kk false), rfl, ?_, ?_, ?_⟩
  · unfold wrRow
    rw [h4]
    simp only
    rw [if_pos ⟨trivial, h5, by simp only [List.length_append, hpl, hl, h6]; omega, hsc⟩]
  · unfold OwW
    simp only
    refine ⟨trivial, by simp, h3, A, Z, kk, ?_, Nat.le_refl _, h6⟩
    rw [List.getElem?_set, if_pos rfl, if_pos hlt, hsp, hy]
    simp
  · exact ⟨by simp, fun i _ hc => by rw [List.getElem?_set, if_neg (hc c kk off _ e rfl ·.symm)]⟩
theorem PreV.trans {v : AV} {a b c : AH} (x : PreV v a b) (y : PreV v b c) : PreV v a c := ⟨Nat.le_trans x.1 y.1, fun i hi hc => by rw [y.2 i (Nat.lt_of_lt_of_le hi x.1) hc, x.2 i hi hc]⟩
theorem PreV.refl (v : AV) (a : AH) : PreV v a a := ⟨Nat.le_refl _, fun _ _ _ => rfl⟩

def cntL : Int → Nat → List Int
  | _, 0 => []
  | q, n + 1 => q :: cntL (q + 1) n
def cntC : Int → Nat → List Clu
  | _, 0 => []
  | q, n + 1 => (q, q + 1, q + 2) :: cntC (q + 3) n
theorem PreV.keep {α : Type} {esz : Nat} {enc : α → List AV} {a b h h' : AH} {v : AV} {L : List α} (hp : PreV v h h') (ho : OwW esz enc b h v L) (ha : Pre a h) (hab : a.length ≤ b.length) : Pre a h' :=
  ⟨Nat.le_trans ha.1 hp.1, fun i hi => by
    rw [hp.2 i (Nat.lt_of_lt_of_le hi ha.1) (fun c kk off n e hv => by
      subst hv
      unfold OwW at ho
      have := ho.2.2.1
      omega), ha.2 i hi]⟩
theorem Slc.row_lt {α : Type} {esz : Nat} {enc : α → List AV} {h : AH} {v : AV} {L : List α} (hs : Slc esz enc h v L) : ∀ c kk off n e, v = .slice c kk off n e → c < h.length := by
  rintro c kk off n e rfl
  exact rd_lt hs.all.2.2
theorem OwW.keep {α : Type} {esz : Nat} {enc : α → List AV} {b h h' : AH} {v u : AV} {L : List α} (ho : OwW esz enc b h v L) (hp : PreV u h h') (hu : ∀ c kk off n e, u = .slice c kk off n e → c < b.length) : OwW esz enc b h' v L := by
  unfold OwW at ho ⊢
  cases v <;> simp only at ho ⊢ <;> first
    | exact ho
    | (obtain ⟨h1, h2, h3, A, Z, fl, h4, h5⟩ := ho
       exact ⟨h1, h2, h3, A, Z, fl, by rw [hp.2 _ (List.getElem?_eq_some_iff.1 h4).1 (fun c kk off n e hv => by have := hu c kk off n e hv; omega)]; exact h4, h5⟩)
end Go.Proofs.YtnamhjdfegohbaaGreatDoor.Ab

/- PUZZLES: the cells that all solutions share; the law of SureCells. -/
namespace Go.Proofs.YtnamhjdfegohbaaGreatDoor.Ab
open Go
set_option maxRecDepth 100000
set_option maxHeartbeats 4000000

abbrev encU (b : UInt8) : List AV := [.int .u8 b.toNat]
theorem hlU (s : UInt8) : (encU s).length = 1 := rfl
def mg (c x : UInt8) : UInt8 := if x == c then c else 63
def mgL (cur w : List UInt8) : List UInt8 := List.zipWith mg cur w
def sg (L : List (List UInt8)) (hd : List UInt8) (i : Nat) : List UInt8 := if L.all (fun w => (w.drop i).take 1 == (hd.drop i).take 1) then (hd.drop i).take 1 else [63]
def acc (L : List (List UInt8)) (hd : List UInt8) (i : Nat) : List UInt8 := (List.range i).flatMap (sg L hd)
def sureP (n : Int) (cs : List Clu) : List UInt8 := (solP n cs).foldl mgL ((solP n cs).headD [])
end Go.Proofs.YtnamhjdfegohbaaGreatDoor.Ab

/- ARGUMENTS: slices of bytes, one behind the other; they may share a row. -/
namespace Go.Proofs.YtnamhjdfegohbaaGreatDoor.Ab
open Go Go.RowKit Go.ChangeShapes Go.WideShapes Go.Deep Go.Joins
set_option maxRecDepth 100000

/-- One more row that is read alone. -/
theorem rel_more {F : Nat → Nat} {W : World} {m : Emb} {h : AH} (hr : RelH F W.heap.size m h W) {p : Place} {cs : List AV} {C : Array Value} {e : TypeId} {fr : Nat × Nat} (hb : W.heap[p.blk]? = some (.cells C e fr)) (hs : C.size = p.siz) (hlo : p.lo = 0) (hext : p.ext = cs.length) (hle : p.base + p.ext ≤ p.siz)
    (hv : ∀ j x, cs[j]? = some x → ∃ v, C[p.base + j]? = some v ∧ RelV F m x v) : m.le (m.addRow h.length 0 p) ∧ RelH F W.heap.size (m.addRow h.length 0 p) (h ++ [.row cs 0 0 true]) W := by
  have hlt : p.blk < W.heap.size := (Array.getElem?_eq_some_iff.1 hb).1
  have hnone : ∀ k, m.row h.length k = none := by
    intro k
    cases hk : m.row h.length k with
    | none => rfl
    | some p => obtain ⟨o, ho, _⟩ := hr.rowc _ _ _ hk; simp at ho
  have hm : m.le (m.addRow h.length 0 p) := Emb.le_addRow (hnone 0)
  have hobj : ∀ c b, m.obj c = some b → W.heap.size ≤ b := by
    intro c b hb
    obtain ⟨o, ho, hi⟩ := hr.objc c b hb
    have := hr.ob c o ho
    cases o with
    | row cs ver fl ro => cases hi
    | map es => exact (this b hb).1
    | iter s pos => exact (this b hb).1
    | mit cm since seen => exact (this b hb).1
  refine ⟨hm, ?_, ?_, ?_, ?_, hr.injo, ?_, ?_, hr.lto, ?_, Nat.le_refl _⟩
  · intro c k q hq
    rcases Emb.addRow_inv hq with ⟨rfl, _, _⟩ | hq
    · exact ⟨.row cs 0 0 true, by simp, rfl⟩
    · obtain ⟨o, ho, hi⟩ := hr.rowc c k q hq
      exact ⟨o, by rw [List.getElem?_append_left (by have := List.getElem?_eq_some_iff.1 ho; exact this.1)]; exact ho, hi⟩
  · intro c b hb
    obtain ⟨o, ho, hi⟩ := hr.objc c b hb
    exact ⟨o, by rw [List.getElem?_append_left (by have := List.getElem?_eq_some_iff.1 ho; exact this.1)]; exact ho, hi⟩
  · intro c o hc
    by_cases hlt' : c < h.length
    · rw [List.getElem?_append_left hlt'] at hc
      refine ObjRel.keep (hr.ob c o hc) hm ?_ (fun b hb => hb) (fun _ _ _ => rfl) (fun _ _ => rfl)
      intro k q hq
      rcases Emb.addRow_inv hq with ⟨rfl, _, _⟩ | hq
      · omega
      · exact hq
    · rw [List.getElem?_append_right (by omega)] at hc
      have hce : c = h.length := by
        by_cases he : c = h.length
        · exact he
        · rw [List.getElem?_eq_none (by simp; omega)] at hc; cases hc
      subst hce
      simp only [Nat.sub_self, List.getElem?_cons_zero, Option.some.injEq] at hc
      subst hc
      intro k q hq hk
      rcases Emb.addRow_inv hq with ⟨_, rfl, rfl⟩ | hq
      · refine ⟨Nat.le_refl _, by omega, fun _ => hext, (fun h => by cases h), C, e, fr, hb, hs, by omega, (fun h => by cases h), ?_⟩
        intro j h1 h2
        have hj : j < cs.length := by omega
        obtain ⟨v, h3, h4⟩ := hv j cs[j] (by simp)
        exact ⟨cs[j], v, by simp, by rw [hlo]; simpa using h3, RelV.mono hm _ _ h4⟩
      · rw [hnone k] at hq; cases hq
  · intro c k q c' k' q' hq hq' hb he
    rcases Emb.addRow_inv hq with ⟨rfl, rfl, rfl⟩ | hq
    · omega
    · rcases Emb.addRow_inv hq' with ⟨rfl, rfl, rfl⟩ | hq'
      · omega
      · exact hr.inj c k q c' k' q' hq hq' hb he
  · intro c k q c' b hq hb' e
    rcases Emb.addRow_inv hq with ⟨rfl, rfl, rfl⟩ | hq
    · have := hobj c' b hb'; omega
    · exact hr.injr c k q c' b hq hb' e
  · intro c k q hq
    rcases Emb.addRow_inv hq with ⟨rfl, rfl, rfl⟩ | hq
    · exact hlt
    · exact hr.ltr c k q hq
  · intro c cs' ver fl ro k q hc hq
    rcases Emb.addRow_inv hq with ⟨_, rfl, _⟩ | hq
    · omega
    · obtain ⟨o, ho, _⟩ := hr.rowc c k q hq
      have hlt' := (List.getElem?_eq_some_iff.1 ho).1
      rw [List.getElem?_append_left hlt'] at hc
      exact hr.vers c cs' ver fl ro k q hc hq

section
variable {H : Type} {enc : TypeId × Value → H} {P : Program}
theorem open_u8 {W : World} {b0 fuel : Nat} {sp : Nat → Bool} {hd : Bool} {t : TypeId} (ht : P.underlying t = some (.int .u8)) {cs : List Value} {y : DataW H × List MemPlace} (h : DataW.trod enc P W b0 sp hd fuel t cs = some y) : ∃ b : UInt8, cs = [.int .u8 b.toNat] := by
  obtain ⟨n, h1, _, hw⟩ := DataW.trod_int ht h
  have hr : 0 ≤ n ∧ n < 256 := by
    have h2 : IntKind.u8.min ≤ n ∧ n ≤ IntKind.u8.max := by simpa [Lit.wf] using hw
    have h3 : IntKind.u8.min = 0 := rfl
    have h4 : IntKind.u8.max = 255 := rfl
    omega
  refine ⟨UInt8.ofNat n.toNat, ?_⟩
  rw [h1]
  have : (UInt8.ofNat n.toNat).toNat = n.toNat := by
    rw [UInt8.toNat_ofNat']; omega
  rw [this, Int.toNat_of_nonneg hr.1]
/-- A slice of bytes, behind what has been opened. -/
theorem open_bytes0 {F : Nat → Nat} {W : World} {m0 : Emb} {g0 : AH} (hrel : RelH F W.heap.size m0 g0 W) {fuel : Nat} {t e : TypeId} (ht : P.underlying t = some (.slice e)) (he : P.underlying e = some (.int .u8)) (hC : P.cellsOf e = 1)
    {v : Value} {x : DataW H × List MemPlace} (h : DataW.trod enc P W 0 (fun _ => true) true fuel t [v] = some x) :
    ∃ (cs : List UInt8) (m : Emb) (g : AH) (a : AV), m0.le m ∧ Pre g0 g ∧ Slc 1 encU g a cs ∧ RelV F m a v ∧ RelH F W.heap.size m g W := by
  rcases open_slice ht h with ⟨hv, _⟩ | ⟨a, len, cap, m, n, D, Pl, hv, hb, hl, hmax, hm, hx, hi⟩
  · simp at hv
    subst hv
    exact ⟨[], m0, g0, .nilS, Emb.le_refl _, Pre.refl _, Slc.nil, by simp only [RelV], hrel⟩
  · simp at hv
    subst hv
    simp only [if_true] at hm
    subst hm
    rw [hC] at hi
    have hcell : ∀ i, i < m → ∃ b : UInt8, W.cell? (a.add (i * 1)) = some (.int .u8 b.toNat) := by
      intro i him
      obtain ⟨cs', hc, ht'⟩ := hi i him
      obtain ⟨_, hcl, hat⟩ := World.cells?_some hc
      obtain ⟨b, rfl⟩ := open_u8 he ht'
      exact ⟨b, by simpa [Addr.add] using hat 0 (by omega)⟩
    by_cases hz : m = 0
    · subst hz
      obtain rfl : len = 0 := by omega
      exact ⟨[], m0, g0, .empS, Emb.le_refl _, Pre.refl _, Slc.emp, by simp only [RelV]; exact ⟨a, rfl⟩, hrel⟩
    · obtain ⟨c0, q0⟩ := hcell 0 (by omega)
      have hspot : a.spot = none := by
        unfold World.cell? at q0
        split at q0
        · split at q0
          · cases q0
          · rename_i hs; simpa [Addr.add] using hs
        · cases q0
      obtain ⟨blk, off, spot⟩ := a
      simp only at hspot
      subst hspot
      obtain ⟨C, ee, fr, hblk⟩ : ∃ C ee fr, W.heap[blk]? = some (.cells C ee fr) := by
        unfold World.cell? at q0
        split at q0
        · rename_i C ee fr hh; exact ⟨C, ee, fr, hh⟩
        · cases q0
      have hC' : ∀ i, i < m → ∃ b : UInt8, C[off + i]? = some (.int .u8 b.toNat) := by
        intro i him
        obtain ⟨b, e1⟩ := hcell i him
        rw [cell_atA hblk, Nat.mul_one] at e1
        exact ⟨b, e1⟩
      have hsize : off + m ≤ C.size := by
        obtain ⟨c, e3⟩ := hC' (m - 1) (by omega)
        have := (Array.getElem?_eq_some_iff.1 e3).1
        omega
      have hel : ∀ l, l ≤ m → ∃ cs : List UInt8, cs.length = l ∧ ∀ j x, (cs.flatMap encU)[j]? = some x → ∃ v, C[off + j]? = some v ∧ ∀ F m', RelV F m' x v := by
        intro l
        induction l with
        | zero => intro _; exact ⟨[], rfl, fun j x hx => by simp at hx⟩
        | succ l ih =>
          intro hlm
          obtain ⟨cs, hcs, hh⟩ := ih (by omega)
          obtain ⟨c, e1⟩ := hC' l (by omega)
          refine ⟨cs ++ [c], by simp [hcs], ?_⟩
          intro j x hx
          have hfl : (cs.flatMap encU).length = l * 1 := by rw [flat_len hlU, hcs]
          rw [List.flatMap_append] at hx
          by_cases hj : j < l
          · rw [List.getElem?_append_left (by omega)] at hx
            exact hh j x hx
          · rw [List.getElem?_append_right (by omega), hfl] at hx
            simp only [List.flatMap_cons, List.flatMap_nil, List.append_nil, encU] at hx
            have hj3 : j - l * 1 = 0 := by
              have := (List.getElem?_eq_some_iff.1 hx).1
              simp at this
              omega
            rw [hj3] at hx
            simp at hx
            subst hx
            exact ⟨_, (by rw [show off + j = off + l by omega]; exact e1), fun F m' => by simp only [RelV]⟩
      obtain ⟨cs, hcs, hh⟩ := hel len hl
      have hfl : (cs.flatMap encU).length = len * 1 := by rw [flat_len hlU, hcs]
      obtain ⟨hle, hr'⟩ := rel_more hrel (p := ⟨blk, off, 0, len * 1, C.size⟩) (cs := cs.flatMap encU) (C := C) hblk rfl rfl hfl.symm (by simp only; omega) (fun j x hx => by
        obtain ⟨v, h3, h4⟩ := hh j x hx
        exact ⟨v, h3, h4 _ _⟩)
      refine ⟨cs, _, g0 ++ [.row (cs.flatMap encU) 0 0 true], .slice g0.length 0 0 len 1, hle, Pre.push _ _, ?_, ?_, hr'⟩
      · unfold Slc Sl
        refine ⟨rfl, hcs.symm, by rw [hfl, hcs], ?_⟩
        exact rdRow_push g0 _ true (by rw [hfl, hcs])
      · simp only [RelV]
        exact ⟨⟨blk, off, 0, len * 1, C.size⟩, off, m, Emb.addRow_at _ _ _ _, rfl, hl, .inr ⟨Nat.le_refl _, by simp, by simp, by simp; omega⟩⟩
theorem open_bytes {F : Nat → Nat} {W : World} {m0 : Emb} {g0 : AH} (hrel : RelH F W.heap.size m0 g0 W) {base : Nat} {t e : TypeId} (ht : P.underlying t = some (.slice e)) (he : P.underlying e = some (.int .u8)) (hC : P.cellsOf e = 1)
    {v : Value} {d : DataW H} {p : List MemPlace} (hval : Value.okWide P W .any base t v) (h : DataW.Trod enc P W 0 (fun _ => true) true t v d p) :
    ∃ (cs : List UInt8) (m : Emb) (g : AH) (a : AV), m0.le m ∧ Pre g0 g ∧ Slc 1 encU g a cs ∧ RelV F m a v ∧ RelH F W.heap.size m g W := by
  obtain ⟨fuel, h⟩ := h
  obtain ⟨a, len, cap, rfl⟩ := okWide_slice ht hval
  exact open_bytes0 hrel ht he hC h
end
end Go.Proofs.YtnamhjdfegohbaaGreatDoor.Ab

/- CLUES without one of them; copies of clues; marks found again. -/
namespace Go.Proofs.YtnamhjdfegohbaaGreatDoor.Ab
open Go
set_option maxRecDepth 100000
set_option maxHeartbeats 4000000

section
variable {α : Type} {esz : Nat} {enc : α → List AV}
theorem apM (hl : ∀ x, (enc x).length = esz) (hsc : ∀ x, (enc x).all AV.sc = true) {h0 h : AH} {v : AV} {L : List α} (ho : OwL esz enc h0 h v L) (hp : Pre h0 h) (M : List α) (hr : L.length + M.length ≤ 1099511627776) :
    ∃ v' h', apRow h esz v M.length (M.flatMap enc) = some (v', h') ∧ OwL esz enc h0 h' v' (L ++ M) ∧ Pre h0 h' := by
  have hs : (M.flatMap enc).all AV.sc = true := by
    rw [List.all_eq_true]
    intro x hx
    obtain ⟨a, _, ha⟩ := List.mem_flatMap.1 hx
    exact List.all_eq_true.1 (hsc a) x ha
  obtain ⟨v', h', h1, h2, h3⟩ := ap_own ho hp (q := M.length) (vs := M.flatMap enc) (by rw [flat_len hl]) hs hr
  refine ⟨v', h', h1, ?_, h3⟩
  unfold OwL
  rw [List.length_append, List.flatMap_append]
  exact h2
theorem Slc.ahead (hl : ∀ x, (enc x).length = esz) {h : AH} {c kk off n e : Nat} {pre rest : List α} (hs : Slc esz enc h (.slice c kk off n e) (pre ++ rest)) : rdRow h c kk off (pre.length * esz) = some (pre.flatMap enc) := by
  obtain ⟨h1, rfl, h3⟩ := hs.all
  have hm := Nat.mul_le_mul_right e (show pre.length ≤ n by rw [h1]; simp)
  have := rd_part h3 (o := 0) (m := pre.length * e) (by omega)
  rw [Nat.add_zero, List.drop_zero, List.flatMap_append, List.take_left' (flat_len hl pre)] at this
  exact this
theorem Slc.behind (hl : ∀ x, (enc x).length = esz) {h : AH} {c kk off n e : Nat} {pre rest : List α} (hs : Slc esz enc h (.slice c kk off n e) (pre ++ rest)) : rdRow h c kk (off + pre.length * esz) (rest.length * esz) = some (rest.flatMap enc) := by
  obtain ⟨h1, rfl, h3⟩ := hs.all
  have hn : n * e = pre.length * e + rest.length * e := by rw [h1, List.length_append, Nat.add_mul]
  have := rd_part h3 (o := pre.length * e) (m := rest.length * e) (by omega)
  rw [List.flatMap_append, List.drop_left' (flat_len hl pre), List.take_of_length_le (by rw [flat_len hl]; exact Nat.le_refl _)] at this
  exact this
end
theorem c_CloneC {v : AV} {cs : List Clu} (hlen : cs.length < 2 ^ 30) {h : AH} (hs : Slc 3 encC h v cs) {post : AV → AH → Prop} (hp : ∀ v' h', OwL 3 encC h h' v' cs → Pre h h' → post v' h') : S 218 [v] h post k := by
  rcases hs.cases with ⟨rfl, rfl⟩ | ⟨rfl, rfl⟩ | ⟨c, kk, off, rfl⟩
  · refine S_of rfl T218 ?_; unfold fi218
    simp (maxSteps := 1000000) (disch := first | omega | rfl | (simp only [zL, two63, room] <;> omega) | fail) only [↓reduceIte, ↓zP, zW, WOp, evOp, evBin, binI, binSh, binS, evNil, keyIs, keyEq, mkv, AV.cells, AV.sc, optv, bnd, env, put, Env.get, Env.set, Env.del, Env.dels, Env.init, res1, resL, resV, fillP, splice, newRow, Nat.reduceEqDiff, Nat.reduceLT, Nat.reduceLeDiff, Nat.reduceAdd, Nat.reduceMul, Nat.reduceSub, Nat.reduceBEq, reduceCtorEq, ↓zR, zQ, Tr, StA, StT]
    exact hp .nilS h OwL.nil (Pre.refl _)
  · refine S_of rfl T218 ?_; unfold fi218
    have ha : apRow h 3 .empS 0 [] = some (.empS, h) := rfl
    simp (maxSteps := 1000000) (disch := first | omega | rfl | (simp only [zL, two63, room] <;> omega) | fail) only [↓reduceIte, ↓zP, zW, WOp, evOp, evBin, binI, binSh, binS, evNil, keyIs, keyEq, mkv, AV.cells, AV.sc, optv, bnd, env, put, Env.get, Env.set, Env.del, Env.dels, Env.init, res1, resL, resV, fillP, splice, newRow, Nat.reduceEqDiff, Nat.reduceLT, Nat.reduceLeDiff, Nat.reduceAdd, Nat.reduceMul, Nat.reduceSub, Nat.reduceBEq, reduceCtorEq, ↓zR, zQ, Tr, StA, StT, ha]
    exact hp .empS h OwL.emp (Pre.refl _)
  · obtain ⟨v', h', ha, ho, hp'⟩ := apM hlC scC (OwL.emp (h0 := h) (h := h)) (Pre.refl h) cs (by simp; omega)
    have hrd := hs.all.2.2
    refine S_of rfl T218 ?_; unfold fi218
    simp (maxSteps := 1000000) (disch := first | omega | rfl | (simp only [zL, two63, room] <;> omega) | fail) only [↓reduceIte, ↓zP, zW, WOp, evOp, evBin, binI, binSh, binS, evNil, keyIs, keyEq, mkv, AV.cells, AV.sc, optv, bnd, env, put, Env.get, Env.set, Env.del, Env.dels, Env.init, res1, resL, resV, fillP, splice, newRow, Nat.reduceEqDiff, Nat.reduceLT, Nat.reduceLeDiff, Nat.reduceAdd, Nat.reduceMul, Nat.reduceSub, Nat.reduceBEq, reduceCtorEq, ↓zR, zQ, Tr, StA, StT, hrd, ha]
    exact hp v' h' (by simpa using ho) hp'
theorem c_pzWithout {v : AV} {pre rest : List Clu} {x : Clu} (hlen : pre.length + rest.length < 2 ^ 30) {h : AH} (hs : Slc 3 encC h v (pre ++ x :: rest)) {post : AV → AH → Prop} (hp : ∀ v' h', OwL 3 encC h h' v' (pre ++ rest) → Pre h h' → post v' h') : S 216 [v, .int .i64 pre.length] h post k := by
  obtain ⟨c, kk, off, hv, _⟩ := hs.at hlC
  have hll : (pre ++ x :: rest).length = pre.length + 1 + rest.length := by simp; omega
  rw [hll] at hv
  subst hv
  have hr1 := hs.ahead hlC
  have hs2 : Slc 3 encC h (.slice c kk off (pre.length + 1 + rest.length) 3) ((pre ++ [x]) ++ rest) := by simpa using hs
  have hr2 := hs2.behind hlC
  have hl2 : (pre ++ [x]).length = pre.length + 1 := by simp
  rw [hl2] at hr2
  obtain ⟨v1, h1, ha1, ho1, hp1⟩ := apM hlC scC (OwL.emp (h0 := h) (h := h)) (Pre.refl h) pre (by simp; omega)
  obtain ⟨v2, h2, ha2, ho2, hp2⟩ := apM hlC scC ho1 hp1 rest (by simp; omega)
  have hr3 := rdRow_pre hp1 hr2
  have hb1 : (pre.length : Int) ≤ ((pre.length + 1 + rest.length : Nat) : Int) := by omega
  have hb2 : (0 : Int) ≤ (pre.length : Int) + 1 := by omega
  have hb3 : (pre.length : Int) + 1 ≤ ((pre.length + 1 + rest.length : Nat) : Int) := by omega
  have hb4 : ((pre.length : Int) + 1).toNat = pre.length + 1 := by omega
  have hb5 : pre.length + 1 + rest.length - (pre.length + 1) = rest.length := by omega
  refine S_of rfl T216 ?_; unfold fi216
  simp (maxSteps := 1000000) (disch := first | omega | rfl | (simp only [zL, two63, room] <;> omega) | fail) only [↓reduceIte, ↓zP, zW, WOp, evOp, evBin, binI, binSh, binS, evNil, keyIs, keyEq, mkv, AV.cells, AV.sc, optv, bnd, env, put, Env.get, Env.set, Env.del, Env.dels, Env.init, res1, resL, resV, fillP, splice, newRow, Nat.reduceEqDiff, Nat.reduceLT, Nat.reduceLeDiff, Nat.reduceAdd, Nat.reduceMul, Nat.reduceSub, Nat.reduceBEq, reduceCtorEq, ↓zR, zQ, Tr, StA, StT, hb1, hb2, hb3, hb4, hb5, hr1, hr3, ha1, ha2, Nat.add_zero, Nat.sub_zero, Nat.zero_mul]
  exact hp v2 h2 (by simpa using ho2) hp2
end Go.Proofs.YtnamhjdfegohbaaGreatDoor.Ab

/- PUZZLES: clues that are needless (the reference's side). -/
namespace Go.Proofs.YtnamhjdfegohbaaGreatDoor.Ab
open Go
set_option maxRecDepth 100000
set_option maxHeartbeats 4000000

def wo (cs : List Clu) (j : Nat) : List Clu := cs.take j ++ cs.drop (j + 1)
theorem wo_mem {cs : List Clu} {j : Nat} {c : Clu} (h : c ∈ wo cs j) : c ∈ cs := by
  rcases List.mem_append.1 h with h | h
  · exact List.mem_of_mem_take h
  · exact List.mem_of_mem_drop h
theorem wo_len (cs : List Clu) (j : Nat) : (wo cs j).length ≤ cs.length := by unfold wo; simp; omega
def needB (m : Nat) (cs : List Clu) (j : Nat) : Bool := ((fitL m (wo cs j)).length : Int) == ((fitL m cs).length : Int)
def needs (m : Nat) (cs : List Clu) (k : Nat) : List Int := ((List.range k).filter (needB m cs)).map fun (j : Nat) => (j : Int)
theorem needs_succ (m : Nat) (cs : List Clu) (k : Nat) : needs m cs (k + 1) = if needB m cs k then needs m cs k ++ [(k : Int)] else needs m cs k := by
  unfold needs
  rw [List.range_succ, List.filter_append, List.map_append]
  cases e : needB m cs k <;> simp [e]
theorem needs_len (m : Nat) (cs : List Clu) (k : Nat) : (needs m cs k).length ≤ k := by
  unfold needs; rw [List.length_map]; have := List.length_filter_le (needB m cs) (List.range k); simpa using this
def needP (n : Int) (cs : List Clu) : List Int := if goodP n cs then needs n.toNat cs cs.length else []
end Go.Proofs.YtnamhjdfegohbaaGreatDoor.Ab

/- PUZZLES: clues that are needless: the program's side and the law, given what impl.without answers. -/
namespace Go.Proofs.YtnamhjdfegohbaaGreatDoor.Ab
open Go
set_option maxRecDepth 100000
set_option maxHeartbeats 4000000

/-- What impl.without answers. -/
def WoSpec : Prop := ∀ (v : AV) (pre rest : List Clu) (x : Clu) (h : AH) (post : AV → AH → Prop), pre.length + 1 + rest.length < 2 ^ 30 → Slc 3 encC h v (pre ++ x :: rest) → (∀ v' h', OwW 3 encC h h' v' (pre ++ rest) → Pre h h' → post v' h') → S 217 [v, .int .i64 pre.length] h post k
theorem lp_Needless (HW : WoSpec) (m : Nat) (hm : 1 ≤ m ∧ m ≤ 5) {v : AV} {cs : List Clu} (hlen : cs.length < 2 ^ 30) (hok : ∀ c ∈ cs, clueOk m c = true) {h0 : AH} {r : Nat} (hr0 : rdRow h0 r 0 0 1 = some [.int .i64 m]) (hr1 : rdRow h0 r 0 1 1 = some [v]) (hs : Slc 3 encC h0 v cs) {R : X → Env → AH → Prop} :
    ∀ (d j : Nat) (o : AV) (h : AH), j + d = cs.length → OwL 1 encI h0 h o (needs m cs j) → Pre h0 h →
    (∀ o' h', OwL 1 encI h0 h' o' (needs m cs cs.length) → Pre h0 h' → R (.exit 0) [(6, o')] h') →
    Cx (.loop lp211_0) [(1, .ptr r 0 0 2), (4, .int .i64 ((fitL m cs).length : Int)), (6, o), (18, .int .i64 cs.length), (19, .int .i64 j)] h R k k
  | 0, j, o, h, hj, ho, hp, hR => by
    obtain rfl : j = cs.length := by omega
    rw [w_loopb (c := lp211_0) (d := lb211_0) rfl]; unfold lb211_0
    simp (maxSteps := 1000000) (disch := first | omega | rfl | (simp only [zL, two63, room] <;> omega) | fail) only [↓reduceIte, ↓zP, zW, WOp, evOp, evBin, binI, binSh, binS, evNil, keyIs, keyEq, mkv, AV.cells, AV.sc, optv, bnd, env, put, Env.get, Env.set, Env.del, Env.dels, Env.init, res1, resL, resV, fillP, splice, newRow, Nat.reduceEqDiff, Nat.reduceLT, Nat.reduceLeDiff, Nat.reduceAdd, Nat.reduceMul, Nat.reduceSub, Nat.reduceBEq, reduceCtorEq, ↓zR, zQ, Tr, StA, StT]
    exact hR o h ho hp
  | d + 1, j, o, h, hj, ho, hp, hR => by
    have ih := lp_Needless HW m hm hlen hok hr0 hr1 hs (R := R) d (j + 1)
    have hs' := hs.pre hp
    have q0 := rdRow_pre hp hr0
    have q1 := rdRow_pre hp hr1
    have hlt : (j : Int) < (cs.length : Int) := by omega
    have hw1 : (j : Int) + 1 = ((j + 1 : Nat) : Int) := by omega
    have hsp : cs = cs.take j ++ cs[j]'(by omega) :: cs.drop (j + 1) := by rw [← List.drop_eq_getElem_cons, List.take_append_drop]
    have hpl : (cs.take j).length = j := by rw [List.length_take]; omega
    have hsc : Slc 3 encC h v (cs.take j ++ cs[j]'(by omega) :: cs.drop (j + 1)) := by rw [← hsp]; exact hs'
    have key := fun post => HW v (cs.take j) (cs.drop (j + 1)) (cs[j]'(by omega)) h post (by rw [hpl, List.length_drop]; omega) hsc
    rw [hpl] at key
    have hbe : (((fitL m (wo cs j)).length : Int) == ((fitL m cs).length : Int)) = needB m cs j := rfl
    have hnl := needs_len m cs j
    rw [needs_succ] at ih
    rw [w_loopb (c := lp211_0) (d := lb211_0) rfl]; unfold lb211_0
    simp (maxSteps := 1000000) (disch := first | omega | rfl | (simp only [zL, two63, room] <;> omega) | fail) only [↓reduceIte, ↓zP, zW, WOp, evOp, evBin, binI, binSh, binS, evNil, keyIs, keyEq, mkv, AV.cells, AV.sc, optv, bnd, env, put, Env.get, Env.set, Env.del, Env.dels, Env.init, res1, resL, resV, fillP, splice, newRow, Nat.reduceEqDiff, Nat.reduceLT, Nat.reduceLeDiff, Nat.reduceAdd, Nat.reduceMul, Nat.reduceSub, Nat.reduceBEq, reduceCtorEq, ↓zR, zQ, Tr, StA, StT, hlt, q0, q1]
    refine w_drw ?_
    simp (maxSteps := 1000000) (disch := first | omega | rfl | (simp only [zL, two63, room] <;> omega) | fail) only [↓reduceIte, ↓zP, zW, WOp, evOp, evBin, binI, binSh, binS, evNil, keyIs, keyEq, mkv, AV.cells, AV.sc, optv, bnd, env, put, Env.get, Env.set, Env.del, Env.dels, Env.init, res1, resL, resV, fillP, splice, newRow, Nat.reduceEqDiff, Nat.reduceLT, Nat.reduceLeDiff, Nat.reduceAdd, Nat.reduceMul, Nat.reduceSub, Nat.reduceBEq, reduceCtorEq, ↓zR, zQ, Tr, StA, StT, q0, q1]
    refine key _ ?_
    intro v1 h1 ho1 hp1
    have q01 := rdRow_pre hp1 q0
    simp (maxSteps := 1000000) (disch := first | omega | rfl | (simp only [zL, two63, room] <;> omega) | fail) only [↓reduceIte, ↓zP, zW, WOp, evOp, evBin, binI, binSh, binS, evNil, keyIs, keyEq, mkv, AV.cells, AV.sc, optv, bnd, env, put, Env.get, Env.set, Env.del, Env.dels, Env.init, res1, resL, resV, fillP, splice, newRow, Nat.reduceEqDiff, Nat.reduceLT, Nat.reduceLeDiff, Nat.reduceAdd, Nat.reduceMul, Nat.reduceSub, Nat.reduceBEq, reduceCtorEq, ↓zR, zQ, Tr, StA, StT, q01]
    refine c_solve m hm (cs := wo cs j) (by have := wo_len cs j; omega) (fun c hc => hok c (wo_mem hc)) (ho1.slc hlC) ?_
    intro o2 h2 ho2 hp2
    have hv2 := fun g => Slc.lenV ((ho2.slc hlS)) (g := g) (ρ := fun _ => _) (x := .t 0) rfl; simp only [evOp] at hv2
    have q02 := rdRow_pre hp2 q01
    have hp12 := hp1.trans hp2
    cases e : needB m cs j
    · rw [e] at hbe ih
      simp (maxSteps := 1000000) (disch := first | omega | rfl | (simp only [zL, two63, room] <;> omega) | fail) only [↓reduceIte, ↓zP, zW, WOp, evOp, evBin, binI, binSh, binS, evNil, keyIs, keyEq, mkv, AV.cells, AV.sc, optv, bnd, env, put, Env.get, Env.set, Env.del, Env.dels, Env.init, res1, resL, resV, fillP, splice, newRow, Nat.reduceEqDiff, Nat.reduceLT, Nat.reduceLeDiff, Nat.reduceAdd, Nat.reduceMul, Nat.reduceSub, Nat.reduceBEq, reduceCtorEq, ↓zR, zQ, Tr, StA, StT, hv2, hbe, q0, q01, q02]
      simp (maxSteps := 1000000) (disch := first | omega | rfl | (simp only [zL, two63, room] <;> omega) | fail) only [↓reduceIte, ↓zP, zW, WOp, evOp, evBin, binI, binSh, binS, evNil, keyIs, keyEq, mkv, AV.cells, AV.sc, optv, bnd, env, put, Env.get, Env.set, Env.del, Env.dels, Env.init, res1, resL, resV, fillP, splice, newRow, Nat.reduceEqDiff, Nat.reduceLT, Nat.reduceLeDiff, Nat.reduceAdd, Nat.reduceMul, Nat.reduceSub, Nat.reduceBEq, reduceCtorEq, ↓zR, zQ, Tr, StA, StT, hw1]
      rw [w_loopn (c := lp211_0) rfl]
      simp (maxSteps := 1000000) (disch := first | omega | rfl | (simp only [zL, two63, room] <;> omega) | fail) only [↓reduceIte, ↓zP, zW, WOp, evOp, evBin, binI, binSh, binS, evNil, keyIs, keyEq, mkv, AV.cells, AV.sc, optv, bnd, env, put, Env.get, Env.set, Env.del, Env.dels, Env.init, res1, resL, resV, fillP, splice, newRow, Nat.reduceEqDiff, Nat.reduceLT, Nat.reduceLeDiff, Nat.reduceAdd, Nat.reduceMul, Nat.reduceSub, Nat.reduceBEq, reduceCtorEq, ↓zR, zQ, Tr, StA, StT]
      exact ih o h2 (by omega) (by simpa using ho.pre hp12) (hp.trans hp12) hR
    · rw [e] at hbe ih
      have hpx := Pre.push h2 (AO.row [.int .i64 (j : Int)] 0 0 false)
      obtain ⟨o3, h3, ha, ho3, hp3⟩ := apL hlI scI ((ho.pre hp12).pre hpx) ((hp.trans hp12).trans hpx) (j : Int) (by omega)
      simp (maxSteps := 1000000) (disch := first | omega | rfl | (simp only [zL, two63, room] <;> omega) | fail) only [↓reduceIte, ↓zP, zW, WOp, evOp, evBin, binI, binSh, binS, evNil, keyIs, keyEq, mkv, AV.cells, AV.sc, optv, bnd, env, put, Env.get, Env.set, Env.del, Env.dels, Env.init, res1, resL, resV, fillP, splice, newRow, Nat.reduceEqDiff, Nat.reduceLT, Nat.reduceLeDiff, Nat.reduceAdd, Nat.reduceMul, Nat.reduceSub, Nat.reduceBEq, reduceCtorEq, ↓zR, zQ, Tr, StA, StT, hv2, hbe, q0, q01, q02, ha]
      simp (maxSteps := 1000000) (disch := first | omega | rfl | (simp only [zL, two63, room] <;> omega) | fail) only [↓reduceIte, ↓zP, zW, WOp, evOp, evBin, binI, binSh, binS, evNil, keyIs, keyEq, mkv, AV.cells, AV.sc, optv, bnd, env, put, Env.get, Env.set, Env.del, Env.dels, Env.init, res1, resL, resV, fillP, splice, newRow, Nat.reduceEqDiff, Nat.reduceLT, Nat.reduceLeDiff, Nat.reduceAdd, Nat.reduceMul, Nat.reduceSub, Nat.reduceBEq, reduceCtorEq, ↓zR, zQ, Tr, StA, StT, hw1]
      rw [w_loopn (c := lp211_0) rfl]
      simp (maxSteps := 1000000) (disch := first | omega | rfl | (simp only [zL, two63, room] <;> omega) | fail) only [↓reduceIte, ↓zP, zW, WOp, evOp, evBin, binI, binSh, binS, evNil, keyIs, keyEq, mkv, AV.cells, AV.sc, optv, bnd, env, put, Env.get, Env.set, Env.del, Env.dels, Env.init, res1, resL, resV, fillP, splice, newRow, Nat.reduceEqDiff, Nat.reduceLT, Nat.reduceLeDiff, Nat.reduceAdd, Nat.reduceMul, Nat.reduceSub, Nat.reduceBEq, reduceCtorEq, ↓zR, zQ, Tr, StA, StT]
      exact ih o3 h3 (by omega) (by simpa using ho3) hp3 hR
theorem c_NeedlessClues (HW : WoSpec) (n : Int) {v : AV} {cs : List Clu} (hlen : cs.length < 2 ^ 30) {h : AH} (hs : Slc 3 encC h v cs) {post : AV → AH → Prop} (hp : ∀ o' h', OwL 1 encI h h' o' (needP n cs) → Pre h h' → post (.tup [o', .bool (goodP n cs)]) h') : S 211 [pzV n v] h post k := by
  have hpush := Pre.push h (AO.row [.int .i64 n, v] 0 0 false)
  have hsc := (sl_cells hs).2
  unfold AV.sc at hsc
  have r2 : rdRow (h ++ [AO.row [.int .i64 n, v] 0 0 false]) h.length 0 0 2 = some [.int .i64 n, v] := by rw [rd_last, if_pos (by simp)]; simp
  have r0 : rdRow (h ++ [AO.row [.int .i64 n, v] 0 0 false]) h.length 0 0 1 = some [.int .i64 n] := by rw [rd_last, if_pos (by simp)]; simp
  have r1 : rdRow (h ++ [AO.row [.int .i64 n, v] 0 0 false]) h.length 0 1 1 = some [v] := by rw [rd_last, if_pos (by simp)]; simp
  unfold needP at hp
  refine S_of rfl T211 ?_; unfold fi211
  simp (maxSteps := 1000000) (disch := first | omega | rfl | (simp only [zL, two63, room] <;> omega) | fail) only [↓reduceIte, ↓zP, zW, WOp, evOp, evBin, binI, binSh, binS, evNil, keyIs, keyEq, mkv, AV.cells, AV.sc, optv, bnd, env, put, Env.get, Env.set, Env.del, Env.dels, Env.init, res1, resL, resV, fillP, splice, newRow, Nat.reduceEqDiff, Nat.reduceLT, Nat.reduceLeDiff, Nat.reduceAdd, Nat.reduceMul, Nat.reduceSub, Nat.reduceBEq, reduceCtorEq, ↓zR, zQ, Tr, StA, StT, hsc]
  refine c_CountSolutions n hlen (hs.pre hpush) ?_
  intro h2 hp2
  have q0 := rdRow_pre hp2 r0
  have q1 := rdRow_pre hp2 r1
  have hs2 := (hs.pre hpush).pre hp2
  unfold countP
  cases e : goodP n cs
  · rw [e] at hp
    simp (maxSteps := 1000000) (disch := first | omega | rfl | (simp only [zL, two63, room] <;> omega) | fail) only [↓reduceIte, ↓zP, zW, WOp, evOp, evBin, binI, binSh, binS, evNil, keyIs, keyEq, mkv, AV.cells, AV.sc, optv, bnd, env, put, Env.get, Env.set, Env.del, Env.dels, Env.init, res1, resL, resV, fillP, splice, newRow, Nat.reduceEqDiff, Nat.reduceLT, Nat.reduceLeDiff, Nat.reduceAdd, Nat.reduceMul, Nat.reduceSub, Nat.reduceBEq, reduceCtorEq, ↓zR, zQ, Tr, StA, StT]
    exact hp .nilS h2 OwL.nil (hpush.trans hp2)
  · rw [e] at hp
    obtain ⟨m, rfl, m1, m5, m6, mok⟩ := goodP_iff e
    have hcnt : (solN (m : Int) cs) = fitL m cs := rfl
    have hvc := fun g => Slc.lenV (hs2) (g := g) (ρ := fun _ => _) (x := .t 0) rfl; simp only [evOp] at hvc
    simp (maxSteps := 1000000) (disch := first | omega | rfl | (simp only [zL, two63, room] <;> omega) | fail) only [↓reduceIte, ↓zP, zW, WOp, evOp, evBin, binI, binSh, binS, evNil, keyIs, keyEq, mkv, AV.cells, AV.sc, optv, bnd, env, put, Env.get, Env.set, Env.del, Env.dels, Env.init, res1, resL, resV, fillP, splice, newRow, Nat.reduceEqDiff, Nat.reduceLT, Nat.reduceLeDiff, Nat.reduceAdd, Nat.reduceMul, Nat.reduceSub, Nat.reduceBEq, reduceCtorEq, ↓zR, zQ, Tr, StA, StT, q1, hvc, hcnt]
    refine lp_Needless HW m ⟨m1, m5⟩ hlen mok q0 q1 hs2 cs.length 0 .empS h2 (by omega) OwL.emp (Pre.refl _) ?_
    intro o4 h4 ho4 hp4
    simp (maxSteps := 1000000) (disch := first | omega | rfl | (simp only [zL, two63, room] <;> omega) | fail) only [↓reduceIte, ↓zP, zW, WOp, evOp, evBin, binI, binSh, binS, evNil, keyIs, keyEq, mkv, AV.cells, AV.sc, optv, bnd, env, put, Env.get, Env.set, Env.del, Env.dels, Env.init, res1, resL, resV, fillP, splice, newRow, Nat.reduceEqDiff, Nat.reduceLT, Nat.reduceLeDiff, Nat.reduceAdd, Nat.reduceMul, Nat.reduceSub, Nat.reduceBEq, reduceCtorEq, ↓zR, zQ, Tr, StA, StT]
    exact hp o4 h4 (ho4.old (hpush.trans hp2).1) ((hpush.trans hp2).trans hp4)
end Go.Proofs.YtnamhjdfegohbaaGreatDoor.Ab

/- slices.Delete at clues, and impl.without. -/
namespace Go.Proofs.YtnamhjdfegohbaaGreatDoor.Ab
open Go
set_option maxRecDepth 100000
set_option maxHeartbeats 4000000

theorem S_extW {f : Nat} {xs : List AV} {h h' : AH} {post : AV → AH → Prop} {G : List AV → AH → Option (AV × AH)} {r : AV} (hEf : E f = some (fun _ xs h => G xs h)) (hG : G xs h = some (r, h')) (hp : post r h') : S f xs h post k := Spec_ext hEf 0 hG hp
theorem splice_mid3 {α : Type} (P Q R V : List α) (h : Q.length = V.length) : splice (P ++ Q ++ R) P.length V = P ++ V ++ R := by
  unfold splice
  rw [show (P ++ Q ++ R).drop (P.length + V.length) = R from List.drop_left' (by simp [h]), List.append_assoc P Q R, List.take_left' rfl]
theorem xDel_ok {b h : AH} {v : AV} {pre rest : List Clu} {x : Clu} (ho : OwW 3 encC b h v (pre ++ x :: rest)) (hr : pre.length + rest.length < 2 ^ 30) :
    ∃ v' h', xDelete3 [v, .int .i64 pre.length, .int .i64 ((pre.length : Int) + 1)] h = some (v', h') ∧ OwW 3 encC b h' v' (pre ++ rest) ∧ h'.length = h.length ∧ ∀ i, i < b.length → h'[i]? = h[i]? := by
  unfold OwW at ho
  cases v <;> simp only at ho <;> try (exact absurd ho id)
  all_goals try (simp at ho; done)
  rename_i c kk off n e
  obtain ⟨rfl, hn, hbc, A, Z, fl, hc, hfl, hA⟩ := ho
  have hpl := flat_len hlC pre
  have hrl := flat_len hlC rest
  have hxl := hlC x
  have hn' : n = pre.length + 1 + rest.length := by rw [hn]; simp; omega
  have hlt := (List.getElem?_eq_some_iff.1 hc).1
  obtain ⟨Q1, Q2, hQ, hQ1, hQ2⟩ : ∃ Q1 Q2, encC x ++ rest.flatMap encC = Q1 ++ Q2 ∧ Q1.length = (rest.flatMap encC).length ∧ Q2.length = 3 := by
    refine ⟨(encC x ++ rest.flatMap encC).take (rest.flatMap encC).length, (encC x ++ rest.flatMap encC).drop (rest.flatMap encC).length, (List.take_append_drop _ _).symm, ?_, ?_⟩
    · rw [List.length_take, List.length_append]; omega
    · rw [List.length_drop, List.length_append, hxl]; omega
  have hflat : (pre ++ x :: rest).flatMap encC = pre.flatMap encC ++ (encC x ++ rest.flatMap encC) := by simp
  have hscR : (rest.flatMap encC).all AV.sc = true := by
    rw [List.all_eq_true]
    intro y hy
    obtain ⟨a, _, ha⟩ := List.mem_flatMap.1 hy
    exact List.all_eq_true.1 (scC a) y ha
  have hcells : A ++ (pre ++ x :: rest).flatMap encC ++ Z = (A ++ pre.flatMap encC) ++ Q1 ++ (Q2 ++ Z) := by
    rw [hflat, hQ]; simp
  have hPl : (A ++ pre.flatMap encC).length = off + pre.length * 3 := by rw [List.length_append, hA, hpl]
  have hPl2 : (A ++ pre.flatMap encC ++ rest.flatMap encC).length = off + (pre.length + rest.length) * 3 := by rw [List.length_append, hPl, hrl]; omega
  have hrd : rdRow h c kk (off + (pre.length + 1) * 3) (rest.length * 3) = some (rest.flatMap encC) := by
    unfold rdRow
    rw [hc]
    simp only
    rw [if_pos ⟨hfl, Nat.le_refl _, by simp only [List.length_append, hflat, hA, hpl, hxl, hrl]; omega⟩]
    rw [show A ++ (pre ++ x :: rest).flatMap encC ++ Z = (A ++ (pre.flatMap encC ++ encC x)) ++ (rest.flatMap encC ++ Z) by rw [hflat]; simp]
    rw [List.drop_left' (by simp only [List.length_append, hA, hpl, hxl]; omega), List.take_left' hrl]
  have hw1 : wrRow h c kk (off + pre.length * 3) (rest.flatMap encC) = some (h.set c (.row (A ++ pre.flatMap encC ++ rest.flatMap encC ++ (Q2 ++ Z)) kk kk false)) := by
    unfold wrRow
    rw [hc]
    simp only
    rw [if_pos ⟨trivial, hfl, by simp only [List.length_append, hflat, hA, hpl, hxl, hrl]; omega, hscR⟩]
    rw [hcells, ← hPl, splice_mid3 _ _ _ _ hQ1]
  have hget : (h.set c (.row (A ++ pre.flatMap encC ++ rest.flatMap encC ++ (Q2 ++ Z)) kk kk false))[c]? = some (.row (A ++ pre.flatMap encC ++ rest.flatMap encC ++ (Q2 ++ Z)) kk kk false) := by
    rw [List.getElem?_set]; simp [hlt]
  have hw2 : wrRow (h.set c (.row (A ++ pre.flatMap encC ++ rest.flatMap encC ++ (Q2 ++ Z)) kk kk false)) c kk (off + (pre.length + rest.length) * 3) (List.replicate (1 * 3) (.int .i64 0)) = some (h.set c (.row (A ++ pre.flatMap encC ++ rest.flatMap encC ++ List.replicate (1 * 3) (.int .i64 0) ++ Z) kk kk false)) := by
    unfold wrRow
    rw [hget]
    simp only
    rw [if_pos ⟨trivial, Nat.le_refl _, by simp only [List.length_append, List.length_replicate, hA, hpl, hrl, hQ2]; omega, rfl⟩]
    rw [← List.append_assoc, ← hPl2, splice_mid3 _ _ _ _ (by rw [hQ2]; rfl), List.set_set]
  refine ⟨.slice c kk off (pre.length + rest.length) 3, h.set c (.row (A ++ pre.flatMap encC ++ rest.flatMap encC ++ List.replicate (1 * 3) (.int .i64 0) ++ Z) kk kk false), ?_, ?_, ?_, ?_⟩
  · unfold xDelete3
    have e1 : ((pre.length : Int) + 1).toNat = pre.length + 1 := by omega
    simp only [e1, Int.toNat_natCast]
    rw [if_pos ⟨trivial, by omega, by omega, by omega, by omega⟩]
    have e2 : n - (pre.length + 1) = rest.length := by omega
    have e3 : pre.length + 1 - pre.length = 1 := by omega
    have e4 : n - 1 = pre.length + rest.length := by omega
    simp only [e2, e3, e4, hrd, hw1, hw2]
  · unfold OwW
    refine ⟨rfl, by simp, hbc, A, List.replicate (1 * 3) (.int .i64 0) ++ Z, kk, ?_, Nat.le_refl _, hA⟩
    rw [List.getElem?_set]
    simp [hlt]
  · simp
  · intro i hi
    rw [List.getElem?_set, if_neg (by omega)]
theorem woSpec : WoSpec := by
  intro v pre rest x h post hlen hs hp
  refine S_of rfl T217 ?_; unfold fi217
  simp (maxSteps := 1000000) (disch := first | omega | rfl | (simp only [zL, two63, room] <;> omega) | fail) only [↓reduceIte, ↓zP, zW, WOp, evOp, evBin, binI, binSh, binS, evNil, keyIs, keyEq, mkv, AV.cells, AV.sc, optv, bnd, env, put, Env.get, Env.set, Env.del, Env.dels, Env.init, res1, resL, resV, fillP, splice, newRow, Nat.reduceEqDiff, Nat.reduceLT, Nat.reduceLeDiff, Nat.reduceAdd, Nat.reduceMul, Nat.reduceSub, Nat.reduceBEq, reduceCtorEq, ↓zR, zQ, Tr, StA, StT]
  refine c_CloneC (cs := pre ++ x :: rest) (by simp; omega) hs ?_
  intro v1 h1 ho1 hp1
  obtain ⟨v2, h2, hx, ho2, hl2, hk2⟩ := xDel_ok ho1.w (by omega)
  simp (maxSteps := 1000000) (disch := first | omega | rfl | (simp only [zL, two63, room] <;> omega) | fail) only [↓reduceIte, ↓zP, zW, WOp, evOp, evBin, binI, binSh, binS, evNil, keyIs, keyEq, mkv, AV.cells, AV.sc, optv, bnd, env, put, Env.get, Env.set, Env.del, Env.dels, Env.init, res1, resL, resV, fillP, splice, newRow, Nat.reduceEqDiff, Nat.reduceLT, Nat.reduceLeDiff, Nat.reduceAdd, Nat.reduceMul, Nat.reduceSub, Nat.reduceBEq, reduceCtorEq, ↓zR, zQ, Tr, StA, StT]
  refine S_extW (G := xDelete3) rfl hx ?_
  simp (maxSteps := 1000000) (disch := first | omega | rfl | (simp only [zL, two63, room] <;> omega) | fail) only [↓reduceIte, ↓zP, zW, WOp, evOp, evBin, binI, binSh, binS, evNil, keyIs, keyEq, mkv, AV.cells, AV.sc, optv, bnd, env, put, Env.get, Env.set, Env.del, Env.dels, Env.init, res1, resL, resV, fillP, splice, newRow, Nat.reduceEqDiff, Nat.reduceLT, Nat.reduceLeDiff, Nat.reduceAdd, Nat.reduceMul, Nat.reduceSub, Nat.reduceBEq, reduceCtorEq, ↓zR, zQ, Tr, StA, StT]
  exact hp v2 h2 ho2 ⟨by rw [hl2]; exact hp1.1, fun i hi => by rw [hk2 i hi]; exact hp1.2 i hi⟩
end Go.Proofs.YtnamhjdfegohbaaGreatDoor.Ab

/- MARKS on clues found again. -/
namespace Go.Proofs.YtnamhjdfegohbaaGreatDoor.Ab
open Go
set_option maxRecDepth 100000
set_option maxHeartbeats 4000000

theorem Slc.fld {h : AH} {c kk off n e : Nat} {pre rest : List Clu} {x : Clu} (hs : Slc 3 encC h (.slice c kk off n e) (pre ++ x :: rest)) : rdRow h c kk (off + pre.length * 3 + 0) 1 = some [.int .i64 x.1] ∧ rdRow h c kk (off + pre.length * 3 + 1) 1 = some [.int .i64 x.2.1] ∧ rdRow h c kk (off + pre.length * 3 + 2) 1 = some [.int .i64 x.2.2] := by
  have hr := hs.rd hlC
  exact ⟨rd_part hr (o := 0) (m := 1) (by omega), rd_part hr (o := 1) (m := 1) (by omega), rd_part hr (o := 2) (m := 1) (by omega)⟩
end Go.Proofs.YtnamhjdfegohbaaGreatDoor.Ab

/- PUZZLES made harder: clues taken out while one solution is left; both sides and the law. -/
namespace Go.Proofs.YtnamhjdfegohbaaGreatDoor.Ab
open Go
set_option maxRecDepth 100000
set_option maxHeartbeats 4000000

def oneB (m : Nat) (cs : List Clu) (j : Nat) : Bool := ((fitL m (wo cs j)).length : Int) == 1
def hardGo (m : Nat) : Nat → Nat → List Clu → List Clu
  | 0, _, cs => cs
  | d + 1, j, cs => if oneB m cs j then hardGo m d j (wo cs j) else hardGo m d (j + 1) cs
theorem wo_len' {cs : List Clu} {j : Nat} (h : j < cs.length) : (wo cs j).length + 1 = cs.length := by unfold wo; simp; omega
theorem hardGo_len (m : Nat) : ∀ (d j : Nat) (cs : List Clu), (hardGo m d j cs).length ≤ cs.length
  | 0, _, _ => Nat.le_refl _
  | d + 1, j, cs => by
    unfold hardGo
    split
    · exact Nat.le_trans (hardGo_len m d j _) (wo_len cs j)
    · exact hardGo_len m d (j + 1) cs
theorem OwW.set {α : Type} {esz : Nat} {enc : α → List AV} {b h : AH} {v : AV} {L : List α} (ho : OwW esz enc b h v L) {c : Nat} {o : AO} (hc : c < b.length) : OwW esz enc b (h.set c o) v L := by
  unfold OwW at ho ⊢
  cases v <;> simp only at ho ⊢ <;> first
    | exact ho
    | (obtain ⟨h1, h2, h3, A, Z, fl, h4, h5⟩ := ho
       exact ⟨h1, h2, h3, A, Z, fl, by rw [List.getElem?_set, if_neg (by omega)]; exact h4, h5⟩)
theorem row2 (h : AH) (r s : AO) : (h ++ [r] ++ [s])[h.length + 1]? = some s := by simp
theorem lp_sHard (m : Nat) (hm : m ≤ 5) {h0 : AH} {r : Nat} (hr0 : rdRow h0 r 0 0 1 = some [.int .i64 m]) {z : AV} {R : X → Env → AH → Prop} :
    ∀ (d j : Nat) (cs : List Clu) (v : AV) (h : AH), j + d = cs.length → cs.length < 2 ^ 30 → (∀ c ∈ cs, clueOk m c = true) → OwW 3 encC h0 h v cs → Pre h0 h →
    (∀ v' h', OwW 3 encC h0 h' v' (hardGo m d j cs) → Pre h0 h' → R (.exit 0) [(1, .ptr r 0 0 2), (2, z), (4, v')] h') →
    Cx (.loop lp213_0) [(1, .ptr r 0 0 2), (2, z), (4, v), (5, .int .i64 j)] h R k k
  | 0, j, cs, v, h, hj, hlen, hok, ho, hp, hR => by
    obtain rfl : j = cs.length := by omega
    have hv := fun g => Slc.lenV ((ho.slc hlC)) (g := g) (ρ := fun _ => _) (x := .t 0) rfl; simp only [evOp] at hv
    rw [w_loopb (c := lp213_0) (d := lb213_0) rfl]; unfold lb213_0
    simp (maxSteps := 1000000) (disch := first | omega | rfl | (simp only [zL, two63, room] <;> omega) | fail) only [↓reduceIte, ↓zP, zW, WOp, evOp, evBin, binI, binSh, binS, evNil, keyIs, keyEq, mkv, AV.cells, AV.sc, optv, bnd, env, put, Env.get, Env.set, Env.del, Env.dels, Env.init, res1, resL, resV, fillP, splice, newRow, Nat.reduceEqDiff, Nat.reduceLT, Nat.reduceLeDiff, Nat.reduceAdd, Nat.reduceMul, Nat.reduceSub, Nat.reduceBEq, reduceCtorEq, ↓zR, zQ, Tr, StA, StT, hv]
    exact hR v h ho hp
  | d + 1, j, cs, v, h, hj, hlen, hok, ho, hp, hR => by
    have ih := fun j' cs' => lp_sHard m hm hr0 (z := z) (R := R) d j' cs'
    have hs' := ho.slc hlC
    have q0 := rdRow_pre hp hr0
    have hlt : (j : Int) < (cs.length : Int) := by omega
    have hw1 : (j : Int) + 1 = ((j + 1 : Nat) : Int) := by omega
    have hsp : cs = cs.take j ++ cs[j]'(by omega) :: cs.drop (j + 1) := by rw [← List.drop_eq_getElem_cons, List.take_append_drop]
    have hpl : (cs.take j).length = j := by rw [List.length_take]; omega
    have hsc : Slc 3 encC h v (cs.take j ++ cs[j]'(by omega) :: cs.drop (j + 1)) := by rw [← hsp]; exact hs'
    have key := fun post => c_pzWithout (h := h) (post := post) (by rw [hpl, List.length_drop]; omega) hsc
    rw [hpl] at key
    have hbe : (((fitL m (wo cs j)).length : Int) == 1) = oneB m cs j := rfl
    have hwl := wo_len' (cs := cs) (j := j) (by omega)
    unfold hardGo at hR
    have hv := fun g => Slc.lenV (hs') (g := g) (ρ := fun _ => _) (x := .t 0) rfl; simp only [evOp] at hv
    rw [w_loopb (c := lp213_0) (d := lb213_0) rfl]; unfold lb213_0
    simp (maxSteps := 1000000) (disch := first | omega | rfl | (simp only [zL, two63, room] <;> omega) | fail) only [↓reduceIte, ↓zP, zW, WOp, evOp, evBin, binI, binSh, binS, evNil, keyIs, keyEq, mkv, AV.cells, AV.sc, optv, bnd, env, put, Env.get, Env.set, Env.del, Env.dels, Env.init, res1, resL, resV, fillP, splice, newRow, Nat.reduceEqDiff, Nat.reduceLT, Nat.reduceLeDiff, Nat.reduceAdd, Nat.reduceMul, Nat.reduceSub, Nat.reduceBEq, reduceCtorEq, ↓zR, zQ, Tr, StA, StT, hv, hlt]
    refine key _ ?_
    intro v1 h1 ho1 hp1
    have q01 := rdRow_pre hp1 q0
    simp (maxSteps := 1000000) (disch := first | omega | rfl | (simp only [zL, two63, room] <;> omega) | fail) only [↓reduceIte, ↓zP, zW, WOp, evOp, evBin, binI, binSh, binS, evNil, keyIs, keyEq, mkv, AV.cells, AV.sc, optv, bnd, env, put, Env.get, Env.set, Env.del, Env.dels, Env.init, res1, resL, resV, fillP, splice, newRow, Nat.reduceEqDiff, Nat.reduceLT, Nat.reduceLeDiff, Nat.reduceAdd, Nat.reduceMul, Nat.reduceSub, Nat.reduceBEq, reduceCtorEq, ↓zR, zQ, Tr, StA, StT, q01]
    refine c_pzSolved m hm (cs := wo cs j) (by omega) (fun c hc => hok c (wo_mem hc)) ho1.slc ?_
    intro h2 hp2
    have hp12 := hp1.trans hp2
    rw [hbe]
    cases e : oneB m cs j
    · rw [e] at hR
      simp (maxSteps := 1000000) (disch := first | omega | rfl | (simp only [zL, two63, room] <;> omega) | fail) only [↓reduceIte, ↓zP, zW, WOp, evOp, evBin, binI, binSh, binS, evNil, keyIs, keyEq, mkv, AV.cells, AV.sc, optv, bnd, env, put, Env.get, Env.set, Env.del, Env.dels, Env.init, res1, resL, resV, fillP, splice, newRow, Nat.reduceEqDiff, Nat.reduceLT, Nat.reduceLeDiff, Nat.reduceAdd, Nat.reduceMul, Nat.reduceSub, Nat.reduceBEq, reduceCtorEq, ↓zR, zQ, Tr, StA, StT, hw1]
      rw [w_loopn (c := lp213_0) rfl]
      simp (maxSteps := 1000000) (disch := first | omega | rfl | (simp only [zL, two63, room] <;> omega) | fail) only [↓reduceIte, ↓zP, zW, WOp, evOp, evBin, binI, binSh, binS, evNil, keyIs, keyEq, mkv, AV.cells, AV.sc, optv, bnd, env, put, Env.get, Env.set, Env.del, Env.dels, Env.init, res1, resL, resV, fillP, splice, newRow, Nat.reduceEqDiff, Nat.reduceLT, Nat.reduceLeDiff, Nat.reduceAdd, Nat.reduceMul, Nat.reduceSub, Nat.reduceBEq, reduceCtorEq, ↓zR, zQ, Tr, StA, StT]
      exact ih (j + 1) cs v h2 (by omega) hlen hok (ho.pre hp12) (hp.trans hp12) (by simpa using hR)
    · rw [e] at hR
      simp (maxSteps := 1000000) (disch := first | omega | rfl | (simp only [zL, two63, room] <;> omega) | fail) only [↓reduceIte, ↓zP, zW, WOp, evOp, evBin, binI, binSh, binS, evNil, keyIs, keyEq, mkv, AV.cells, AV.sc, optv, bnd, env, put, Env.get, Env.set, Env.del, Env.dels, Env.init, res1, resL, resV, fillP, splice, newRow, Nat.reduceEqDiff, Nat.reduceLT, Nat.reduceLeDiff, Nat.reduceAdd, Nat.reduceMul, Nat.reduceSub, Nat.reduceBEq, reduceCtorEq, ↓zR, zQ, Tr, StA, StT]
      rw [w_loopn (c := lp213_0) rfl]
      simp (maxSteps := 1000000) (disch := first | omega | rfl | (simp only [zL, two63, room] <;> omega) | fail) only [↓reduceIte, ↓zP, zW, WOp, evOp, evBin, binI, binSh, binS, evNil, keyIs, keyEq, mkv, AV.cells, AV.sc, optv, bnd, env, put, Env.get, Env.set, Env.del, Env.dels, Env.init, res1, resL, resV, fillP, splice, newRow, Nat.reduceEqDiff, Nat.reduceLT, Nat.reduceLeDiff, Nat.reduceAdd, Nat.reduceMul, Nat.reduceSub, Nat.reduceBEq, reduceCtorEq, ↓zR, zQ, Tr, StA, StT]
      exact ih j (wo cs j) v1 h2 (by omega) (by omega) (fun c hc => hok c (wo_mem hc)) ((ho1.pre hp2).w.base hp.1) (hp.trans hp12) (by simpa using hR)
theorem lp_Hard (m : Nat) (hm : 1 ≤ m ∧ m ≤ 5) {h0 : AH} {r : Nat} (hr0 : rdRow h0 r 0 0 1 = some [.int .i64 m]) {z : AV} {R : X → Env → AH → Prop} :
    ∀ (d j : Nat) (cs : List Clu) (v : AV) (h : AH), j + d = cs.length → cs.length < 2 ^ 30 → (∀ c ∈ cs, clueOk m c = true) → OwW 3 encC h0 h v cs → Pre h0 h →
    (∀ v' h', OwW 3 encC h0 h' v' (hardGo m d j cs) → Pre h0 h' → R (.exit 0) [(1, .ptr r 0 0 2), (2, z), (6, v')] h') →
    Cx (.loop lp214_0) [(1, .ptr r 0 0 2), (2, z), (6, v), (7, .int .i64 j)] h R k k
  | 0, j, cs, v, h, hj, hlen, hok, ho, hp, hR => by
    obtain rfl : j = cs.length := by omega
    have hv := fun g => Slc.lenV ((ho.slc hlC)) (g := g) (ρ := fun _ => _) (x := .t 0) rfl; simp only [evOp] at hv
    rw [w_loopb (c := lp214_0) (d := lb214_0) rfl]; unfold lb214_0
    simp (maxSteps := 1000000) (disch := first | omega | rfl | (simp only [zL, two63, room] <;> omega) | fail) only [↓reduceIte, ↓zP, zW, WOp, evOp, evBin, binI, binSh, binS, evNil, keyIs, keyEq, mkv, AV.cells, AV.sc, optv, bnd, env, put, Env.get, Env.set, Env.del, Env.dels, Env.init, res1, resL, resV, fillP, splice, newRow, Nat.reduceEqDiff, Nat.reduceLT, Nat.reduceLeDiff, Nat.reduceAdd, Nat.reduceMul, Nat.reduceSub, Nat.reduceBEq, reduceCtorEq, ↓zR, zQ, Tr, StA, StT, hv]
    exact hR v h ho hp
  | d + 1, j, cs, v, h, hj, hlen, hok, ho, hp, hR => by
    have ih := fun j' cs' => lp_Hard m hm hr0 (z := z) (R := R) d j' cs'
    have hs' := ho.slc hlC
    have q0 := rdRow_pre hp hr0
    have hlt : (j : Int) < (cs.length : Int) := by omega
    have hw1 : (j : Int) + 1 = ((j + 1 : Nat) : Int) := by omega
    have hsp : cs = cs.take j ++ cs[j]'(by omega) :: cs.drop (j + 1) := by rw [← List.drop_eq_getElem_cons, List.take_append_drop]
    have hpl : (cs.take j).length = j := by rw [List.length_take]; omega
    have hsc : Slc 3 encC h v (cs.take j ++ cs[j]'(by omega) :: cs.drop (j + 1)) := by rw [← hsp]; exact hs'
    have key := fun post => woSpec v (cs.take j) (cs.drop (j + 1)) (cs[j]'(by omega)) h post (by rw [hpl, List.length_drop]; omega) hsc
    rw [hpl] at key
    have hbe : (((fitL m (wo cs j)).length : Int) == 1) = oneB m cs j := rfl
    have hwl := wo_len' (cs := cs) (j := j) (by omega)
    unfold hardGo at hR
    have hv := fun g => Slc.lenV (hs') (g := g) (ρ := fun _ => _) (x := .t 0) rfl; simp only [evOp] at hv
    rw [w_loopb (c := lp214_0) (d := lb214_0) rfl]; unfold lb214_0
    simp (maxSteps := 1000000) (disch := first | omega | rfl | (simp only [zL, two63, room] <;> omega) | fail) only [↓reduceIte, ↓zP, zW, WOp, evOp, evBin, binI, binSh, binS, evNil, keyIs, keyEq, mkv, AV.cells, AV.sc, optv, bnd, env, put, Env.get, Env.set, Env.del, Env.dels, Env.init, res1, resL, resV, fillP, splice, newRow, Nat.reduceEqDiff, Nat.reduceLT, Nat.reduceLeDiff, Nat.reduceAdd, Nat.reduceMul, Nat.reduceSub, Nat.reduceBEq, reduceCtorEq, ↓zR, zQ, Tr, StA, StT, hv, hlt]
    refine key _ ?_
    intro v1 h1 ho1 hp1
    have q01 := rdRow_pre hp1 q0
    simp (maxSteps := 1000000) (disch := first | omega | rfl | (simp only [zL, two63, room] <;> omega) | fail) only [↓reduceIte, ↓zP, zW, WOp, evOp, evBin, binI, binSh, binS, evNil, keyIs, keyEq, mkv, AV.cells, AV.sc, optv, bnd, env, put, Env.get, Env.set, Env.del, Env.dels, Env.init, res1, resL, resV, fillP, splice, newRow, Nat.reduceEqDiff, Nat.reduceLT, Nat.reduceLeDiff, Nat.reduceAdd, Nat.reduceMul, Nat.reduceSub, Nat.reduceBEq, reduceCtorEq, ↓zR, zQ, Tr, StA, StT, q01]
    refine c_solve m hm (cs := wo cs j) (by omega) (fun c hc => hok c (wo_mem hc)) (ho1.slc hlC) ?_
    intro o2 h2 ho2 hp2
    have hv2 := fun g => Slc.lenV ((ho2.slc hlS)) (g := g) (ρ := fun _ => _) (x := .t 0) rfl; simp only [evOp] at hv2
    have hp12 := hp1.trans hp2
    cases e : oneB m cs j
    · rw [e] at hR hbe
      simp (maxSteps := 1000000) (disch := first | omega | rfl | (simp only [zL, two63, room] <;> omega) | fail) only [↓reduceIte, ↓zP, zW, WOp, evOp, evBin, binI, binSh, binS, evNil, keyIs, keyEq, mkv, AV.cells, AV.sc, optv, bnd, env, put, Env.get, Env.set, Env.del, Env.dels, Env.init, res1, resL, resV, fillP, splice, newRow, Nat.reduceEqDiff, Nat.reduceLT, Nat.reduceLeDiff, Nat.reduceAdd, Nat.reduceMul, Nat.reduceSub, Nat.reduceBEq, reduceCtorEq, ↓zR, zQ, Tr, StA, StT, hv2, hbe]
      simp (maxSteps := 1000000) (disch := first | omega | rfl | (simp only [zL, two63, room] <;> omega) | fail) only [↓reduceIte, ↓zP, zW, WOp, evOp, evBin, binI, binSh, binS, evNil, keyIs, keyEq, mkv, AV.cells, AV.sc, optv, bnd, env, put, Env.get, Env.set, Env.del, Env.dels, Env.init, res1, resL, resV, fillP, splice, newRow, Nat.reduceEqDiff, Nat.reduceLT, Nat.reduceLeDiff, Nat.reduceAdd, Nat.reduceMul, Nat.reduceSub, Nat.reduceBEq, reduceCtorEq, ↓zR, zQ, Tr, StA, StT, hw1]
      rw [w_loopn (c := lp214_0) rfl]
      simp (maxSteps := 1000000) (disch := first | omega | rfl | (simp only [zL, two63, room] <;> omega) | fail) only [↓reduceIte, ↓zP, zW, WOp, evOp, evBin, binI, binSh, binS, evNil, keyIs, keyEq, mkv, AV.cells, AV.sc, optv, bnd, env, put, Env.get, Env.set, Env.del, Env.dels, Env.init, res1, resL, resV, fillP, splice, newRow, Nat.reduceEqDiff, Nat.reduceLT, Nat.reduceLeDiff, Nat.reduceAdd, Nat.reduceMul, Nat.reduceSub, Nat.reduceBEq, reduceCtorEq, ↓zR, zQ, Tr, StA, StT]
      exact ih (j + 1) cs v h2 (by omega) hlen hok (ho.pre hp12) (hp.trans hp12) (by simpa using hR)
    · rw [e] at hR hbe
      simp (maxSteps := 1000000) (disch := first | omega | rfl | (simp only [zL, two63, room] <;> omega) | fail) only [↓reduceIte, ↓zP, zW, WOp, evOp, evBin, binI, binSh, binS, evNil, keyIs, keyEq, mkv, AV.cells, AV.sc, optv, bnd, env, put, Env.get, Env.set, Env.del, Env.dels, Env.init, res1, resL, resV, fillP, splice, newRow, Nat.reduceEqDiff, Nat.reduceLT, Nat.reduceLeDiff, Nat.reduceAdd, Nat.reduceMul, Nat.reduceSub, Nat.reduceBEq, reduceCtorEq, ↓zR, zQ, Tr, StA, StT, hv2, hbe]
      rw [w_loopn (c := lp214_0) rfl]
      simp (maxSteps := 1000000) (disch := first | omega | rfl | (simp only [zL, two63, room] <;> omega) | fail) only [↓reduceIte, ↓zP, zW, WOp, evOp, evBin, binI, binSh, binS, evNil, keyIs, keyEq, mkv, AV.cells, AV.sc, optv, bnd, env, put, Env.get, Env.set, Env.del, Env.dels, Env.init, res1, resL, resV, fillP, splice, newRow, Nat.reduceEqDiff, Nat.reduceLT, Nat.reduceLeDiff, Nat.reduceAdd, Nat.reduceMul, Nat.reduceSub, Nat.reduceBEq, reduceCtorEq, ↓zR, zQ, Tr, StA, StT]
      exact ih j (wo cs j) v1 h2 (by omega) (by omega) (fun c hc => hok c (wo_mem hc)) ((ho1.pre hp2).base hp.1) (hp.trans hp12) (by simpa using hR)

def hardC (n : Int) (cs : List Clu) : List Clu := if countP n cs == 1 then hardGo n.toNat cs.length 0 cs else []
def hardN (n : Int) (cs : List Clu) : Int := if countP n cs == 1 then n else 0
theorem hardC_len (n : Int) (cs : List Clu) : (hardC n cs).length ≤ cs.length := by
  unfold hardC; split
  · exact hardGo_len _ _ _ _
  · simp
theorem c_sHarder (n : Int) {v : AV} {cs : List Clu} (hlen : cs.length < 2 ^ 30) {h : AH} (hs : Slc 3 encC h v cs) {post : AV → AH → Prop} (hp : ∀ v' h', OwW 3 encC h h' v' (hardC n cs) → Pre h h' → post (.tup [pzV (hardN n cs) v', .bool (countP n cs == 1)]) h') : S 213 [pzV n v] h post k := by
  have P1 := Pre.push h (AO.row [.int .i64 n, v] 0 0 false)
  have P2 := Pre.push (h ++ [AO.row [.int .i64 n, v] 0 0 false]) (AO.row [.int .i64 0, .nilS] 0 0 false)
  have hsc := (sl_cells hs).2
  unfold AV.sc at hsc
  have r2 : rdRow (h ++ [AO.row [.int .i64 n, v] 0 0 false] ++ [AO.row [.int .i64 0, .nilS] 0 0 false]) h.length 0 0 2 = some [.int .i64 n, v] := rdRow_pre P2 (by rw [rd_last, if_pos (by simp)]; simp)
  have r0 : rdRow (h ++ [AO.row [.int .i64 n, v] 0 0 false] ++ [AO.row [.int .i64 0, .nilS] 0 0 false]) h.length 0 0 1 = some [.int .i64 n] := rdRow_pre P2 (by rw [rd_last, if_pos (by simp)]; simp)
  have r1 : rdRow (h ++ [AO.row [.int .i64 n, v] 0 0 false] ++ [AO.row [.int .i64 0, .nilS] 0 0 false]) h.length 0 1 1 = some [v] := rdRow_pre P2 (by rw [rd_last, if_pos (by simp)]; simp)
  have b2 := row2 h (AO.row [.int .i64 n, v] 0 0 false) (AO.row [.int .i64 0, .nilS] 0 0 false)
  have hcl : (h ++ [AO.row [.int .i64 n, v] 0 0 false]).length = h.length + 1 := by simp
  have hg : (h ++ [AO.row [.int .i64 n, v] 0 0 false] ++ [AO.row [.int .i64 0, .nilS] 0 0 false]).length = h.length + 2 := by simp
  have P := P1.trans P2
  have hs0 := hs.pre P
  refine S_of rfl T213 ?_; unfold fi213
  simp (maxSteps := 1000000) (disch := first | omega | rfl | (simp only [zL, two63, room] <;> omega) | fail) only [↓reduceIte, ↓zP, zW, WOp, evOp, evBin, binI, binSh, binS, evNil, keyIs, keyEq, mkv, AV.cells, AV.sc, optv, bnd, env, put, Env.get, Env.set, Env.del, Env.dels, Env.init, res1, resL, resV, fillP, splice, newRow, Nat.reduceEqDiff, Nat.reduceLT, Nat.reduceLeDiff, Nat.reduceAdd, Nat.reduceMul, Nat.reduceSub, Nat.reduceBEq, reduceCtorEq, ↓zR, zQ, Tr, StA, StT, hsc, r2]
  rw [hcl]
  generalize h ++ [AO.row [.int .i64 n, v] 0 0 false] ++ [AO.row [.int .i64 0, .nilS] 0 0 false] = g at *
  refine c_pzGood n hlen hs0 ?_
  intro h2 p2
  have q0 := rdRow_pre p2 r0
  have q1 := rdRow_pre p2 r1
  have c2 : h2[h.length + 1]? = some (AO.row [.int .i64 0, .nilS] 0 0 false) := by rw [p2.2 _ (by omega)]; exact b2
  have l2 : h.length + 1 < h2.length := by have := p2.1; omega
  have A2 := P.trans p2
  unfold hardC hardN countP at hp
  cases e : goodP n cs
  · simp only [e, Bool.false_eq_true, if_false] at hp
    simp (maxSteps := 1000000) (disch := first | omega | rfl | (simp only [zL, two63, room] <;> omega) | fail) only [↓reduceIte, ↓zP, zW, WOp, evOp, evBin, binI, binSh, binS, evNil, keyIs, keyEq, mkv, AV.cells, AV.sc, optv, bnd, env, put, Env.get, Env.set, Env.del, Env.dels, Env.init, res1, resL, resV, fillP, splice, newRow, Nat.reduceEqDiff, Nat.reduceLT, Nat.reduceLeDiff, Nat.reduceAdd, Nat.reduceMul, Nat.reduceSub, Nat.reduceBEq, reduceCtorEq, ↓zR, zQ, Tr, StA, StT, wr_of c2, List.length_set, l2]
    refine hp .nilS _ ?_ (A2.set (by omega))
    exact OwL.nil.w
  · rw [e] at hp
    simp only [if_true] at hp
    obtain ⟨m, rfl, m1, m5, m6, mok⟩ := goodP_iff e
    simp (maxSteps := 1000000) (disch := first | omega | rfl | (simp only [zL, two63, room] <;> omega) | fail) only [↓reduceIte, ↓zP, zW, WOp, evOp, evBin, binI, binSh, binS, evNil, keyIs, keyEq, mkv, AV.cells, AV.sc, optv, bnd, env, put, Env.get, Env.set, Env.del, Env.dels, Env.init, res1, resL, resV, fillP, splice, newRow, Nat.reduceEqDiff, Nat.reduceLT, Nat.reduceLeDiff, Nat.reduceAdd, Nat.reduceMul, Nat.reduceSub, Nat.reduceBEq, reduceCtorEq, ↓zR, zQ, Tr, StA, StT, q0, q1]
    refine c_pzSolved m m5 hlen mok (hs0.pre p2) ?_
    intro h3 p3
    have hcnt : (solN (m : Int) cs) = fitL m cs := rfl
    rw [hcnt] at hp
    have c3 : h3[h.length + 1]? = some (AO.row [.int .i64 0, .nilS] 0 0 false) := by rw [p3.2 _ l2]; exact c2
    have l3 : h.length + 1 < h3.length := by have := p3.1; omega
    have A3 := A2.trans p3
    have B3 := p2.trans p3
    have hs3 := hs0.pre B3
    have q03 := rdRow_pre p3 q0
    have q13 := rdRow_pre p3 q1
    cases e1 : (((fitL m cs).length : Int) == 1)
    · simp only [e1, Bool.false_eq_true, if_false] at hp
      simp (maxSteps := 1000000) (disch := first | omega | rfl | (simp only [zL, two63, room] <;> omega) | fail) only [↓reduceIte, ↓zP, zW, WOp, evOp, evBin, binI, binSh, binS, evNil, keyIs, keyEq, mkv, AV.cells, AV.sc, optv, bnd, env, put, Env.get, Env.set, Env.del, Env.dels, Env.init, res1, resL, resV, fillP, splice, newRow, Nat.reduceEqDiff, Nat.reduceLT, Nat.reduceLeDiff, Nat.reduceAdd, Nat.reduceMul, Nat.reduceSub, Nat.reduceBEq, reduceCtorEq, ↓zR, zQ, Tr, StA, StT, wr_of c3, List.length_set, l3]
      refine hp .nilS _ ?_ (A3.set (by omega))
      exact OwL.nil.w
    · simp only [e1, if_true, Int.toNat_natCast] at hp
      obtain ⟨v4, h4, ha4, ho4, p4⟩ := apM hlC scC (OwL.emp (h0 := h3) (h := h3)) (Pre.refl h3) cs (by simp; omega)
      have fin : ∀ v5 h5, OwW 3 encC h3 h5 v5 (hardGo m cs.length 0 cs) → Pre h3 h5 → post (.tup [pzV m v5, .bool true]) (h5.set (h.length + 1) (AO.row [.int .i64 m, v5] 0 0 false)) := fun v5 h5 o5 p5 => hp v5 _ ((o5.set l3).base A3.1) ((A3.trans p5).set (by omega))
      have tl : ∀ v5 h5, OwW 3 encC h3 h5 v5 (hardGo m cs.length 0 cs) → Pre h3 h5 → rdRow h5 h.length 0 0 1 = some [.int .i64 m] ∧ h5[h.length + 1]? = some (AO.row [.int .i64 0, .nilS] 0 0 false) ∧ h.length + 1 < h5.length := fun v5 h5 o5 p5 => ⟨rdRow_pre p5 q03, by rw [p5.2 _ l3]; exact c3, by have := p5.1; omega⟩
      rcases hs3.cases with ⟨rfl, rfl⟩ | ⟨rfl, rfl⟩ | ⟨c, kk, off, rfl⟩
      · have ha : apRow h3 3 .empS 0 [] = some (.empS, h3) := rfl
        have hd := c3
        simp (maxSteps := 1000000) (disch := first | omega | rfl | (simp only [zL, two63, room] <;> omega) | fail) only [↓reduceIte, ↓zP, zW, WOp, evOp, evBin, binI, binSh, binS, evNil, keyIs, keyEq, mkv, AV.cells, AV.sc, optv, bnd, env, put, Env.get, Env.set, Env.del, Env.dels, Env.init, res1, resL, resV, fillP, splice, newRow, Nat.reduceEqDiff, Nat.reduceLT, Nat.reduceLeDiff, Nat.reduceAdd, Nat.reduceMul, Nat.reduceSub, Nat.reduceBEq, reduceCtorEq, ↓zR, zQ, Tr, StA, StT, ha, hd, q13]
        refine lp_sHard m m5 q03 _ 0 [] .empS h3 (by simp only [Nat.zero_add]; rfl) hlen mok OwL.emp.w (Pre.refl _) ?_
        intro v6 h6 o6 p6
        obtain ⟨t1, t2, t3⟩ := tl v6 h6 o6 p6
        have := fin v6 h6 o6 p6
        have w1 := (sl_cells (o6.slc hlC)).1
        have w2 := (sl_cells (o6.slc hlC)).2
        simp only [AV.cells] at w1
        unfold AV.sc at w2
        simp (maxSteps := 1000000) (disch := first | omega | rfl | (simp only [zL, two63, room] <;> omega) | fail) only [↓reduceIte, ↓zP, zW, WOp, evOp, evBin, binI, binSh, binS, evNil, keyIs, keyEq, mkv, AV.cells, AV.sc, optv, bnd, env, put, Env.get, Env.set, Env.del, Env.dels, Env.init, res1, resL, resV, fillP, splice, newRow, Nat.reduceEqDiff, Nat.reduceLT, Nat.reduceLeDiff, Nat.reduceAdd, Nat.reduceMul, Nat.reduceSub, Nat.reduceBEq, reduceCtorEq, ↓zR, zQ, Tr, StA, StT, t1, wr_of t2, List.length_set, w1, w2]
        exact this
      · have ha : apRow h3 3 .empS 0 [] = some (.empS, h3) := rfl
        have hd := c3
        simp (maxSteps := 1000000) (disch := first | omega | rfl | (simp only [zL, two63, room] <;> omega) | fail) only [↓reduceIte, ↓zP, zW, WOp, evOp, evBin, binI, binSh, binS, evNil, keyIs, keyEq, mkv, AV.cells, AV.sc, optv, bnd, env, put, Env.get, Env.set, Env.del, Env.dels, Env.init, res1, resL, resV, fillP, splice, newRow, Nat.reduceEqDiff, Nat.reduceLT, Nat.reduceLeDiff, Nat.reduceAdd, Nat.reduceMul, Nat.reduceSub, Nat.reduceBEq, reduceCtorEq, ↓zR, zQ, Tr, StA, StT, ha, hd, q13]
        refine lp_sHard m m5 q03 _ 0 [] .empS h3 (by simp only [Nat.zero_add]; rfl) hlen mok OwL.emp.w (Pre.refl _) ?_
        intro v6 h6 o6 p6
        obtain ⟨t1, t2, t3⟩ := tl v6 h6 o6 p6
        have := fin v6 h6 o6 p6
        have w1 := (sl_cells (o6.slc hlC)).1
        have w2 := (sl_cells (o6.slc hlC)).2
        simp only [AV.cells] at w1
        unfold AV.sc at w2
        simp (maxSteps := 1000000) (disch := first | omega | rfl | (simp only [zL, two63, room] <;> omega) | fail) only [↓reduceIte, ↓zP, zW, WOp, evOp, evBin, binI, binSh, binS, evNil, keyIs, keyEq, mkv, AV.cells, AV.sc, optv, bnd, env, put, Env.get, Env.set, Env.del, Env.dels, Env.init, res1, resL, resV, fillP, splice, newRow, Nat.reduceEqDiff, Nat.reduceLT, Nat.reduceLeDiff, Nat.reduceAdd, Nat.reduceMul, Nat.reduceSub, Nat.reduceBEq, reduceCtorEq, ↓zR, zQ, Tr, StA, StT, t1, wr_of t2, List.length_set, w1, w2]
        exact this
      · have ha : apRow h3 3 .empS cs.length (cs.flatMap encC) = some (v4, h4) := ha4
        have hd := hs3.all.2.2
        simp (maxSteps := 1000000) (disch := first | omega | rfl | (simp only [zL, two63, room] <;> omega) | fail) only [↓reduceIte, ↓zP, zW, WOp, evOp, evBin, binI, binSh, binS, evNil, keyIs, keyEq, mkv, AV.cells, AV.sc, optv, bnd, env, put, Env.get, Env.set, Env.del, Env.dels, Env.init, res1, resL, resV, fillP, splice, newRow, Nat.reduceEqDiff, Nat.reduceLT, Nat.reduceLeDiff, Nat.reduceAdd, Nat.reduceMul, Nat.reduceSub, Nat.reduceBEq, reduceCtorEq, ↓zR, zQ, Tr, StA, StT, ha, hd, q13]
        refine lp_sHard m m5 q03 _ 0 cs v4 h4 (by simp only [Nat.zero_add]; rfl) hlen mok (by simpa using ho4.w) p4 ?_
        intro v6 h6 o6 p6
        obtain ⟨t1, t2, t3⟩ := tl v6 h6 o6 p6
        have := fin v6 h6 o6 p6
        have w1 := (sl_cells (o6.slc hlC)).1
        have w2 := (sl_cells (o6.slc hlC)).2
        simp only [AV.cells] at w1
        unfold AV.sc at w2
        simp (maxSteps := 1000000) (disch := first | omega | rfl | (simp only [zL, two63, room] <;> omega) | fail) only [↓reduceIte, ↓zP, zW, WOp, evOp, evBin, binI, binSh, binS, evNil, keyIs, keyEq, mkv, AV.cells, AV.sc, optv, bnd, env, put, Env.get, Env.set, Env.del, Env.dels, Env.init, res1, resL, resV, fillP, splice, newRow, Nat.reduceEqDiff, Nat.reduceLT, Nat.reduceLeDiff, Nat.reduceAdd, Nat.reduceMul, Nat.reduceSub, Nat.reduceBEq, reduceCtorEq, ↓zR, zQ, Tr, StA, StT, t1, wr_of t2, List.length_set, w1, w2]
        exact this
theorem c_Harder (n : Int) {v : AV} {cs : List Clu} (hlen : cs.length < 2 ^ 30) {h : AH} (hs : Slc 3 encC h v cs) {post : AV → AH → Prop} (hp : ∀ v' h', OwW 3 encC h h' v' (hardC n cs) → Pre h h' → post (.tup [pzV (hardN n cs) v', .bool (countP n cs == 1)]) h') : S 214 [pzV n v] h post k := by
  have P1 := Pre.push h (AO.row [.int .i64 n, v] 0 0 false)
  have P2 := Pre.push (h ++ [AO.row [.int .i64 n, v] 0 0 false]) (AO.row [.int .i64 0, .nilS] 0 0 false)
  have hsc := (sl_cells hs).2
  unfold AV.sc at hsc
  have r2 : rdRow (h ++ [AO.row [.int .i64 n, v] 0 0 false] ++ [AO.row [.int .i64 0, .nilS] 0 0 false]) h.length 0 0 2 = some [.int .i64 n, v] := rdRow_pre P2 (by rw [rd_last, if_pos (by simp)]; simp)
  have r0 : rdRow (h ++ [AO.row [.int .i64 n, v] 0 0 false] ++ [AO.row [.int .i64 0, .nilS] 0 0 false]) h.length 0 0 1 = some [.int .i64 n] := rdRow_pre P2 (by rw [rd_last, if_pos (by simp)]; simp)
  have r1 : rdRow (h ++ [AO.row [.int .i64 n, v] 0 0 false] ++ [AO.row [.int .i64 0, .nilS] 0 0 false]) h.length 0 1 1 = some [v] := rdRow_pre P2 (by rw [rd_last, if_pos (by simp)]; simp)
  have b2 := row2 h (AO.row [.int .i64 n, v] 0 0 false) (AO.row [.int .i64 0, .nilS] 0 0 false)
  have hcl : (h ++ [AO.row [.int .i64 n, v] 0 0 false]).length = h.length + 1 := by simp
  have hg : (h ++ [AO.row [.int .i64 n, v] 0 0 false] ++ [AO.row [.int .i64 0, .nilS] 0 0 false]).length = h.length + 2 := by simp
  have P := P1.trans P2
  have hs0 := hs.pre P
  refine S_of rfl T214 ?_; unfold fi214
  simp (maxSteps := 1000000) (disch := first | omega | rfl | (simp only [zL, two63, room] <;> omega) | fail) only [↓reduceIte, ↓zP, zW, WOp, evOp, evBin, binI, binSh, binS, evNil, keyIs, keyEq, mkv, AV.cells, AV.sc, optv, bnd, env, put, Env.get, Env.set, Env.del, Env.dels, Env.init, res1, resL, resV, fillP, splice, newRow, Nat.reduceEqDiff, Nat.reduceLT, Nat.reduceLeDiff, Nat.reduceAdd, Nat.reduceMul, Nat.reduceSub, Nat.reduceBEq, reduceCtorEq, ↓zR, zQ, Tr, StA, StT, hsc, r2]
  rw [hcl]
  generalize h ++ [AO.row [.int .i64 n, v] 0 0 false] ++ [AO.row [.int .i64 0, .nilS] 0 0 false] = g at *
  refine c_IsSolved n hlen hs0 ?_
  intro h3 p3
  have q1 := rdRow_pre p3 r1
  have c3 : h3[h.length + 1]? = some (AO.row [.int .i64 0, .nilS] 0 0 false) := by rw [p3.2 _ (by omega)]; exact b2
  have l3 : h.length + 1 < h3.length := by have := p3.1; omega
  have A3 := P.trans p3
  have hs3 := hs0.pre p3
  unfold hardC hardN at hp
  cases e1 : (countP n cs == 1)
  · simp only [e1, Bool.false_eq_true, if_false] at hp
    simp (maxSteps := 1000000) (disch := first | omega | rfl | (simp only [zL, two63, room] <;> omega) | fail) only [↓reduceIte, ↓zP, zW, WOp, evOp, evBin, binI, binSh, binS, evNil, keyIs, keyEq, mkv, AV.cells, AV.sc, optv, bnd, env, put, Env.get, Env.set, Env.del, Env.dels, Env.init, res1, resL, resV, fillP, splice, newRow, Nat.reduceEqDiff, Nat.reduceLT, Nat.reduceLeDiff, Nat.reduceAdd, Nat.reduceMul, Nat.reduceSub, Nat.reduceBEq, reduceCtorEq, ↓zR, zQ, Tr, StA, StT, wr_of c3, List.length_set, l3]
    refine hp .nilS _ ?_ (A3.set (by omega))
    exact OwL.nil.w
  · have e : goodP n cs = true := by
      cases e2 : goodP n cs
      · unfold countP at e1; rw [e2] at e1; simp at e1
      · rfl
    obtain ⟨m, rfl, m1, m5, m6, mok⟩ := goodP_iff e
    simp only [e1, if_true, Int.toNat_natCast] at hp
    have q03 := rdRow_pre p3 r0
    simp (maxSteps := 1000000) (disch := first | omega | rfl | (simp only [zL, two63, room] <;> omega) | fail) only [↓reduceIte, ↓zP, zW, WOp, evOp, evBin, binI, binSh, binS, evNil, keyIs, keyEq, mkv, AV.cells, AV.sc, optv, bnd, env, put, Env.get, Env.set, Env.del, Env.dels, Env.init, res1, resL, resV, fillP, splice, newRow, Nat.reduceEqDiff, Nat.reduceLT, Nat.reduceLeDiff, Nat.reduceAdd, Nat.reduceMul, Nat.reduceSub, Nat.reduceBEq, reduceCtorEq, ↓zR, zQ, Tr, StA, StT, q1]
    refine c_CloneC hlen hs3 ?_
    intro v4 h4 o4 p4
    have q04 := rdRow_pre p4 q03
    simp (maxSteps := 1000000) (disch := first | omega | rfl | (simp only [zL, two63, room] <;> omega) | fail) only [↓reduceIte, ↓zP, zW, WOp, evOp, evBin, binI, binSh, binS, evNil, keyIs, keyEq, mkv, AV.cells, AV.sc, optv, bnd, env, put, Env.get, Env.set, Env.del, Env.dels, Env.init, res1, resL, resV, fillP, splice, newRow, Nat.reduceEqDiff, Nat.reduceLT, Nat.reduceLeDiff, Nat.reduceAdd, Nat.reduceMul, Nat.reduceSub, Nat.reduceBEq, reduceCtorEq, ↓zR, zQ, Tr, StA, StT]
    refine lp_Hard m ⟨m1, m5⟩ q03 _ 0 cs v4 h4 (by simp only [Nat.zero_add]; rfl) hlen mok o4.w p4 ?_
    intro v6 h6 o6 p6
    have t1 := rdRow_pre p6 q03
    have t2 : h6[h.length + 1]? = some (AO.row [.int .i64 0, .nilS] 0 0 false) := by rw [p6.2 _ l3]; exact c3
    have t3 : h.length + 1 < h6.length := by have := p6.1; omega
    have := hp v6 _ ((o6.set (o := AO.row [.int .i64 m, v6] 0 0 false) l3).base A3.1) ((A3.trans p6).set (by omega))
    have w1 := (sl_cells (o6.slc hlC)).1
    have w2 := (sl_cells (o6.slc hlC)).2
    simp only [AV.cells] at w1
    unfold AV.sc at w2
    simp (maxSteps := 1000000) (disch := first | omega | rfl | (simp only [zL, two63, room] <;> omega) | fail) only [↓reduceIte, ↓zP, zW, WOp, evOp, evBin, binI, binSh, binS, evNil, keyIs, keyEq, mkv, AV.cells, AV.sc, optv, bnd, env, put, Env.get, Env.set, Env.del, Env.dels, Env.init, res1, resL, resV, fillP, splice, newRow, Nat.reduceEqDiff, Nat.reduceLT, Nat.reduceLeDiff, Nat.reduceAdd, Nat.reduceMul, Nat.reduceSub, Nat.reduceBEq, reduceCtorEq, ↓zR, zQ, Tr, StA, StT, t1, wr_of t2, List.length_set, w1, w2]
    exact this
end Go.Proofs.YtnamhjdfegohbaaGreatDoor.Ab

/- PLAIN: puzzles made harder: the same solution, and no clue without a need. -/
namespace Go.Proofs.YtnamhjdfegohbaaGreatDoor.Ab
open Go

theorem fitL_sub {m : Nat} {cs cs' : List Clu} (h : ∀ c ∈ cs, c ∈ cs') : (fitL m cs').Sublist (fitL m cs) := by
  unfold fitL
  have e : ((allL m).filter fun w => cs'.all fun c => fitB c w) = (((allL m).filter fun w => cs.all fun c => fitB c w).filter fun w => cs'.all fun c => fitB c w) := by
    rw [List.filter_filter]
    refine List.filter_congr fun w _ => ?_
    cases e : (cs'.all fun c => fitB c w)
    · rfl
    · have : (cs.all fun c => fitB c w) = true := by
        rw [List.all_eq_true] at e ⊢
        exact fun c hc => e c (h c hc)
      rw [this]; rfl
  rw [e]
  exact List.filter_sublist
theorem wo_wo {cs : List Clu} {j k : Nat} (hk : k < j) (hj : j < cs.length) {c : Clu} (h : c ∈ wo (wo cs j) k) : c ∈ wo cs k := by
  have lt : (cs.take j).length = j := by rw [List.length_take]; omega
  rcases List.mem_append.1 h with h | h
  · refine List.mem_append.2 (.inl ?_)
    unfold wo at h
    rw [List.take_append_of_le_length (by omega), List.take_take, Nat.min_eq_left (by omega)] at h
    exact h
  · refine List.mem_append.2 (.inr ?_)
    unfold wo at h
    rw [List.drop_append_of_le_length (by omega)] at h
    rcases List.mem_append.1 h with h | h
    · rw [List.drop_take] at h
      exact List.mem_of_mem_take h
    · rw [show j + 1 = (k + 1) + (j - k) by omega, ← List.drop_drop] at h
      exact List.mem_of_mem_drop h
theorem hardGo_mem (m : Nat) : ∀ (d j : Nat) (cs : List Clu) {c : Clu}, c ∈ hardGo m d j cs → c ∈ cs
  | 0, _, _, _, h => h
  | d + 1, j, cs, c, h => by
    unfold hardGo at h
    split at h
    · exact wo_mem (hardGo_mem m d j _ h)
    · exact hardGo_mem m d (j + 1) cs h
theorem hardGo_one (m : Nat) : ∀ (d j : Nat) (cs : List Clu), (fitL m cs).length = 1 → fitL m (hardGo m d j cs) = fitL m cs
  | 0, _, _, _ => rfl
  | d + 1, j, cs, h => by
    unfold hardGo
    split
    · rename_i e
      have e1 : (fitL m (wo cs j)).length = 1 := by
        unfold oneB at e
        rw [beq_iff_eq] at e
        omega
      rw [hardGo_one m d j _ e1]
      exact ((fitL_sub fun c hc => wo_mem hc).eq_of_length (by omega)).symm
    · exact hardGo_one m d (j + 1) cs h
theorem hardGo_need (m : Nat) : ∀ (d j : Nat) (cs : List Clu), j + d = cs.length → (fitL m cs).length = 1 → (∀ k, k < j → oneB m cs k = false) → ∀ k, k < (hardGo m d j cs).length → oneB m (hardGo m d j cs) k = false
  | 0, j, cs, hj, h1, hk, k, h => by
    simp only [hardGo] at h ⊢
    exact hk k (by omega)
  | d + 1, j, cs, hj, h1, hk, k, h => by
    unfold hardGo at h ⊢
    split at h
    · rename_i e
      rw [if_pos e]
      have e1 : (fitL m (wo cs j)).length = 1 := by
        unfold oneB at e
        rw [beq_iff_eq] at e
        omega
      refine hardGo_need m d j (wo cs j) (by have := wo_len' (cs := cs) (j := j) (by omega); omega) e1 (fun k hkj => ?_) k h
      have h2 := hk k hkj
      have s1 := (fitL_sub (m := m) (cs := wo (wo cs j) k) (cs' := wo cs k) fun c hc => wo_wo hkj (show j < cs.length by omega) hc).length_le
      have s2 := (fitL_sub (m := m) (cs := wo cs k) (cs' := cs) fun c hc => wo_mem hc).length_le
      unfold oneB at h2 ⊢
      rw [beq_eq_false_iff_ne] at h2 ⊢
      omega
    · rename_i e
      rw [if_neg e]
      refine hardGo_need m d (j + 1) cs (by omega) h1 (fun k hkj => ?_) k h
      by_cases e2 : k = j
      · subst e2; simpa using e
      · exact hk k (by omega)
theorem hard_needs {m : Nat} {cs : List Clu} (h1 : (fitL m cs).length = 1) : needs m (hardGo m cs.length 0 cs) (hardGo m cs.length 0 cs).length = [] := by
  unfold needs
  rw [List.filter_eq_nil_iff.2, List.map_nil]
  intro k hk
  rw [List.mem_range] at hk
  have h2 := hardGo_need m cs.length 0 cs (by omega) h1 (fun k h => by omega) k hk
  unfold needB
  rw [hardGo_one m _ _ cs h1, h1]
  unfold oneB at h2
  simpa using h2
/-- A clue added and taken out again. -/
theorem wo_added (cs : List Clu) (c : Clu) : wo (cs ++ [c]) cs.length = cs := by
  unfold wo
  rw [List.take_left, List.drop_eq_nil_of_le (by simp), List.append_nil]
end Go.Proofs.YtnamhjdfegohbaaGreatDoor.Ab

/- PUZZLES of whatever many clues: with more than six of them all answers say no. -/
namespace Go.Proofs.YtnamhjdfegohbaaGreatDoor.Ab
open Go
set_option maxRecDepth 100000
set_option maxHeartbeats 4000000

theorem good_big {n : Int} {cs : List Clu} (h : ¬ cs.length < 2 ^ 30) : goodP n cs = false := by
  unfold goodP
  rw [decide_eq_false (p := cs.length ≤ 6) (by omega)]
  simp
theorem count_big {n : Int} {cs : List Clu} (h : ¬ cs.length < 2 ^ 30) : countP n cs = 0 := by
  unfold countP; rw [good_big h]; rfl
theorem good_few {n : Int} {cs : List Clu} (h : goodP n cs = true) : cs.length ≤ 6 := by
  obtain ⟨m, rfl, m1, m5, m6, mok⟩ := goodP_iff h
  exact m6
theorem c_IsPuzzleA (n : Int) {v : AV} {cs : List Clu} (hlen : cs.length < 2 ^ 63) {h : AH} (hs : Slc 3 encC h v cs) {post : AV → AH → Prop} (hp : ∀ h', Pre h h' → post (.bool (goodP n cs)) h') : S 166 [pzV n v] h post k := by
  by_cases hl : cs.length < 2 ^ 30
  · exact c_IsPuzzle n hl hs hp
  have hpush := Pre.push h (AO.row [.int .i64 n, v] 0 0 false)
  have hsc := (sl_cells hs).2
  unfold AV.sc at hsc
  rw [good_big hl] at hp
  have hv := fun g => Slc.lenV (hs) (g := g) (ρ := fun _ => _) (x := .t 0) rfl; simp only [evOp] at hv
  have h6' : ¬ ((cs.length : Int) ≤ 6) := by omega
  refine S_of rfl T166 ?_; unfold fi166
  by_cases h5 : 1 ≤ n ∧ n ≤ 5
  · simp (maxSteps := 1000000) (disch := first | omega | rfl | (simp only [zL, two63, room] <;> omega) | fail) only [↓reduceIte, ↓zP, zW, WOp, evOp, evBin, binI, binSh, binS, evNil, keyIs, keyEq, mkv, AV.cells, AV.sc, optv, bnd, env, put, Env.get, Env.set, Env.del, Env.dels, Env.init, res1, resL, resV, fillP, splice, newRow, Nat.reduceEqDiff, Nat.reduceLT, Nat.reduceLeDiff, Nat.reduceAdd, Nat.reduceMul, Nat.reduceSub, Nat.reduceBEq, reduceCtorEq, ↓zR, zQ, Tr, StA, StT, e_within, h5, hv, h6', hsc]
    exact hp _ hpush
  · simp (maxSteps := 1000000) (disch := first | omega | rfl | (simp only [zL, two63, room] <;> omega) | fail) only [↓reduceIte, ↓zP, zW, WOp, evOp, evBin, binI, binSh, binS, evNil, keyIs, keyEq, mkv, AV.cells, AV.sc, optv, bnd, env, put, Env.get, Env.set, Env.del, Env.dels, Env.init, res1, resL, resV, fillP, splice, newRow, Nat.reduceEqDiff, Nat.reduceLT, Nat.reduceLeDiff, Nat.reduceAdd, Nat.reduceMul, Nat.reduceSub, Nat.reduceBEq, reduceCtorEq, ↓zR, zQ, Tr, StA, StT, e_within, h5, hsc]
    exact hp _ hpush
theorem c_pzGoodA (n : Int) {v : AV} {cs : List Clu} (hlen : cs.length < 2 ^ 63) {h : AH} (hs : Slc 3 encC h v cs) {post : AV → AH → Prop} (hp : ∀ h', Pre h h' → post (.bool (goodP n cs)) h') : S 160 [pzV n v] h post k := by
  by_cases hl : cs.length < 2 ^ 30
  · exact c_pzGood n hl hs hp
  have hpush := Pre.push h (AO.row [.int .i64 n, v] 0 0 false)
  have hsc := (sl_cells hs).2
  unfold AV.sc at hsc
  rw [good_big hl] at hp
  have hv := fun g => Slc.lenV (hs) (g := g) (ρ := fun _ => _) (x := .t 0) rfl; simp only [evOp] at hv
  have h6' : ((cs.length : Int) > 6) := by omega
  refine S_of rfl T160 ?_; unfold fi160
  by_cases h5 : 1 ≤ n ∧ n ≤ 5
  · simp (maxSteps := 1000000) (disch := first | omega | rfl | (simp only [zL, two63, room] <;> omega) | fail) only [↓reduceIte, ↓zP, zW, WOp, evOp, evBin, binI, binSh, binS, evNil, keyIs, keyEq, mkv, AV.cells, AV.sc, optv, bnd, env, put, Env.get, Env.set, Env.del, Env.dels, Env.init, res1, resL, resV, fillP, splice, newRow, Nat.reduceEqDiff, Nat.reduceLT, Nat.reduceLeDiff, Nat.reduceAdd, Nat.reduceMul, Nat.reduceSub, Nat.reduceBEq, reduceCtorEq, ↓zR, zQ, Tr, StA, StT, e_pzCells, h5, hv, h6', hsc]
    exact hp _ hpush
  · simp (maxSteps := 1000000) (disch := first | omega | rfl | (simp only [zL, two63, room] <;> omega) | fail) only [↓reduceIte, ↓zP, zW, WOp, evOp, evBin, binI, binSh, binS, evNil, keyIs, keyEq, mkv, AV.cells, AV.sc, optv, bnd, env, put, Env.get, Env.set, Env.del, Env.dels, Env.init, res1, resL, resV, fillP, splice, newRow, Nat.reduceEqDiff, Nat.reduceLT, Nat.reduceLeDiff, Nat.reduceAdd, Nat.reduceMul, Nat.reduceSub, Nat.reduceBEq, reduceCtorEq, ↓zR, zQ, Tr, StA, StT, e_pzCells, h5, hsc]
    exact hp _ hpush
theorem c_SolutionsA (n : Int) {v : AV} {cs : List Clu} (hlen : cs.length < 2 ^ 63) {h : AH} (hs : Slc 3 encC h v cs) {post : AV → AH → Prop} (hp : ∀ v' h', OwW 1 encS h h' v' (if goodP n cs then solN n cs else []) → Pre h h' → post (.tup [v', .bool (goodP n cs)]) h') : S 163 [pzV n v] h post k := by
  by_cases hl : cs.length < 2 ^ 30
  · exact c_Solutions n hl hs hp
  have hpush := Pre.push h (AO.row [.int .i64 n, v] 0 0 false)
  have hsc := (sl_cells hs).2
  unfold AV.sc at hsc
  have r2 : rdRow (h ++ [AO.row [.int .i64 n, v] 0 0 false]) h.length 0 0 2 = some [.int .i64 n, v] := by rw [rd_last, if_pos (by simp)]; simp
  rw [good_big hl] at hp
  refine S_of rfl T163 ?_; unfold fi163
  simp (maxSteps := 1000000) (disch := first | omega | rfl | (simp only [zL, two63, room] <;> omega) | fail) only [↓reduceIte, ↓zP, zW, WOp, evOp, evBin, binI, binSh, binS, evNil, keyIs, keyEq, mkv, AV.cells, AV.sc, optv, bnd, env, put, Env.get, Env.set, Env.del, Env.dels, Env.init, res1, resL, resV, fillP, splice, newRow, Nat.reduceEqDiff, Nat.reduceLT, Nat.reduceLeDiff, Nat.reduceAdd, Nat.reduceMul, Nat.reduceSub, Nat.reduceBEq, reduceCtorEq, ↓zR, zQ, Tr, StA, StT, hsc]
  refine c_IsPuzzleA n hlen (hs.pre hpush) ?_
  intro h2 hp2
  rw [good_big hl]
  simp (maxSteps := 1000000) (disch := first | omega | rfl | (simp only [zL, two63, room] <;> omega) | fail) only [↓reduceIte, ↓zP, zW, WOp, evOp, evBin, binI, binSh, binS, evNil, keyIs, keyEq, mkv, AV.cells, AV.sc, optv, bnd, env, put, Env.get, Env.set, Env.del, Env.dels, Env.init, res1, resL, resV, fillP, splice, newRow, Nat.reduceEqDiff, Nat.reduceLT, Nat.reduceLeDiff, Nat.reduceAdd, Nat.reduceMul, Nat.reduceSub, Nat.reduceBEq, reduceCtorEq, ↓zR, zQ, Tr, StA, StT]
  exact hp .nilS h2 rfl (hpush.trans hp2)
theorem c_CountSolutionsA (n : Int) {v : AV} {cs : List Clu} (hlen : cs.length < 2 ^ 63) {h : AH} (hs : Slc 3 encC h v cs) {post : AV → AH → Prop} (hp : ∀ h', Pre h h' → post (.tup [.int .i64 (countP n cs), .bool (goodP n cs)]) h') : S 138 [pzV n v] h post k := by
  by_cases hl : cs.length < 2 ^ 30
  · exact c_CountSolutions n hl hs hp
  have hpush := Pre.push h (AO.row [.int .i64 n, v] 0 0 false)
  have hsc := (sl_cells hs).2
  unfold AV.sc at hsc
  rw [good_big hl, count_big hl] at hp
  refine S_of rfl T138 ?_; unfold fi138
  simp (maxSteps := 1000000) (disch := first | omega | rfl | (simp only [zL, two63, room] <;> omega) | fail) only [↓reduceIte, ↓zP, zW, WOp, evOp, evBin, binI, binSh, binS, evNil, keyIs, keyEq, mkv, AV.cells, AV.sc, optv, bnd, env, put, Env.get, Env.set, Env.del, Env.dels, Env.init, res1, resL, resV, fillP, splice, newRow, Nat.reduceEqDiff, Nat.reduceLT, Nat.reduceLeDiff, Nat.reduceAdd, Nat.reduceMul, Nat.reduceSub, Nat.reduceBEq, reduceCtorEq, ↓zR, zQ, Tr, StA, StT, hsc]
  refine c_SolutionsA n hlen (hs.pre hpush) ?_
  intro v' h2 ho hp2
  have := hp h2 (hpush.trans hp2)
  rw [good_big hl] at ho ⊢
  have hsl := ho.slc hlS
  have hv := fun g => Slc.lenV (hsl) (g := g) (ρ := fun _ => _) (x := .t 0) rfl; simp only [evOp] at hv
  simp (maxSteps := 1000000) (disch := first | omega | rfl | (simp only [zL, two63, room] <;> omega) | fail) only [↓reduceIte, ↓zP, zW, WOp, evOp, evBin, binI, binSh, binS, evNil, keyIs, keyEq, mkv, AV.cells, AV.sc, optv, bnd, env, put, Env.get, Env.set, Env.del, Env.dels, Env.init, res1, resL, resV, fillP, splice, newRow, Nat.reduceEqDiff, Nat.reduceLT, Nat.reduceLeDiff, Nat.reduceAdd, Nat.reduceMul, Nat.reduceSub, Nat.reduceBEq, reduceCtorEq, ↓zR, zQ, Tr, StA, StT, hv]
  exact this
theorem c_IsSolvedA (n : Int) {v : AV} {cs : List Clu} (hlen : cs.length < 2 ^ 63) {h : AH} (hs : Slc 3 encC h v cs) {post : AV → AH → Prop} (hp : ∀ h', Pre h h' → post (.tup [.bool (countP n cs == 1), .bool (goodP n cs)]) h') : S 142 [pzV n v] h post k := by
  have hpush := Pre.push h (AO.row [.int .i64 n, v] 0 0 false)
  have hsc := (sl_cells hs).2
  unfold AV.sc at hsc
  refine S_of rfl T142 ?_; unfold fi142
  simp (maxSteps := 1000000) (disch := first | omega | rfl | (simp only [zL, two63, room] <;> omega) | fail) only [↓reduceIte, ↓zP, zW, WOp, evOp, evBin, binI, binSh, binS, evNil, keyIs, keyEq, mkv, AV.cells, AV.sc, optv, bnd, env, put, Env.get, Env.set, Env.del, Env.dels, Env.init, res1, resL, resV, fillP, splice, newRow, Nat.reduceEqDiff, Nat.reduceLT, Nat.reduceLeDiff, Nat.reduceAdd, Nat.reduceMul, Nat.reduceSub, Nat.reduceBEq, reduceCtorEq, ↓zR, zQ, Tr, StA, StT, hsc]
  refine c_CountSolutionsA n hlen (hs.pre hpush) ?_
  intro h2 hp2
  simp (maxSteps := 1000000) (disch := first | omega | rfl | (simp only [zL, two63, room] <;> omega) | fail) only [↓reduceIte, ↓zP, zW, WOp, evOp, evBin, binI, binSh, binS, evNil, keyIs, keyEq, mkv, AV.cells, AV.sc, optv, bnd, env, put, Env.get, Env.set, Env.del, Env.dels, Env.init, res1, resL, resV, fillP, splice, newRow, Nat.reduceEqDiff, Nat.reduceLT, Nat.reduceLeDiff, Nat.reduceAdd, Nat.reduceMul, Nat.reduceSub, Nat.reduceBEq, reduceCtorEq, ↓zR, zQ, Tr, StA, StT]
  exact hp h2 (hpush.trans hp2)
theorem c_HarderA (n : Int) {v : AV} {cs : List Clu} (hlen : cs.length < 2 ^ 63) {h : AH} (hs : Slc 3 encC h v cs) {post : AV → AH → Prop} (hp : ∀ v' h', OwW 3 encC h h' v' (hardC n cs) → Pre h h' → post (.tup [pzV (hardN n cs) v', .bool (countP n cs == 1)]) h') : S 214 [pzV n v] h post k := by
  by_cases hl : cs.length < 2 ^ 30
  · exact c_Harder n hl hs hp
  have P1 := Pre.push h (AO.row [.int .i64 n, v] 0 0 false)
  have P2 := Pre.push (h ++ [AO.row [.int .i64 n, v] 0 0 false]) (AO.row [.int .i64 0, .nilS] 0 0 false)
  have hsc := (sl_cells hs).2
  unfold AV.sc at hsc
  have r2 : rdRow (h ++ [AO.row [.int .i64 n, v] 0 0 false] ++ [AO.row [.int .i64 0, .nilS] 0 0 false]) h.length 0 0 2 = some [.int .i64 n, v] := rdRow_pre P2 (by rw [rd_last, if_pos (by simp)]; simp)
  have b2 := row2 h (AO.row [.int .i64 n, v] 0 0 false) (AO.row [.int .i64 0, .nilS] 0 0 false)
  have hcl : (h ++ [AO.row [.int .i64 n, v] 0 0 false]).length = h.length + 1 := by simp
  have hg : (h ++ [AO.row [.int .i64 n, v] 0 0 false] ++ [AO.row [.int .i64 0, .nilS] 0 0 false]).length = h.length + 2 := by simp
  have P := P1.trans P2
  have hs0 := hs.pre P
  have e0 : (countP n cs == 1) = false := by rw [count_big hl]; rfl
  unfold hardC hardN at hp
  simp only [e0, Bool.false_eq_true, if_false] at hp
  refine S_of rfl T214 ?_; unfold fi214
  simp (maxSteps := 1000000) (disch := first | omega | rfl | (simp only [zL, two63, room] <;> omega) | fail) only [↓reduceIte, ↓zP, zW, WOp, evOp, evBin, binI, binSh, binS, evNil, keyIs, keyEq, mkv, AV.cells, AV.sc, optv, bnd, env, put, Env.get, Env.set, Env.del, Env.dels, Env.init, res1, resL, resV, fillP, splice, newRow, Nat.reduceEqDiff, Nat.reduceLT, Nat.reduceLeDiff, Nat.reduceAdd, Nat.reduceMul, Nat.reduceSub, Nat.reduceBEq, reduceCtorEq, ↓zR, zQ, Tr, StA, StT, hsc, r2]
  rw [hcl]
  generalize h ++ [AO.row [.int .i64 n, v] 0 0 false] ++ [AO.row [.int .i64 0, .nilS] 0 0 false] = g at *
  refine c_IsSolvedA n hlen hs0 ?_
  intro h2 p2
  have c2 : h2[h.length + 1]? = some (AO.row [.int .i64 0, .nilS] 0 0 false) := by rw [p2.2 _ (by omega)]; exact b2
  have l2 : h.length + 1 < h2.length := by have := p2.1; omega
  simp (maxSteps := 1000000) (disch := first | omega | rfl | (simp only [zL, two63, room] <;> omega) | fail) only [↓reduceIte, ↓zP, zW, WOp, evOp, evBin, binI, binSh, binS, evNil, keyIs, keyEq, mkv, AV.cells, AV.sc, optv, bnd, env, put, Env.get, Env.set, Env.del, Env.dels, Env.init, res1, resL, resV, fillP, splice, newRow, Nat.reduceEqDiff, Nat.reduceLT, Nat.reduceLeDiff, Nat.reduceAdd, Nat.reduceMul, Nat.reduceSub, Nat.reduceBEq, reduceCtorEq, ↓zR, zQ, Tr, StA, StT, good_big hl, e0, wr_of c2, List.length_set, l2]
  exact hp .nilS _ OwL.nil.w ((P.trans p2).set (by omega))
theorem c_sHarderA (n : Int) {v : AV} {cs : List Clu} (hlen : cs.length < 2 ^ 63) {h : AH} (hs : Slc 3 encC h v cs) {post : AV → AH → Prop} (hp : ∀ v' h', OwW 3 encC h h' v' (hardC n cs) → Pre h h' → post (.tup [pzV (hardN n cs) v', .bool (countP n cs == 1)]) h') : S 213 [pzV n v] h post k := by
  by_cases hl : cs.length < 2 ^ 30
  · exact c_sHarder n hl hs hp
  have P1 := Pre.push h (AO.row [.int .i64 n, v] 0 0 false)
  have P2 := Pre.push (h ++ [AO.row [.int .i64 n, v] 0 0 false]) (AO.row [.int .i64 0, .nilS] 0 0 false)
  have hsc := (sl_cells hs).2
  unfold AV.sc at hsc
  have r2 : rdRow (h ++ [AO.row [.int .i64 n, v] 0 0 false] ++ [AO.row [.int .i64 0, .nilS] 0 0 false]) h.length 0 0 2 = some [.int .i64 n, v] := rdRow_pre P2 (by rw [rd_last, if_pos (by simp)]; simp)
  have b2 := row2 h (AO.row [.int .i64 n, v] 0 0 false) (AO.row [.int .i64 0, .nilS] 0 0 false)
  have hcl : (h ++ [AO.row [.int .i64 n, v] 0 0 false]).length = h.length + 1 := by simp
  have hg : (h ++ [AO.row [.int .i64 n, v] 0 0 false] ++ [AO.row [.int .i64 0, .nilS] 0 0 false]).length = h.length + 2 := by simp
  have P := P1.trans P2
  have hs0 := hs.pre P
  have e0 : (countP n cs == 1) = false := by rw [count_big hl]; rfl
  unfold hardC hardN at hp
  simp only [e0, Bool.false_eq_true, if_false] at hp
  refine S_of rfl T213 ?_; unfold fi213
  simp (maxSteps := 1000000) (disch := first | omega | rfl | (simp only [zL, two63, room] <;> omega) | fail) only [↓reduceIte, ↓zP, zW, WOp, evOp, evBin, binI, binSh, binS, evNil, keyIs, keyEq, mkv, AV.cells, AV.sc, optv, bnd, env, put, Env.get, Env.set, Env.del, Env.dels, Env.init, res1, resL, resV, fillP, splice, newRow, Nat.reduceEqDiff, Nat.reduceLT, Nat.reduceLeDiff, Nat.reduceAdd, Nat.reduceMul, Nat.reduceSub, Nat.reduceBEq, reduceCtorEq, ↓zR, zQ, Tr, StA, StT, hsc, r2]
  rw [hcl]
  generalize h ++ [AO.row [.int .i64 n, v] 0 0 false] ++ [AO.row [.int .i64 0, .nilS] 0 0 false] = g at *
  refine c_pzGoodA n hlen hs0 ?_
  intro h2 p2
  have c2 : h2[h.length + 1]? = some (AO.row [.int .i64 0, .nilS] 0 0 false) := by rw [p2.2 _ (by omega)]; exact b2
  have l2 : h.length + 1 < h2.length := by have := p2.1; omega
  simp (maxSteps := 1000000) (disch := first | omega | rfl | (simp only [zL, two63, room] <;> omega) | fail) only [↓reduceIte, ↓zP, zW, WOp, evOp, evBin, binI, binSh, binS, evNil, keyIs, keyEq, mkv, AV.cells, AV.sc, optv, bnd, env, put, Env.get, Env.set, Env.del, Env.dels, Env.init, res1, resL, resV, fillP, splice, newRow, Nat.reduceEqDiff, Nat.reduceLT, Nat.reduceLeDiff, Nat.reduceAdd, Nat.reduceMul, Nat.reduceSub, Nat.reduceBEq, reduceCtorEq, ↓zR, zQ, Tr, StA, StT, good_big hl, e0, wr_of c2, List.length_set, l2]
  exact hp .nilS _ OwL.nil.w ((P.trans p2).set (by omega))
end Go.Proofs.YtnamhjdfegohbaaGreatDoor.Ab

/- PLAIN: a sum of two lines as one text with a blank between them: who wins is the same. -/
namespace Go.Proofs.YtnamhjdfegohbaaGreatDoor.Ab
set_option maxHeartbeats 1000000

def shB (n : Nat) (m : Int × Int) : Int × Int := (((n : Nat) : Int) + m.1, ((n : Nat) : Int) + m.2)
end Go.Proofs.YtnamhjdfegohbaaGreatDoor.Ab

/- LINES from the other side, sums of two lines, whole values: what both sides' functions answer. -/
namespace Go.Proofs.YtnamhjdfegohbaaGreatDoor.Ab
open Go
set_option maxRecDepth 100000
set_option maxHeartbeats 4000000

def otherL (w : List UInt8) : List UInt8 := (w.map otherB).reverse
end Go.Proofs.YtnamhjdfegohbaaGreatDoor.Ab
