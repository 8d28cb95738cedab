/- The proof that the law FnLinesHiddenOfAll of the given program returns true for every input; the condition: the tables that the row lists are laid as the program's text lays them. -/
import Derived.Test.YtnamhjdfegohbaaGreatDoorCards
import Derived.Test.YtnamhjdfegohbaaGreatDoorTie
import Derived.OpenShut
import Derived.Deep.DeepHandedRow
import Derived.Lib.LaidTab
import Derived.Test.YtnamhjdfegohbaaGreatDoorQ4
set_option linter.unusedSimpArgs false
set_option linter.unusedVariables false
/- WHAT BOTH SIDES' functions of lines answer: moves, ways, pairs, jumps. -/
namespace Go.Proofs.YtnamhjdfegohbaaGreatDoor.Ab
open Go
set_option maxRecDepth 100000
set_option maxHeartbeats 4000000

theorem good_all {w : List UInt8} (h : goodLine w = true) : 1 ≤ w.length ∧ w.length ≤ 12 ∧ signs w := by
  unfold goodLine at h
  simp only [Bool.and_eq_true, decide_eq_true_eq] at h
  exact ⟨h.1.1, h.1.2, h.2⟩
theorem c_IsLine (s : List UInt8) (hs : s.length < 2 ^ 60) {h : AH} {post : AV → AH → Prop} (hp : post (.bool (goodLine s)) h) : S 106 [.str s] h post k := by
  refine S_of rfl T106 ?_; unfold fi106
  simp (maxSteps := 1000000) (disch := first | omega | rfl | (simp only [zL, two63, room] <;> omega) | fail) only [↓reduceIte, ↓zP, zW, WOp, evOp, evBin, binI, binSh, binS, evNil, keyIs, keyEq, mkv, AV.cells, AV.sc, optv, bnd, env, put, Env.get, Env.set, Env.del, Env.dels, Env.init, res1, resL, resV, fillP, splice, newRow, Nat.reduceEqDiff, Nat.reduceLT, Nat.reduceLeDiff, Nat.reduceAdd, Nat.reduceMul, Nat.reduceSub, Nat.reduceBEq, reduceCtorEq, ↓zR, zQ, Tr, StA, StT]
  refine c_isLineOf s 12 (by omega) hs ?_
  have : (decide (1 ≤ (s.length : Int) ∧ (s.length : Int) ≤ 12) && s.all isSign) = goodLine s := by
    unfold goodLine
    congr 1
    exact decide_eq_decide.2 (by omega)
  rw [this]
  simp (maxSteps := 1000000) (disch := first | omega | rfl | (simp only [zL, two63, room] <;> omega) | fail) only [↓reduceIte, ↓zP, zW, WOp, evOp, evBin, binI, binSh, binS, evNil, keyIs, keyEq, mkv, AV.cells, AV.sc, optv, bnd, env, put, Env.get, Env.set, Env.del, Env.dels, Env.init, res1, resL, resV, fillP, splice, newRow, Nat.reduceEqDiff, Nat.reduceLT, Nat.reduceLeDiff, Nat.reduceAdd, Nat.reduceMul, Nat.reduceSub, Nat.reduceBEq, reduceCtorEq, ↓zR, zQ, Tr, StA, StT]
  exact hp
theorem e_IsLine (s : List UInt8) (hs : s.length < 2 ^ 60) {h : AH} {post : AV → AH → Prop} : S 106 [.str s] h post k = post (.bool (goodLine s)) h := S_eq fun _ => c_IsLine s hs
theorem e_liGoodG (s : List UInt8) (hs : s.length < 2 ^ 60) {h : AH} {post : AV → AH → Prop} : S 104 [.str s] h post k = post (.bool (goodLine s)) h := S_eq fun _ hp => c_liGood s hs hp
def mvG (kd w : List UInt8) : List (Int × Int) := if goodLine w then movesB w kd else []
theorem c_movesIn (w kd : List UInt8) (hw : w.length < 2 ^ 60) {h : AH} {post : AV → AH → Prop} (hp : ∀ v h', OwL 2 encM h h' v (mvG kd w) → Pre h h' → post (.tup [v, .bool (goodLine w)]) h') : S 59 [.str w, .str kd] h post k := by
  refine S_of rfl T59 ?_; unfold fi59
  unfold mvG at hp
  cases hg : goodLine w <;> rw [hg] at hp
  · simp (maxSteps := 1000000) (disch := first | omega | rfl | (simp only [zL, two63, room] <;> omega) | fail) only [↓reduceIte, ↓zP, zW, WOp, evOp, evBin, binI, binSh, binS, evNil, keyIs, keyEq, mkv, AV.cells, AV.sc, optv, bnd, env, put, Env.get, Env.set, Env.del, Env.dels, Env.init, res1, resL, resV, fillP, splice, newRow, Nat.reduceEqDiff, Nat.reduceLT, Nat.reduceLeDiff, Nat.reduceAdd, Nat.reduceMul, Nat.reduceSub, Nat.reduceBEq, reduceCtorEq, ↓zR, zQ, Tr, StA, StT, e_IsLine w hw, hg]
    exact hp .nilS h OwL.nil (Pre.refl h)
  · have hl := good_all hg
    simp (maxSteps := 1000000) (disch := first | omega | rfl | (simp only [zL, two63, room] <;> omega) | fail) only [↓reduceIte, ↓zP, zW, WOp, evOp, evBin, binI, binSh, binS, evNil, keyIs, keyEq, mkv, AV.cells, AV.sc, optv, bnd, env, put, Env.get, Env.set, Env.del, Env.dels, Env.init, res1, resL, resV, fillP, splice, newRow, Nat.reduceEqDiff, Nat.reduceLT, Nat.reduceLeDiff, Nat.reduceAdd, Nat.reduceMul, Nat.reduceSub, Nat.reduceBEq, reduceCtorEq, ↓zR, zQ, Tr, StA, StT, e_IsLine w hw, hg]
    refine c_moves w kd (by omega) ?_
    intro v h' ho hp'
    simp (maxSteps := 1000000) (disch := first | omega | rfl | (simp only [zL, two63, room] <;> omega) | fail) only [↓reduceIte, ↓zP, zW, WOp, evOp, evBin, binI, binSh, binS, evNil, keyIs, keyEq, mkv, AV.cells, AV.sc, optv, bnd, env, put, Env.get, Env.set, Env.del, Env.dels, Env.init, res1, resL, resV, fillP, splice, newRow, Nat.reduceEqDiff, Nat.reduceLT, Nat.reduceLeDiff, Nat.reduceAdd, Nat.reduceMul, Nat.reduceSub, Nat.reduceBEq, reduceCtorEq, ↓zR, zQ, Tr, StA, StT]
    exact hp v h' ho hp'
theorem c_MovesOf (w : List UInt8) (hw : w.length < 2 ^ 60) {h : AH} {post : AV → AH → Prop} (hp : ∀ v h', OwL 2 encM h h' v (mvG [84, 70] w) → Pre h h' → post (.tup [v, .bool (goodLine w)]) h') : S 19 [.str w] h post k := by
  refine S_of rfl T19 ?_; unfold fi19
  simp (maxSteps := 1000000) (disch := first | omega | rfl | (simp only [zL, two63, room] <;> omega) | fail) only [↓reduceIte, ↓zP, zW, WOp, evOp, evBin, binI, binSh, binS, evNil, keyIs, keyEq, mkv, AV.cells, AV.sc, optv, bnd, env, put, Env.get, Env.set, Env.del, Env.dels, Env.init, res1, resL, resV, fillP, splice, newRow, Nat.reduceEqDiff, Nat.reduceLT, Nat.reduceLeDiff, Nat.reduceAdd, Nat.reduceMul, Nat.reduceSub, Nat.reduceBEq, reduceCtorEq, ↓zR, zQ, Tr, StA, StT]
  refine c_movesIn w [84, 70] hw ?_
  intro v h' ho hp'
  simp (maxSteps := 1000000) (disch := first | omega | rfl | (simp only [zL, two63, room] <;> omega) | fail) only [↓reduceIte, ↓zP, zW, WOp, evOp, evBin, binI, binSh, binS, evNil, keyIs, keyEq, mkv, AV.cells, AV.sc, optv, bnd, env, put, Env.get, Env.set, Env.del, Env.dels, Env.init, res1, resL, resV, fillP, splice, newRow, Nat.reduceEqDiff, Nat.reduceLT, Nat.reduceLeDiff, Nat.reduceAdd, Nat.reduceMul, Nat.reduceSub, Nat.reduceBEq, reduceCtorEq, ↓zR, zQ, Tr, StA, StT]
  exact hp v h' ho hp'
def wayG (w : List UInt8) : Int := if goodLine w then (wayN w : Nat) else 0
def pairsG (w : List UInt8) : Int := if goodLine w then (pairsB w : Nat) else 0
theorem e_PairsToPass (w : List UInt8) (hw : w.length < 2 ^ 60) {h : AH} {post : AV → AH → Prop} : S 381 [.str w] h post k = post (.tup [.int .i64 (pairsG w), .bool (goodLine w)]) h := S_eq fun _ hp => by
  unfold pairsG at hp
  refine S_of rfl T381 ?_; unfold fi381
  cases hg : goodLine w <;> rw [hg] at hp
  · simp (maxSteps := 1000000) (disch := first | omega | rfl | (simp only [zL, two63, room] <;> omega) | fail) only [↓reduceIte, ↓zP, zW, WOp, evOp, evBin, binI, binSh, binS, evNil, keyIs, keyEq, mkv, AV.cells, AV.sc, optv, bnd, env, put, Env.get, Env.set, Env.del, Env.dels, Env.init, res1, resL, resV, fillP, splice, newRow, Nat.reduceEqDiff, Nat.reduceLT, Nat.reduceLeDiff, Nat.reduceAdd, Nat.reduceMul, Nat.reduceSub, Nat.reduceBEq, reduceCtorEq, ↓zR, zQ, Tr, StA, StT, e_IsLine w hw, hg]
    exact hp
  · have hl := good_all hg
    simp (maxSteps := 1000000) (disch := first | omega | rfl | (simp only [zL, two63, room] <;> omega) | fail) only [↓reduceIte, ↓zP, zW, WOp, evOp, evBin, binI, binSh, binS, evNil, keyIs, keyEq, mkv, AV.cells, AV.sc, optv, bnd, env, put, Env.get, Env.set, Env.del, Env.dels, Env.init, res1, resL, resV, fillP, splice, newRow, Nat.reduceEqDiff, Nat.reduceLT, Nat.reduceLeDiff, Nat.reduceAdd, Nat.reduceMul, Nat.reduceSub, Nat.reduceBEq, reduceCtorEq, ↓zR, zQ, Tr, StA, StT, e_IsLine w hw, hg, e_pairs w (by omega)]
    exact hp
def blkG (w : List UInt8) : Bool := goodLine w && (movesB w [84, 70]).isEmpty
def othG (w : List UInt8) : List UInt8 := if goodLine w then otherL w else []
end Go.Proofs.YtnamhjdfegohbaaGreatDoor.Ab

/- CLUES asked for, added and dropped; whether a line fits: both sides. -/
namespace Go.Proofs.YtnamhjdfegohbaaGreatDoor.Ab
open Go
set_option maxRecDepth 100000
set_option maxHeartbeats 4000000

theorem c_IsClueA (n : Int) (c : Clu) {h : AH} {post : AV → AH → Prop} (hp : ∀ h', Pre h h' → post (.bool (decide (1 ≤ n ∧ n ≤ 5) && clueOk n c)) h') : S 183 [.int .i64 n, .agg (encC c)] h post k := by
  obtain ⟨kd, a, b⟩ := c
  by_cases hn : 0 ≤ n ∧ n ≤ 1000
  · exact c_IsClue n kd a b hn hp
  have h5 : ¬ (1 ≤ n ∧ n ≤ 5) := by omega
  have hq := hp _ (Pre.push h (AO.row [.int .i64 kd, .int .i64 a, .int .i64 b] 0 0 false))
  clear hp
  refine S_of rfl T183 ?_; unfold fi183
  simp (maxSteps := 1000000) (disch := first | omega | rfl | (simp only [zL, two63, room] <;> omega) | fail) only [↓reduceIte, ↓zP, zW, WOp, evOp, evBin, binI, binSh, binS, evNil, keyIs, keyEq, mkv, AV.cells, AV.sc, optv, bnd, env, put, Env.get, Env.set, Env.del, Env.dels, Env.init, res1, resL, resV, fillP, splice, newRow, Nat.reduceEqDiff, Nat.reduceLT, Nat.reduceLeDiff, Nat.reduceAdd, Nat.reduceMul, Nat.reduceSub, Nat.reduceBEq, reduceCtorEq, ↓zR, zQ, Tr, StA, StT, e_within, h5]
  simpa [h5] using hq
theorem c_sIsClue (n : Int) (c : Clu) {h : AH} {post : AV → AH → Prop} (hp : ∀ h', Pre h h' → post (.bool (decide (1 ≤ n ∧ n ≤ 5) && clueOk n c)) h') : S 550 [.int .i64 n, .agg (encC c)] h post k := by
  obtain ⟨kd, a, b⟩ := c
  have hq := Pre.push h (AO.row [.int .i64 kd, .int .i64 a, .int .i64 b] 0 0 false)
  refine S_of rfl T550 ?_; unfold fi550
  by_cases h5 : 1 ≤ n ∧ n ≤ 5
  case neg =>
    simp (maxSteps := 1000000) (disch := first | omega | rfl | (simp only [zL, two63, room] <;> omega) | fail) only [↓reduceIte, ↓zP, zW, WOp, evOp, evBin, binI, binSh, binS, evNil, keyIs, keyEq, mkv, AV.cells, AV.sc, optv, bnd, env, put, Env.get, Env.set, Env.del, Env.dels, Env.init, res1, resL, resV, fillP, splice, newRow, Nat.reduceEqDiff, Nat.reduceLT, Nat.reduceLeDiff, Nat.reduceAdd, Nat.reduceMul, Nat.reduceSub, Nat.reduceBEq, reduceCtorEq, ↓zR, zQ, Tr, StA, StT, e_pzCells, h5]
    simpa [h5] using hp _ hq
  simp (maxSteps := 1000000) (disch := first | omega | rfl | (simp only [zL, two63, room] <;> omega) | fail) only [↓reduceIte, ↓zP, zW, WOp, evOp, evBin, binI, binSh, binS, evNil, keyIs, keyEq, mkv, AV.cells, AV.sc, optv, bnd, env, put, Env.get, Env.set, Env.del, Env.dels, Env.init, res1, resL, resV, fillP, splice, newRow, Nat.reduceEqDiff, Nat.reduceLT, Nat.reduceLeDiff, Nat.reduceAdd, Nat.reduceMul, Nat.reduceSub, Nat.reduceBEq, reduceCtorEq, ↓zR, zQ, Tr, StA, StT, e_pzCells, h5]
  refine c_pzClue n kd a b (by omega) ?_
  intro h2 hp2
  simp (maxSteps := 1000000) (disch := first | omega | rfl | (simp only [zL, two63, room] <;> omega) | fail) only [↓reduceIte, ↓zP, zW, WOp, evOp, evBin, binI, binSh, binS, evNil, keyIs, keyEq, mkv, AV.cells, AV.sc, optv, bnd, env, put, Env.get, Env.set, Env.del, Env.dels, Env.init, res1, resL, resV, fillP, splice, newRow, Nat.reduceEqDiff, Nat.reduceLT, Nat.reduceLeDiff, Nat.reduceAdd, Nat.reduceMul, Nat.reduceSub, Nat.reduceBEq, reduceCtorEq, ↓zR, zQ, Tr, StA, StT]
  simpa [h5] using hp _ (hq.trans hp2)

/-! ### Whether a line fits -/
def h5B (w : List UInt8) : Bool := decide (1 ≤ w.length ∧ w.length ≤ 5) && w.all isSign
def dfOk (c : Clu) (w : List UInt8) : Bool := h5B w && clueOk w.length c
def dfB (c : Clu) (w : List UInt8) : Bool := dfOk c w && fitB c w
theorem h5B_iff {w : List UInt8} (h : h5B w = true) : (1 ≤ w.length ∧ w.length ≤ 5) ∧ w.all isSign = true := by
  unfold h5B at h
  rwa [Bool.and_eq_true, decide_eq_true_eq] at h
theorem e_isLine5 (w : List UInt8) (hw : w.length < 2 ^ 60) {h : AH} {post : AV → AH → Prop} : S 82 [.str w, .int .i64 5] h post k = post (.bool (h5B w)) h := S_eq fun post hp => by
  refine c_isLineOf w 5 (by omega) hw ?_
  have : decide (1 ≤ (w.length : Int) ∧ (w.length : Int) ≤ 5) = decide (1 ≤ w.length ∧ w.length ≤ 5) := by
    rw [decide_eq_decide]; omega
  rw [this]
  exact hp
theorem e_pzLine (w : List UInt8) (hw : w.length < 2 ^ 60) {h : AH} {post : AV → AH → Prop} : S 594 [.str w] h post k = post (.bool (h5B w)) h := S_eq fun post hp => by
  refine S_of rfl T594 ?_; unfold fi594
  cases hg : goodLine w
  · have e : h5B w = false := by
      unfold goodLine at hg
      unfold h5B
      rw [Bool.and_eq_false_iff, decide_eq_false_iff_not] at hg ⊢
      rcases hg with hg | hg
      · exact .inl (by omega)
      · exact .inr hg
    simp (maxSteps := 1000000) (disch := first | omega | rfl | (simp only [zL, two63, room] <;> omega) | fail) only [↓reduceIte, ↓zP, zW, WOp, evOp, evBin, binI, binSh, binS, evNil, keyIs, keyEq, mkv, AV.cells, AV.sc, optv, bnd, env, put, Env.get, Env.set, Env.del, Env.dels, Env.init, res1, resL, resV, fillP, splice, newRow, Nat.reduceEqDiff, Nat.reduceLT, Nat.reduceLeDiff, Nat.reduceAdd, Nat.reduceMul, Nat.reduceSub, Nat.reduceBEq, reduceCtorEq, ↓zR, zQ, Tr, StA, StT, e_liGoodG w hw, hg]
    rwa [e] at hp
  · obtain ⟨l1, l2, l3⟩ := good_all hg
    by_cases hl : w.length ≤ 5
    · have e : h5B w = true := by
        unfold h5B
        rw [Bool.and_eq_true, decide_eq_true_eq]
        exact ⟨⟨l1, hl⟩, l3⟩
      have n1 : (w.length : Int) ≤ 5 := by omega
      simp (maxSteps := 1000000) (disch := first | omega | rfl | (simp only [zL, two63, room] <;> omega) | fail) only [↓reduceIte, ↓zP, zW, WOp, evOp, evBin, binI, binSh, binS, evNil, keyIs, keyEq, mkv, AV.cells, AV.sc, optv, bnd, env, put, Env.get, Env.set, Env.del, Env.dels, Env.init, res1, resL, resV, fillP, splice, newRow, Nat.reduceEqDiff, Nat.reduceLT, Nat.reduceLeDiff, Nat.reduceAdd, Nat.reduceMul, Nat.reduceSub, Nat.reduceBEq, reduceCtorEq, ↓zR, zQ, Tr, StA, StT, e_liGoodG w hw, hg, n1]
      rwa [e] at hp
    · have e : h5B w = false := by
        unfold h5B
        rw [Bool.and_eq_false_iff, decide_eq_false_iff_not]
        exact .inl (by omega)
      have n1 : ¬ ((w.length : Int) ≤ 5) := by omega
      simp (maxSteps := 1000000) (disch := first | omega | rfl | (simp only [zL, two63, room] <;> omega) | fail) only [↓reduceIte, ↓zP, zW, WOp, evOp, evBin, binI, binSh, binS, evNil, keyIs, keyEq, mkv, AV.cells, AV.sc, optv, bnd, env, put, Env.get, Env.set, Env.del, Env.dels, Env.init, res1, resL, resV, fillP, splice, newRow, Nat.reduceEqDiff, Nat.reduceLT, Nat.reduceLeDiff, Nat.reduceAdd, Nat.reduceMul, Nat.reduceSub, Nat.reduceBEq, reduceCtorEq, ↓zR, zQ, Tr, StA, StT, e_liGoodG w hw, hg, n1]
      rwa [e] at hp
theorem c_DoesFitA (c : Clu) (w : List UInt8) (hw : w.length < 2 ^ 60) {h : AH} {post : AV → AH → Prop} (hp : ∀ h', Pre h h' → post (.tup [.bool (dfB c w), .bool (dfOk c w)]) h') : S 185 [.agg (encC c), .str w] h post k := by
  have P1 := Pre.push h (AO.row (encC c) 0 0 false)
  have r1 : rdRow (h ++ [AO.row (encC c) 0 0 false]) h.length 0 0 3 = some (encC c) := by rw [rd_last, if_pos (by simp)]; simp
  unfold dfB dfOk at hp
  cases e5 : h5B w
  · rw [e5] at hp
    generalize hg : h ++ [AO.row (encC c) 0 0 false] = g at *
    refine S_of rfl T185 ?_; unfold fi185
    simp (maxSteps := 1000000) (disch := first | omega | rfl | (simp only [zL, two63, room] <;> omega) | fail) only [↓reduceIte, ↓zP, zW, WOp, evOp, evBin, binI, binSh, binS, evNil, keyIs, keyEq, mkv, AV.cells, AV.sc, optv, bnd, env, put, Env.get, Env.set, Env.del, Env.dels, Env.init, res1, resL, resV, fillP, splice, newRow, Nat.reduceEqDiff, Nat.reduceLT, Nat.reduceLeDiff, Nat.reduceAdd, Nat.reduceMul, Nat.reduceSub, Nat.reduceBEq, reduceCtorEq, ↓zR, zQ, Tr, StA, StT, hg, e_isLine5 w hw, e5]
    exact hp _ P1
  · rw [e5] at hp
    obtain ⟨hl, hs⟩ := h5B_iff e5
    cases ec : clueOk w.length c
    · rw [ec] at hp
      generalize hg : h ++ [AO.row (encC c) 0 0 false] = g at *
      refine S_of rfl T185 ?_; unfold fi185
      simp (maxSteps := 1000000) (disch := first | omega | rfl | (simp only [zL, two63, room] <;> omega) | fail) only [↓reduceIte, ↓zP, zW, WOp, evOp, evBin, binI, binSh, binS, evNil, keyIs, keyEq, mkv, AV.cells, AV.sc, optv, bnd, env, put, Env.get, Env.set, Env.del, Env.dels, Env.init, res1, resL, resV, fillP, splice, newRow, Nat.reduceEqDiff, Nat.reduceLT, Nat.reduceLeDiff, Nat.reduceAdd, Nat.reduceMul, Nat.reduceSub, Nat.reduceBEq, reduceCtorEq, ↓zR, zQ, Tr, StA, StT, hg, e_isLine5 w hw, e5, r1]
      refine c_IsClueA w.length c ?_
      intro h2 p2
      rw [ec, Bool.and_false]
      simp (maxSteps := 1000000) (disch := first | omega | rfl | (simp only [zL, two63, room] <;> omega) | fail) only [↓reduceIte, ↓zP, zW, WOp, evOp, evBin, binI, binSh, binS, evNil, keyIs, keyEq, mkv, AV.cells, AV.sc, optv, bnd, env, put, Env.get, Env.set, Env.del, Env.dels, Env.init, res1, resL, resV, fillP, splice, newRow, Nat.reduceEqDiff, Nat.reduceLT, Nat.reduceLeDiff, Nat.reduceAdd, Nat.reduceMul, Nat.reduceSub, Nat.reduceBEq, reduceCtorEq, ↓zR, zQ, Tr, StA, StT]
      exact hp _ (P1.trans p2)
    · rw [ec] at hp
      obtain ⟨kd, a, b⟩ := c
      exact c_DoesFit kd a b w hs hl ec fun h' p => hp h' p
theorem c_sDoesFit (c : Clu) (w : List UInt8) (hw : w.length < 2 ^ 60) {h : AH} {post : AV → AH → Prop} (hp : ∀ h', Pre h h' → post (.tup [.bool (dfB c w), .bool (dfOk c w)]) h') : S 549 [.agg (encC c), .str w] h post k := by
  have P1 := Pre.push h (AO.row (encC c) 0 0 false)
  have r1 : rdRow (h ++ [AO.row (encC c) 0 0 false]) h.length 0 0 3 = some (encC c) := by rw [rd_last, if_pos (by simp)]; simp
  generalize hg : h ++ [AO.row (encC c) 0 0 false] = g at *
  obtain ⟨kd, a, b⟩ := c
  unfold dfB dfOk at hp
  refine S_of rfl T549 ?_; unfold fi549
  cases e5 : h5B w
  · rw [e5] at hp
    simp (maxSteps := 1000000) (disch := first | omega | rfl | (simp only [zL, two63, room] <;> omega) | fail) only [↓reduceIte, ↓zP, zW, WOp, evOp, evBin, binI, binSh, binS, evNil, keyIs, keyEq, mkv, AV.cells, AV.sc, optv, bnd, env, put, Env.get, Env.set, Env.del, Env.dels, Env.init, res1, resL, resV, fillP, splice, newRow, Nat.reduceEqDiff, Nat.reduceLT, Nat.reduceLeDiff, Nat.reduceAdd, Nat.reduceMul, Nat.reduceSub, Nat.reduceBEq, reduceCtorEq, ↓zR, zQ, Tr, StA, StT, hg, e_pzLine w hw, e5]
    exact hp _ P1
  · rw [e5] at hp
    obtain ⟨hl, hs⟩ := h5B_iff e5
    simp (maxSteps := 1000000) (disch := first | omega | rfl | (simp only [zL, two63, room] <;> omega) | fail) only [↓reduceIte, ↓zP, zW, WOp, evOp, evBin, binI, binSh, binS, evNil, keyIs, keyEq, mkv, AV.cells, AV.sc, optv, bnd, env, put, Env.get, Env.set, Env.del, Env.dels, Env.init, res1, resL, resV, fillP, splice, newRow, Nat.reduceEqDiff, Nat.reduceLT, Nat.reduceLeDiff, Nat.reduceAdd, Nat.reduceMul, Nat.reduceSub, Nat.reduceBEq, reduceCtorEq, ↓zR, zQ, Tr, StA, StT, hg, e_pzLine w hw, e5, r1]
    refine c_pzClue w.length kd a b (by omega) ?_
    intro h2 p2
    have r2 := rdRow_pre p2 r1
    cases ec : clueOk w.length (kd, a, b)
    · rw [ec] at hp
      simp (maxSteps := 1000000) (disch := first | omega | rfl | (simp only [zL, two63, room] <;> omega) | fail) only [↓reduceIte, ↓zP, zW, WOp, evOp, evBin, binI, binSh, binS, evNil, keyIs, keyEq, mkv, AV.cells, AV.sc, optv, bnd, env, put, Env.get, Env.set, Env.del, Env.dels, Env.init, res1, resL, resV, fillP, splice, newRow, Nat.reduceEqDiff, Nat.reduceLT, Nat.reduceLeDiff, Nat.reduceAdd, Nat.reduceMul, Nat.reduceSub, Nat.reduceBEq, reduceCtorEq, ↓zR, zQ, Tr, StA, StT]
      exact hp _ (P1.trans p2)
    · rw [ec] at hp
      have hcell : kd = 0 → 0 ≤ a ∧ a < w.length := by
        rintro rfl
        simp only [clueOk, if_true, Bool.and_eq_true, decide_eq_true_eq] at ec
        omega
      simp (maxSteps := 1000000) (disch := first | omega | rfl | (simp only [zL, two63, room] <;> omega) | fail) only [↓reduceIte, ↓zP, zW, WOp, evOp, evBin, binI, binSh, binS, evNil, keyIs, keyEq, mkv, AV.cells, AV.sc, optv, bnd, env, put, Env.get, Env.set, Env.del, Env.dels, Env.init, res1, resL, resV, fillP, splice, newRow, Nat.reduceEqDiff, Nat.reduceLT, Nat.reduceLeDiff, Nat.reduceAdd, Nat.reduceMul, Nat.reduceSub, Nat.reduceBEq, reduceCtorEq, ↓zR, zQ, Tr, StA, StT, r2]
      refine c_pzFits kd a b w hs (by omega) hcell ?_
      intro h3 p3
      simp (maxSteps := 1000000) (disch := first | omega | rfl | (simp only [zL, two63, room] <;> omega) | fail) only [↓reduceIte, ↓zP, zW, WOp, evOp, evBin, binI, binSh, binS, evNil, keyIs, keyEq, mkv, AV.cells, AV.sc, optv, bnd, env, put, Env.get, Env.set, Env.del, Env.dels, Env.init, res1, resL, resV, fillP, splice, newRow, Nat.reduceEqDiff, Nat.reduceLT, Nat.reduceLeDiff, Nat.reduceAdd, Nat.reduceMul, Nat.reduceSub, Nat.reduceBEq, reduceCtorEq, ↓zR, zQ, Tr, StA, StT]
      exact hp _ (P1.trans (p2.trans p3))

/-! ### Clues added and dropped -/
def adB (n : Int) (cs : List Clu) (c : Clu) : Bool := goodP n cs && (clueOk n c && !decide (cs.length = 6))
def adC (n : Int) (cs : List Clu) (c : Clu) : List Clu := if adB n cs c then cs ++ [c] else []
def adN (n : Int) (cs : List Clu) (c : Clu) : Int := if adB n cs c then n else 0
def drB (n : Int) (cs : List Clu) (j : Int) : Bool := goodP n cs && decide (0 ≤ j ∧ j ≤ (cs.length : Int) - 1)
def drC (n : Int) (cs : List Clu) (j : Int) : List Clu := if drB n cs j then wo cs j.toNat else []
def drN (n : Int) (cs : List Clu) (j : Int) : Int := if drB n cs j then n else 0
theorem rowP (h : AH) (n : Int) (v : AV) : rdRow (h ++ [AO.row [.int .i64 n, v] 0 0 false]) h.length 0 0 2 = some [.int .i64 n, v] ∧ rdRow (h ++ [AO.row [.int .i64 n, v] 0 0 false]) h.length 0 0 1 = some [.int .i64 n] ∧ rdRow (h ++ [AO.row [.int .i64 n, v] 0 0 false]) h.length 0 1 1 = some [v] := by
  simp [rd_last]
theorem rowC (h : AH) (c : Clu) : rdRow (h ++ [AO.row (encC c) 0 0 false]) h.length 0 0 3 = some (encC c) := by rw [rd_last, if_pos (by simp)]; simp
theorem zrow (h : AH) (o : AO) : (h ++ [o])[h.length]? = some o := by simp
theorem c_AddClue (n : Int) (c : Clu) {v : AV} {cs : List Clu} (hlen : cs.length < 2 ^ 63) {h : AH} (hs : Slc 3 encC h v cs) {post : AV → AH → Prop} (hp : ∀ v' h', OwL 3 encC h h' v' (adC n cs c) → Pre h h' → post (.tup [pzV (adN n cs c) v', .bool (adB n cs c)]) h') : S 545 [pzV n v, .agg (encC c)] h post k := by
  have hsc := (sl_cells hs).2
  unfold AV.sc at hsc
  have hv0 := fun g => Slc.lenV (hs) (g := g) (ρ := fun _ => _) (x := .t 0) rfl; simp only [evOp] at hv0
  have P1 := Pre.push h (AO.row [.int .i64 n, v] 0 0 false)
  obtain ⟨r1, r11, r1v⟩ := rowP h n v
  generalize hg1 : h ++ [AO.row [.int .i64 n, v] 0 0 false] = g1 at *
  have P2 := Pre.push g1 (AO.row (encC c) 0 0 false)
  have rc := rowC g1 c
  generalize hg2 : g1 ++ [AO.row (encC c) 0 0 false] = g2 at *
  have P3 := Pre.push g2 (AO.row [.int .i64 0, .nilS] 0 0 false)
  have z3 := zrow g2 (AO.row [.int .i64 0, .nilS] 0 0 false)
  have l3 : g2.length < (g2 ++ [AO.row [.int .i64 0, .nilS] 0 0 false]).length := by simp
  generalize hg3 : g2 ++ [AO.row [.int .i64 0, .nilS] 0 0 false] = g3 at *
  have P := P1.trans (P2.trans P3)
  have r3 := rdRow_pre (P2.trans P3) r1
  have r31 := rdRow_pre (P2.trans P3) r11
  have r3v := rdRow_pre (P2.trans P3) r1v
  have r3c := rdRow_pre P3 rc
  refine S_of rfl T545 ?_; unfold fi545
  simp (maxSteps := 1000000) (disch := first | omega | rfl | (simp only [zL, two63, room] <;> omega) | fail) only [↓reduceIte, ↓zP, zW, WOp, evOp, evBin, binI, binSh, binS, evNil, keyIs, keyEq, mkv, AV.cells, AV.sc, optv, bnd, env, put, Env.get, Env.set, Env.del, Env.dels, Env.init, res1, resL, resV, fillP, splice, newRow, Nat.reduceEqDiff, Nat.reduceLT, Nat.reduceLeDiff, Nat.reduceAdd, Nat.reduceMul, Nat.reduceSub, Nat.reduceBEq, reduceCtorEq, ↓zR, zQ, Tr, StA, StT, hsc, hg1, hg2, hg3, r3]
  refine c_IsPuzzleA n hlen (hs.pre P) ?_
  intro h4 p4
  have c4 : h4[g2.length]? = some (AO.row [.int .i64 0, .nilS] 0 0 false) := by rw [p4.2 _ l3]; exact z3
  have l4 : g2.length < h4.length := by have := p4.1; omega
  have gl : h.length < g2.length := by have := P2.1; have := P1.1; rw [← hg1] at *; simp at *; omega
  cases e : goodP n cs
  · have e1 : adB n cs c = false := by unfold adB; rw [e]; rfl
    unfold adC adN at hp
    rw [e1] at hp
    simp (maxSteps := 1000000) (disch := first | omega | rfl | (simp only [zL, two63, room] <;> omega) | fail) only [↓reduceIte, ↓zP, zW, WOp, evOp, evBin, binI, binSh, binS, evNil, keyIs, keyEq, mkv, AV.cells, AV.sc, optv, bnd, env, put, Env.get, Env.set, Env.del, Env.dels, Env.init, res1, resL, resV, fillP, splice, newRow, Nat.reduceEqDiff, Nat.reduceLT, Nat.reduceLeDiff, Nat.reduceAdd, Nat.reduceMul, Nat.reduceSub, Nat.reduceBEq, reduceCtorEq, ↓zR, zQ, Tr, StA, StT, wr_of c4, List.length_set, l4]
    exact hp .nilS _ OwL.nil ((P.trans p4).set (by omega))
  obtain ⟨m, rfl, m1, m5, m6, mok⟩ := goodP_iff e
  have hn5 : (1 : Int) ≤ (m : Int) ∧ (m : Int) ≤ 5 := by omega
  have q41 := rdRow_pre p4 r31
  have q4v := rdRow_pre p4 r3v
  have r4c := rdRow_pre p4 r3c
  have hb1 : (decide ((1 : Int) ≤ (m : Int) ∧ (m : Int) ≤ 5) && clueOk (m : Int) c) = clueOk (m : Int) c := by rw [decide_eq_true hn5]; rfl
  have hb2 : clueOk (m : Int) (c.1, c.2.1, c.2.2) = clueOk (m : Int) c := rfl
  simp (maxSteps := 1000000) (disch := first | omega | rfl | (simp only [zL, two63, room] <;> omega) | fail) only [↓reduceIte, ↓zP, zW, WOp, evOp, evBin, binI, binSh, binS, evNil, keyIs, keyEq, mkv, AV.cells, AV.sc, optv, bnd, env, put, Env.get, Env.set, Env.del, Env.dels, Env.init, res1, resL, resV, fillP, splice, newRow, Nat.reduceEqDiff, Nat.reduceLT, Nat.reduceLeDiff, Nat.reduceAdd, Nat.reduceMul, Nat.reduceSub, Nat.reduceBEq, reduceCtorEq, ↓zR, zQ, Tr, StA, StT, q41, r4c]
  refine c_IsClueA m c ?_
  intro h5 p5
  rw [hb1]
  have c5 : h5[g2.length]? = some (AO.row [.int .i64 0, .nilS] 0 0 false) := by rw [p5.2 _ l4]; exact c4
  have l5 : g2.length < h5.length := by have := p5.1; omega
  cases ec : clueOk (m : Int) c
  · have e1 : adB m cs c = false := by unfold adB; rw [e, ec]; rfl
    unfold adC adN at hp
    rw [e1] at hp
    simp (maxSteps := 1000000) (disch := first | omega | rfl | (simp only [zL, two63, room] <;> omega) | fail) only [↓reduceIte, ↓zP, zW, WOp, evOp, evBin, binI, binSh, binS, evNil, keyIs, keyEq, mkv, AV.cells, AV.sc, optv, bnd, env, put, Env.get, Env.set, Env.del, Env.dels, Env.init, res1, resL, resV, fillP, splice, newRow, Nat.reduceEqDiff, Nat.reduceLT, Nat.reduceLeDiff, Nat.reduceAdd, Nat.reduceMul, Nat.reduceSub, Nat.reduceBEq, reduceCtorEq, ↓zR, zQ, Tr, StA, StT, wr_of c5, List.length_set, l5]
    exact hp .nilS _ OwL.nil ((P.trans (p4.trans p5)).set (by omega))
  have q51 := rdRow_pre p5 q41
  have q5v := rdRow_pre p5 q4v
  have r5c := rdRow_pre p5 r4c
  by_cases h6 : cs.length = 6
  · have e1 : adB m cs c = false := by unfold adB; rw [e, ec, decide_eq_true h6]; rfl
    unfold adC adN at hp
    rw [e1] at hp
    have n6 : ((cs.length : Int) == 6) = true := by rw [h6]; rfl
    simp (maxSteps := 1000000) (disch := first | omega | rfl | (simp only [zL, two63, room] <;> omega) | fail) only [↓reduceIte, ↓zP, zW, WOp, evOp, evBin, binI, binSh, binS, evNil, keyIs, keyEq, mkv, AV.cells, AV.sc, optv, bnd, env, put, Env.get, Env.set, Env.del, Env.dels, Env.init, res1, resL, resV, fillP, splice, newRow, Nat.reduceEqDiff, Nat.reduceLT, Nat.reduceLeDiff, Nat.reduceAdd, Nat.reduceMul, Nat.reduceSub, Nat.reduceBEq, reduceCtorEq, ↓zR, zQ, Tr, StA, StT, q5v, hv0, n6, wr_of c5, List.length_set, l5]
    exact hp .nilS _ OwL.nil ((P.trans (p4.trans p5)).set (by omega))
  · have e1 : adB m cs c = true := by unfold adB; rw [e, ec, decide_eq_false h6]; rfl
    unfold adC adN at hp
    rw [e1] at hp
    simp only [if_true] at hp
    have n6 : ((cs.length : Int) == 6) = false := by simp; omega
    have hs5 := hs.pre (P.trans (p4.trans p5))
    simp (maxSteps := 1000000) (disch := first | omega | rfl | (simp only [zL, two63, room] <;> omega) | fail) only [↓reduceIte, ↓zP, zW, WOp, evOp, evBin, binI, binSh, binS, evNil, keyIs, keyEq, mkv, AV.cells, AV.sc, optv, bnd, env, put, Env.get, Env.set, Env.del, Env.dels, Env.init, res1, resL, resV, fillP, splice, newRow, Nat.reduceEqDiff, Nat.reduceLT, Nat.reduceLeDiff, Nat.reduceAdd, Nat.reduceMul, Nat.reduceSub, Nat.reduceBEq, reduceCtorEq, ↓zR, zQ, Tr, StA, StT, q5v, hv0, n6, q51]
    refine w_drw ?_
    simp (maxSteps := 1000000) (disch := first | omega | rfl | (simp only [zL, two63, room] <;> omega) | fail) only [↓reduceIte, ↓zP, zW, WOp, evOp, evBin, binI, binSh, binS, evNil, keyIs, keyEq, mkv, AV.cells, AV.sc, optv, bnd, env, put, Env.get, Env.set, Env.del, Env.dels, Env.init, res1, resL, resV, fillP, splice, newRow, Nat.reduceEqDiff, Nat.reduceLT, Nat.reduceLeDiff, Nat.reduceAdd, Nat.reduceMul, Nat.reduceSub, Nat.reduceBEq, reduceCtorEq, ↓zR, zQ, Tr, StA, StT, q51, q5v]
    refine c_CloneC (by omega) hs5 ?_
    intro v6 h6 o6 p6
    have ha := q51
    have hd := q51
    obtain ⟨v7, h7, ha7, ho7, hp7⟩ := apL hlC scC ((o6.pre (Pre.push h6 (AO.row (encC c) 0 0 false))).old (Nat.le_refl _)) (p6.trans (Pre.push h6 (AO.row (encC c) 0 0 false))) c (by omega)
    have c7 : h7[g2.length]? = some (AO.row [.int .i64 0, .nilS] 0 0 false) := by rw [hp7.2 _ l5]; exact c5
    have l7 : g2.length < h7.length := by have := hp7.1; omega
    have w1 := (sl_cells ho7.slc).1
    have w2 := (sl_cells ho7.slc).2
    simp only [AV.cells] at w1
    unfold AV.sc at w2
    have q61 := rdRow_pre p6 q51
    have q6v := rdRow_pre p6 q5v
    have r6c := rdRow_pre p6 r5c
    have q71 := rdRow_pre hp7 q51
    have q7v := rdRow_pre hp7 q5v
    have r7c := rdRow_pre hp7 r5c
    have lh6 := rd_lt q61
    have lg6 := rd_lt r6c
    simp (maxSteps := 1000000) (disch := first | omega | rfl | (simp only [zL, two63, room] <;> omega) | fail) only [↓reduceIte, ↓zP, zW, WOp, evOp, evBin, binI, binSh, binS, evNil, keyIs, keyEq, mkv, AV.cells, AV.sc, optv, bnd, env, put, Env.get, Env.set, Env.del, Env.dels, Env.init, res1, resL, resV, fillP, splice, newRow, Nat.reduceEqDiff, Nat.reduceLT, Nat.reduceLeDiff, Nat.reduceAdd, Nat.reduceMul, Nat.reduceSub, Nat.reduceBEq, reduceCtorEq, ↓zR, zQ, Tr, StA, StT, q51, q5v, q61, q6v, q71, q7v, r5c, r6c, r7c, ha, hd, ha7, wr_of c7, List.length_set, l7, w1, w2]
    exact hp v7 _ (own_base (own_set (b := h5) ho7 (by omega)) (by have := P.1; have := p4.1; have := p5.1; omega)) (((P.trans p4).trans (p5.trans hp7)).set (by omega))
theorem c_sAddClue (n : Int) (c : Clu) {v : AV} {cs : List Clu} (hlen : cs.length < 2 ^ 63) {h : AH} (hs : Slc 3 encC h v cs) {post : AV → AH → Prop} (hp : ∀ v' h', OwL 3 encC h h' v' (adC n cs c) → Pre h h' → post (.tup [pzV (adN n cs c) v', .bool (adB n cs c)]) h') : S 546 [pzV n v, .agg (encC c)] h post k := by
  have hsc := (sl_cells hs).2
  unfold AV.sc at hsc
  have hv0 := fun g => Slc.lenV (hs) (g := g) (ρ := fun _ => _) (x := .t 0) rfl; simp only [evOp] at hv0
  have P1 := Pre.push h (AO.row [.int .i64 n, v] 0 0 false)
  obtain ⟨r1, r11, r1v⟩ := rowP h n v
  generalize hg1 : h ++ [AO.row [.int .i64 n, v] 0 0 false] = g1 at *
  have P2 := Pre.push g1 (AO.row (encC c) 0 0 false)
  have rc := rowC g1 c
  generalize hg2 : g1 ++ [AO.row (encC c) 0 0 false] = g2 at *
  have P3 := Pre.push g2 (AO.row [.int .i64 0, .nilS] 0 0 false)
  have z3 := zrow g2 (AO.row [.int .i64 0, .nilS] 0 0 false)
  have l3 : g2.length < (g2 ++ [AO.row [.int .i64 0, .nilS] 0 0 false]).length := by simp
  generalize hg3 : g2 ++ [AO.row [.int .i64 0, .nilS] 0 0 false] = g3 at *
  have P := P1.trans (P2.trans P3)
  have r3 := rdRow_pre (P2.trans P3) r1
  have r31 := rdRow_pre (P2.trans P3) r11
  have r3v := rdRow_pre (P2.trans P3) r1v
  have r3c := rdRow_pre P3 rc
  refine S_of rfl T546 ?_; unfold fi546
  simp (maxSteps := 1000000) (disch := first | omega | rfl | (simp only [zL, two63, room] <;> omega) | fail) only [↓reduceIte, ↓zP, zW, WOp, evOp, evBin, binI, binSh, binS, evNil, keyIs, keyEq, mkv, AV.cells, AV.sc, optv, bnd, env, put, Env.get, Env.set, Env.del, Env.dels, Env.init, res1, resL, resV, fillP, splice, newRow, Nat.reduceEqDiff, Nat.reduceLT, Nat.reduceLeDiff, Nat.reduceAdd, Nat.reduceMul, Nat.reduceSub, Nat.reduceBEq, reduceCtorEq, ↓zR, zQ, Tr, StA, StT, hsc, hg1, hg2, hg3, r3]
  refine c_pzGoodA n hlen (hs.pre P) ?_
  intro h4 p4
  have c4 : h4[g2.length]? = some (AO.row [.int .i64 0, .nilS] 0 0 false) := by rw [p4.2 _ l3]; exact z3
  have l4 : g2.length < h4.length := by have := p4.1; omega
  have gl : h.length < g2.length := by have := P2.1; have := P1.1; rw [← hg1] at *; simp at *; omega
  cases e : goodP n cs
  · have e1 : adB n cs c = false := by unfold adB; rw [e]; rfl
    unfold adC adN at hp
    rw [e1] at hp
    simp (maxSteps := 1000000) (disch := first | omega | rfl | (simp only [zL, two63, room] <;> omega) | fail) only [↓reduceIte, ↓zP, zW, WOp, evOp, evBin, binI, binSh, binS, evNil, keyIs, keyEq, mkv, AV.cells, AV.sc, optv, bnd, env, put, Env.get, Env.set, Env.del, Env.dels, Env.init, res1, resL, resV, fillP, splice, newRow, Nat.reduceEqDiff, Nat.reduceLT, Nat.reduceLeDiff, Nat.reduceAdd, Nat.reduceMul, Nat.reduceSub, Nat.reduceBEq, reduceCtorEq, ↓zR, zQ, Tr, StA, StT, wr_of c4, List.length_set, l4]
    exact hp .nilS _ OwL.nil ((P.trans p4).set (by omega))
  obtain ⟨m, rfl, m1, m5, m6, mok⟩ := goodP_iff e
  have hn5 : (1 : Int) ≤ (m : Int) ∧ (m : Int) ≤ 5 := by omega
  have q41 := rdRow_pre p4 r31
  have q4v := rdRow_pre p4 r3v
  have r4c := rdRow_pre p4 r3c
  have hb1 : (decide ((1 : Int) ≤ (m : Int) ∧ (m : Int) ≤ 5) && clueOk (m : Int) c) = clueOk (m : Int) c := by rw [decide_eq_true hn5]; rfl
  have hb2 : clueOk (m : Int) (c.1, c.2.1, c.2.2) = clueOk (m : Int) c := rfl
  simp (maxSteps := 1000000) (disch := first | omega | rfl | (simp only [zL, two63, room] <;> omega) | fail) only [↓reduceIte, ↓zP, zW, WOp, evOp, evBin, binI, binSh, binS, evNil, keyIs, keyEq, mkv, AV.cells, AV.sc, optv, bnd, env, put, Env.get, Env.set, Env.del, Env.dels, Env.init, res1, resL, resV, fillP, splice, newRow, Nat.reduceEqDiff, Nat.reduceLT, Nat.reduceLeDiff, Nat.reduceAdd, Nat.reduceMul, Nat.reduceSub, Nat.reduceBEq, reduceCtorEq, ↓zR, zQ, Tr, StA, StT, q41, r4c]
  refine c_pzClue m c.1 c.2.1 c.2.2 (by omega) ?_
  intro h5 p5
  rw [hb2]
  have c5 : h5[g2.length]? = some (AO.row [.int .i64 0, .nilS] 0 0 false) := by rw [p5.2 _ l4]; exact c4
  have l5 : g2.length < h5.length := by have := p5.1; omega
  cases ec : clueOk (m : Int) c
  · have e1 : adB m cs c = false := by unfold adB; rw [e, ec]; rfl
    unfold adC adN at hp
    rw [e1] at hp
    simp (maxSteps := 1000000) (disch := first | omega | rfl | (simp only [zL, two63, room] <;> omega) | fail) only [↓reduceIte, ↓zP, zW, WOp, evOp, evBin, binI, binSh, binS, evNil, keyIs, keyEq, mkv, AV.cells, AV.sc, optv, bnd, env, put, Env.get, Env.set, Env.del, Env.dels, Env.init, res1, resL, resV, fillP, splice, newRow, Nat.reduceEqDiff, Nat.reduceLT, Nat.reduceLeDiff, Nat.reduceAdd, Nat.reduceMul, Nat.reduceSub, Nat.reduceBEq, reduceCtorEq, ↓zR, zQ, Tr, StA, StT, wr_of c5, List.length_set, l5]
    exact hp .nilS _ OwL.nil ((P.trans (p4.trans p5)).set (by omega))
  have q51 := rdRow_pre p5 q41
  have q5v := rdRow_pre p5 q4v
  have r5c := rdRow_pre p5 r4c
  by_cases h6 : cs.length = 6
  · have e1 : adB m cs c = false := by unfold adB; rw [e, ec, decide_eq_true h6]; rfl
    unfold adC adN at hp
    rw [e1] at hp
    have n6 : ((cs.length : Int) == 6) = true := by rw [h6]; rfl
    simp (maxSteps := 1000000) (disch := first | omega | rfl | (simp only [zL, two63, room] <;> omega) | fail) only [↓reduceIte, ↓zP, zW, WOp, evOp, evBin, binI, binSh, binS, evNil, keyIs, keyEq, mkv, AV.cells, AV.sc, optv, bnd, env, put, Env.get, Env.set, Env.del, Env.dels, Env.init, res1, resL, resV, fillP, splice, newRow, Nat.reduceEqDiff, Nat.reduceLT, Nat.reduceLeDiff, Nat.reduceAdd, Nat.reduceMul, Nat.reduceSub, Nat.reduceBEq, reduceCtorEq, ↓zR, zQ, Tr, StA, StT, q5v, hv0, n6, wr_of c5, List.length_set, l5]
    exact hp .nilS _ OwL.nil ((P.trans (p4.trans p5)).set (by omega))
  · have e1 : adB m cs c = true := by unfold adB; rw [e, ec, decide_eq_false h6]; rfl
    unfold adC adN at hp
    rw [e1] at hp
    simp only [if_true] at hp
    have n6 : ((cs.length : Int) == 6) = false := by simp; omega
    have hs5 := hs.pre (P.trans (p4.trans p5))
    rcases hs5.cases with ⟨rfl, rfl⟩ | ⟨rfl, rfl⟩ | ⟨cc, kk, off, rfl⟩
    · have ha : apRow h5 3 .empS 0 [] = some (.empS, h5) := rfl
      have o6 : OwL 3 encC h5 h5 .empS ([] : List Clu) := OwL.emp
      have p6 := Pre.refl h5
      have hd := q51
      simp (maxSteps := 1000000) (disch := first | omega | rfl | (simp only [zL, two63, room] <;> omega) | fail) only [↓reduceIte, ↓zP, zW, WOp, evOp, evBin, binI, binSh, binS, evNil, keyIs, keyEq, mkv, AV.cells, AV.sc, optv, bnd, env, put, Env.get, Env.set, Env.del, Env.dels, Env.init, res1, resL, resV, fillP, splice, newRow, Nat.reduceEqDiff, Nat.reduceLT, Nat.reduceLeDiff, Nat.reduceAdd, Nat.reduceMul, Nat.reduceSub, Nat.reduceBEq, reduceCtorEq, ↓zR, zQ, Tr, StA, StT, q5v, n6, q51]
      refine w_drw ?_
      obtain ⟨v7, h7, ha7, ho7, hp7⟩ := apL hlC scC ((o6.pre (Pre.push h5 (AO.row (encC c) 0 0 false))).old (Nat.le_refl _)) (p6.trans (Pre.push h5 (AO.row (encC c) 0 0 false))) c (by omega)
      have c7 : h7[g2.length]? = some (AO.row [.int .i64 0, .nilS] 0 0 false) := by rw [hp7.2 _ l5]; exact c5
      have l7 : g2.length < h7.length := by have := hp7.1; omega
      have w1 := (sl_cells ho7.slc).1
      have w2 := (sl_cells ho7.slc).2
      simp only [AV.cells] at w1
      unfold AV.sc at w2
      have q61 := rdRow_pre p6 q51
      have q6v := rdRow_pre p6 q5v
      have r6c := rdRow_pre p6 r5c
      have q71 := rdRow_pre hp7 q51
      have q7v := rdRow_pre hp7 q5v
      have r7c := rdRow_pre hp7 r5c
      have lh6 := rd_lt q61
      have lg6 := rd_lt r6c
      simp (maxSteps := 1000000) (disch := first | omega | rfl | (simp only [zL, two63, room] <;> omega) | fail) only [↓reduceIte, ↓zP, zW, WOp, evOp, evBin, binI, binSh, binS, evNil, keyIs, keyEq, mkv, AV.cells, AV.sc, optv, bnd, env, put, Env.get, Env.set, Env.del, Env.dels, Env.init, res1, resL, resV, fillP, splice, newRow, Nat.reduceEqDiff, Nat.reduceLT, Nat.reduceLeDiff, Nat.reduceAdd, Nat.reduceMul, Nat.reduceSub, Nat.reduceBEq, reduceCtorEq, ↓zR, zQ, Tr, StA, StT, q51, q5v, q61, q6v, q71, q7v, r5c, r6c, r7c, ha, hd, ha7, wr_of c7, List.length_set, l7, w1, w2]
      exact hp v7 _ (own_base (own_set (b := h5) ho7 (by omega)) (by have := P.1; have := p4.1; have := p5.1; omega)) (((P.trans p4).trans (p5.trans hp7)).set (by omega))
    · have ha : apRow h5 3 .empS 0 [] = some (.empS, h5) := rfl
      have o6 : OwL 3 encC h5 h5 .empS ([] : List Clu) := OwL.emp
      have p6 := Pre.refl h5
      have hd := q51
      simp (maxSteps := 1000000) (disch := first | omega | rfl | (simp only [zL, two63, room] <;> omega) | fail) only [↓reduceIte, ↓zP, zW, WOp, evOp, evBin, binI, binSh, binS, evNil, keyIs, keyEq, mkv, AV.cells, AV.sc, optv, bnd, env, put, Env.get, Env.set, Env.del, Env.dels, Env.init, res1, resL, resV, fillP, splice, newRow, Nat.reduceEqDiff, Nat.reduceLT, Nat.reduceLeDiff, Nat.reduceAdd, Nat.reduceMul, Nat.reduceSub, Nat.reduceBEq, reduceCtorEq, ↓zR, zQ, Tr, StA, StT, q5v, n6, q51]
      refine w_drw ?_
      obtain ⟨v7, h7, ha7, ho7, hp7⟩ := apL hlC scC ((o6.pre (Pre.push h5 (AO.row (encC c) 0 0 false))).old (Nat.le_refl _)) (p6.trans (Pre.push h5 (AO.row (encC c) 0 0 false))) c (by omega)
      have c7 : h7[g2.length]? = some (AO.row [.int .i64 0, .nilS] 0 0 false) := by rw [hp7.2 _ l5]; exact c5
      have l7 : g2.length < h7.length := by have := hp7.1; omega
      have w1 := (sl_cells ho7.slc).1
      have w2 := (sl_cells ho7.slc).2
      simp only [AV.cells] at w1
      unfold AV.sc at w2
      have q61 := rdRow_pre p6 q51
      have q6v := rdRow_pre p6 q5v
      have r6c := rdRow_pre p6 r5c
      have q71 := rdRow_pre hp7 q51
      have q7v := rdRow_pre hp7 q5v
      have r7c := rdRow_pre hp7 r5c
      have lh6 := rd_lt q61
      have lg6 := rd_lt r6c
      simp (maxSteps := 1000000) (disch := first | omega | rfl | (simp only [zL, two63, room] <;> omega) | fail) only [↓reduceIte, ↓zP, zW, WOp, evOp, evBin, binI, binSh, binS, evNil, keyIs, keyEq, mkv, AV.cells, AV.sc, optv, bnd, env, put, Env.get, Env.set, Env.del, Env.dels, Env.init, res1, resL, resV, fillP, splice, newRow, Nat.reduceEqDiff, Nat.reduceLT, Nat.reduceLeDiff, Nat.reduceAdd, Nat.reduceMul, Nat.reduceSub, Nat.reduceBEq, reduceCtorEq, ↓zR, zQ, Tr, StA, StT, q51, q5v, q61, q6v, q71, q7v, r5c, r6c, r7c, ha, hd, ha7, wr_of c7, List.length_set, l7, w1, w2]
      exact hp v7 _ (own_base (own_set (b := h5) ho7 (by omega)) (by have := P.1; have := p4.1; have := p5.1; omega)) (((P.trans p4).trans (p5.trans hp7)).set (by omega))
    · obtain ⟨v6, h6, ha, o6, p6⟩ := apM hlC scC (OwL.emp (h0 := h5) (h := h5)) (Pre.refl h5) cs (by simp; omega)
      rw [List.nil_append] at o6
      have hd := hs5.all.2.2
      simp (maxSteps := 1000000) (disch := first | omega | rfl | (simp only [zL, two63, room] <;> omega) | fail) only [↓reduceIte, ↓zP, zW, WOp, evOp, evBin, binI, binSh, binS, evNil, keyIs, keyEq, mkv, AV.cells, AV.sc, optv, bnd, env, put, Env.get, Env.set, Env.del, Env.dels, Env.init, res1, resL, resV, fillP, splice, newRow, Nat.reduceEqDiff, Nat.reduceLT, Nat.reduceLeDiff, Nat.reduceAdd, Nat.reduceMul, Nat.reduceSub, Nat.reduceBEq, reduceCtorEq, ↓zR, zQ, Tr, StA, StT, q5v, n6, q51]
      refine w_drw ?_
      obtain ⟨v7, h7, ha7, ho7, hp7⟩ := apL hlC scC ((o6.pre (Pre.push h6 (AO.row (encC c) 0 0 false))).old (Nat.le_refl _)) (p6.trans (Pre.push h6 (AO.row (encC c) 0 0 false))) c (by omega)
      have c7 : h7[g2.length]? = some (AO.row [.int .i64 0, .nilS] 0 0 false) := by rw [hp7.2 _ l5]; exact c5
      have l7 : g2.length < h7.length := by have := hp7.1; omega
      have w1 := (sl_cells ho7.slc).1
      have w2 := (sl_cells ho7.slc).2
      simp only [AV.cells] at w1
      unfold AV.sc at w2
      have q61 := rdRow_pre p6 q51
      have q6v := rdRow_pre p6 q5v
      have r6c := rdRow_pre p6 r5c
      have q71 := rdRow_pre hp7 q51
      have q7v := rdRow_pre hp7 q5v
      have r7c := rdRow_pre hp7 r5c
      have lh6 := rd_lt q61
      have lg6 := rd_lt r6c
      simp (maxSteps := 1000000) (disch := first | omega | rfl | (simp only [zL, two63, room] <;> omega) | fail) only [↓reduceIte, ↓zP, zW, WOp, evOp, evBin, binI, binSh, binS, evNil, keyIs, keyEq, mkv, AV.cells, AV.sc, optv, bnd, env, put, Env.get, Env.set, Env.del, Env.dels, Env.init, res1, resL, resV, fillP, splice, newRow, Nat.reduceEqDiff, Nat.reduceLT, Nat.reduceLeDiff, Nat.reduceAdd, Nat.reduceMul, Nat.reduceSub, Nat.reduceBEq, reduceCtorEq, ↓zR, zQ, Tr, StA, StT, q51, q5v, q61, q6v, q71, q7v, r5c, r6c, r7c, ha, hd, ha7, wr_of c7, List.length_set, l7, w1, w2]
      exact hp v7 _ (own_base (own_set (b := h5) ho7 (by omega)) (by have := P.1; have := p4.1; have := p5.1; omega)) (((P.trans p4).trans (p5.trans hp7)).set (by omega))
theorem c_DropClue (n j : Int) {v : AV} {cs : List Clu} (hlen : cs.length < 2 ^ 63) {h : AH} (hs : Slc 3 encC h v cs) {post : AV → AH → Prop} (hp : ∀ v' h', OwW 3 encC h h' v' (drC n cs j) → Pre h h' → post (.tup [pzV (drN n cs j) v', .bool (drB n cs j)]) h') : S 547 [pzV n v, .int .i64 j] h post k := by
  have hsc := (sl_cells hs).2
  unfold AV.sc at hsc
  have hv0 := fun g => Slc.lenV (hs) (g := g) (ρ := fun _ => _) (x := .t 0) rfl; simp only [evOp] at hv0
  have P1 := Pre.push h (AO.row [.int .i64 n, v] 0 0 false)
  obtain ⟨r1, r11, r1v⟩ := rowP h n v
  have gl : h.length < (h ++ [AO.row [.int .i64 n, v] 0 0 false]).length := by simp
  generalize hg1 : h ++ [AO.row [.int .i64 n, v] 0 0 false] = g1 at *
  have P3 := Pre.push g1 (AO.row [.int .i64 0, .nilS] 0 0 false)
  have z3 := zrow g1 (AO.row [.int .i64 0, .nilS] 0 0 false)
  have l3 : g1.length < (g1 ++ [AO.row [.int .i64 0, .nilS] 0 0 false]).length := by simp
  generalize hg3 : g1 ++ [AO.row [.int .i64 0, .nilS] 0 0 false] = g3 at *
  have P := P1.trans P3
  have r3 := rdRow_pre P3 r1
  have r31 := rdRow_pre P3 r11
  have r3v := rdRow_pre P3 r1v
  refine S_of rfl T547 ?_; unfold fi547
  simp (maxSteps := 1000000) (disch := first | omega | rfl | (simp only [zL, two63, room] <;> omega) | fail) only [↓reduceIte, ↓zP, zW, WOp, evOp, evBin, binI, binSh, binS, evNil, keyIs, keyEq, mkv, AV.cells, AV.sc, optv, bnd, env, put, Env.get, Env.set, Env.del, Env.dels, Env.init, res1, resL, resV, fillP, splice, newRow, Nat.reduceEqDiff, Nat.reduceLT, Nat.reduceLeDiff, Nat.reduceAdd, Nat.reduceMul, Nat.reduceSub, Nat.reduceBEq, reduceCtorEq, ↓zR, zQ, Tr, StA, StT, hsc, hg1, hg3, r3]
  refine c_IsPuzzleA n hlen (hs.pre P) ?_
  intro h4 p4
  have c4 : h4[g1.length]? = some (AO.row [.int .i64 0, .nilS] 0 0 false) := by rw [p4.2 _ l3]; exact z3
  have l4 : g1.length < h4.length := by have := p4.1; omega
  cases e : goodP n cs
  · have e1 : drB n cs j = false := by unfold drB; rw [e]; rfl
    unfold drC drN at hp
    rw [e1] at hp
    simp (maxSteps := 1000000) (disch := first | omega | rfl | (simp only [zL, two63, room] <;> omega) | fail) only [↓reduceIte, ↓zP, zW, WOp, evOp, evBin, binI, binSh, binS, evNil, keyIs, keyEq, mkv, AV.cells, AV.sc, optv, bnd, env, put, Env.get, Env.set, Env.del, Env.dels, Env.init, res1, resL, resV, fillP, splice, newRow, Nat.reduceEqDiff, Nat.reduceLT, Nat.reduceLeDiff, Nat.reduceAdd, Nat.reduceMul, Nat.reduceSub, Nat.reduceBEq, reduceCtorEq, ↓zR, zQ, Tr, StA, StT, wr_of c4, List.length_set, l4]
    exact hp .nilS _ OwL.nil.w ((P.trans p4).set (by omega))
  obtain ⟨m, rfl, m1, m5, m6, mok⟩ := goodP_iff e
  have q41 := rdRow_pre p4 r31
  have q4v := rdRow_pre p4 r3v
  have hsub : IntKind.i64.wrap ((cs.length : Int) - 1) = (cs.length : Int) - 1 := wrap_i (by omega)
  by_cases hj : 0 ≤ j ∧ j ≤ (cs.length : Int) - 1
  · have e1 : drB m cs j = true := by unfold drB; rw [e, decide_eq_true hj]; rfl
    unfold drC drN at hp
    rw [e1] at hp
    simp only [if_true] at hp
    obtain ⟨i, rfl⟩ : ∃ i : Nat, j = i := ⟨j.toNat, by omega⟩
    have hi : i < cs.length := by omega
    have hsp : cs = cs.take i ++ cs[i] :: cs.drop (i + 1) := by rw [← List.drop_eq_getElem_cons, List.take_append_drop]
    have hpl : (cs.take i).length = i := by rw [List.length_take]; omega
    have hs4 : Slc 3 encC h4 v (cs.take i ++ cs[i] :: cs.drop (i + 1)) := by rw [← hsp]; exact hs.pre (P.trans p4)
    have key := fun post => woSpec v (cs.take i) (cs.drop (i + 1)) cs[i] h4 post (by rw [hpl, List.length_drop]; omega) hs4
    rw [hpl] at key
    simp (maxSteps := 1000000) (disch := first | omega | rfl | (simp only [zL, two63, room] <;> omega) | fail) only [↓reduceIte, ↓zP, zW, WOp, evOp, evBin, binI, binSh, binS, evNil, keyIs, keyEq, mkv, AV.cells, AV.sc, optv, bnd, env, put, Env.get, Env.set, Env.del, Env.dels, Env.init, res1, resL, resV, fillP, splice, newRow, Nat.reduceEqDiff, Nat.reduceLT, Nat.reduceLeDiff, Nat.reduceAdd, Nat.reduceMul, Nat.reduceSub, Nat.reduceBEq, reduceCtorEq, ↓zR, zQ, Tr, StA, StT, q4v, hv0, hsub, e_within, e_l1In, hj, q41]
    refine w_drw ?_
    simp (maxSteps := 1000000) (disch := first | omega | rfl | (simp only [zL, two63, room] <;> omega) | fail) only [↓reduceIte, ↓zP, zW, WOp, evOp, evBin, binI, binSh, binS, evNil, keyIs, keyEq, mkv, AV.cells, AV.sc, optv, bnd, env, put, Env.get, Env.set, Env.del, Env.dels, Env.init, res1, resL, resV, fillP, splice, newRow, Nat.reduceEqDiff, Nat.reduceLT, Nat.reduceLeDiff, Nat.reduceAdd, Nat.reduceMul, Nat.reduceSub, Nat.reduceBEq, reduceCtorEq, ↓zR, zQ, Tr, StA, StT, q4v, q41]
    refine key _ ?_
    intro v6 h6 o6 p6
    have o6 := o6
    have o6 : OwW 3 encC h4 h6 v6 (wo cs i) := o6
    have w1 := (sl_cells (o6.slc hlC)).1
    have w2 := (sl_cells (o6.slc hlC)).2
    simp only [AV.cells] at w1
    unfold AV.sc at w2
    have c6 : h6[g1.length]? = some (AO.row [.int .i64 0, .nilS] 0 0 false) := by rw [p6.2 _ l4]; exact c4
    have l6 : g1.length < h6.length := by have := p6.1; omega
    have q61 := rdRow_pre p6 q41
    simp (maxSteps := 1000000) (disch := first | omega | rfl | (simp only [zL, two63, room] <;> omega) | fail) only [↓reduceIte, ↓zP, zW, WOp, evOp, evBin, binI, binSh, binS, evNil, keyIs, keyEq, mkv, AV.cells, AV.sc, optv, bnd, env, put, Env.get, Env.set, Env.del, Env.dels, Env.init, res1, resL, resV, fillP, splice, newRow, Nat.reduceEqDiff, Nat.reduceLT, Nat.reduceLeDiff, Nat.reduceAdd, Nat.reduceMul, Nat.reduceSub, Nat.reduceBEq, reduceCtorEq, ↓zR, zQ, Tr, StA, StT, q61, q41, wr_of c6, List.length_set, l6, w1, w2]
    exact hp v6 _ ((o6.set (by omega)).base (by have := P.1; have := p4.1; omega)) (((P.trans p4).trans p6).set (by omega))
  · have e1 : drB m cs j = false := by unfold drB; rw [e, decide_eq_false hj]; rfl
    unfold drC drN at hp
    rw [e1] at hp
    simp (maxSteps := 1000000) (disch := first | omega | rfl | (simp only [zL, two63, room] <;> omega) | fail) only [↓reduceIte, ↓zP, zW, WOp, evOp, evBin, binI, binSh, binS, evNil, keyIs, keyEq, mkv, AV.cells, AV.sc, optv, bnd, env, put, Env.get, Env.set, Env.del, Env.dels, Env.init, res1, resL, resV, fillP, splice, newRow, Nat.reduceEqDiff, Nat.reduceLT, Nat.reduceLeDiff, Nat.reduceAdd, Nat.reduceMul, Nat.reduceSub, Nat.reduceBEq, reduceCtorEq, ↓zR, zQ, Tr, StA, StT, q4v, hv0, hsub, e_within, e_l1In, hj, wr_of c4, List.length_set, l4]
    exact hp .nilS _ OwL.nil.w ((P.trans p4).set (by omega))
theorem c_sDropClue (n j : Int) {v : AV} {cs : List Clu} (hlen : cs.length < 2 ^ 63) {h : AH} (hs : Slc 3 encC h v cs) {post : AV → AH → Prop} (hp : ∀ v' h', OwW 3 encC h h' v' (drC n cs j) → Pre h h' → post (.tup [pzV (drN n cs j) v', .bool (drB n cs j)]) h') : S 548 [pzV n v, .int .i64 j] h post k := by
  have hsc := (sl_cells hs).2
  unfold AV.sc at hsc
  have hv0 := fun g => Slc.lenV (hs) (g := g) (ρ := fun _ => _) (x := .t 0) rfl; simp only [evOp] at hv0
  have P1 := Pre.push h (AO.row [.int .i64 n, v] 0 0 false)
  obtain ⟨r1, r11, r1v⟩ := rowP h n v
  have gl : h.length < (h ++ [AO.row [.int .i64 n, v] 0 0 false]).length := by simp
  generalize hg1 : h ++ [AO.row [.int .i64 n, v] 0 0 false] = g1 at *
  have P3 := Pre.push g1 (AO.row [.int .i64 0, .nilS] 0 0 false)
  have z3 := zrow g1 (AO.row [.int .i64 0, .nilS] 0 0 false)
  have l3 : g1.length < (g1 ++ [AO.row [.int .i64 0, .nilS] 0 0 false]).length := by simp
  generalize hg3 : g1 ++ [AO.row [.int .i64 0, .nilS] 0 0 false] = g3 at *
  have P := P1.trans P3
  have r3 := rdRow_pre P3 r1
  have r31 := rdRow_pre P3 r11
  have r3v := rdRow_pre P3 r1v
  refine S_of rfl T548 ?_; unfold fi548
  simp (maxSteps := 1000000) (disch := first | omega | rfl | (simp only [zL, two63, room] <;> omega) | fail) only [↓reduceIte, ↓zP, zW, WOp, evOp, evBin, binI, binSh, binS, evNil, keyIs, keyEq, mkv, AV.cells, AV.sc, optv, bnd, env, put, Env.get, Env.set, Env.del, Env.dels, Env.init, res1, resL, resV, fillP, splice, newRow, Nat.reduceEqDiff, Nat.reduceLT, Nat.reduceLeDiff, Nat.reduceAdd, Nat.reduceMul, Nat.reduceSub, Nat.reduceBEq, reduceCtorEq, ↓zR, zQ, Tr, StA, StT, hsc, hg1, hg3, r3]
  refine c_pzGoodA n hlen (hs.pre P) ?_
  intro h4 p4
  have c4 : h4[g1.length]? = some (AO.row [.int .i64 0, .nilS] 0 0 false) := by rw [p4.2 _ l3]; exact z3
  have l4 : g1.length < h4.length := by have := p4.1; omega
  cases e : goodP n cs
  · have e1 : drB n cs j = false := by unfold drB; rw [e]; rfl
    unfold drC drN at hp
    rw [e1] at hp
    simp (maxSteps := 1000000) (disch := first | omega | rfl | (simp only [zL, two63, room] <;> omega) | fail) only [↓reduceIte, ↓zP, zW, WOp, evOp, evBin, binI, binSh, binS, evNil, keyIs, keyEq, mkv, AV.cells, AV.sc, optv, bnd, env, put, Env.get, Env.set, Env.del, Env.dels, Env.init, res1, resL, resV, fillP, splice, newRow, Nat.reduceEqDiff, Nat.reduceLT, Nat.reduceLeDiff, Nat.reduceAdd, Nat.reduceMul, Nat.reduceSub, Nat.reduceBEq, reduceCtorEq, ↓zR, zQ, Tr, StA, StT, wr_of c4, List.length_set, l4]
    exact hp .nilS _ OwL.nil.w ((P.trans p4).set (by omega))
  obtain ⟨m, rfl, m1, m5, m6, mok⟩ := goodP_iff e
  have q41 := rdRow_pre p4 r31
  have q4v := rdRow_pre p4 r3v
  have hsub : IntKind.i64.wrap ((cs.length : Int) - 1) = (cs.length : Int) - 1 := wrap_i (by omega)
  by_cases hj : 0 ≤ j ∧ j ≤ (cs.length : Int) - 1
  · have e1 : drB m cs j = true := by unfold drB; rw [e, decide_eq_true hj]; rfl
    unfold drC drN at hp
    rw [e1] at hp
    simp only [if_true] at hp
    obtain ⟨i, rfl⟩ : ∃ i : Nat, j = i := ⟨j.toNat, by omega⟩
    have hi : i < cs.length := by omega
    have hsp : cs = cs.take i ++ cs[i] :: cs.drop (i + 1) := by rw [← List.drop_eq_getElem_cons, List.take_append_drop]
    have hpl : (cs.take i).length = i := by rw [List.length_take]; omega
    have hs4 : Slc 3 encC h4 v (cs.take i ++ cs[i] :: cs.drop (i + 1)) := by rw [← hsp]; exact hs.pre (P.trans p4)
    have key := fun post => c_pzWithout (h := h4) (post := post) (by rw [hpl, List.length_drop]; omega) hs4
    rw [hpl] at key
    simp (maxSteps := 1000000) (disch := first | omega | rfl | (simp only [zL, two63, room] <;> omega) | fail) only [↓reduceIte, ↓zP, zW, WOp, evOp, evBin, binI, binSh, binS, evNil, keyIs, keyEq, mkv, AV.cells, AV.sc, optv, bnd, env, put, Env.get, Env.set, Env.del, Env.dels, Env.init, res1, resL, resV, fillP, splice, newRow, Nat.reduceEqDiff, Nat.reduceLT, Nat.reduceLeDiff, Nat.reduceAdd, Nat.reduceMul, Nat.reduceSub, Nat.reduceBEq, reduceCtorEq, ↓zR, zQ, Tr, StA, StT, q4v, hv0, hsub, e_within, e_l1In, hj, q41]
    refine w_drw ?_
    simp (maxSteps := 1000000) (disch := first | omega | rfl | (simp only [zL, two63, room] <;> omega) | fail) only [↓reduceIte, ↓zP, zW, WOp, evOp, evBin, binI, binSh, binS, evNil, keyIs, keyEq, mkv, AV.cells, AV.sc, optv, bnd, env, put, Env.get, Env.set, Env.del, Env.dels, Env.init, res1, resL, resV, fillP, splice, newRow, Nat.reduceEqDiff, Nat.reduceLT, Nat.reduceLeDiff, Nat.reduceAdd, Nat.reduceMul, Nat.reduceSub, Nat.reduceBEq, reduceCtorEq, ↓zR, zQ, Tr, StA, StT, q4v, q41]
    refine key _ ?_
    intro v6 h6 o6 p6
    replace o6 := o6.w
    have o6 : OwW 3 encC h4 h6 v6 (wo cs i) := o6
    have w1 := (sl_cells (o6.slc hlC)).1
    have w2 := (sl_cells (o6.slc hlC)).2
    simp only [AV.cells] at w1
    unfold AV.sc at w2
    have c6 : h6[g1.length]? = some (AO.row [.int .i64 0, .nilS] 0 0 false) := by rw [p6.2 _ l4]; exact c4
    have l6 : g1.length < h6.length := by have := p6.1; omega
    have q61 := rdRow_pre p6 q41
    simp (maxSteps := 1000000) (disch := first | omega | rfl | (simp only [zL, two63, room] <;> omega) | fail) only [↓reduceIte, ↓zP, zW, WOp, evOp, evBin, binI, binSh, binS, evNil, keyIs, keyEq, mkv, AV.cells, AV.sc, optv, bnd, env, put, Env.get, Env.set, Env.del, Env.dels, Env.init, res1, resL, resV, fillP, splice, newRow, Nat.reduceEqDiff, Nat.reduceLT, Nat.reduceLeDiff, Nat.reduceAdd, Nat.reduceMul, Nat.reduceSub, Nat.reduceBEq, reduceCtorEq, ↓zR, zQ, Tr, StA, StT, q61, q41, wr_of c6, List.length_set, l6, w1, w2]
    exact hp v6 _ ((o6.set (by omega)).base (by have := P.1; have := p4.1; omega)) (((P.trans p4).trans p6).set (by omega))
  · have e1 : drB m cs j = false := by unfold drB; rw [e, decide_eq_false hj]; rfl
    unfold drC drN at hp
    rw [e1] at hp
    simp (maxSteps := 1000000) (disch := first | omega | rfl | (simp only [zL, two63, room] <;> omega) | fail) only [↓reduceIte, ↓zP, zW, WOp, evOp, evBin, binI, binSh, binS, evNil, keyIs, keyEq, mkv, AV.cells, AV.sc, optv, bnd, env, put, Env.get, Env.set, Env.del, Env.dels, Env.init, res1, resL, resV, fillP, splice, newRow, Nat.reduceEqDiff, Nat.reduceLT, Nat.reduceLeDiff, Nat.reduceAdd, Nat.reduceMul, Nat.reduceSub, Nat.reduceBEq, reduceCtorEq, ↓zR, zQ, Tr, StA, StT, q4v, hv0, hsub, e_within, e_l1In, hj, wr_of c4, List.length_set, l4]
    exact hp .nilS _ OwL.nil.w ((P.trans p4).set (by omega))
end Go.Proofs.YtnamhjdfegohbaaGreatDoor.Ab

/- PUZZLES made of a line: both sides; puzzles and texts compared by the laws. -/
namespace Go.Proofs.YtnamhjdfegohbaaGreatDoor.Ab
open Go
set_option maxRecDepth 100000
set_option maxHeartbeats 4000000

/-! ### Puzzles and texts that are alike -/
theorem seqCx (a b c : Int) : seqL [0, 0, 0] [.int .i64 a, .int .i64 b, .int .i64 c] [.int .i64 a, .int .i64 b, .int .i64 c] = some true := by
  simp [seqL, keyIs, keyEq]
theorem lp_nPuzzle {v u : AV} {L : List Clu} (hlen : L.length < 2 ^ 30) {n : Int} {r1 r2 : Nat} {h : AH} (hr1 : rdRow h r1 0 1 1 = some [v]) (hr2 : rdRow h r2 0 1 1 = some [u]) (hs : Slc 3 encC h v L) (ht : Slc 3 encC h u L) {R : X → Env → AH → Prop} (hR : R (.exit 0) [] h) : ∀ (rest pre : List Clu), L = pre ++ rest →
    Cx (.loop lp542_0) [(2, .ptr r1 0 0 2), (3, .ptr r2 0 0 2), (22, .int .i64 L.length), (23, .int .i64 pre.length)] h R k k
  | [], pre, hL => by
    obtain rfl : L = pre := by simpa using hL
    rw [w_loopb (c := lp542_0) (d := lb542_0) rfl]; unfold lb542_0
    simp (maxSteps := 1000000) (disch := first | omega | rfl | (simp only [zL, two63, room] <;> omega) | fail) only [↓reduceIte, ↓zP, zW, WOp, evOp, evBin, binI, binSh, binS, evNil, keyIs, keyEq, mkv, AV.cells, AV.sc, optv, bnd, env, put, Env.get, Env.set, Env.del, Env.dels, Env.init, res1, resL, resV, fillP, splice, newRow, Nat.reduceEqDiff, Nat.reduceLT, Nat.reduceLeDiff, Nat.reduceAdd, Nat.reduceMul, Nat.reduceSub, Nat.reduceBEq, reduceCtorEq, ↓zR, zQ, Tr, StA, StT]
    exact hR
  | x :: rest, pre, hL => by
    have ih := lp_nPuzzle hlen (n := n) hr1 hr2 hs ht (R := R) hR rest (pre ++ [x])
    have hl : L.length = pre.length + 1 + rest.length := by rw [hL]; simp; omega
    have hs' := hs
    have ht' := ht
    rw [hL] at hs' ht'
    obtain ⟨d1, k1, o1, hve, hq1⟩ := hs'.at hlC
    obtain ⟨d2, k2, o2, hue, hq2⟩ := ht'.at hlC
    rw [← hL] at hve hue
    subst hve
    subst hue
    have hlt : (pre.length : Int) < (L.length : Int) := by omega
    have hw1 : (pre.length : Int) + 1 = ((pre ++ [x]).length : Int) := by simp
    have hq1' : rdRow h d1 k1 (o1 + pre.length * 3) 3 = some [.int .i64 x.1, .int .i64 x.2.1, .int .i64 x.2.2] := hq1
    have hq2' : rdRow h d2 k2 (o2 + pre.length * 3) 3 = some [.int .i64 x.1, .int .i64 x.2.1, .int .i64 x.2.2] := hq2
    rw [w_loopb (c := lp542_0) (d := lb542_0) rfl]; unfold lb542_0
    simp (maxSteps := 1000000) (disch := first | omega | rfl | (simp only [zL, two63, room] <;> omega) | fail) only [↓reduceIte, ↓zP, zW, WOp, evOp, evBin, binI, binSh, binS, evNil, keyIs, keyEq, mkv, AV.cells, AV.sc, optv, bnd, env, put, Env.get, Env.set, Env.del, Env.dels, Env.init, res1, resL, resV, fillP, splice, newRow, Nat.reduceEqDiff, Nat.reduceLT, Nat.reduceLeDiff, Nat.reduceAdd, Nat.reduceMul, Nat.reduceSub, Nat.reduceBEq, reduceCtorEq, ↓zR, zQ, Tr, StA, StT, hlt, hr1, hr2, hq1', hq2', seqCx]
    simp (maxSteps := 1000000) (disch := first | omega | rfl | (simp only [zL, two63, room] <;> omega) | fail) only [↓reduceIte, ↓zP, zW, WOp, evOp, evBin, binI, binSh, binS, evNil, keyIs, keyEq, mkv, AV.cells, AV.sc, optv, bnd, env, put, Env.get, Env.set, Env.del, Env.dels, Env.init, res1, resL, resV, fillP, splice, newRow, Nat.reduceEqDiff, Nat.reduceLT, Nat.reduceLeDiff, Nat.reduceAdd, Nat.reduceMul, Nat.reduceSub, Nat.reduceBEq, reduceCtorEq, ↓zR, zQ, Tr, StA, StT, hw1]
    rw [w_loopn (c := lp542_0) rfl]
    simp (maxSteps := 1000000) (disch := first | omega | rfl | (simp only [zL, two63, room] <;> omega) | fail) only [↓reduceIte, ↓zP, zW, WOp, evOp, evBin, binI, binSh, binS, evNil, keyIs, keyEq, mkv, AV.cells, AV.sc, optv, bnd, env, put, Env.get, Env.set, Env.del, Env.dels, Env.init, res1, resL, resV, fillP, splice, newRow, Nat.reduceEqDiff, Nat.reduceLT, Nat.reduceLeDiff, Nat.reduceAdd, Nat.reduceMul, Nat.reduceSub, Nat.reduceBEq, reduceCtorEq, ↓zR, zQ, Tr, StA, StT]
    exact ih (by rw [hL]; simp)
theorem c_nPuzzle (n : Int) {v u : AV} {L : List Clu} (hlen : L.length < 2 ^ 30) {h : AH} (hs : Slc 3 encC h v L) (ht : Slc 3 encC h u L) {post : AV → AH → Prop} (hp : ∀ h', Pre h h' → post (.bool true) h') : S 542 [pzV n v, pzV n u] h post k := by
  have hsc := (sl_cells hs).2
  unfold AV.sc at hsc
  have hsu := (sl_cells ht).2
  unfold AV.sc at hsu
  have P1 := Pre.push h (AO.row [.int .i64 n, v] 0 0 false)
  obtain ⟨r1, r11, r1v⟩ := rowP h n v
  generalize hg1 : h ++ [AO.row [.int .i64 n, v] 0 0 false] = g1 at *
  have P2 := Pre.push g1 (AO.row [.int .i64 n, u] 0 0 false)
  obtain ⟨r2, r21, r2v⟩ := rowP g1 n u
  generalize hg2 : g1 ++ [AO.row [.int .i64 n, u] 0 0 false] = g2 at *
  have q11 := rdRow_pre P2 r11
  have q1v := rdRow_pre P2 r1v
  have P := P1.trans P2
  have hs2 := hs.pre P
  have ht2 := ht.pre P
  have hv := fun g => Slc.lenV (hs2) (g := g) (ρ := fun _ => _) (x := .t 0) rfl; simp only [evOp] at hv
  have hu := fun g => Slc.lenV (ht2) (g := g) (ρ := fun _ => _) (x := .t 0) rfl; simp only [evOp] at hu
  refine S_of rfl T542 ?_; unfold fi542
  simp (maxSteps := 1000000) (disch := first | omega | rfl | (simp only [zL, two63, room] <;> omega) | fail) only [↓reduceIte, ↓zP, zW, WOp, evOp, evBin, binI, binSh, binS, evNil, keyIs, keyEq, mkv, AV.cells, AV.sc, optv, bnd, env, put, Env.get, Env.set, Env.del, Env.dels, Env.init, res1, resL, resV, fillP, splice, newRow, Nat.reduceEqDiff, Nat.reduceLT, Nat.reduceLeDiff, Nat.reduceAdd, Nat.reduceMul, Nat.reduceSub, Nat.reduceBEq, reduceCtorEq, ↓zR, zQ, Tr, StA, StT, hsc, hsu, hg1, hg2, q11, q1v, r21, r2v, hv, hu, bne_self_eq_false]
  refine lp_nPuzzle hlen (n := n) q1v r2v hs2 ht2 ?_ L [] rfl
  simp (maxSteps := 1000000) (disch := first | omega | rfl | (simp only [zL, two63, room] <;> omega) | fail) only [↓reduceIte, ↓zP, zW, WOp, evOp, evBin, binI, binSh, binS, evNil, keyIs, keyEq, mkv, AV.cells, AV.sc, optv, bnd, env, put, Env.get, Env.set, Env.del, Env.dels, Env.init, res1, resL, resV, fillP, splice, newRow, Nat.reduceEqDiff, Nat.reduceLT, Nat.reduceLeDiff, Nat.reduceAdd, Nat.reduceMul, Nat.reduceSub, Nat.reduceBEq, reduceCtorEq, ↓zR, zQ, Tr, StA, StT]
  exact hp _ P
theorem lp_nTexts {v u : AV} {L : List (List UInt8)} (hlen : L.length < 2 ^ 30) {h : AH} (hs : Slc 1 encS h v L) (ht : Slc 1 encS h u L) {R : X → Env → AH → Prop} (hR : R (.exit 0) [] h) : ∀ (rest pre : List (List UInt8)), L = pre ++ rest →
    Cx (.loop lp544_0) [(0, v), (1, u), (12, .int .i64 L.length), (13, .int .i64 pre.length)] h R k k
  | [], pre, hL => by
    obtain rfl : L = pre := by simpa using hL
    rw [w_loopb (c := lp544_0) (d := lb544_0) rfl]; unfold lb544_0
    simp (maxSteps := 1000000) (disch := first | omega | rfl | (simp only [zL, two63, room] <;> omega) | fail) only [↓reduceIte, ↓zP, zW, WOp, evOp, evBin, binI, binSh, binS, evNil, keyIs, keyEq, mkv, AV.cells, AV.sc, optv, bnd, env, put, Env.get, Env.set, Env.del, Env.dels, Env.init, res1, resL, resV, fillP, splice, newRow, Nat.reduceEqDiff, Nat.reduceLT, Nat.reduceLeDiff, Nat.reduceAdd, Nat.reduceMul, Nat.reduceSub, Nat.reduceBEq, reduceCtorEq, ↓zR, zQ, Tr, StA, StT]
    exact hR
  | x :: rest, pre, hL => by
    have ih := lp_nTexts hlen hs ht (R := R) hR rest (pre ++ [x])
    have hl : L.length = pre.length + 1 + rest.length := by rw [hL]; simp; omega
    have hs' := hs
    have ht' := ht
    rw [hL] at hs' ht'
    obtain ⟨d1, k1, o1, hve, hq1⟩ := hs'.at hlS
    obtain ⟨d2, k2, o2, hue, hq2⟩ := ht'.at hlS
    rw [← hL] at hve hue
    subst hve
    subst hue
    have hlt : (pre.length : Int) < (L.length : Int) := by omega
    have hw1 : (pre.length : Int) + 1 = ((pre ++ [x]).length : Int) := by simp
    have e : (x == x) = true := by simp
    rw [w_loopb (c := lp544_0) (d := lb544_0) rfl]; unfold lb544_0
    simp (maxSteps := 1000000) (disch := first | omega | rfl | (simp only [zL, two63, room] <;> omega) | fail) only [↓reduceIte, ↓zP, zW, WOp, evOp, evBin, binI, binSh, binS, evNil, keyIs, keyEq, mkv, AV.cells, AV.sc, optv, bnd, env, put, Env.get, Env.set, Env.del, Env.dels, Env.init, res1, resL, resV, fillP, splice, newRow, Nat.reduceEqDiff, Nat.reduceLT, Nat.reduceLeDiff, Nat.reduceAdd, Nat.reduceMul, Nat.reduceSub, Nat.reduceBEq, reduceCtorEq, ↓zR, zQ, Tr, StA, StT, hlt, hq1, hq2, e]
    simp (maxSteps := 1000000) (disch := first | omega | rfl | (simp only [zL, two63, room] <;> omega) | fail) only [↓reduceIte, ↓zP, zW, WOp, evOp, evBin, binI, binSh, binS, evNil, keyIs, keyEq, mkv, AV.cells, AV.sc, optv, bnd, env, put, Env.get, Env.set, Env.del, Env.dels, Env.init, res1, resL, resV, fillP, splice, newRow, Nat.reduceEqDiff, Nat.reduceLT, Nat.reduceLeDiff, Nat.reduceAdd, Nat.reduceMul, Nat.reduceSub, Nat.reduceBEq, reduceCtorEq, ↓zR, zQ, Tr, StA, StT, hw1]
    rw [w_loopn (c := lp544_0) rfl]
    simp (maxSteps := 1000000) (disch := first | omega | rfl | (simp only [zL, two63, room] <;> omega) | fail) only [↓reduceIte, ↓zP, zW, WOp, evOp, evBin, binI, binSh, binS, evNil, keyIs, keyEq, mkv, AV.cells, AV.sc, optv, bnd, env, put, Env.get, Env.set, Env.del, Env.dels, Env.init, res1, resL, resV, fillP, splice, newRow, Nat.reduceEqDiff, Nat.reduceLT, Nat.reduceLeDiff, Nat.reduceAdd, Nat.reduceMul, Nat.reduceSub, Nat.reduceBEq, reduceCtorEq, ↓zR, zQ, Tr, StA, StT]
    exact ih (by rw [hL]; simp)
theorem c_nTexts {v u : AV} {L : List (List UInt8)} (hlen : L.length < 2 ^ 30) {h : AH} (hs : Slc 1 encS h v L) (ht : Slc 1 encS h u L) {post : AV → AH → Prop} (hp : post (.bool true) h) : S 544 [v, u] h post k := by
  have hv := fun g => Slc.lenV (hs) (g := g) (ρ := fun _ => _) (x := .t 0) rfl; simp only [evOp] at hv
  have hu := fun g => Slc.lenV (ht) (g := g) (ρ := fun _ => _) (x := .t 0) rfl; simp only [evOp] at hu
  refine S_of rfl T544 ?_; unfold fi544
  simp (maxSteps := 1000000) (disch := first | omega | rfl | (simp only [zL, two63, room] <;> omega) | fail) only [↓reduceIte, ↓zP, zW, WOp, evOp, evBin, binI, binSh, binS, evNil, keyIs, keyEq, mkv, AV.cells, AV.sc, optv, bnd, env, put, Env.get, Env.set, Env.del, Env.dels, Env.init, res1, resL, resV, fillP, splice, newRow, Nat.reduceEqDiff, Nat.reduceLT, Nat.reduceLeDiff, Nat.reduceAdd, Nat.reduceMul, Nat.reduceSub, Nat.reduceBEq, reduceCtorEq, ↓zR, zQ, Tr, StA, StT, hv, hu, bne_self_eq_false]
  refine lp_nTexts hlen hs ht ?_ L [] rfl
  simp (maxSteps := 1000000) (disch := first | omega | rfl | (simp only [zL, two63, room] <;> omega) | fail) only [↓reduceIte, ↓zP, zW, WOp, evOp, evBin, binI, binSh, binS, evNil, keyIs, keyEq, mkv, AV.cells, AV.sc, optv, bnd, env, put, Env.get, Env.set, Env.del, Env.dels, Env.init, res1, resL, resV, fillP, splice, newRow, Nat.reduceEqDiff, Nat.reduceLT, Nat.reduceLeDiff, Nat.reduceAdd, Nat.reduceMul, Nat.reduceSub, Nat.reduceBEq, reduceCtorEq, ↓zR, zQ, Tr, StA, StT]
  exact hp
theorem lp_nText {v : AV} {L : List (List UInt8)} (hlen : L.length < 2 ^ 30) (s : List UInt8) {h : AH} (hs : Slc 1 encS h v L) {R : X → Env → AH → Prop} (hR : R (.ret) [(4, .bool true)] h) : ∀ (rest pre : List (List UInt8)), L = pre ++ rest → s ∈ rest →
    Cx (.loop lp543_0) [(1, .str s), (7, v), (8, .int .i64 L.length), (9, .int .i64 pre.length)] h R k k
  | [], pre, hL, hm => absurd hm (List.not_mem_nil)
  | x :: rest, pre, hL, hm => by
    have ih := lp_nText hlen s hs (R := R) hR rest (pre ++ [x])
    have hl : L.length = pre.length + 1 + rest.length := by rw [hL]; simp; omega
    have hs' := hs
    rw [hL] at hs'
    obtain ⟨d1, k1, o1, hve, hq1⟩ := hs'.at hlS
    rw [← hL] at hve
    subst hve
    have hlt : (pre.length : Int) < (L.length : Int) := by omega
    have hw1 : (pre.length : Int) + 1 = ((pre ++ [x]).length : Int) := by simp
    rw [w_loopb (c := lp543_0) (d := lb543_0) rfl]; unfold lb543_0
    cases e : (x == s)
    · simp (maxSteps := 1000000) (disch := first | omega | rfl | (simp only [zL, two63, room] <;> omega) | fail) only [↓reduceIte, ↓zP, zW, WOp, evOp, evBin, binI, binSh, binS, evNil, keyIs, keyEq, mkv, AV.cells, AV.sc, optv, bnd, env, put, Env.get, Env.set, Env.del, Env.dels, Env.init, res1, resL, resV, fillP, splice, newRow, Nat.reduceEqDiff, Nat.reduceLT, Nat.reduceLeDiff, Nat.reduceAdd, Nat.reduceMul, Nat.reduceSub, Nat.reduceBEq, reduceCtorEq, ↓zR, zQ, Tr, StA, StT, hlt, hq1, e]
      simp (maxSteps := 1000000) (disch := first | omega | rfl | (simp only [zL, two63, room] <;> omega) | fail) only [↓reduceIte, ↓zP, zW, WOp, evOp, evBin, binI, binSh, binS, evNil, keyIs, keyEq, mkv, AV.cells, AV.sc, optv, bnd, env, put, Env.get, Env.set, Env.del, Env.dels, Env.init, res1, resL, resV, fillP, splice, newRow, Nat.reduceEqDiff, Nat.reduceLT, Nat.reduceLeDiff, Nat.reduceAdd, Nat.reduceMul, Nat.reduceSub, Nat.reduceBEq, reduceCtorEq, ↓zR, zQ, Tr, StA, StT, hw1]
      rw [w_loopn (c := lp543_0) rfl]
      simp (maxSteps := 1000000) (disch := first | omega | rfl | (simp only [zL, two63, room] <;> omega) | fail) only [↓reduceIte, ↓zP, zW, WOp, evOp, evBin, binI, binSh, binS, evNil, keyIs, keyEq, mkv, AV.cells, AV.sc, optv, bnd, env, put, Env.get, Env.set, Env.del, Env.dels, Env.init, res1, resL, resV, fillP, splice, newRow, Nat.reduceEqDiff, Nat.reduceLT, Nat.reduceLeDiff, Nat.reduceAdd, Nat.reduceMul, Nat.reduceSub, Nat.reduceBEq, reduceCtorEq, ↓zR, zQ, Tr, StA, StT]
      refine ih (by rw [hL]; simp) ?_
      rcases List.mem_cons.1 hm with rfl | hm
      · simp at e
      · exact hm
    · simp (maxSteps := 1000000) (disch := first | omega | rfl | (simp only [zL, two63, room] <;> omega) | fail) only [↓reduceIte, ↓zP, zW, WOp, evOp, evBin, binI, binSh, binS, evNil, keyIs, keyEq, mkv, AV.cells, AV.sc, optv, bnd, env, put, Env.get, Env.set, Env.del, Env.dels, Env.init, res1, resL, resV, fillP, splice, newRow, Nat.reduceEqDiff, Nat.reduceLT, Nat.reduceLeDiff, Nat.reduceAdd, Nat.reduceMul, Nat.reduceSub, Nat.reduceBEq, reduceCtorEq, ↓zR, zQ, Tr, StA, StT, hlt, hq1, e]
      exact hR
theorem c_nText {v : AV} {L : List (List UInt8)} (hlen : L.length < 2 ^ 30) {s : List UInt8} (hm : s ∈ L) {h : AH} (hs : Slc 1 encS h v L) {post : AV → AH → Prop} (hp : post (.bool true) h) : S 543 [v, .str s] h post k := by
  have hv := fun g => Slc.lenV (hs) (g := g) (ρ := fun _ => _) (x := .t 0) rfl; simp only [evOp] at hv
  refine S_of rfl T543 ?_; unfold fi543
  simp (maxSteps := 1000000) (disch := first | omega | rfl | (simp only [zL, two63, room] <;> omega) | fail) only [↓reduceIte, ↓zP, zW, WOp, evOp, evBin, binI, binSh, binS, evNil, keyIs, keyEq, mkv, AV.cells, AV.sc, optv, bnd, env, put, Env.get, Env.set, Env.del, Env.dels, Env.init, res1, resL, resV, fillP, splice, newRow, Nat.reduceEqDiff, Nat.reduceLT, Nat.reduceLeDiff, Nat.reduceAdd, Nat.reduceMul, Nat.reduceSub, Nat.reduceBEq, reduceCtorEq, ↓zR, zQ, Tr, StA, StT, hv]
  refine lp_nText hlen s hs ?_ L [] rfl hm
  simp (maxSteps := 1000000) (disch := first | omega | rfl | (simp only [zL, two63, room] <;> omega) | fail) only [↓reduceIte, ↓zP, zW, WOp, evOp, evBin, binI, binSh, binS, evNil, keyIs, keyEq, mkv, AV.cells, AV.sc, optv, bnd, env, put, Env.get, Env.set, Env.del, Env.dels, Env.init, res1, resL, resV, fillP, splice, newRow, Nat.reduceEqDiff, Nat.reduceLT, Nat.reduceLeDiff, Nat.reduceAdd, Nat.reduceMul, Nat.reduceSub, Nat.reduceBEq, reduceCtorEq, ↓zR, zQ, Tr, StA, StT]
  exact hp

/-! ### Puzzles made -/
def mpB (w : List UInt8) (c s : Int) : Bool := h5B w && (decide (0 ≤ c ∧ c ≤ 6) && decide (0 ≤ s ∧ s ≤ 9999))
def mpC (w : List UInt8) (c s : Int) : List Clu := if mpB w c s then mkG w c.toNat s.toNat else []
def mpN (w : List UInt8) (c s : Int) : Int := if mpB w c s then w.length else 0
theorem row1f {h : AH} {c : Nat} {x : AV} (hr : h[c]? = some (.row [x] 0 0 false)) : rdRow h c 0 0 1 = some [x] := by simp [rdRow, hr]
theorem row2f {h : AH} {c : Nat} {x y : AV} (hr : h[c]? = some (.row [x, y] 0 0 false)) : rdRow h c 0 0 1 = some [x] ∧ rdRow h c 0 1 1 = some [y] ∧ rdRow h c 0 0 2 = some [x, y] := by simp [rdRow, hr]
theorem e_pzNext (z : Nat) (hz : z < 2 ^ 20) {h : AH} {post : AV → AH → Prop} : S 595 [.int .i64 z] h post k = post (.int .i64 (nxZ z : Nat)) h := S_eq fun post hp => by
  have w1 : (167 : Int) * (z : Int) = ((167 * z : Nat) : Int) := by omega
  have w2 : ((167 * z : Nat) : Int) + 2281 = ((167 * z + 2281 : Nat) : Int) := by omega
  have w3 : ((167 * z + 2281 : Nat) : Int).tmod 10007 = (nxZ z : Nat) := by
    unfold nxZ
    rw [Int.tmod_eq_emod_of_nonneg (by omega)]; omega
  have n7 : ¬ ((10007 : Int) = 0) := by omega
  refine S_of rfl T595 ?_; unfold fi595
  simp (maxSteps := 1000000) (disch := first | omega | rfl | (simp only [zL, two63, room] <;> omega) | fail) only [↓reduceIte, ↓zP, zW, WOp, evOp, evBin, binI, binSh, binS, evNil, keyIs, keyEq, mkv, AV.cells, AV.sc, optv, bnd, env, put, Env.get, Env.set, Env.del, Env.dels, Env.init, res1, resL, resV, fillP, splice, newRow, Nat.reduceEqDiff, Nat.reduceLT, Nat.reduceLeDiff, Nat.reduceAdd, Nat.reduceMul, Nat.reduceSub, Nat.reduceBEq, reduceCtorEq, ↓zR, zQ, Tr, StA, StT, w1, w2, w3, n7]
  exact hp
theorem c_next1 (z : Nat) (hz : z < 2 ^ 20) {h : AH} {r : Nat} (hr : h[r]? = some (.row [.int .i64 z] 0 0 false)) {post : AV → AH → Prop} (hp : post (.int .i64 (nxZ z : Nat)) (h.set r (.row [.int .i64 (nxZ z : Nat)] 0 0 false))) : S 593 [.ptr r 0 0 1] h post k := by
  have w1 : (z : Int) * 167 = ((167 * z : Nat) : Int) := by omega
  have w2 : ((167 * z : Nat) : Int) + 2281 = ((167 * z + 2281 : Nat) : Int) := by omega
  have w3 : ((167 * z + 2281 : Nat) : Int).tmod 10007 = (nxZ z : Nat) := by
    unfold nxZ
    rw [Int.tmod_eq_emod_of_nonneg (by omega)]; omega
  have hl := (List.getElem?_eq_some_iff.1 hr).1
  have n7 : ¬ ((10007 : Int) = 0) := by omega
  refine S_of rfl T593 ?_; unfold fi593
  simp (maxSteps := 1000000) (disch := first | omega | rfl | (simp only [zL, two63, room] <;> omega) | fail) only [↓reduceIte, ↓zP, zW, WOp, evOp, evBin, binI, binSh, binS, evNil, keyIs, keyEq, mkv, AV.cells, AV.sc, optv, bnd, env, put, Env.get, Env.set, Env.del, Env.dels, Env.init, res1, resL, resV, fillP, splice, newRow, Nat.reduceEqDiff, Nat.reduceLT, Nat.reduceLeDiff, Nat.reduceAdd, Nat.reduceMul, Nat.reduceSub, Nat.reduceBEq, reduceCtorEq, ↓zR, zQ, Tr, StA, StT, row1f hr, wr_of hr, w1, w2, w3, n7]
  exact hp
theorem c_pzOf (kd cell : Int) (w : List UInt8) (hs : w.all isSign = true) (hw : w.length ≤ 12) (hk : 0 ≤ kd ∧ kd ≤ 5) (hc : kd = 0 → 0 ≤ cell ∧ cell < w.length) {h : AH} {post : AV → AH → Prop} (hp : ∀ h', Pre h h' → post (.agg (encC (clueB kd cell w))) h') : S 596 [.int .i64 kd, .int .i64 cell, .str w] h post k := by
  have P1 := Pre.push h (AO.row [.int .i64 0, .int .i64 0, .int .i64 0] 0 0 false)
  have z1 := zrow h (AO.row [.int .i64 0, .int .i64 0, .int .i64 0] 0 0 false)
  have l1 : h.length < (h ++ [AO.row [.int .i64 0, .int .i64 0, .int .i64 0] 0 0 false]).length := by simp
  generalize hg1 : h ++ [AO.row [.int .i64 0, .int .i64 0, .int .i64 0] 0 0 false] = g1 at *
  have fin : ∀ h2, Pre g1 h2 → h2[h.length]? = some (.row [.int .i64 0, .int .i64 0, .int .i64 0] 0 0 false) ∧ h.length < h2.length := fun h2 p2 => ⟨by rw [p2.2 _ l1]; exact z1, Nat.lt_of_lt_of_le l1 p2.1⟩
  have hv : ∀ (hk0 : kd ≠ 0), clueB kd cell w = (kd, valB kd 0 w, 0) := by
    intro hk0
    have c5 := ix4 (winB w true) (winB w false)
    obtain rfl | rfl | rfl | rfl | rfl : kd = 1 ∨ kd = 2 ∨ kd = 3 ∨ kd = 4 ∨ kd = 5 := by omega
    all_goals simp [clueB, valB]
    exact (pzI_ix c5.1).symm
  refine S_of rfl T596 ?_; unfold fi596
  by_cases k0 : kd = 0
  · subst k0
    have e0 : clueB 0 cell w = (0, cell, valB 0 cell w) := by
      have hc0 := hc rfl
      have c0 := ix3 (b := w.getD cell.toNat 0) (by
        have hlt : cell.toNat < w.length := by omega
        have := List.all_eq_true.1 hs (w[cell.toNat]) (List.getElem_mem hlt)
        simpa [List.getD_eq_getElem?_getD, hlt] using this)
      simp only [clueB, valB, if_true, pzI_ix c0.1]
    rw [e0] at hp
    simp (maxSteps := 1000000) (disch := first | omega | rfl | (simp only [zL, two63, room] <;> omega) | fail) only [↓reduceIte, ↓zP, zW, WOp, evOp, evBin, binI, binSh, binS, evNil, keyIs, keyEq, mkv, AV.cells, AV.sc, optv, bnd, env, put, Env.get, Env.set, Env.del, Env.dels, Env.init, res1, resL, resV, fillP, splice, newRow, Nat.reduceEqDiff, Nat.reduceLT, Nat.reduceLeDiff, Nat.reduceAdd, Nat.reduceMul, Nat.reduceSub, Nat.reduceBEq, reduceCtorEq, ↓zR, zQ, Tr, StA, StT, hg1]
    refine c_pzValue 0 cell w hs hw hc ?_
    intro h2 p2
    obtain ⟨f1, f2⟩ := fin h2 p2
    simp (maxSteps := 1000000) (disch := first | omega | rfl | (simp only [zL, two63, room] <;> omega) | fail) only [↓reduceIte, ↓zP, zW, WOp, evOp, evBin, binI, binSh, binS, evNil, keyIs, keyEq, mkv, AV.cells, AV.sc, optv, bnd, env, put, Env.get, Env.set, Env.del, Env.dels, Env.init, res1, resL, resV, fillP, splice, newRow, Nat.reduceEqDiff, Nat.reduceLT, Nat.reduceLeDiff, Nat.reduceAdd, Nat.reduceMul, Nat.reduceSub, Nat.reduceBEq, reduceCtorEq, ↓zR, zQ, Tr, StA, StT, wr_of f1, List.length_set, f2]
    exact hp _ ((P1.trans p2).set (Nat.le_refl _))
  · rw [hv k0] at hp
    have n0 : (kd == 0) = false := by simpa using k0
    simp (maxSteps := 1000000) (disch := first | omega | rfl | (simp only [zL, two63, room] <;> omega) | fail) only [↓reduceIte, ↓zP, zW, WOp, evOp, evBin, binI, binSh, binS, evNil, keyIs, keyEq, mkv, AV.cells, AV.sc, optv, bnd, env, put, Env.get, Env.set, Env.del, Env.dels, Env.init, res1, resL, resV, fillP, splice, newRow, Nat.reduceEqDiff, Nat.reduceLT, Nat.reduceLeDiff, Nat.reduceAdd, Nat.reduceMul, Nat.reduceSub, Nat.reduceBEq, reduceCtorEq, ↓zR, zQ, Tr, StA, StT, hg1, n0]
    refine c_pzValue kd 0 w hs hw (fun e => absurd e k0) ?_
    intro h2 p2
    obtain ⟨f1, f2⟩ := fin h2 p2
    simp (maxSteps := 1000000) (disch := first | omega | rfl | (simp only [zL, two63, room] <;> omega) | fail) only [↓reduceIte, ↓zP, zW, WOp, evOp, evBin, binI, binSh, binS, evNil, keyIs, keyEq, mkv, AV.cells, AV.sc, optv, bnd, env, put, Env.get, Env.set, Env.del, Env.dels, Env.init, res1, resL, resV, fillP, splice, newRow, Nat.reduceEqDiff, Nat.reduceLT, Nat.reduceLeDiff, Nat.reduceAdd, Nat.reduceMul, Nat.reduceSub, Nat.reduceBEq, reduceCtorEq, ↓zR, zQ, Tr, StA, StT, wr_of f1, List.length_set, f2]
    exact hp _ ((P1.trans p2).set (Nat.le_refl _))
theorem mkG_succ (w : List UInt8) (d z : Nat) : mkG w (d + 1) z = if nxZ z % 6 = 0 then clueB 0 ((nxZ (nxZ z) % w.length : Nat) : Int) w :: mkG w d (nxZ (nxZ z)) else clueB ((nxZ z % 6 : Nat) : Int) 0 w :: mkG w d (nxZ z) := rfl
theorem tmod_nat (a b : Nat) : (a : Int).tmod b = ((a % b : Nat) : Int) := by rw [Int.tmod_eq_emod_of_nonneg (by omega)]; omega
/-- A puzzle that is being made, in a row r. -/
def MI (w : List UInt8) (g0 b : AH) (e r : Nat) (v : AV) (L : List Clu) (h : AH) : Prop := h[r]? = some (.row [.int .i64 w.length, v] 0 0 false) ∧ OwL 3 encC b h v L ∧ (Ag g0.length g0 h ∧ h[e]? = some (.row [.int .i64 0, .nilS] 0 0 false)) ∧ b.length ≤ h.length ∧ (r < b.length ∧ e < b.length ∧ e ≠ r) ∧ g0.length ≤ r
/-- A clue is added. -/
theorem MI.add {w : List UInt8} {g0 b h1 h2 : AH} {e r : Nat} {v : AV} {L : List Clu} (hm : MI w g0 b e r v L h1) (p2 : Pre h1 h2) (c : Clu) (hL : L.length < 100) : ∃ v3 h3, apRow (h2 ++ [AO.row (encC c) 0 0 false]) 3 v 1 (encC c) = some (v3, h3) ∧ h3[r]? = some (.row [.int .i64 w.length, v] 0 0 false) ∧ v3.cells = [v3] ∧ v3.sc = true ∧ Ag b.length h2 h3 ∧
    MI w g0 b e r v3 (L ++ [c]) (h3.set r (.row [.int .i64 w.length, v3] 0 0 false)) := by
  obtain ⟨m1, m2, m3, m4, m5, m6⟩ := hm
  have px := Pre.push h2 (AO.row (encC c) 0 0 false)
  have p := p2.trans px
  obtain ⟨v3, h3, a1, a2, a3⟩ := apA hlC scC (m2.pre p) (Nat.le_trans m4 p.1) c (by omega)
  obtain ⟨m3, m3e⟩ := m3
  obtain ⟨m5, m5e, m5n⟩ := m5
  have f : h3[r]? = some (.row [.int .i64 w.length, v] 0 0 false) := by rw [a3.2 r m5, p.2 r (by omega)]; exact m1
  have l3 := (List.getElem?_eq_some_iff.1 f).1
  have w1 := (sl_cells a2.slc).1
  have w2 := (sl_cells a2.slc).2
  refine ⟨v3, h3, a1, f, w1, w2, ?_, by rw [List.getElem?_set, if_pos rfl, if_pos l3], own_set a2 m5, ⟨?_, by rw [List.getElem?_set, if_neg (Ne.symm m5n), a3.2 e m5e, p.2 e (by omega)]; exact m3e⟩, ?_, ⟨m5, m5e, m5n⟩, m6⟩
  · exact (px.ag (Nat.le_trans m4 p2.1)).trans a3
  · exact ((m3.trans (p.ag (by omega))).trans (a3.mono (by omega))).set m6
  · simp; have := a3.1; have := p.1; omega
theorem lp_sMake (w : List UInt8) (hg : w.all isSign = true) (h1 : 1 ≤ w.length) (h5 : w.length ≤ 5) {g0 b : AH} {e r : Nat} {R : X → Env → AH → Prop} : ∀ (d z : Nat) (v : AV) (L : List Clu) (h : AH), MI w g0 b e r v L h → z < 2 ^ 20 → L.length + d < 100 →
    (∀ v' h', MI w g0 b e r v' (L ++ mkG w d z) h' → R (.exit 0) [(6, .ptr g0.length 0 0 2), (8, .ptr r 0 0 2)] h') →
    Cx (.loop lp541_0) [(0, .str w), (1, .int .i64 d), (6, .ptr g0.length 0 0 2), (8, .ptr r 0 0 2), (9, .int .i64 z)] h R k k
  | 0, z, v, L, h, hm, hz, hL, hR => by
    rw [w_loopb (c := lp541_0) (d := lb541_0) rfl]; unfold lb541_0
    simp (maxSteps := 1000000) (disch := first | omega | rfl | (simp only [zL, two63, room] <;> omega) | fail) only [↓reduceIte, ↓zP, zW, WOp, evOp, evBin, binI, binSh, binS, evNil, keyIs, keyEq, mkv, AV.cells, AV.sc, optv, bnd, env, put, Env.get, Env.set, Env.del, Env.dels, Env.init, res1, resL, resV, fillP, splice, newRow, Nat.reduceEqDiff, Nat.reduceLT, Nat.reduceLeDiff, Nat.reduceAdd, Nat.reduceMul, Nat.reduceSub, Nat.reduceBEq, reduceCtorEq, ↓zR, zQ, Tr, StA, StT]
    exact hR v h (by simpa [mkG] using hm)
  | d + 1, z, v, L, h, hm, hz, hL, hR => by
    have ih := lp_sMake w hg h1 h5 (g0 := g0) (b := b) (e := e) (r := r) (R := R) d
    have n1 : ((d + 1 : Nat) : Int) > 0 := by omega
    have n2 : ((d + 1 : Nat) : Int) - 1 = (d : Int) := by omega
    have z1 := nxZ_lt z
    have z2 := nxZ_lt (nxZ z)
    have tw := tmod_nat (nxZ (nxZ z)) w.length
    have c1 : nxZ (nxZ z) % w.length < w.length := Nat.mod_lt _ (by omega)
    have c6 : nxZ z % 6 < 6 := Nat.mod_lt _ (by omega)
    have nw : ((w.length : Int) == 0) = false := beq_f (by omega)
    have nw' : ¬ ((w.length : Int) = 0) := by omega
    have n6 : ¬ ((6 : Int) = 0) := by omega
    rw [mkG_succ] at hR
    have q1 := (row2f hm.1).2.1
    have lr : r < h.length := rd_lt q1
    rw [w_loopb (c := lp541_0) (d := lb541_0) rfl]; unfold lb541_0
    by_cases k0 : nxZ z % 6 = 0
    · rw [if_pos k0] at hR
      have t6 : ((nxZ z : Nat) : Int).tmod 6 = 0 := by rw [show (6 : Int) = ((6 : Nat) : Int) from rfl, tmod_nat, k0]; rfl
      simp (maxSteps := 1000000) (disch := first | omega | rfl | (simp only [zL, two63, room] <;> omega) | fail) only [↓reduceIte, ↓zP, zW, WOp, evOp, evBin, binI, binSh, binS, evNil, keyIs, keyEq, mkv, AV.cells, AV.sc, optv, bnd, env, put, Env.get, Env.set, Env.del, Env.dels, Env.init, res1, resL, resV, fillP, splice, newRow, Nat.reduceEqDiff, Nat.reduceLT, Nat.reduceLeDiff, Nat.reduceAdd, Nat.reduceMul, Nat.reduceSub, Nat.reduceBEq, reduceCtorEq, ↓zR, zQ, Tr, StA, StT, n1, e_pzNext z hz, t6, n6, nw', e_pzNext (nxZ z) (by omega), tw]
      refine w_drw ?_
      simp (maxSteps := 1000000) (disch := first | omega | rfl | (simp only [zL, two63, room] <;> omega) | fail) only [↓reduceIte, ↓zP, zW, WOp, evOp, evBin, binI, binSh, binS, evNil, keyIs, keyEq, mkv, AV.cells, AV.sc, optv, bnd, env, put, Env.get, Env.set, Env.del, Env.dels, Env.init, res1, resL, resV, fillP, splice, newRow, Nat.reduceEqDiff, Nat.reduceLT, Nat.reduceLeDiff, Nat.reduceAdd, Nat.reduceMul, Nat.reduceSub, Nat.reduceBEq, reduceCtorEq, ↓zR, zQ, Tr, StA, StT, q1]
      refine c_pzOf 0 _ w hg (by omega) (by omega) (fun _ => by omega) ?_
      intro h2 p2
      obtain ⟨v3, h3, a1, a2, w1, w2, aA, hm3⟩ := hm.add p2 (clueB 0 ((nxZ (nxZ z) % w.length : Nat) : Int) w) (by omega)
      have q2 := rdRow_pre p2 q1
      have lr2 : r < h2.length := rd_lt q2
      have q3 := (row2f a2).2.1
      simp only [AV.cells] at w1
      unfold AV.sc at w2
      simp (maxSteps := 1000000) (disch := first | omega | rfl | (simp only [zL, two63, room] <;> omega) | fail) only [↓reduceIte, ↓zP, zW, WOp, evOp, evBin, binI, binSh, binS, evNil, keyIs, keyEq, mkv, AV.cells, AV.sc, optv, bnd, env, put, Env.get, Env.set, Env.del, Env.dels, Env.init, res1, resL, resV, fillP, splice, newRow, Nat.reduceEqDiff, Nat.reduceLT, Nat.reduceLeDiff, Nat.reduceAdd, Nat.reduceMul, Nat.reduceSub, Nat.reduceBEq, reduceCtorEq, ↓zR, zQ, Tr, StA, StT, q1, q2, q3, a1, wr_of a2, w1, w2]
      simp (maxSteps := 1000000) (disch := first | omega | rfl | (simp only [zL, two63, room] <;> omega) | fail) only [↓reduceIte, ↓zP, zW, WOp, evOp, evBin, binI, binSh, binS, evNil, keyIs, keyEq, mkv, AV.cells, AV.sc, optv, bnd, env, put, Env.get, Env.set, Env.del, Env.dels, Env.init, res1, resL, resV, fillP, splice, newRow, Nat.reduceEqDiff, Nat.reduceLT, Nat.reduceLeDiff, Nat.reduceAdd, Nat.reduceMul, Nat.reduceSub, Nat.reduceBEq, reduceCtorEq, ↓zR, zQ, Tr, StA, StT, n2]
      rw [w_loopn (c := lp541_0) rfl]
      simp (maxSteps := 1000000) (disch := first | omega | rfl | (simp only [zL, two63, room] <;> omega) | fail) only [↓reduceIte, ↓zP, zW, WOp, evOp, evBin, binI, binSh, binS, evNil, keyIs, keyEq, mkv, AV.cells, AV.sc, optv, bnd, env, put, Env.get, Env.set, Env.del, Env.dels, Env.init, res1, resL, resV, fillP, splice, newRow, Nat.reduceEqDiff, Nat.reduceLT, Nat.reduceLeDiff, Nat.reduceAdd, Nat.reduceMul, Nat.reduceSub, Nat.reduceBEq, reduceCtorEq, ↓zR, zQ, Tr, StA, StT]
      exact ih _ v3 _ _ hm3 (by omega) (by simp; omega) (fun v' h' m => hR v' h' (by simpa using m))
    · rw [if_neg k0] at hR
      have t6 : ((nxZ z : Nat) : Int).tmod 6 = ((nxZ z % 6 : Nat) : Int) := tmod_nat _ 6
      have e6 : (((nxZ z % 6 : Nat) : Int) == 0) = false := beq_f (by omega)
      simp (maxSteps := 1000000) (disch := first | omega | rfl | (simp only [zL, two63, room] <;> omega) | fail) only [↓reduceIte, ↓zP, zW, WOp, evOp, evBin, binI, binSh, binS, evNil, keyIs, keyEq, mkv, AV.cells, AV.sc, optv, bnd, env, put, Env.get, Env.set, Env.del, Env.dels, Env.init, res1, resL, resV, fillP, splice, newRow, Nat.reduceEqDiff, Nat.reduceLT, Nat.reduceLeDiff, Nat.reduceAdd, Nat.reduceMul, Nat.reduceSub, Nat.reduceBEq, reduceCtorEq, ↓zR, zQ, Tr, StA, StT, n1, e_pzNext z hz, t6, n6, e6]
      refine w_drw ?_
      simp (maxSteps := 1000000) (disch := first | omega | rfl | (simp only [zL, two63, room] <;> omega) | fail) only [↓reduceIte, ↓zP, zW, WOp, evOp, evBin, binI, binSh, binS, evNil, keyIs, keyEq, mkv, AV.cells, AV.sc, optv, bnd, env, put, Env.get, Env.set, Env.del, Env.dels, Env.init, res1, resL, resV, fillP, splice, newRow, Nat.reduceEqDiff, Nat.reduceLT, Nat.reduceLeDiff, Nat.reduceAdd, Nat.reduceMul, Nat.reduceSub, Nat.reduceBEq, reduceCtorEq, ↓zR, zQ, Tr, StA, StT, q1]
      refine c_pzOf _ 0 w hg (by omega) (by omega) (fun e => by omega) ?_
      intro h2 p2
      obtain ⟨v3, h3, a1, a2, w1, w2, aA, hm3⟩ := hm.add p2 (clueB ((nxZ z % 6 : Nat) : Int) 0 w) (by omega)
      have q2 := rdRow_pre p2 q1
      have lr2 : r < h2.length := rd_lt q2
      have q3 := (row2f a2).2.1
      simp only [AV.cells] at w1
      unfold AV.sc at w2
      simp (maxSteps := 1000000) (disch := first | omega | rfl | (simp only [zL, two63, room] <;> omega) | fail) only [↓reduceIte, ↓zP, zW, WOp, evOp, evBin, binI, binSh, binS, evNil, keyIs, keyEq, mkv, AV.cells, AV.sc, optv, bnd, env, put, Env.get, Env.set, Env.del, Env.dels, Env.init, res1, resL, resV, fillP, splice, newRow, Nat.reduceEqDiff, Nat.reduceLT, Nat.reduceLeDiff, Nat.reduceAdd, Nat.reduceMul, Nat.reduceSub, Nat.reduceBEq, reduceCtorEq, ↓zR, zQ, Tr, StA, StT, q1, q2, q3, a1, wr_of a2, w1, w2]
      simp (maxSteps := 1000000) (disch := first | omega | rfl | (simp only [zL, two63, room] <;> omega) | fail) only [↓reduceIte, ↓zP, zW, WOp, evOp, evBin, binI, binSh, binS, evNil, keyIs, keyEq, mkv, AV.cells, AV.sc, optv, bnd, env, put, Env.get, Env.set, Env.del, Env.dels, Env.init, res1, resL, resV, fillP, splice, newRow, Nat.reduceEqDiff, Nat.reduceLT, Nat.reduceLeDiff, Nat.reduceAdd, Nat.reduceMul, Nat.reduceSub, Nat.reduceBEq, reduceCtorEq, ↓zR, zQ, Tr, StA, StT, n2]
      rw [w_loopn (c := lp541_0) rfl]
      simp (maxSteps := 1000000) (disch := first | omega | rfl | (simp only [zL, two63, room] <;> omega) | fail) only [↓reduceIte, ↓zP, zW, WOp, evOp, evBin, binI, binSh, binS, evNil, keyIs, keyEq, mkv, AV.cells, AV.sc, optv, bnd, env, put, Env.get, Env.set, Env.del, Env.dels, Env.init, res1, resL, resV, fillP, splice, newRow, Nat.reduceEqDiff, Nat.reduceLT, Nat.reduceLeDiff, Nat.reduceAdd, Nat.reduceMul, Nat.reduceSub, Nat.reduceBEq, reduceCtorEq, ↓zR, zQ, Tr, StA, StT]
      exact ih _ v3 _ _ hm3 (by omega) (by simp; omega) (fun v' h' m => hR v' h' (by simpa using m))
/-- The program's: the closure's number in a row q. -/
def MJ (w : List UInt8) (g0 b : AH) (e q r z : Nat) (v : AV) (L : List Clu) (h : AH) : Prop := MI w g0 b e r v L h ∧ h[q]? = some (.row [.int .i64 z] 0 0 false) ∧ q < b.length ∧ (q ≠ r ∧ q ≠ e) ∧ g0.length ≤ q
theorem MJ.next {w : List UInt8} {g0 b : AH} {e q r z : Nat} {v : AV} {L : List Clu} {h : AH} (hm : MJ w g0 b e q r z v L h) (y : Nat) : MJ w g0 b e q r y v L (h.set q (.row [.int .i64 y] 0 0 false)) := by
  obtain ⟨⟨m1, m2, ⟨m3, m3e⟩, m4, m5, m6⟩, m7, m8, ⟨m9, m9e⟩, mA⟩ := hm
  have lq := (List.getElem?_eq_some_iff.1 m7).1
  exact ⟨⟨by rw [List.getElem?_set, if_neg m9]; exact m1, own_set m2 m8, ⟨m3.set mA, by rw [List.getElem?_set, if_neg m9e]; exact m3e⟩, by simpa using m4, m5, m6⟩, by rw [List.getElem?_set, if_pos rfl, if_pos lq], m8, ⟨m9, m9e⟩, mA⟩
theorem MJ.add {w : List UInt8} {g0 b h1 h2 : AH} {e q r z : Nat} {v : AV} {L : List Clu} (hm : MJ w g0 b e q r z v L h1) (p2 : Pre h1 h2) (c : Clu) (hL : L.length < 100) : ∃ v3 h3, apRow (h2 ++ [AO.row (encC c) 0 0 false]) 3 v 1 (encC c) = some (v3, h3) ∧ h3[r]? = some (.row [.int .i64 w.length, v] 0 0 false) ∧ v3.cells = [v3] ∧ v3.sc = true ∧
    MJ w g0 b e q r z v3 (L ++ [c]) (h3.set r (.row [.int .i64 w.length, v3] 0 0 false)) := by
  obtain ⟨m1, m7, m8, ⟨m9, m9e⟩, mA⟩ := hm
  obtain ⟨v3, h3, a1, a2, w1, w2, a3, hm3⟩ := m1.add p2 c hL
  have lq := (List.getElem?_eq_some_iff.1 m7).1
  exact ⟨v3, h3, a1, a2, w1, w2, hm3, by rw [List.getElem?_set, if_neg (Ne.symm m9), a3.2 q m8, p2.2 q lq]; exact m7, m8, ⟨m9, m9e⟩, mA⟩
theorem lp_Make (w : List UInt8) (hg : w.all isSign = true) (h1 : 1 ≤ w.length) (h5 : w.length ≤ 5) {g0 b : AH} {e q r K p : Nat} (hK : K < 1000) {R : X → Env → AH → Prop} : ∀ (d j z : Nat) (v : AV) (L : List Clu) (h : AH), MJ w g0 b e q r z v L h → z < 2 ^ 20 → L.length + d < 100 → j + d = K →
    (∀ v' h', MI w g0 b e r v' (L ++ mkG w d z) h' → R (.exit 0) [(6, .ptr p 0 0 2), (9, .ptr r 0 0 2)] h') →
    Cx (.loop lp540_0) [(0, .str w), (6, .ptr p 0 0 2), (8, .fn 593 [.ptr q 0 0 1]), (9, .ptr r 0 0 2), (31, .int .i64 K), (32, .int .i64 j)] h R k k
  | 0, j, z, v, L, h, hm, hz, hL, hj, hR => by
    obtain rfl : j = K := by omega
    rw [w_loopb (c := lp540_0) (d := lb540_0) rfl]; unfold lb540_0
    simp (maxSteps := 1000000) (disch := first | omega | rfl | (simp only [zL, two63, room] <;> omega) | fail) only [↓reduceIte, ↓zP, zW, WOp, evOp, evBin, binI, binSh, binS, evNil, keyIs, keyEq, mkv, AV.cells, AV.sc, optv, bnd, env, put, Env.get, Env.set, Env.del, Env.dels, Env.init, res1, resL, resV, fillP, splice, newRow, Nat.reduceEqDiff, Nat.reduceLT, Nat.reduceLeDiff, Nat.reduceAdd, Nat.reduceMul, Nat.reduceSub, Nat.reduceBEq, reduceCtorEq, ↓zR, zQ, Tr, StA, StT]
    exact hR v h (by simpa [mkG] using hm.1)
  | d + 1, j, z, v, L, h, hm, hz, hL, hj, hR => by
    have ih := lp_Make w hg h1 h5 hK (g0 := g0) (b := b) (e := e) (q := q) (r := r) (K := K) (p := p) (R := R) d (j + 1)
    have n1 : (j : Int) < (K : Int) := by omega
    have n2 : (j : Int) + 1 = ((j + 1 : Nat) : Int) := by omega
    have z1 := nxZ_lt z
    have z2 := nxZ_lt (nxZ z)
    have tw := tmod_nat (nxZ (nxZ z)) w.length
    have c1 : nxZ (nxZ z) % w.length < w.length := Nat.mod_lt _ (by omega)
    have c6 : nxZ z % 6 < 6 := Nat.mod_lt _ (by omega)
    have nw : ((w.length : Int) == 0) = false := beq_f (by omega)
    have nw' : ¬ ((w.length : Int) = 0) := by omega
    have n6 : ¬ ((6 : Int) = 0) := by omega
    rw [mkG_succ] at hR
    have hm1 := hm.next (nxZ z)
    have q1 := (row2f hm1.1.1).2.1
    have lr := rd_lt q1
    rw [w_loopb (c := lp540_0) (d := lb540_0) rfl]; unfold lb540_0
    simp (maxSteps := 1000000) (disch := first | omega | rfl | (simp only [zL, two63, room] <;> omega) | fail) only [↓reduceIte, ↓zP, zW, WOp, evOp, evBin, binI, binSh, binS, evNil, keyIs, keyEq, mkv, AV.cells, AV.sc, optv, bnd, env, put, Env.get, Env.set, Env.del, Env.dels, Env.init, res1, resL, resV, fillP, splice, newRow, Nat.reduceEqDiff, Nat.reduceLT, Nat.reduceLeDiff, Nat.reduceAdd, Nat.reduceMul, Nat.reduceSub, Nat.reduceBEq, reduceCtorEq, ↓zR, zQ, Tr, StA, StT, n1]
    refine c_next1 z hz hm.2.1 ?_
    generalize h.set q (AO.row [.int .i64 (nxZ z : Nat)] 0 0 false) = g1 at *
    by_cases k0 : nxZ z % 6 = 0
    · rw [if_pos k0] at hR
      have t6 : ((nxZ z : Nat) : Int).tmod 6 = 0 := by rw [show (6 : Int) = ((6 : Nat) : Int) from rfl, tmod_nat, k0]; rfl
      simp (maxSteps := 1000000) (disch := first | omega | rfl | (simp only [zL, two63, room] <;> omega) | fail) only [↓reduceIte, ↓zP, zW, WOp, evOp, evBin, binI, binSh, binS, evNil, keyIs, keyEq, mkv, AV.cells, AV.sc, optv, bnd, env, put, Env.get, Env.set, Env.del, Env.dels, Env.init, res1, resL, resV, fillP, splice, newRow, Nat.reduceEqDiff, Nat.reduceLT, Nat.reduceLeDiff, Nat.reduceAdd, Nat.reduceMul, Nat.reduceSub, Nat.reduceBEq, reduceCtorEq, ↓zR, zQ, Tr, StA, StT, t6, n6]
      refine c_next1 (nxZ z) (by omega) hm1.2.1 ?_
      have hm2 := hm1.next (nxZ (nxZ z))
      have q1' := (row2f hm2.1.1).2.1
      have lr' := rd_lt q1'
      generalize g1.set q (AO.row [.int .i64 (nxZ (nxZ z) : Nat)] 0 0 false) = g2 at *
      simp (maxSteps := 1000000) (disch := first | omega | rfl | (simp only [zL, two63, room] <;> omega) | fail) only [↓reduceIte, ↓zP, zW, WOp, evOp, evBin, binI, binSh, binS, evNil, keyIs, keyEq, mkv, AV.cells, AV.sc, optv, bnd, env, put, Env.get, Env.set, Env.del, Env.dels, Env.init, res1, resL, resV, fillP, splice, newRow, Nat.reduceEqDiff, Nat.reduceLT, Nat.reduceLeDiff, Nat.reduceAdd, Nat.reduceMul, Nat.reduceSub, Nat.reduceBEq, reduceCtorEq, ↓zR, zQ, Tr, StA, StT, nw', tw]
      refine w_drw ?_
      simp (maxSteps := 1000000) (disch := first | omega | rfl | (simp only [zL, two63, room] <;> omega) | fail) only [↓reduceIte, ↓zP, zW, WOp, evOp, evBin, binI, binSh, binS, evNil, keyIs, keyEq, mkv, AV.cells, AV.sc, optv, bnd, env, put, Env.get, Env.set, Env.del, Env.dels, Env.init, res1, resL, resV, fillP, splice, newRow, Nat.reduceEqDiff, Nat.reduceLT, Nat.reduceLeDiff, Nat.reduceAdd, Nat.reduceMul, Nat.reduceSub, Nat.reduceBEq, reduceCtorEq, ↓zR, zQ, Tr, StA, StT, q1']
      refine c_clueOf 0 _ w (by omega) (fun _ => by omega) ?_
      intro h2 p2
      obtain ⟨v3, h3, a1, a2, w1, w2, hm3⟩ := hm2.add p2 (clueB 0 ((nxZ (nxZ z) % w.length : Nat) : Int) w) (by omega)
      have q2 := rdRow_pre p2 q1'
      have lr2 : r < h2.length := rd_lt q2
      have q3 := (row2f a2).2.1
      simp only [AV.cells] at w1
      unfold AV.sc at w2
      simp (maxSteps := 1000000) (disch := first | omega | rfl | (simp only [zL, two63, room] <;> omega) | fail) only [↓reduceIte, ↓zP, zW, WOp, evOp, evBin, binI, binSh, binS, evNil, keyIs, keyEq, mkv, AV.cells, AV.sc, optv, bnd, env, put, Env.get, Env.set, Env.del, Env.dels, Env.init, res1, resL, resV, fillP, splice, newRow, Nat.reduceEqDiff, Nat.reduceLT, Nat.reduceLeDiff, Nat.reduceAdd, Nat.reduceMul, Nat.reduceSub, Nat.reduceBEq, reduceCtorEq, ↓zR, zQ, Tr, StA, StT, q1', q2, q3, a1, wr_of a2, w1, w2]
      simp (maxSteps := 1000000) (disch := first | omega | rfl | (simp only [zL, two63, room] <;> omega) | fail) only [↓reduceIte, ↓zP, zW, WOp, evOp, evBin, binI, binSh, binS, evNil, keyIs, keyEq, mkv, AV.cells, AV.sc, optv, bnd, env, put, Env.get, Env.set, Env.del, Env.dels, Env.init, res1, resL, resV, fillP, splice, newRow, Nat.reduceEqDiff, Nat.reduceLT, Nat.reduceLeDiff, Nat.reduceAdd, Nat.reduceMul, Nat.reduceSub, Nat.reduceBEq, reduceCtorEq, ↓zR, zQ, Tr, StA, StT, n2]
      rw [w_loopn (c := lp540_0) rfl]
      simp (maxSteps := 1000000) (disch := first | omega | rfl | (simp only [zL, two63, room] <;> omega) | fail) only [↓reduceIte, ↓zP, zW, WOp, evOp, evBin, binI, binSh, binS, evNil, keyIs, keyEq, mkv, AV.cells, AV.sc, optv, bnd, env, put, Env.get, Env.set, Env.del, Env.dels, Env.init, res1, resL, resV, fillP, splice, newRow, Nat.reduceEqDiff, Nat.reduceLT, Nat.reduceLeDiff, Nat.reduceAdd, Nat.reduceMul, Nat.reduceSub, Nat.reduceBEq, reduceCtorEq, ↓zR, zQ, Tr, StA, StT]
      exact ih _ v3 _ _ hm3 (by omega) (by simp; omega) (by omega) (fun v' h' m => hR v' h' (by simpa using m))
    · rw [if_neg k0] at hR
      have t6 : ((nxZ z : Nat) : Int).tmod 6 = ((nxZ z % 6 : Nat) : Int) := tmod_nat _ 6
      have e6 : (((nxZ z % 6 : Nat) : Int) == 0) = false := beq_f (by omega)
      simp (maxSteps := 1000000) (disch := first | omega | rfl | (simp only [zL, two63, room] <;> omega) | fail) only [↓reduceIte, ↓zP, zW, WOp, evOp, evBin, binI, binSh, binS, evNil, keyIs, keyEq, mkv, AV.cells, AV.sc, optv, bnd, env, put, Env.get, Env.set, Env.del, Env.dels, Env.init, res1, resL, resV, fillP, splice, newRow, Nat.reduceEqDiff, Nat.reduceLT, Nat.reduceLeDiff, Nat.reduceAdd, Nat.reduceMul, Nat.reduceSub, Nat.reduceBEq, reduceCtorEq, ↓zR, zQ, Tr, StA, StT, t6, n6, e6]
      refine w_drw ?_
      simp (maxSteps := 1000000) (disch := first | omega | rfl | (simp only [zL, two63, room] <;> omega) | fail) only [↓reduceIte, ↓zP, zW, WOp, evOp, evBin, binI, binSh, binS, evNil, keyIs, keyEq, mkv, AV.cells, AV.sc, optv, bnd, env, put, Env.get, Env.set, Env.del, Env.dels, Env.init, res1, resL, resV, fillP, splice, newRow, Nat.reduceEqDiff, Nat.reduceLT, Nat.reduceLeDiff, Nat.reduceAdd, Nat.reduceMul, Nat.reduceSub, Nat.reduceBEq, reduceCtorEq, ↓zR, zQ, Tr, StA, StT, q1]
      refine c_clueOf _ 0 w (by omega) (fun e => by omega) ?_
      intro h2 p2
      obtain ⟨v3, h3, a1, a2, w1, w2, hm3⟩ := hm1.add p2 (clueB ((nxZ z % 6 : Nat) : Int) 0 w) (by omega)
      have q2 := rdRow_pre p2 q1
      have lr2 : r < h2.length := rd_lt q2
      have q3 := (row2f a2).2.1
      simp only [AV.cells] at w1
      unfold AV.sc at w2
      simp (maxSteps := 1000000) (disch := first | omega | rfl | (simp only [zL, two63, room] <;> omega) | fail) only [↓reduceIte, ↓zP, zW, WOp, evOp, evBin, binI, binSh, binS, evNil, keyIs, keyEq, mkv, AV.cells, AV.sc, optv, bnd, env, put, Env.get, Env.set, Env.del, Env.dels, Env.init, res1, resL, resV, fillP, splice, newRow, Nat.reduceEqDiff, Nat.reduceLT, Nat.reduceLeDiff, Nat.reduceAdd, Nat.reduceMul, Nat.reduceSub, Nat.reduceBEq, reduceCtorEq, ↓zR, zQ, Tr, StA, StT, q1, q2, q3, a1, wr_of a2, w1, w2]
      simp (maxSteps := 1000000) (disch := first | omega | rfl | (simp only [zL, two63, room] <;> omega) | fail) only [↓reduceIte, ↓zP, zW, WOp, evOp, evBin, binI, binSh, binS, evNil, keyIs, keyEq, mkv, AV.cells, AV.sc, optv, bnd, env, put, Env.get, Env.set, Env.del, Env.dels, Env.init, res1, resL, resV, fillP, splice, newRow, Nat.reduceEqDiff, Nat.reduceLT, Nat.reduceLeDiff, Nat.reduceAdd, Nat.reduceMul, Nat.reduceSub, Nat.reduceBEq, reduceCtorEq, ↓zR, zQ, Tr, StA, StT, n2]
      rw [w_loopn (c := lp540_0) rfl]
      simp (maxSteps := 1000000) (disch := first | omega | rfl | (simp only [zL, two63, room] <;> omega) | fail) only [↓reduceIte, ↓zP, zW, WOp, evOp, evBin, binI, binSh, binS, evNil, keyIs, keyEq, mkv, AV.cells, AV.sc, optv, bnd, env, put, Env.get, Env.set, Env.del, Env.dels, Env.init, res1, resL, resV, fillP, splice, newRow, Nat.reduceEqDiff, Nat.reduceLT, Nat.reduceLeDiff, Nat.reduceAdd, Nat.reduceMul, Nat.reduceSub, Nat.reduceBEq, reduceCtorEq, ↓zR, zQ, Tr, StA, StT]
      exact ih _ v3 _ _ hm3 (by omega) (by simp; omega) (by omega) (fun v' h' m => hR v' h' (by simpa using m))
theorem mp_hyp {w : List UInt8} {c s : Int} (h : mpB w c s = true) : ((1 ≤ w.length ∧ w.length ≤ 5) ∧ w.all isSign = true) ∧ ∃ C Z : Nat, c = C ∧ s = Z ∧ C ≤ 6 ∧ Z ≤ 9999 := by
  unfold mpB at h
  rw [Bool.and_eq_true, Bool.and_eq_true, decide_eq_true_eq, decide_eq_true_eq] at h
  exact ⟨h5B_iff h.1, c.toNat, s.toNat, by omega, by omega, by omega, by omega⟩
theorem c_sMakePuzzle (w : List UInt8) (hw : w.length < 2 ^ 60) (c s : Int) {h : AH} {post : AV → AH → Prop} (hp : ∀ v' h', OwL 3 encC h h' v' (mpC w c s) → Pre h h' → post (.tup [pzV (mpN w c s) v', .bool (mpB w c s)]) h') : S 541 [.str w, .int .i64 c, .int .i64 s] h post k := by
  have P1 := Pre.push h (AO.row [.int .i64 0, .nilS] 0 0 false)
  have z1 := zrow h (AO.row [.int .i64 0, .nilS] 0 0 false)
  have l1 : (h ++ [AO.row [.int .i64 0, .nilS] 0 0 false]).length = h.length + 1 := by simp
  have hh : h.length < (h ++ [AO.row [.int .i64 0, .nilS] 0 0 false]).length := by simp
  generalize hg1 : h ++ [AO.row [.int .i64 0, .nilS] 0 0 false] = g1 at *
  cases e : mpB w c s
  · unfold mpC mpN at hp
    rw [e] at hp
    refine S_of rfl T541 ?_; unfold fi541
    unfold mpB at e
    cases e5 : h5B w
    · simp (maxSteps := 1000000) (disch := first | omega | rfl | (simp only [zL, two63, room] <;> omega) | fail) only [↓reduceIte, ↓zP, zW, WOp, evOp, evBin, binI, binSh, binS, evNil, keyIs, keyEq, mkv, AV.cells, AV.sc, optv, bnd, env, put, Env.get, Env.set, Env.del, Env.dels, Env.init, res1, resL, resV, fillP, splice, newRow, Nat.reduceEqDiff, Nat.reduceLT, Nat.reduceLeDiff, Nat.reduceAdd, Nat.reduceMul, Nat.reduceSub, Nat.reduceBEq, reduceCtorEq, ↓zR, zQ, Tr, StA, StT, hg1, e_pzLine w hw, e5, wr_of z1, List.length_set, hh]
      exact hp .nilS _ OwL.nil (P1.set (Nat.le_refl _))
    · by_cases hc : 0 ≤ c ∧ c ≤ 6
      · by_cases hz : 0 ≤ s ∧ s ≤ 9999
        · rw [e5, decide_eq_true hc, decide_eq_true hz] at e; cases e
        · simp (maxSteps := 1000000) (disch := first | omega | rfl | (simp only [zL, two63, room] <;> omega) | fail) only [↓reduceIte, ↓zP, zW, WOp, evOp, evBin, binI, binSh, binS, evNil, keyIs, keyEq, mkv, AV.cells, AV.sc, optv, bnd, env, put, Env.get, Env.set, Env.del, Env.dels, Env.init, res1, resL, resV, fillP, splice, newRow, Nat.reduceEqDiff, Nat.reduceLT, Nat.reduceLeDiff, Nat.reduceAdd, Nat.reduceMul, Nat.reduceSub, Nat.reduceBEq, reduceCtorEq, ↓zR, zQ, Tr, StA, StT, hg1, e_pzLine w hw, e5, e_l1In, hc, hz, wr_of z1, List.length_set, hh]
          exact hp .nilS _ OwL.nil (P1.set (Nat.le_refl _))
      · simp (maxSteps := 1000000) (disch := first | omega | rfl | (simp only [zL, two63, room] <;> omega) | fail) only [↓reduceIte, ↓zP, zW, WOp, evOp, evBin, binI, binSh, binS, evNil, keyIs, keyEq, mkv, AV.cells, AV.sc, optv, bnd, env, put, Env.get, Env.set, Env.del, Env.dels, Env.init, res1, resL, resV, fillP, splice, newRow, Nat.reduceEqDiff, Nat.reduceLT, Nat.reduceLeDiff, Nat.reduceAdd, Nat.reduceMul, Nat.reduceSub, Nat.reduceBEq, reduceCtorEq, ↓zR, zQ, Tr, StA, StT, hg1, e_pzLine w hw, e5, e_l1In, hc, wr_of z1, List.length_set, hh]
        exact hp .nilS _ OwL.nil (P1.set (Nat.le_refl _))
  · obtain ⟨⟨⟨m1, m5⟩, hs⟩, C, Z, rfl, rfl, hC, hZ⟩ := mp_hyp e
    have e5 : h5B w = true := by unfold mpB at e; rw [Bool.and_eq_true] at e; exact e.1
    have hc : 0 ≤ (C : Int) ∧ (C : Int) ≤ 6 := by omega
    have hz : 0 ≤ (Z : Int) ∧ (Z : Int) ≤ 9999 := by omega
    unfold mpC mpN at hp
    rw [e] at hp
    simp only [if_true, Int.toNat_natCast] at hp
    refine S_of rfl T541 ?_; unfold fi541
    simp (maxSteps := 1000000) (disch := first | omega | rfl | (simp only [zL, two63, room] <;> omega) | fail) only [↓reduceIte, ↓zP, zW, WOp, evOp, evBin, binI, binSh, binS, evNil, keyIs, keyEq, mkv, AV.cells, AV.sc, optv, bnd, env, put, Env.get, Env.set, Env.del, Env.dels, Env.init, res1, resL, resV, fillP, splice, newRow, Nat.reduceEqDiff, Nat.reduceLT, Nat.reduceLeDiff, Nat.reduceAdd, Nat.reduceMul, Nat.reduceSub, Nat.reduceBEq, reduceCtorEq, ↓zR, zQ, Tr, StA, StT, hg1, e_pzLine w hw, e5, e_l1In, hc, hz]
    have P2 := Pre.push g1 (AO.row [.int .i64 w.length, .nilS] 0 0 false)
    have z2 := zrow g1 (AO.row [.int .i64 w.length, .nilS] 0 0 false)
    have l2 : (g1 ++ [AO.row [.int .i64 w.length, .nilS] 0 0 false]).length = g1.length + 1 := by simp
    generalize hg2 : g1 ++ [AO.row [.int .i64 w.length, .nilS] 0 0 false] = g2 at *
    have zz : g2[h.length]? = some (AO.row [.int .i64 0, .nilS] 0 0 false) := by rw [P2.2 _ hh]; exact z1
    refine lp_sMake w hs m1 m5 (g0 := h) (b := g2) (e := h.length) (r := g1.length) C Z .nilS [] g2 ⟨z2, OwL.nil, ⟨(P1.trans P2).ag (Nat.le_refl _), zz⟩, Nat.le_refl _, ⟨by omega, by omega, by omega⟩, by omega⟩ (by omega) (by simp; omega) ?_
    intro v' h' hm
    obtain ⟨k1, k2, ⟨k3, kz⟩, k4, k5, k6⟩ := hm
    have f1 := (row2f k1).2.2
    have w1 := (sl_cells k2.slc).1
    have w2 := (sl_cells k2.slc).2
    simp only [AV.cells] at w1
    unfold AV.sc at w2
    have lh : h.length < h'.length := by omega
    simp (maxSteps := 1000000) (disch := first | omega | rfl | (simp only [zL, two63, room] <;> omega) | fail) only [↓reduceIte, ↓zP, zW, WOp, evOp, evBin, binI, binSh, binS, evNil, keyIs, keyEq, mkv, AV.cells, AV.sc, optv, bnd, env, put, Env.get, Env.set, Env.del, Env.dels, Env.init, res1, resL, resV, fillP, splice, newRow, Nat.reduceEqDiff, Nat.reduceLT, Nat.reduceLeDiff, Nat.reduceAdd, Nat.reduceMul, Nat.reduceSub, Nat.reduceBEq, reduceCtorEq, ↓zR, zQ, Tr, StA, StT, f1, wr_of kz, List.length_set, lh, w1, w2]
    exact hp v' _ (own_base (own_set (b := g2) k2 (by omega)) (by omega)) ((k3.pre (Nat.le_refl _)).set (Nat.le_refl _))
theorem c_MakePuzzle (w : List UInt8) (hw : w.length < 2 ^ 60) (c s : Int) {h : AH} {post : AV → AH → Prop} (hp : ∀ v' h', OwL 3 encC h h' v' (mpC w c s) → Pre h h' → post (.tup [pzV (mpN w c s) v', .bool (mpB w c s)]) h') : S 540 [.str w, .int .i64 c, .int .i64 s] h post k := by
  have P0 := Pre.push h (AO.row [.int .i64 s] 0 0 false)
  have z0 := zrow h (AO.row [.int .i64 s] 0 0 false)
  have hh0 : (h ++ [AO.row [.int .i64 s] 0 0 false]).length = h.length + 1 := by simp
  generalize hg0 : h ++ [AO.row [.int .i64 s] 0 0 false] = g0 at *
  have P1 := Pre.push g0 (AO.row [.int .i64 0, .nilS] 0 0 false)
  have z1 := zrow g0 (AO.row [.int .i64 0, .nilS] 0 0 false)
  have hh : g0.length < (g0 ++ [AO.row [.int .i64 0, .nilS] 0 0 false]).length := by simp
  generalize hg1 : g0 ++ [AO.row [.int .i64 0, .nilS] 0 0 false] = g1 at *
  have y1 : g1[h.length]? = some (AO.row [.int .i64 s] 0 0 false) := by rw [P1.2 _ (by omega)]; exact z0
  have s1 := row1f y1
  have P := P0.trans P1
  cases e : mpB w c s
  · unfold mpC mpN at hp
    rw [e] at hp
    refine S_of rfl T540 ?_; unfold fi540
    unfold mpB at e
    cases e5 : h5B w
    · simp (maxSteps := 1000000) (disch := first | omega | rfl | (simp only [zL, two63, room] <;> omega) | fail) only [↓reduceIte, ↓zP, zW, WOp, evOp, evBin, binI, binSh, binS, evNil, keyIs, keyEq, mkv, AV.cells, AV.sc, optv, bnd, env, put, Env.get, Env.set, Env.del, Env.dels, Env.init, res1, resL, resV, fillP, splice, newRow, Nat.reduceEqDiff, Nat.reduceLT, Nat.reduceLeDiff, Nat.reduceAdd, Nat.reduceMul, Nat.reduceSub, Nat.reduceBEq, reduceCtorEq, ↓zR, zQ, Tr, StA, StT, hg0, hg1, e_isLine5 w hw, e5, wr_of z1, List.length_set, hh]
      exact hp .nilS _ OwL.nil (P.set (by omega))
    · by_cases hc : 0 ≤ c ∧ c ≤ 6
      · by_cases hz : 0 ≤ s ∧ s ≤ 9999
        · rw [e5, decide_eq_true hc, decide_eq_true hz] at e; cases e
        · simp (maxSteps := 1000000) (disch := first | omega | rfl | (simp only [zL, two63, room] <;> omega) | fail) only [↓reduceIte, ↓zP, zW, WOp, evOp, evBin, binI, binSh, binS, evNil, keyIs, keyEq, mkv, AV.cells, AV.sc, optv, bnd, env, put, Env.get, Env.set, Env.del, Env.dels, Env.init, res1, resL, resV, fillP, splice, newRow, Nat.reduceEqDiff, Nat.reduceLT, Nat.reduceLeDiff, Nat.reduceAdd, Nat.reduceMul, Nat.reduceSub, Nat.reduceBEq, reduceCtorEq, ↓zR, zQ, Tr, StA, StT, hg0, hg1, s1, e_isLine5 w hw, e5, e_within, hc, hz, wr_of z1, List.length_set, hh]
          exact hp .nilS _ OwL.nil (P.set (by omega))
      · simp (maxSteps := 1000000) (disch := first | omega | rfl | (simp only [zL, two63, room] <;> omega) | fail) only [↓reduceIte, ↓zP, zW, WOp, evOp, evBin, binI, binSh, binS, evNil, keyIs, keyEq, mkv, AV.cells, AV.sc, optv, bnd, env, put, Env.get, Env.set, Env.del, Env.dels, Env.init, res1, resL, resV, fillP, splice, newRow, Nat.reduceEqDiff, Nat.reduceLT, Nat.reduceLeDiff, Nat.reduceAdd, Nat.reduceMul, Nat.reduceSub, Nat.reduceBEq, reduceCtorEq, ↓zR, zQ, Tr, StA, StT, hg0, hg1, e_isLine5 w hw, e5, e_within, hc, wr_of z1, List.length_set, hh]
        exact hp .nilS _ OwL.nil (P.set (by omega))
  · obtain ⟨⟨⟨m1, m5⟩, hs⟩, C, Z, rfl, rfl, hC, hZ⟩ := mp_hyp e
    have e5 : h5B w = true := by unfold mpB at e; rw [Bool.and_eq_true] at e; exact e.1
    have hc : 0 ≤ (C : Int) ∧ (C : Int) ≤ 6 := by omega
    have hz : 0 ≤ (Z : Int) ∧ (Z : Int) ≤ 9999 := by omega
    unfold mpC mpN at hp
    rw [e] at hp
    simp only [if_true, Int.toNat_natCast] at hp
    refine S_of rfl T540 ?_; unfold fi540
    simp (maxSteps := 1000000) (disch := first | omega | rfl | (simp only [zL, two63, room] <;> omega) | fail) only [↓reduceIte, ↓zP, zW, WOp, evOp, evBin, binI, binSh, binS, evNil, keyIs, keyEq, mkv, AV.cells, AV.sc, optv, bnd, env, put, Env.get, Env.set, Env.del, Env.dels, Env.init, res1, resL, resV, fillP, splice, newRow, Nat.reduceEqDiff, Nat.reduceLT, Nat.reduceLeDiff, Nat.reduceAdd, Nat.reduceMul, Nat.reduceSub, Nat.reduceBEq, reduceCtorEq, ↓zR, zQ, Tr, StA, StT, hg0, hg1, s1, e_isLine5 w hw, e5, e_within, hc, hz]
    have P2 := Pre.push g1 (AO.row [.int .i64 w.length, .empS] 0 0 false)
    have z2 := zrow g1 (AO.row [.int .i64 w.length, .empS] 0 0 false)
    have l2 : (g1 ++ [AO.row [.int .i64 w.length, .empS] 0 0 false]).length = g1.length + 1 := by simp
    generalize hg2 : g1 ++ [AO.row [.int .i64 w.length, .empS] 0 0 false] = g2 at *
    have zz : g2[g0.length]? = some (AO.row [.int .i64 0, .nilS] 0 0 false) := by rw [P2.2 _ hh]; exact z1
    have yy : g2[h.length]? = some (AO.row [.int .i64 Z] 0 0 false) := by rw [P2.2 _ (by omega)]; exact y1
    refine lp_Make w hs m1 m5 (K := C) (by omega) (g0 := h) (b := g2) (e := g0.length) (q := h.length) (r := g1.length) (p := g0.length) C 0 Z .empS [] g2 ⟨⟨z2, OwL.emp, ⟨(P.trans P2).ag (Nat.le_refl _), zz⟩, Nat.le_refl _, ⟨by omega, by omega, by omega⟩, by omega⟩, yy, by omega, ⟨by omega, by omega⟩, Nat.le_refl _⟩ (by omega) (by simp; omega) (by omega) ?_
    intro v' h' hm
    obtain ⟨k1, k2, ⟨k3, kz⟩, k4, k5, k6⟩ := hm
    have f1 := (row2f k1).2.2
    have w1 := (sl_cells k2.slc).1
    have w2 := (sl_cells k2.slc).2
    simp only [AV.cells] at w1
    unfold AV.sc at w2
    have lh : g0.length < h'.length := by omega
    simp (maxSteps := 1000000) (disch := first | omega | rfl | (simp only [zL, two63, room] <;> omega) | fail) only [↓reduceIte, ↓zP, zW, WOp, evOp, evBin, binI, binSh, binS, evNil, keyIs, keyEq, mkv, AV.cells, AV.sc, optv, bnd, env, put, Env.get, Env.set, Env.del, Env.dels, Env.init, res1, resL, resV, fillP, splice, newRow, Nat.reduceEqDiff, Nat.reduceLT, Nat.reduceLeDiff, Nat.reduceAdd, Nat.reduceMul, Nat.reduceSub, Nat.reduceBEq, reduceCtorEq, ↓zR, zQ, Tr, StA, StT, f1, wr_of kz, List.length_set, lh, w1, w2]
    exact hp v' _ (own_base (own_set (b := g2) k2 (by omega)) (by omega)) ((k3.pre (Nat.le_refl _)).set (by omega))
end Go.Proofs.YtnamhjdfegohbaaGreatDoor.Ab

/- PLAIN: what the law of hidden lines says, of puzzles made, made harder, with a clue more or less. -/
namespace Go.Proofs.YtnamhjdfegohbaaGreatDoor.Ab
open Go
set_option maxRecDepth 100000

theorem h5_line {w : List UInt8} (h : h5B w = true) : goodLine w = true := by
  obtain ⟨⟨h1, h2⟩, h3⟩ := h5B_iff h
  unfold goodLine
  rw [h3, decide_eq_true (p := 1 ≤ w.length ∧ w.length ≤ 12) ⟨h1, by omega⟩]; rfl
theorem h5_at {w : List UInt8} (h : w.all isSign = true) (i : Nat) (hi : i < w.length) : isSign (w.getD i 0) = true := by
  have := List.all_eq_true.1 h (w[i]) (List.getElem_mem hi)
  simpa [List.getD_eq_getElem?_getD, hi] using this
theorem df_clue {w : List UInt8} (h : h5B w = true) {kd : Int} (hk : 0 ≤ kd ∧ kd ≤ 5) (h0 : kd ≠ 0) : dfOk (clueB kd 0 w) w = true ∧ dfB (clueB kd 0 w) w = true := by
  obtain ⟨⟨h1, h2⟩, h3⟩ := h5B_iff h
  obtain ⟨a, b⟩ := clueB_ok (fun i hi => h5_at h3 i hi) h2 kd 0 hk (fun e => absurd e h0)
  have : dfOk (clueB kd 0 w) w = true := by unfold dfOk; rw [h, a]; rfl
  exact ⟨this, by unfold dfB; rw [this, b]; rfl⟩
theorem df_pairs {w : List UInt8} (h : h5B w = true) : dfOk (4, pairsG w, 0) w = true ∧ dfB (4, pairsG w, 0) w = true := by
  have e : ((4, pairsG w, 0) : Clu) = clueB 4 0 w := by
    unfold pairsG
    rw [if_pos (h5_line h)]
    simp [clueB]
  rw [e]
  exact df_clue h (by omega) (by omega)
theorem df_moves {w : List UInt8} (h : h5B w = true) : dfOk (3, ((mvG [84, 70] w).length : Int), 0) w = true ∧ dfB (3, ((mvG [84, 70] w).length : Int), 0) w = true := by
  have e : ((3, ((mvG [84, 70] w).length : Int), 0) : Clu) = clueB 3 0 w := by
    unfold mvG
    rw [if_pos (h5_line h)]
    simp [clueB]
  rw [e]
  exact df_clue h (by omega) (by omega)
theorem mp_all {w : List UInt8} {c s : Int} (h : mpB w c s = true) : h5B w = true ∧ mpN w c s = w.length ∧ ((mpC w c s).length : Int) = c ∧ goodP (w.length : Nat) (mpC w c s) = true ∧ w ∈ solN (w.length : Nat) (mpC w c s) := by
  obtain ⟨⟨⟨m1, m5⟩, hs⟩, C, Z, rfl, rfl, hC, hZ⟩ := mp_hyp h
  have e5 : h5B w = true := by unfold mpB at h; rw [Bool.and_eq_true] at h; exact h.1
  unfold mpC mpN
  rw [h]
  simp only [if_true, Int.toNat_natCast]
  refine ⟨e5, trivial, by rw [mkG_len], ?_, ?_⟩
  · exact mk_good (fun i hi => h5_at hs i hi) m1 m5 hC Z
  · exact mk_sol hs (fun i hi => h5_at hs i hi) m1 m5 C Z
theorem one_good {n : Int} {cs : List Clu} (h : (countP n cs == 1) = true) : goodP n cs = true := by
  cases e : goodP n cs
  · unfold countP at h; rw [e] at h; simp at h
  · rfl
theorem hard_all {n : Int} {cs : List Clu} (h : (countP n cs == 1) = true) : hardN n cs = n ∧ goodP n (hardC n cs) = true ∧ solN n (hardC n cs) = solN n cs ∧ needP n (hardC n cs) = [] ∧ goodP n cs = true := by
  have hg := one_good h
  obtain ⟨m, rfl, m1, m5, m6, mok⟩ := goodP_iff hg
  have h1 : (fitL m cs).length = 1 := by
    unfold countP at h
    rw [hg] at h
    simp only [if_true, beq_iff_eq] at h
    have : solN (m : Int) cs = fitL m cs := rfl
    rw [this] at h
    omega
  have hc : hardC m cs = hardGo m cs.length 0 cs := by unfold hardC; rw [h]; rfl
  have hgd : goodP m (hardGo m cs.length 0 cs) = true := by
    unfold goodP
    rw [Bool.and_eq_true, Bool.and_eq_true, decide_eq_true_eq, decide_eq_true_eq, List.all_eq_true]
    exact ⟨by omega, Nat.le_trans (hardGo_len m _ _ _) m6, fun c hc => mok c (hardGo_mem m _ _ _ hc)⟩
  rw [hc]
  refine ⟨by unfold hardN; rw [h]; rfl, hgd, ?_, ?_, hg⟩
  · show fitL m _ = fitL m cs
    exact hardGo_one m _ _ cs h1
  · unfold needP
    rw [hgd]
    exact hard_needs h1
theorem ad_good {n : Int} {cs : List Clu} {c : Clu} (h : adB n cs c = true) : goodP n (cs ++ [c]) = true ∧ goodP n cs = true ∧ cs.length < 6 := by
  unfold adB at h
  rw [Bool.and_eq_true, Bool.and_eq_true] at h
  obtain ⟨h1, h2, h3⟩ := h
  obtain ⟨m, rfl, m1, m5, m6, mok⟩ := goodP_iff h1
  have h6 : cs.length < 6 := by simp at h3; omega
  refine ⟨?_, h1, h6⟩
  unfold goodP
  rw [Bool.and_eq_true, Bool.and_eq_true, decide_eq_true_eq, decide_eq_true_eq, List.all_eq_true]
  refine ⟨by omega, by simp; omega, fun x hx => ?_⟩
  rcases List.mem_append.1 hx with hx | hx
  · exact mok x hx
  · rw [List.mem_singleton.1 hx]; exact h2
theorem ad_back {n : Int} {cs : List Clu} {c : Clu} (h : adB n cs c = true) : drB n (cs ++ [c]) cs.length = true ∧ drC n (cs ++ [c]) cs.length = cs ∧ drN n (cs ++ [c]) cs.length = n := by
  obtain ⟨h1, h2, h3⟩ := ad_good h
  have hd : drB n (cs ++ [c]) cs.length = true := by
    unfold drB
    rw [h1, Bool.true_and, decide_eq_true_eq]
    simp
  refine ⟨hd, ?_, by unfold drN; rw [hd]; rfl⟩
  unfold drC
  rw [hd]
  simp only [if_true, Int.toNat_natCast]
  exact wo_added cs c
theorem dr_again {n k : Int} {cs : List Clu} (h : drB n cs k = true) (hk : k = (cs.length : Int) - 1) : ∃ (pre : List Clu) (c : Clu), cs = pre ++ [c] ∧ k = pre.length ∧ drC n cs k = pre ∧ drN n cs k = n ∧ adB n pre c = true ∧ cs.length ≤ 6 := by
  have h' := h
  unfold drB at h
  rw [Bool.and_eq_true, decide_eq_true_eq] at h
  obtain ⟨h1, h2⟩ := h
  obtain ⟨m, rfl, m1, m5, m6, mok⟩ := goodP_iff h1
  have hne : cs ≠ [] := by rintro rfl; simp at hk; omega
  refine ⟨cs.dropLast, cs.getLast hne, (List.dropLast_concat_getLast hne).symm, by rw [List.length_dropLast]; omega, ?_, by unfold drN; rw [h']; rfl, ?_, m6⟩
  · unfold drC wo
    rw [h']
    simp only [if_true]
    rw [List.drop_eq_nil_of_le (by omega), List.append_nil, List.dropLast_eq_take]
    congr 1
    omega
  · unfold adB
    rw [Bool.and_eq_true, Bool.and_eq_true]
    refine ⟨?_, mok _ (List.getLast_mem hne), ?_⟩
    · unfold goodP
      rw [Bool.and_eq_true, Bool.and_eq_true, decide_eq_true_eq, decide_eq_true_eq, List.all_eq_true]
      exact ⟨by omega, by rw [List.length_dropLast]; omega, fun x hx => mok x (List.dropLast_subset _ hx)⟩
    · simp; omega
theorem sol_few {n : Int} {cs : List Clu} (h : goodP n cs = true) : (solN n cs).length ≤ 243 := by
  obtain ⟨m, rfl, m1, m5, _⟩ := goodP_iff h
  have h1 := List.length_filter_le (fun w => cs.all fun c => fitB c w) (allL m)
  have h2 := allL_length m
  have h3 : 3 ^ m ≤ 3 ^ 5 := Nat.pow_le_pow_right (by omega) m5
  have h4 : (solN (m : Int) cs).length ≤ (allL m).length := h1
  omega
theorem df_is {c : Clu} {x : List UInt8} (h : dfOk c x = true) : (decide (1 ≤ (x.length : Int) ∧ (x.length : Int) ≤ 5) && clueOk x.length c) = true := by
  unfold dfOk at h
  rw [Bool.and_eq_true] at h
  obtain ⟨⟨h1, h2⟩, h3⟩ := h5B_iff h.1
  rw [h.2, Bool.and_true, decide_eq_true_eq]
  omega
end Go.Proofs.YtnamhjdfegohbaaGreatDoor.Ab

/- THE LAW OF HIDDEN LINES, whatever is given. -/
namespace Go.Proofs.YtnamhjdfegohbaaGreatDoor.Ab
open Go
set_option maxRecDepth 100000
set_option maxHeartbeats 16000000

/-- Two ways that meet again: what follows is shown once. -/
theorem fork {b : Bool} {a g : AH} {P : AH → Prop} (ha : Pre a g) (G : AH → Prop) (hf : ∀ h, Pre g h → (∀ H, Pre a H → G H) → b = false → P h) (ht : ∀ h, Pre g h → (∀ H, Pre a H → G H) → b = true → P h) (hG : ∀ H, Pre a H → G H) : ∀ h, Pre g h → P h := by
  intro h hp
  cases b
  · exact hf h hp hG rfl
  · exact ht h hp hG rfl
section
variable {w x : List UInt8} {c0 s0 nq nr ns kx n : Int} {vq vr vs : AV} {Lq Lr Ls : List Clu} {c d e : Clu} {h : AH}
theorem law_LinesHiddenOfAll_of (hw : w.length < 2 ^ 63) (hx : x.length < 2 ^ 63) (hq : Lq.length < 2 ^ 63) (hr : Lr.length < 2 ^ 63) (hs : Ls.length < 2 ^ 63) (sq : Slc 3 encC h vq Lq) (sr : Slc 3 encC h vr Lr) (ss : Slc 3 encC h vs Ls) {post : AV → AH → Prop} (hp : ∀ h', post (.bool true) h') :
    S 539 [.str w, .int .i64 c0, .int .i64 s0, pzV nq vq, pzV nr vr, .agg (encC c), pzV ns vs, .int .i64 kx, .agg (encC d), .str x, .int .i64 n, .agg (encC e)] h post k := by
  have scq := (sl_cells sq).2
  have scr := (sl_cells sr).2
  have scs := (sl_cells ss).2
  unfold AV.sc at scq scr scs
  have P1 := Pre.push h (AO.row [.int .i64 nq, vq] 0 0 false)
  obtain ⟨bq, bq1, bqv⟩ := rowP h nq vq
  generalize hg1 : h ++ [AO.row [.int .i64 nq, vq] 0 0 false] = a1 at *
  have P2 := Pre.push a1 (AO.row [.int .i64 nr, vr] 0 0 false)
  obtain ⟨br, br1, brv⟩ := rowP a1 nr vr
  generalize hg2 : a1 ++ [AO.row [.int .i64 nr, vr] 0 0 false] = a2 at *
  have P3 := Pre.push a2 (AO.row (encC c) 0 0 false)
  have bc := rowC a2 c
  generalize hg3 : a2 ++ [AO.row (encC c) 0 0 false] = a3 at *
  have P4 := Pre.push a3 (AO.row [.int .i64 ns, vs] 0 0 false)
  obtain ⟨bs, bs1, bsv⟩ := rowP a3 ns vs
  generalize hg4 : a3 ++ [AO.row [.int .i64 ns, vs] 0 0 false] = a4 at *
  have P5 := Pre.push a4 (AO.row (encC d) 0 0 false)
  have bd := rowC a4 d
  generalize hg5 : a4 ++ [AO.row (encC d) 0 0 false] = a5 at *
  have P6 := Pre.push a5 (AO.row (encC e) 0 0 false)
  have be := rowC a5 e
  generalize hg6 : a5 ++ [AO.row (encC e) 0 0 false] = B at *
  replace bd := rdRow_pre P6 bd
  replace bs := rdRow_pre (P5.trans P6) bs
  replace bsv := rdRow_pre (P5.trans P6) bsv
  replace bc := rdRow_pre (P4.trans (P5.trans P6)) bc
  have P36 := P3.trans (P4.trans (P5.trans P6))
  replace br := rdRow_pre P36 br
  replace brv := rdRow_pre P36 brv
  replace bq := rdRow_pre (P2.trans P36) bq
  replace bqv := rdRow_pre (P2.trans P36) bqv
  have PB := P1.trans (P2.trans P36)
  replace sq := sq.pre PB
  replace sr := sr.pre PB
  replace ss := ss.pre PB
  refine S_of rfl T539 ?_; unfold fi539
  by_cases hw1 : (w.length : Int) > 1048576
  · simp (maxSteps := 1000000) (disch := first | omega | rfl | (simp only [zL, two63, room] <;> omega) | fail) only [↓reduceIte, ↓zP, zW, WOp, evOp, evBin, binI, binSh, binS, evNil, keyIs, keyEq, mkv, AV.cells, AV.sc, optv, bnd, env, put, Env.get, Env.set, Env.del, Env.dels, Env.init, res1, resL, resV, fillP, splice, newRow, Nat.reduceEqDiff, Nat.reduceLT, Nat.reduceLeDiff, Nat.reduceAdd, Nat.reduceMul, Nat.reduceSub, Nat.reduceBEq, reduceCtorEq, ↓zR, zQ, Tr, StA, StT, scq, scr, scs, hg1, hg2, hg3, hg4, hg5, hg6, hw1]
    exact hp _
  by_cases hx1 : (x.length : Int) > 1048576
  · simp (maxSteps := 1000000) (disch := first | omega | rfl | (simp only [zL, two63, room] <;> omega) | fail) only [↓reduceIte, ↓zP, zW, WOp, evOp, evBin, binI, binSh, binS, evNil, keyIs, keyEq, mkv, AV.cells, AV.sc, optv, bnd, env, put, Env.get, Env.set, Env.del, Env.dels, Env.init, res1, resL, resV, fillP, splice, newRow, Nat.reduceEqDiff, Nat.reduceLT, Nat.reduceLeDiff, Nat.reduceAdd, Nat.reduceMul, Nat.reduceSub, Nat.reduceBEq, reduceCtorEq, ↓zR, zQ, Tr, StA, StT, scq, scr, scs, hg1, hg2, hg3, hg4, hg5, hg6, hw1, hx1]
    exact hp _
  simp (maxSteps := 1000000) (disch := first | omega | rfl | (simp only [zL, two63, room] <;> omega) | fail) only [↓reduceIte, ↓zP, zW, WOp, evOp, evBin, binI, binSh, binS, evNil, keyIs, keyEq, mkv, AV.cells, AV.sc, optv, bnd, env, put, Env.get, Env.set, Env.del, Env.dels, Env.init, res1, resL, resV, fillP, splice, newRow, Nat.reduceEqDiff, Nat.reduceLT, Nat.reduceLeDiff, Nat.reduceAdd, Nat.reduceMul, Nat.reduceSub, Nat.reduceBEq, reduceCtorEq, ↓zR, zQ, Tr, StA, StT, scq, scr, scs, hg1, hg2, hg3, hg4, hg5, hg6, hw1, hx1]
  clear hg1 hg2 hg3 hg4 hg5 hg6 P1 P2 P3 P4 P5 P6 P36
  refine c_MakePuzzle w (by omega) c0 s0 ?_
  intro v1 h1 o1 p1
  have w1a := (sl_cells (o1.slc)).1
  have w1b := (sl_cells (o1.slc)).2
  simp only [AV.cells] at w1a
  unfold AV.sc at w1b
  have x1 := Pre.push h1 (AO.row [.int .i64 (mpN w c0 s0), v1] 0 0 false)
  obtain ⟨m1, m1n, m1v⟩ := rowP h1 (mpN w c0 s0) v1
  generalize hk1 : h1 ++ [AO.row [.int .i64 (mpN w c0 s0), v1] 0 0 false] = k1 at *
  simp (maxSteps := 1000000) (disch := first | omega | rfl | (simp only [zL, two63, room] <;> omega) | fail) only [↓reduceIte, ↓zP, zW, WOp, evOp, evBin, binI, binSh, binS, evNil, keyIs, keyEq, mkv, AV.cells, AV.sc, optv, bnd, env, put, Env.get, Env.set, Env.del, Env.dels, Env.init, res1, resL, resV, fillP, splice, newRow, Nat.reduceEqDiff, Nat.reduceLT, Nat.reduceLeDiff, Nat.reduceAdd, Nat.reduceMul, Nat.reduceSub, Nat.reduceBEq, reduceCtorEq, ↓zR, zQ, Tr, StA, StT, w1a, w1b, hk1]
  refine c_sMakePuzzle w (by omega) c0 s0 ?_
  intro v2 h2 o2 p2
  have w2a := (sl_cells (o2.slc)).1
  have w2b := (sl_cells (o2.slc)).2
  simp only [AV.cells] at w2a
  unfold AV.sc at w2b
  have x2 := Pre.push h2 (AO.row [.int .i64 (mpN w c0 s0), v2] 0 0 false)
  obtain ⟨m2, m2n, m2v⟩ := rowP h2 (mpN w c0 s0) v2
  generalize hk2 : h2 ++ [AO.row [.int .i64 (mpN w c0 s0), v2] 0 0 false] = k2 at *
  have M1 := rdRow_pre (p2.trans x2) m1
  have M1v := rdRow_pre (p2.trans x2) m1v
  have M1n := rdRow_pre (p2.trans x2) m1n
  simp (maxSteps := 1000000) (disch := first | omega | rfl | (simp only [zL, two63, room] <;> omega) | fail) only [↓reduceIte, ↓zP, zW, WOp, evOp, evBin, binI, binSh, binS, evNil, keyIs, keyEq, mkv, AV.cells, AV.sc, optv, bnd, env, put, Env.get, Env.set, Env.del, Env.dels, Env.init, res1, resL, resV, fillP, splice, newRow, Nat.reduceEqDiff, Nat.reduceLT, Nat.reduceLeDiff, Nat.reduceAdd, Nat.reduceMul, Nat.reduceSub, Nat.reduceBEq, reduceCtorEq, ↓zR, zQ, Tr, StA, StT, w2a, w2b, hk2, M1, m2]
  have hml : (mpC w c0 s0).length < 2 ^ 30 := by
    cases e : mpB w c0 s0
    · unfold mpC; rw [e]; simp
    · obtain ⟨-, -, h3, h4, -⟩ := mp_all e; have := good_few h4; omega
  have s1 := o1.slc.pre (x1.trans (p2.trans x2))
  refine c_nPuzzle (mpN w c0 s0) hml s1 (o2.slc.pre x2) ?_
  have Ak := p1.trans (x1.trans (p2.trans x2))
  replace s1 := s1
  clear hk1 hk2 w1a w1b w2a w2b m1 m1v m2 m2v o1 o2 p2 x1 x2 p1
  refine' fork (b := mpB w c0 s0) Ak _ ?hf ?ht ?hG
  case hf =>
    intro h3 p3 hG e
    have A3 := Ak.trans p3
    simp (maxSteps := 1000000) (disch := first | omega | rfl | (simp only [zL, two63, room] <;> omega) | fail) only [↓reduceIte, ↓zP, zW, WOp, evOp, evBin, binI, binSh, binS, evNil, keyIs, keyEq, mkv, AV.cells, AV.sc, optv, bnd, env, put, Env.get, Env.set, Env.del, Env.dels, Env.init, res1, resL, resV, fillP, splice, newRow, Nat.reduceEqDiff, Nat.reduceLT, Nat.reduceLeDiff, Nat.reduceAdd, Nat.reduceMul, Nat.reduceSub, Nat.reduceBEq, reduceCtorEq, ↓zR, zQ, Tr, StA, StT, e, rdRow_pre A3 bq]
    exact hG h3 A3
  case ht =>
    intro h3 p3 hG e
    have A3 := Ak.trans p3
    have M3 := rdRow_pre p3 M1
    have M3v := rdRow_pre p3 M1v
    have M31 := rdRow_pre p3 M1n
    replace s1 := s1.pre p3
    obtain ⟨f1, f2, f3, f4, f5⟩ := mp_all e
    have hgd := h5_line f1
    obtain ⟨d1, d2⟩ := df_pairs f1
    obtain ⟨d3, d4⟩ := df_moves f1
    have hw60 : w.length < 2 ^ 60 := by omega
    simp (maxSteps := 1000000) (disch := first | omega | rfl | (simp only [zL, two63, room] <;> omega) | fail) only [↓reduceIte, ↓zP, zW, WOp, evOp, evBin, binI, binSh, binS, evNil, keyIs, keyEq, mkv, AV.cells, AV.sc, optv, bnd, env, put, Env.get, Env.set, Env.del, Env.dels, Env.init, res1, resL, resV, fillP, splice, newRow, Nat.reduceEqDiff, Nat.reduceLT, Nat.reduceLeDiff, Nat.reduceAdd, Nat.reduceMul, Nat.reduceSub, Nat.reduceBEq, reduceCtorEq, ↓zR, zQ, Tr, StA, StT, e, M3, f2]
    refine c_Solutions (w.length : Nat) hml s1 ?_
    intro v5 h5 o5 p5
    rw [if_pos f4] at o5
    rw [f4]
    simp (maxSteps := 1000000) (disch := first | omega | rfl | (simp only [zL, two63, room] <;> omega) | fail) only [↓reduceIte, ↓zP, zW, WOp, evOp, evBin, binI, binSh, binS, evNil, keyIs, keyEq, mkv, AV.cells, AV.sc, optv, bnd, env, put, Env.get, Env.set, Env.del, Env.dels, Env.init, res1, resL, resV, fillP, splice, newRow, Nat.reduceEqDiff, Nat.reduceLT, Nat.reduceLeDiff, Nat.reduceAdd, Nat.reduceMul, Nat.reduceSub, Nat.reduceBEq, reduceCtorEq, ↓zR, zQ, Tr, StA, StT, e_PairsToPass w hw60, hgd]
    refine c_DoesFitA (4, pairsG w, 0) w hw60 ?_
    intro h6 p6
    rw [d1, d2]
    simp (maxSteps := 1000000) (disch := first | omega | rfl | (simp only [zL, two63, room] <;> omega) | fail) only [↓reduceIte, ↓zP, zW, WOp, evOp, evBin, binI, binSh, binS, evNil, keyIs, keyEq, mkv, AV.cells, AV.sc, optv, bnd, env, put, Env.get, Env.set, Env.del, Env.dels, Env.init, res1, resL, resV, fillP, splice, newRow, Nat.reduceEqDiff, Nat.reduceLT, Nat.reduceLeDiff, Nat.reduceAdd, Nat.reduceMul, Nat.reduceSub, Nat.reduceBEq, reduceCtorEq, ↓zR, zQ, Tr, StA, StT]
    refine c_MovesOf w hw60 ?_
    intro v7 h7 o7 p7
    rw [hgd]
    have s7 := o7.slc
    have hv7 := fun g => Slc.lenV (s7) (g := g) (ρ := fun _ => _) (x := .t 0) rfl; simp only [evOp] at hv7
    simp (maxSteps := 1000000) (disch := first | omega | rfl | (simp only [zL, two63, room] <;> omega) | fail) only [↓reduceIte, ↓zP, zW, WOp, evOp, evBin, binI, binSh, binS, evNil, keyIs, keyEq, mkv, AV.cells, AV.sc, optv, bnd, env, put, Env.get, Env.set, Env.del, Env.dels, Env.init, res1, resL, resV, fillP, splice, newRow, Nat.reduceEqDiff, Nat.reduceLT, Nat.reduceLeDiff, Nat.reduceAdd, Nat.reduceMul, Nat.reduceSub, Nat.reduceBEq, reduceCtorEq, ↓zR, zQ, Tr, StA, StT, hv7]
    refine c_DoesFitA (3, ((mvG [84, 70] w).length : Int), 0) w hw60 ?_
    intro h8 p8
    rw [d3, d4]
    have q8 := p5.trans (p6.trans (p7.trans p8))
    have M8 := rdRow_pre q8 M3
    have s8 := s1.pre q8
    simp (maxSteps := 1000000) (disch := first | omega | rfl | (simp only [zL, two63, room] <;> omega) | fail) only [↓reduceIte, ↓zP, zW, WOp, evOp, evBin, binI, binSh, binS, evNil, keyIs, keyEq, mkv, AV.cells, AV.sc, optv, bnd, env, put, Env.get, Env.set, Env.del, Env.dels, Env.init, res1, resL, resV, fillP, splice, newRow, Nat.reduceEqDiff, Nat.reduceLT, Nat.reduceLeDiff, Nat.reduceAdd, Nat.reduceMul, Nat.reduceSub, Nat.reduceBEq, reduceCtorEq, ↓zR, zQ, Tr, StA, StT, M8, f2]
    refine c_IsPuzzle (w.length : Nat) hml s8 ?_
    intro h9 p9
    rw [f4]
    have M9v := rdRow_pre (q8.trans p9) M3v
    have M91 := rdRow_pre (q8.trans p9) M31
    have s9 := s8.pre p9
    have hv9 := fun g => Slc.lenV (s9) (g := g) (ρ := fun _ => _) (x := .t 0) rfl; simp only [evOp] at hv9
    have s5 := (o5.slc hlS).pre (p6.trans (p7.trans (p8.trans p9)))
    have hl5 : (solN (w.length : Nat) (mpC w c0 s0)).length < 2 ^ 30 := by
      have := sol_few f4
      omega
    simp (maxSteps := 1000000) (disch := first | omega | rfl | (simp only [zL, two63, room] <;> omega) | fail) only [↓reduceIte, ↓zP, zW, WOp, evOp, evBin, binI, binSh, binS, evNil, keyIs, keyEq, mkv, AV.cells, AV.sc, optv, bnd, env, put, Env.get, Env.set, Env.del, Env.dels, Env.init, res1, resL, resV, fillP, splice, newRow, Nat.reduceEqDiff, Nat.reduceLT, Nat.reduceLeDiff, Nat.reduceAdd, Nat.reduceMul, Nat.reduceSub, Nat.reduceBEq, reduceCtorEq, ↓zR, zQ, Tr, StA, StT, M9v, M91, hv9, f2, f3, bne_self_eq_false]
    refine c_nText hl5 f5 s5 ?_
    have A9 := A3.trans (q8.trans p9)
    simp (maxSteps := 1000000) (disch := first | omega | rfl | (simp only [zL, two63, room] <;> omega) | fail) only [↓reduceIte, ↓zP, zW, WOp, evOp, evBin, binI, binSh, binS, evNil, keyIs, keyEq, mkv, AV.cells, AV.sc, optv, bnd, env, put, Env.get, Env.set, Env.del, Env.dels, Env.init, res1, resL, resV, fillP, splice, newRow, Nat.reduceEqDiff, Nat.reduceLT, Nat.reduceLeDiff, Nat.reduceAdd, Nat.reduceMul, Nat.reduceSub, Nat.reduceBEq, reduceCtorEq, ↓zR, zQ, Tr, StA, StT, rdRow_pre A9 bq]
    exact hG h9 A9
  case hG =>
    clear s1 M1 M1v M1n Ak hml
    intro h4 A4
    refine c_HarderA nq hq (sq.pre A4) ?_
    intro v11 h11 o11 p11
    have w11a := (sl_cells (o11.slc hlC)).1
    have w11b := (sl_cells (o11.slc hlC)).2
    simp only [AV.cells] at w11a
    unfold AV.sc at w11b
    have x11 := Pre.push h11 (AO.row [.int .i64 (hardN nq Lq), v11] 0 0 false)
    obtain ⟨m11, m11n, m11v⟩ := rowP h11 (hardN nq Lq) v11
    generalize hk11 : h11 ++ [AO.row [.int .i64 (hardN nq Lq), v11] 0 0 false] = k11 at *
    have B11 := A4.trans (p11.trans x11)
    simp (maxSteps := 1000000) (disch := first | omega | rfl | (simp only [zL, two63, room] <;> omega) | fail) only [↓reduceIte, ↓zP, zW, WOp, evOp, evBin, binI, binSh, binS, evNil, keyIs, keyEq, mkv, AV.cells, AV.sc, optv, bnd, env, put, Env.get, Env.set, Env.del, Env.dels, Env.init, res1, resL, resV, fillP, splice, newRow, Nat.reduceEqDiff, Nat.reduceLT, Nat.reduceLeDiff, Nat.reduceAdd, Nat.reduceMul, Nat.reduceSub, Nat.reduceBEq, reduceCtorEq, ↓zR, zQ, Tr, StA, StT, w11a, w11b, hk11, rdRow_pre B11 bq]
    refine c_sHarderA nq hq (sq.pre B11) ?_
    intro v12 h12 o12 p12
    have w12a := (sl_cells (o12.slc hlC)).1
    have w12b := (sl_cells (o12.slc hlC)).2
    simp only [AV.cells] at w12a
    unfold AV.sc at w12b
    have x12 := Pre.push h12 (AO.row [.int .i64 (hardN nq Lq), v12] 0 0 false)
    obtain ⟨m12, m12n, m12v⟩ := rowP h12 (hardN nq Lq) v12
    generalize hk12 : h12 ++ [AO.row [.int .i64 (hardN nq Lq), v12] 0 0 false] = k12 at *
    have B12 := B11.trans (p12.trans x12)
    simp (maxSteps := 1000000) (disch := first | omega | rfl | (simp only [zL, two63, room] <;> omega) | fail) only [↓reduceIte, ↓zP, zW, WOp, evOp, evBin, binI, binSh, binS, evNil, keyIs, keyEq, mkv, AV.cells, AV.sc, optv, bnd, env, put, Env.get, Env.set, Env.del, Env.dels, Env.init, res1, resL, resV, fillP, splice, newRow, Nat.reduceEqDiff, Nat.reduceLT, Nat.reduceLeDiff, Nat.reduceAdd, Nat.reduceMul, Nat.reduceSub, Nat.reduceBEq, reduceCtorEq, ↓zR, zQ, Tr, StA, StT, w12a, w12b, hk12, rdRow_pre B12 bq]
    refine c_IsSolvedA nq hq (sq.pre B12) ?_
    intro h13 p13
    have M13 := rdRow_pre (p12.trans (x12.trans p13)) m11
    have M13v := rdRow_pre (p12.trans (x12.trans p13)) m11v
    have M13u := rdRow_pre p13 m12
    have s11 := (o11.slc hlC).pre (x11.trans (p12.trans (x12.trans p13)))
    have hhl : (hardC nq Lq).length < 2 ^ 30 := by
      by_cases e : (countP nq Lq == 1) = true
      · have := good_few (one_good e); have := hardC_len nq Lq; omega
      · unfold hardC; rw [if_neg e]; simp
    simp (maxSteps := 1000000) (disch := first | omega | rfl | (simp only [zL, two63, room] <;> omega) | fail) only [↓reduceIte, ↓zP, zW, WOp, evOp, evBin, binI, binSh, binS, evNil, keyIs, keyEq, mkv, AV.cells, AV.sc, optv, bnd, env, put, Env.get, Env.set, Env.del, Env.dels, Env.init, res1, resL, resV, fillP, splice, newRow, Nat.reduceEqDiff, Nat.reduceLT, Nat.reduceLeDiff, Nat.reduceAdd, Nat.reduceMul, Nat.reduceSub, Nat.reduceBEq, reduceCtorEq, ↓zR, zQ, Tr, StA, StT, M13, M13u]
    refine c_nPuzzle (hardN nq Lq) hhl s11 ((o12.slc hlC).pre (x12.trans p13)) ?_
    have Bk := B12.trans p13
    refine' fork (b := countP nq Lq == 1) Bk _ ?hf2 ?ht2 ?hG2
    case hf2 =>
      intro h14 p14 hG e
      have A14 := Bk.trans p14
      cases e6 : goodP nq Lq
      · simp (maxSteps := 1000000) (disch := first | omega | rfl | (simp only [zL, two63, room] <;> omega) | fail) only [↓reduceIte, ↓zP, zW, WOp, evOp, evBin, binI, binSh, binS, evNil, keyIs, keyEq, mkv, AV.cells, AV.sc, optv, bnd, env, put, Env.get, Env.set, Env.del, Env.dels, Env.init, res1, resL, resV, fillP, splice, newRow, Nat.reduceEqDiff, Nat.reduceLT, Nat.reduceLeDiff, Nat.reduceAdd, Nat.reduceMul, Nat.reduceSub, Nat.reduceBEq, reduceCtorEq, ↓zR, zQ, Tr, StA, StT, e, e6, rdRow_pre A14 br, rdRow_pre A14 bc]
        exact hG h14 A14
      · simp (maxSteps := 1000000) (disch := first | omega | rfl | (simp only [zL, two63, room] <;> omega) | fail) only [↓reduceIte, ↓zP, zW, WOp, evOp, evBin, binI, binSh, binS, evNil, keyIs, keyEq, mkv, AV.cells, AV.sc, optv, bnd, env, put, Env.get, Env.set, Env.del, Env.dels, Env.init, res1, resL, resV, fillP, splice, newRow, Nat.reduceEqDiff, Nat.reduceLT, Nat.reduceLeDiff, Nat.reduceAdd, Nat.reduceMul, Nat.reduceSub, Nat.reduceBEq, reduceCtorEq, ↓zR, zQ, Tr, StA, StT, e, e6, rdRow_pre A14 br, rdRow_pre A14 bc]
        exact hG h14 A14
    case ht2 =>
      intro h14 p14 hG e
      have A14 := Bk.trans p14
      obtain ⟨f1, f2, f3, f4, f5⟩ := hard_all e
      have hql : Lq.length < 2 ^ 30 := by have := good_few f5; omega
      rw [f1] at M13
      simp (maxSteps := 1000000) (disch := first | omega | rfl | (simp only [zL, two63, room] <;> omega) | fail) only [↓reduceIte, ↓zP, zW, WOp, evOp, evBin, binI, binSh, binS, evNil, keyIs, keyEq, mkv, AV.cells, AV.sc, optv, bnd, env, put, Env.get, Env.set, Env.del, Env.dels, Env.init, res1, resL, resV, fillP, splice, newRow, Nat.reduceEqDiff, Nat.reduceLT, Nat.reduceLeDiff, Nat.reduceAdd, Nat.reduceMul, Nat.reduceSub, Nat.reduceBEq, reduceCtorEq, ↓zR, zQ, Tr, StA, StT, e, f5, rdRow_pre A14 bq]
      refine c_Solutions nq hql (sq.pre A14) ?_
      intro v15 h15 o15 p15
      rw [if_pos f5] at o15
      rw [f5]
      have M15 := rdRow_pre (p14.trans p15) M13
      have s15 := s11.pre (p14.trans p15)
      simp (maxSteps := 1000000) (disch := first | omega | rfl | (simp only [zL, two63, room] <;> omega) | fail) only [↓reduceIte, ↓zP, zW, WOp, evOp, evBin, binI, binSh, binS, evNil, keyIs, keyEq, mkv, AV.cells, AV.sc, optv, bnd, env, put, Env.get, Env.set, Env.del, Env.dels, Env.init, res1, resL, resV, fillP, splice, newRow, Nat.reduceEqDiff, Nat.reduceLT, Nat.reduceLeDiff, Nat.reduceAdd, Nat.reduceMul, Nat.reduceSub, Nat.reduceBEq, reduceCtorEq, ↓zR, zQ, Tr, StA, StT, M15]
      refine c_Solutions nq hhl s15 ?_
      intro v16 h16 o16 p16
      rw [if_pos f2, f3] at o16
      rw [f2]
      have M16 := rdRow_pre p16 M15
      have s16 := s15.pre p16
      simp (maxSteps := 1000000) (disch := first | omega | rfl | (simp only [zL, two63, room] <;> omega) | fail) only [↓reduceIte, ↓zP, zW, WOp, evOp, evBin, binI, binSh, binS, evNil, keyIs, keyEq, mkv, AV.cells, AV.sc, optv, bnd, env, put, Env.get, Env.set, Env.del, Env.dels, Env.init, res1, resL, resV, fillP, splice, newRow, Nat.reduceEqDiff, Nat.reduceLT, Nat.reduceLeDiff, Nat.reduceAdd, Nat.reduceMul, Nat.reduceSub, Nat.reduceBEq, reduceCtorEq, ↓zR, zQ, Tr, StA, StT, M16]
      refine c_NeedlessClues woSpec nq hhl s16 ?_
      intro v17 h17 o17 p17
      rw [f4] at o17
      rw [f2]
      have s17 := s16.pre p17
      have sa := (o15.slc hlS).pre (p16.trans p17)
      have sb := (o16.slc hlS).pre p17
      have sn := o17.slc
      have A17 := A14.trans (p15.trans (p16.trans p17))
      have hsol : (solN nq Lq).length < 2 ^ 30 := by have := sol_few f5; omega
      have sq17 := sq.pre A17
      have hcl := hardC_len nq Lq
      simp (maxSteps := 1000000) (disch := first | omega | rfl | (simp only [zL, two63, room] <;> omega) | fail) only [↓reduceIte, ↓zP, zW, WOp, evOp, evBin, binI, binSh, binS, evNil, keyIs, keyEq, mkv, AV.cells, AV.sc, optv, bnd, env, put, Env.get, Env.set, Env.del, Env.dels, Env.init, res1, resL, resV, fillP, splice, newRow, Nat.reduceEqDiff, Nat.reduceLT, Nat.reduceLeDiff, Nat.reduceAdd, Nat.reduceMul, Nat.reduceSub, Nat.reduceBEq, reduceCtorEq, ↓zR, zQ, Tr, StA, StT]
      refine c_nTexts hsol sa sb ?_
      have la := fun g => Slc.lenV (s17) (g := g) (ρ := fun _ => _) (x := .t 0) rfl; simp only [evOp] at la
      have lb := fun g => Slc.lenV (sq17) (g := g) (ρ := fun _ => _) (x := .t 0) rfl; simp only [evOp] at lb
      have lc := fun g => Slc.lenV (sn) (g := g) (ρ := fun _ => _) (x := .t 0) rfl; simp only [evOp] at lc
      have n1 : ¬ (((hardC nq Lq).length : Int) > (Lq.length : Int)) := by omega
      have M17v := rdRow_pre (p14.trans (p15.trans (p16.trans p17))) M13v
      simp (maxSteps := 1000000) (disch := first | omega | rfl | (simp only [zL, two63, room] <;> omega) | fail) only [↓reduceIte, ↓zP, zW, WOp, evOp, evBin, binI, binSh, binS, evNil, keyIs, keyEq, mkv, AV.cells, AV.sc, optv, bnd, env, put, Env.get, Env.set, Env.del, Env.dels, Env.init, res1, resL, resV, fillP, splice, newRow, Nat.reduceEqDiff, Nat.reduceLT, Nat.reduceLeDiff, Nat.reduceAdd, Nat.reduceMul, Nat.reduceSub, Nat.reduceBEq, reduceCtorEq, ↓zR, zQ, Tr, StA, StT, la, lb, lc, n1, M17v, rdRow_pre A17 bqv, rdRow_pre A17 br, rdRow_pre A17 bc, bne_self_eq_false]
      exact hG h17 A17
    case hG2 =>
      intro h20 A20
      refine c_AddClue nr c hr (sr.pre A20) ?_
      intro v21 h21 o21 p21
      have w21a := (sl_cells (o21.slc)).1
      have w21b := (sl_cells (o21.slc)).2
      simp only [AV.cells] at w21a
      unfold AV.sc at w21b
      have x21 := Pre.push h21 (AO.row [.int .i64 (adN nr Lr c), v21] 0 0 false)
      obtain ⟨m21, m21n, m21v⟩ := rowP h21 (adN nr Lr c) v21
      generalize hk21 : h21 ++ [AO.row [.int .i64 (adN nr Lr c), v21] 0 0 false] = k21 at *
      have B21 := A20.trans (p21.trans x21)
      simp (maxSteps := 1000000) (disch := first | omega | rfl | (simp only [zL, two63, room] <;> omega) | fail) only [↓reduceIte, ↓zP, zW, WOp, evOp, evBin, binI, binSh, binS, evNil, keyIs, keyEq, mkv, AV.cells, AV.sc, optv, bnd, env, put, Env.get, Env.set, Env.del, Env.dels, Env.init, res1, resL, resV, fillP, splice, newRow, Nat.reduceEqDiff, Nat.reduceLT, Nat.reduceLeDiff, Nat.reduceAdd, Nat.reduceMul, Nat.reduceSub, Nat.reduceBEq, reduceCtorEq, ↓zR, zQ, Tr, StA, StT, w21a, w21b, hk21, rdRow_pre B21 br, rdRow_pre B21 bc]
      refine c_sAddClue nr c hr (sr.pre B21) ?_
      intro v22 h22 o22 p22
      have w22a := (sl_cells (o22.slc)).1
      have w22b := (sl_cells (o22.slc)).2
      simp only [AV.cells] at w22a
      unfold AV.sc at w22b
      have x22 := Pre.push h22 (AO.row [.int .i64 (adN nr Lr c), v22] 0 0 false)
      obtain ⟨m22, m22n, m22v⟩ := rowP h22 (adN nr Lr c) v22
      generalize hk22 : h22 ++ [AO.row [.int .i64 (adN nr Lr c), v22] 0 0 false] = k22 at *
      have B22 := B21.trans (p22.trans x22)
      simp (maxSteps := 1000000) (disch := first | omega | rfl | (simp only [zL, two63, room] <;> omega) | fail) only [↓reduceIte, ↓zP, zW, WOp, evOp, evBin, binI, binSh, binS, evNil, keyIs, keyEq, mkv, AV.cells, AV.sc, optv, bnd, env, put, Env.get, Env.set, Env.del, Env.dels, Env.init, res1, resL, resV, fillP, splice, newRow, Nat.reduceEqDiff, Nat.reduceLT, Nat.reduceLeDiff, Nat.reduceAdd, Nat.reduceMul, Nat.reduceSub, Nat.reduceBEq, reduceCtorEq, ↓zR, zQ, Tr, StA, StT, w22a, w22b, hk22, rdRow_pre B22 bs]
      refine c_DropClue ns kx hs (ss.pre B22) ?_
      intro v23 h23 o23 p23
      have w23a := (sl_cells (o23.slc hlC)).1
      have w23b := (sl_cells (o23.slc hlC)).2
      simp only [AV.cells] at w23a
      unfold AV.sc at w23b
      have x23 := Pre.push h23 (AO.row [.int .i64 (drN ns Ls kx), v23] 0 0 false)
      obtain ⟨m23, m23n, m23v⟩ := rowP h23 (drN ns Ls kx) v23
      generalize hk23 : h23 ++ [AO.row [.int .i64 (drN ns Ls kx), v23] 0 0 false] = k23 at *
      have B23 := B22.trans (p23.trans x23)
      simp (maxSteps := 1000000) (disch := first | omega | rfl | (simp only [zL, two63, room] <;> omega) | fail) only [↓reduceIte, ↓zP, zW, WOp, evOp, evBin, binI, binSh, binS, evNil, keyIs, keyEq, mkv, AV.cells, AV.sc, optv, bnd, env, put, Env.get, Env.set, Env.del, Env.dels, Env.init, res1, resL, resV, fillP, splice, newRow, Nat.reduceEqDiff, Nat.reduceLT, Nat.reduceLeDiff, Nat.reduceAdd, Nat.reduceMul, Nat.reduceSub, Nat.reduceBEq, reduceCtorEq, ↓zR, zQ, Tr, StA, StT, w23a, w23b, hk23, rdRow_pre B23 bs]
      refine c_sDropClue ns kx hs (ss.pre B23) ?_
      intro v24 h24 o24 p24
      have w24a := (sl_cells (o24.slc hlC)).1
      have w24b := (sl_cells (o24.slc hlC)).2
      simp only [AV.cells] at w24a
      unfold AV.sc at w24b
      have x24 := Pre.push h24 (AO.row [.int .i64 (drN ns Ls kx), v24] 0 0 false)
      obtain ⟨m24, m24n, m24v⟩ := rowP h24 (drN ns Ls kx) v24
      generalize hk24 : h24 ++ [AO.row [.int .i64 (drN ns Ls kx), v24] 0 0 false] = k24 at *
      have B24 := B23.trans (p24.trans x24)
      simp (maxSteps := 1000000) (disch := first | omega | rfl | (simp only [zL, two63, room] <;> omega) | fail) only [↓reduceIte, ↓zP, zW, WOp, evOp, evBin, binI, binSh, binS, evNil, keyIs, keyEq, mkv, AV.cells, AV.sc, optv, bnd, env, put, Env.get, Env.set, Env.del, Env.dels, Env.init, res1, resL, resV, fillP, splice, newRow, Nat.reduceEqDiff, Nat.reduceLT, Nat.reduceLeDiff, Nat.reduceAdd, Nat.reduceMul, Nat.reduceSub, Nat.reduceBEq, reduceCtorEq, ↓zR, zQ, Tr, StA, StT, w24a, w24b, hk24, rdRow_pre B24 bd]
      refine c_DoesFitA d x (by omega) ?_
      intro h25 p25
      have B25 := B24.trans p25
      simp (maxSteps := 1000000) (disch := first | omega | rfl | (simp only [zL, two63, room] <;> omega) | fail) only [↓reduceIte, ↓zP, zW, WOp, evOp, evBin, binI, binSh, binS, evNil, keyIs, keyEq, mkv, AV.cells, AV.sc, optv, bnd, env, put, Env.get, Env.set, Env.del, Env.dels, Env.init, res1, resL, resV, fillP, splice, newRow, Nat.reduceEqDiff, Nat.reduceLT, Nat.reduceLeDiff, Nat.reduceAdd, Nat.reduceMul, Nat.reduceSub, Nat.reduceBEq, reduceCtorEq, ↓zR, zQ, Tr, StA, StT, rdRow_pre B25 bd]
      refine c_sDoesFit d x (by omega) ?_
      intro h26 p26
      have B26 := B25.trans p26
      have q22 := p22.trans (x22.trans (p23.trans (x23.trans (p24.trans (x24.trans (p25.trans p26))))))
      have M21 := rdRow_pre q22 m21
      have M21v := rdRow_pre q22 m21v
      have q23 := p23.trans (x23.trans (p24.trans (x24.trans (p25.trans p26))))
      have M22 := rdRow_pre q23 m22
      have q24 := p24.trans (x24.trans (p25.trans p26))
      have M23 := rdRow_pre q24 m23
      have q25 := p25.trans p26
      have M24 := rdRow_pre q25 m24
      have s21 := o21.slc.pre (x21.trans q22)
      have s22 := o22.slc.pre (x22.trans q23)
      have s23 := (o23.slc hlC).pre (x23.trans q24)
      have s24 := (o24.slc hlC).pre (x24.trans q25)
      clear q22 q23 q24 q25 p21 p22 p23 p24 p25 p26 x21 x22 x23 x24 w21a w22a w23a w24a w21b w22b w23b w24b o21 o22 o23 o24 hk21 hk22 hk23 hk24 m21 m22 m23 m24 m21v m22v m23v m24v
      have hal : (adC nr Lr c).length < 2 ^ 30 := by
        unfold adC; split
        · rename_i e1; have := ad_good e1; simp; omega
        · simp
      have hdl : (drC ns Ls kx).length < 2 ^ 30 := by
        unfold drC; split
        · rename_i e1
          unfold drB at e1
          rw [Bool.and_eq_true] at e1
          have := good_few e1.1; have := wo_len Ls kx.toNat; omega
        · simp
      simp (maxSteps := 1000000) (disch := first | omega | rfl | (simp only [zL, two63, room] <;> omega) | fail) only [↓reduceIte, ↓zP, zW, WOp, evOp, evBin, binI, binSh, binS, evNil, keyIs, keyEq, mkv, AV.cells, AV.sc, optv, bnd, env, put, Env.get, Env.set, Env.del, Env.dels, Env.init, res1, resL, resV, fillP, splice, newRow, Nat.reduceEqDiff, Nat.reduceLT, Nat.reduceLeDiff, Nat.reduceAdd, Nat.reduceMul, Nat.reduceSub, Nat.reduceBEq, reduceCtorEq, ↓zR, zQ, Tr, StA, StT, M21, M22, M23, M24]
      refine w_drw ?_
      simp (maxSteps := 1000000) (disch := first | omega | rfl | (simp only [zL, two63, room] <;> omega) | fail) only [↓reduceIte, ↓zP, zW, WOp, evOp, evBin, binI, binSh, binS, evNil, keyIs, keyEq, mkv, AV.cells, AV.sc, optv, bnd, env, put, Env.get, Env.set, Env.del, Env.dels, Env.init, res1, resL, resV, fillP, splice, newRow, Nat.reduceEqDiff, Nat.reduceLT, Nat.reduceLeDiff, Nat.reduceAdd, Nat.reduceMul, Nat.reduceSub, Nat.reduceBEq, reduceCtorEq, ↓zR, zQ, Tr, StA, StT, M21, M22, M23, M24]
      refine c_nPuzzle (adN nr Lr c) hal s21 s22 ?_
      intro h27 p27
      simp (maxSteps := 1000000) (disch := first | omega | rfl | (simp only [zL, two63, room] <;> omega) | fail) only [↓reduceIte, ↓zP, zW, WOp, evOp, evBin, binI, binSh, binS, evNil, keyIs, keyEq, mkv, AV.cells, AV.sc, optv, bnd, env, put, Env.get, Env.set, Env.del, Env.dels, Env.init, res1, resL, resV, fillP, splice, newRow, Nat.reduceEqDiff, Nat.reduceLT, Nat.reduceLeDiff, Nat.reduceAdd, Nat.reduceMul, Nat.reduceSub, Nat.reduceBEq, reduceCtorEq, ↓zR, zQ, Tr, StA, StT, rdRow_pre p27 M23, rdRow_pre p27 M24]
      refine c_nPuzzle (drN ns Ls kx) hdl (s23.pre p27) (s24.pre p27) ?_
      intro h28 p28
      have q28 := p27.trans p28
      have e28 := rdRow_pre (B26.trans q28) be
      simp (maxSteps := 1000000) (disch := first | omega | rfl | (simp only [zL, two63, room] <;> omega) | fail) only [↓reduceIte, ↓zP, zW, WOp, evOp, evBin, binI, binSh, binS, evNil, keyIs, keyEq, mkv, AV.cells, AV.sc, optv, bnd, env, put, Env.get, Env.set, Env.del, Env.dels, Env.init, res1, resL, resV, fillP, splice, newRow, Nat.reduceEqDiff, Nat.reduceLT, Nat.reduceLeDiff, Nat.reduceAdd, Nat.reduceMul, Nat.reduceSub, Nat.reduceBEq, reduceCtorEq, ↓zR, zQ, Tr, StA, StT, e28]
      refine c_IsClueA n e ?_
      intro h29 p29
      have e29 := rdRow_pre p29 e28
      simp (maxSteps := 1000000) (disch := first | omega | rfl | (simp only [zL, two63, room] <;> omega) | fail) only [↓reduceIte, ↓zP, zW, WOp, evOp, evBin, binI, binSh, binS, evNil, keyIs, keyEq, mkv, AV.cells, AV.sc, optv, bnd, env, put, Env.get, Env.set, Env.del, Env.dels, Env.init, res1, resL, resV, fillP, splice, newRow, Nat.reduceEqDiff, Nat.reduceLT, Nat.reduceLeDiff, Nat.reduceAdd, Nat.reduceMul, Nat.reduceSub, Nat.reduceBEq, reduceCtorEq, ↓zR, zQ, Tr, StA, StT, e28, e29]
      refine c_sIsClue n e ?_
      refine' fork (a := h26) (b := dfOk d x) (q28.trans p29) _ ?hf3 ?ht3 ?hG3
      case hf3 =>
        intro h30 p30 hG e3
        have e30 := rdRow_pre p30 e29
        have q30 := (q28.trans p29).trans p30
        simp (maxSteps := 1000000) (disch := first | omega | rfl | (simp only [zL, two63, room] <;> omega) | fail) only [↓reduceIte, ↓zP, zW, WOp, evOp, evBin, binI, binSh, binS, evNil, keyIs, keyEq, mkv, AV.cells, AV.sc, optv, bnd, env, put, Env.get, Env.set, Env.del, Env.dels, Env.init, res1, resL, resV, fillP, splice, newRow, Nat.reduceEqDiff, Nat.reduceLT, Nat.reduceLeDiff, Nat.reduceAdd, Nat.reduceMul, Nat.reduceSub, Nat.reduceBEq, reduceCtorEq, ↓zR, zQ, Tr, StA, StT, e28, e29, e30, e3]
        exact hG h30 q30
      case ht3 =>
        intro h30 p30 hG e3
        have e30 := rdRow_pre p30 e29
        have q30 := (q28.trans p29).trans p30
        have d30 := rdRow_pre (B26.trans q30) bd
        have hdx := df_is e3
        simp (maxSteps := 1000000) (disch := first | omega | rfl | (simp only [zL, two63, room] <;> omega) | fail) only [↓reduceIte, ↓zP, zW, WOp, evOp, evBin, binI, binSh, binS, evNil, keyIs, keyEq, mkv, AV.cells, AV.sc, optv, bnd, env, put, Env.get, Env.set, Env.del, Env.dels, Env.init, res1, resL, resV, fillP, splice, newRow, Nat.reduceEqDiff, Nat.reduceLT, Nat.reduceLeDiff, Nat.reduceAdd, Nat.reduceMul, Nat.reduceSub, Nat.reduceBEq, reduceCtorEq, ↓zR, zQ, Tr, StA, StT, e28, e29, e30, e3, d30]
        refine c_IsClueA x.length d ?_
        intro h31 p31
        rw [hdx]
        have e31 := rdRow_pre p31 e30
        simp (maxSteps := 1000000) (disch := first | omega | rfl | (simp only [zL, two63, room] <;> omega) | fail) only [↓reduceIte, ↓zP, zW, WOp, evOp, evBin, binI, binSh, binS, evNil, keyIs, keyEq, mkv, AV.cells, AV.sc, optv, bnd, env, put, Env.get, Env.set, Env.del, Env.dels, Env.init, res1, resL, resV, fillP, splice, newRow, Nat.reduceEqDiff, Nat.reduceLT, Nat.reduceLeDiff, Nat.reduceAdd, Nat.reduceMul, Nat.reduceSub, Nat.reduceBEq, reduceCtorEq, ↓zR, zQ, Tr, StA, StT, e28, e29, e30, e31, d30]
        exact hG h31 (q30.trans p31)
      case hG3 =>
      refine' fork (a := h26) (b := adB nr Lr c) (Pre.refl h26) _ ?hf4 ?ht4 ?hG4
      case hf4 =>
        intro h32 p32 hG e4
        simp (maxSteps := 1000000) (disch := first | omega | rfl | (simp only [zL, two63, room] <;> omega) | fail) only [↓reduceIte, ↓zP, zW, WOp, evOp, evBin, binI, binSh, binS, evNil, keyIs, keyEq, mkv, AV.cells, AV.sc, optv, bnd, env, put, Env.get, Env.set, Env.del, Env.dels, Env.init, res1, resL, resV, fillP, splice, newRow, Nat.reduceEqDiff, Nat.reduceLT, Nat.reduceLeDiff, Nat.reduceAdd, Nat.reduceMul, Nat.reduceSub, Nat.reduceBEq, reduceCtorEq, ↓zR, zQ, Tr, StA, StT, e4]
        exact hG h32 p32
      case ht4 =>
        intro h32 p32 hG e4
        obtain ⟨f1, f2, f3⟩ := ad_back e4
        obtain ⟨f4, f5, f6⟩ := ad_good e4
        have eC : adC nr Lr c = Lr ++ [c] := by unfold adC; rw [e4]; rfl
        have eN : adN nr Lr c = nr := by unfold adN; rw [e4]; rfl
        rw [eC] at s21
        rw [eN] at M21
        have B32 := B26.trans p32
        have sr32 := sr.pre B32
        have br32 := rdRow_pre B32 br
        have brv32 := rdRow_pre B32 brv
        have bc32 := rdRow_pre B32 bc
        have M32 := rdRow_pre p32 M21
        have M32v := rdRow_pre p32 M21v
        have s32 := s21.pre p32
        have lr := fun g => Slc.lenV (sr32) (g := g) (ρ := fun _ => _) (x := .t 0) rfl; simp only [evOp] at lr
        simp (maxSteps := 1000000) (disch := first | omega | rfl | (simp only [zL, two63, room] <;> omega) | fail) only [↓reduceIte, ↓zP, zW, WOp, evOp, evBin, binI, binSh, binS, evNil, keyIs, keyEq, mkv, AV.cells, AV.sc, optv, bnd, env, put, Env.get, Env.set, Env.del, Env.dels, Env.init, res1, resL, resV, fillP, splice, newRow, Nat.reduceEqDiff, Nat.reduceLT, Nat.reduceLeDiff, Nat.reduceAdd, Nat.reduceMul, Nat.reduceSub, Nat.reduceBEq, reduceCtorEq, ↓zR, zQ, Tr, StA, StT, e4, M32, brv32, lr]
        refine c_DropClue nr (Lr.length : Nat) (by simp; omega) s32 ?_
        intro v33 h33 o33 p33
        rw [f1, f3]
        rw [f2] at o33
        have w33a := (sl_cells (o33.slc hlC)).1
        have w33b := (sl_cells (o33.slc hlC)).2
        simp only [AV.cells] at w33a
        unfold AV.sc at w33b
        have x33 := Pre.push h33 (AO.row [.int .i64 (nr), v33] 0 0 false)
        obtain ⟨m33, m33n, m33v⟩ := rowP h33 (nr) v33
        generalize hk33 : h33 ++ [AO.row [.int .i64 (nr), v33] 0 0 false] = k33 at *
        have q33 := p33.trans x33
        have br33 := rdRow_pre q33 br32
        simp (maxSteps := 1000000) (disch := first | omega | rfl | (simp only [zL, two63, room] <;> omega) | fail) only [↓reduceIte, ↓zP, zW, WOp, evOp, evBin, binI, binSh, binS, evNil, keyIs, keyEq, mkv, AV.cells, AV.sc, optv, bnd, env, put, Env.get, Env.set, Env.del, Env.dels, Env.init, res1, resL, resV, fillP, splice, newRow, Nat.reduceEqDiff, Nat.reduceLT, Nat.reduceLeDiff, Nat.reduceAdd, Nat.reduceMul, Nat.reduceSub, Nat.reduceBEq, reduceCtorEq, ↓zR, zQ, Tr, StA, StT, w33a, w33b, hk33, m33, br33]
        refine c_nPuzzle nr (by omega) ((o33.slc hlC).pre x33) (sr32.pre q33) ?_
        intro h34 p34
        have q34 := q33.trans p34
        have s34 := s32.pre q34
        have M34v := rdRow_pre q34 M32v
        have brv34 := rdRow_pre q34 brv32
        have bc34 := rdRow_pre q34 bc32
        obtain ⟨d1, k1, o1, hve, hq1⟩ := s34.at hlC
        have hlt : (Lr.length : Int) < ((Lr ++ [c]).length : Int) := by simp; omega
        have hq1' : rdRow h34 d1 k1 (o1 + Lr.length * 3) 3 = some [.int .i64 c.1, .int .i64 c.2.1, .int .i64 c.2.2] := hq1
        have bc34' : rdRow h34 a2.length 0 0 3 = some [.int .i64 c.1, .int .i64 c.2.1, .int .i64 c.2.2] := bc34
        subst hve
        simp (maxSteps := 1000000) (disch := first | omega | rfl | (simp only [zL, two63, room] <;> omega) | fail) only [↓reduceIte, ↓zP, zW, WOp, evOp, evBin, binI, binSh, binS, evNil, keyIs, keyEq, mkv, AV.cells, AV.sc, optv, bnd, env, put, Env.get, Env.set, Env.del, Env.dels, Env.init, res1, resL, resV, fillP, splice, newRow, Nat.reduceEqDiff, Nat.reduceLT, Nat.reduceLeDiff, Nat.reduceAdd, Nat.reduceMul, Nat.reduceSub, Nat.reduceBEq, reduceCtorEq, ↓zR, zQ, Tr, StA, StT, M34v, brv34, bc34', lr, hlt, hq1', seqCx]
        exact hG h34 (p32.trans q34)
      case hG4 =>
        intro h36 p36
        have B36 := B26.trans p36
        have bsv36 := rdRow_pre B36 bsv
        have ss36 := ss.pre B36
        have ls := fun g => Slc.lenV (ss36) (g := g) (ρ := fun _ => _) (x := .t 0) rfl; simp only [evOp] at ls
        have hw1 : IntKind.i64.wrap ((Ls.length : Int) - 1) = (Ls.length : Int) - 1 := wrap_i (by omega)
        cases e6 : drB ns Ls kx
        · simp (maxSteps := 1000000) (disch := first | omega | rfl | (simp only [zL, two63, room] <;> omega) | fail) only [↓reduceIte, ↓zP, zW, WOp, evOp, evBin, binI, binSh, binS, evNil, keyIs, keyEq, mkv, AV.cells, AV.sc, optv, bnd, env, put, Env.get, Env.set, Env.del, Env.dels, Env.init, res1, resL, resV, fillP, splice, newRow, Nat.reduceEqDiff, Nat.reduceLT, Nat.reduceLeDiff, Nat.reduceAdd, Nat.reduceMul, Nat.reduceSub, Nat.reduceBEq, reduceCtorEq, ↓zR, zQ, Tr, StA, StT, e6]
          exact hp _
        by_cases hk : kx = (Ls.length : Int) - 1
        · obtain ⟨pre, c', rfl, rfl, f1, f2, f3, f4⟩ := dr_again e6 hk
          have eC : adC ns pre c' = pre ++ [c'] := by unfold adC; rw [f3]; rfl
          have eN : adN ns pre c' = ns := by unfold adN; rw [f3]; rfl
          rw [f1] at s23
          rw [f2] at M23
          have hkb : ((pre.length : Int) == ((pre ++ [c']).length : Int) - 1) = true := beq_t hk
          have M36 := rdRow_pre p36 M23
          have s36 := s23.pre p36
          have bs36 := rdRow_pre B36 bs
          obtain ⟨d1, k1, o1, hve, hq1⟩ := ss36.at hlC
          have hlt : (pre.length : Int) < ((pre ++ [c']).length : Int) := by simp; omega
          have hq1' : rdRow h36 d1 k1 (o1 + pre.length * 3) 3 = some [.int .i64 c'.1, .int .i64 c'.2.1, .int .i64 c'.2.2] := hq1
          subst hve
          simp (maxSteps := 1000000) (disch := first | omega | rfl | (simp only [zL, two63, room] <;> omega) | fail) only [↓reduceIte, ↓zP, zW, WOp, evOp, evBin, binI, binSh, binS, evNil, keyIs, keyEq, mkv, AV.cells, AV.sc, optv, bnd, env, put, Env.get, Env.set, Env.del, Env.dels, Env.init, res1, resL, resV, fillP, splice, newRow, Nat.reduceEqDiff, Nat.reduceLT, Nat.reduceLeDiff, Nat.reduceAdd, Nat.reduceMul, Nat.reduceSub, Nat.reduceBEq, reduceCtorEq, ↓zR, zQ, Tr, StA, StT, e6, bsv36, hw1, hkb]
          refine w_drw ?_
          simp (maxSteps := 1000000) (disch := first | omega | rfl | (simp only [zL, two63, room] <;> omega) | fail) only [↓reduceIte, ↓zP, zW, WOp, evOp, evBin, binI, binSh, binS, evNil, keyIs, keyEq, mkv, AV.cells, AV.sc, optv, bnd, env, put, Env.get, Env.set, Env.del, Env.dels, Env.init, res1, resL, resV, fillP, splice, newRow, Nat.reduceEqDiff, Nat.reduceLT, Nat.reduceLeDiff, Nat.reduceAdd, Nat.reduceMul, Nat.reduceSub, Nat.reduceBEq, reduceCtorEq, ↓zR, zQ, Tr, StA, StT, M36, bsv36, hlt, hq1']
          refine c_AddClue ns c' (by simp at f4; omega) s36 ?_
          intro v37 h37 o37 p37
          rw [f3, eN]
          rw [eC] at o37
          have w37a := (sl_cells (o37.slc)).1
          have w37b := (sl_cells (o37.slc)).2
          simp only [AV.cells] at w37a
          unfold AV.sc at w37b
          have x37 := Pre.push h37 (AO.row [.int .i64 (ns), v37] 0 0 false)
          obtain ⟨m37, m37n, m37v⟩ := rowP h37 (ns) v37
          generalize hk37 : h37 ++ [AO.row [.int .i64 (ns), v37] 0 0 false] = k37 at *
          have M37 := rdRow_pre p37 M36
          have bsv37 := rdRow_pre p37 bsv36
          have hq37 := rdRow_pre p37 hq1'
          have l1 := rd_lt M37
          have l2 := rd_lt bsv37
          have l3 := rd_lt hq37
          have bs37 := rdRow_pre (p37.trans x37) bs36
          simp (maxSteps := 1000000) (disch := first | omega | rfl | (simp only [zL, two63, room] <;> omega) | fail) only [↓reduceIte, ↓zP, zW, WOp, evOp, evBin, binI, binSh, binS, evNil, keyIs, keyEq, mkv, AV.cells, AV.sc, optv, bnd, env, put, Env.get, Env.set, Env.del, Env.dels, Env.init, res1, resL, resV, fillP, splice, newRow, Nat.reduceEqDiff, Nat.reduceLT, Nat.reduceLeDiff, Nat.reduceAdd, Nat.reduceMul, Nat.reduceSub, Nat.reduceBEq, reduceCtorEq, ↓zR, zQ, Tr, StA, StT, w37a, w37b, hk37, m37, M36, bsv36, hq1', M37, bsv37, hq37, hlt, bs37]
          refine c_nPuzzle ns (by simp at f4 ⊢; omega) (o37.slc.pre x37) (ss36.pre (p37.trans x37)) ?_
          intro h38 p38
          simp (maxSteps := 1000000) (disch := first | omega | rfl | (simp only [zL, two63, room] <;> omega) | fail) only [↓reduceIte, ↓zP, zW, WOp, evOp, evBin, binI, binSh, binS, evNil, keyIs, keyEq, mkv, AV.cells, AV.sc, optv, bnd, env, put, Env.get, Env.set, Env.del, Env.dels, Env.init, res1, resL, resV, fillP, splice, newRow, Nat.reduceEqDiff, Nat.reduceLT, Nat.reduceLeDiff, Nat.reduceAdd, Nat.reduceMul, Nat.reduceSub, Nat.reduceBEq, reduceCtorEq, ↓zR, zQ, Tr, StA, StT]
          exact hp _
        · have hkb : (kx == (Ls.length : Int) - 1) = false := beq_f hk
          simp (maxSteps := 1000000) (disch := first | omega | rfl | (simp only [zL, two63, room] <;> omega) | fail) only [↓reduceIte, ↓zP, zW, WOp, evOp, evBin, binI, binSh, binS, evNil, keyIs, keyEq, mkv, AV.cells, AV.sc, optv, bnd, env, put, Env.get, Env.set, Env.del, Env.dels, Env.init, res1, resL, resV, fillP, splice, newRow, Nat.reduceEqDiff, Nat.reduceLT, Nat.reduceLeDiff, Nat.reduceAdd, Nat.reduceMul, Nat.reduceSub, Nat.reduceBEq, reduceCtorEq, ↓zR, zQ, Tr, StA, StT, e6, bsv36, ls, hw1, hkb]
          exact hp _
end
theorem law_LinesHiddenOfAll (w : List UInt8) (hw : w.length < 2 ^ 63) (c0 s0 nq : Int) {h : AH} {vq : AV} {Lq : List Clu} (sq : Slc 3 encC h vq Lq) (hq : Lq.length < 2 ^ 63) (nr : Int) {vr : AV} {Lr : List Clu} (sr : Slc 3 encC h vr Lr) (hr : Lr.length < 2 ^ 63) (c : Clu) (ns : Int) {vs : AV} {Ls : List Clu} (ss : Slc 3 encC h vs Ls) (hs : Ls.length < 2 ^ 63)
    (kx : Int) (d : Clu) (x : List UInt8) (hx : x.length < 2 ^ 63) (n : Int) (e : Clu) : S 539 [.str w, .int .i64 c0, .int .i64 s0, pzV nq vq, pzV nr vr, .agg (encC c), pzV ns vs, .int .i64 kx, .agg (encC d), .str x, .int .i64 n, .agg (encC e)] h (fun r _ => r = .bool true) k :=
  law_LinesHiddenOfAll_of hw hx hq hr hs sq sr ss fun _ => rfl
end Go.Proofs.YtnamhjdfegohbaaGreatDoor.Ab

/- The law FnLinesHiddenOfAll of the given program returns true, whatever the input: its tied card. Condition: what the row lists of package-level tables is laid as the program's text lays it. -/
namespace Go.Proofs.YtnamhjdfegohbaaGreatDoor.fnLinesHiddenOfAll
open Go Go.ChangeShapes Go.WideShapes Go.ChangeAt Go.RowKit
set_option maxRecDepth 1000000

theorem own : ownKnob Tryz.prog.godebug = none := by kernel_rfl
theorem laidOut : laidOutB Tryz.prog = true := by kernel_rfl
theorem readable : ∀ t ∈ Tryz.f3.params.toList, Tryz.prog.readableRec t = true ∧ t < Tryz.prog.types.size := by
  rw [Tryz.params3]
  intro t ht
  simp only [List.mem_cons, List.not_mem_nil, or_false] at ht
  rcases ht with rfl | rfl | rfl | rfl | rfl | rfl | rfl | rfl | rfl | rfl | rfl | rfl
  · exact ⟨by kernel_rfl, of_decide_eq_true (by kernel_rfl)⟩
  · exact ⟨by kernel_rfl, of_decide_eq_true (by kernel_rfl)⟩
  · exact ⟨by kernel_rfl, of_decide_eq_true (by kernel_rfl)⟩
  · exact ⟨by kernel_rfl, of_decide_eq_true (by kernel_rfl)⟩
  · exact ⟨by kernel_rfl, of_decide_eq_true (by kernel_rfl)⟩
  · exact ⟨by kernel_rfl, of_decide_eq_true (by kernel_rfl)⟩
  · exact ⟨by kernel_rfl, of_decide_eq_true (by kernel_rfl)⟩
  · exact ⟨by kernel_rfl, of_decide_eq_true (by kernel_rfl)⟩
  · exact ⟨by kernel_rfl, of_decide_eq_true (by kernel_rfl)⟩
  · exact ⟨by kernel_rfl, of_decide_eq_true (by kernel_rfl)⟩
  · exact ⟨by kernel_rfl, of_decide_eq_true (by kernel_rfl)⟩
  · exact ⟨by kernel_rfl, of_decide_eq_true (by kernel_rfl)⟩
theorem contract (H : Type) (enc : TypeId × Value → H) (W : World) (base : Nat) (args : Array Value) (ds gs : List (DataW H)) (before : List MemPlace)
    (hval : ∀ (j : Nat) t v, Tryz.f3.params[j]? = some t → args[j]? = some v → Value.okWide Tryz.prog W .any base t v)
    (hW : DataW.Whole enc Tryz.prog Tryz.f3.params.toList Rows.fnLinesHiddenOfAllSpec.vars false W args.toList ds gs before) :
    Calls Tryz.prog 3 args W fun e W' => ∃ v, e = .returned v ∧ Rows.fnLinesHiddenOfAllSpec.post enc Tryz.prog Tryz.f3 false true false false W args v W' := by
  have hW' := hW
  obtain ⟨p, q, hA0, hV, rfl, hfz, hnd⟩ := hW
  obtain ⟨rfl, rfl⟩ := trodVars_none hV
  have hA : DataW.TrodAll enc Tryz.prog W 0 (fun _ => true) true Tryz.f3.params.toList args.toList ds p := hA0
  rw [Tryz.params3] at hA hval
  obtain ⟨v0, vs0, d0, ds0, p0, q0, hargs0, rfl, rfl, h0, r0⟩ := trodAll_cons hA
  obtain ⟨v1, vs1, d1, ds1, p1, q1, hargs1, rfl, rfl, h1, r1⟩ := trodAll_cons r0
  obtain ⟨v2, vs2, d2, ds2, p2, q2, hargs2, rfl, rfl, h2, r2⟩ := trodAll_cons r1
  obtain ⟨v3, vs3, d3, ds3, p3, q3, hargs3, rfl, rfl, h3, r3⟩ := trodAll_cons r2
  obtain ⟨v4, vs4, d4, ds4, p4, q4, hargs4, rfl, rfl, h4, r4⟩ := trodAll_cons r3
  obtain ⟨v5, vs5, d5, ds5, p5, q5, hargs5, rfl, rfl, h5, r5⟩ := trodAll_cons r4
  obtain ⟨v6, vs6, d6, ds6, p6, q6, hargs6, rfl, rfl, h6, r6⟩ := trodAll_cons r5
  obtain ⟨v7, vs7, d7, ds7, p7, q7, hargs7, rfl, rfl, h7, r7⟩ := trodAll_cons r6
  obtain ⟨v8, vs8, d8, ds8, p8, q8, hargs8, rfl, rfl, h8, r8⟩ := trodAll_cons r7
  obtain ⟨v9, vs9, d9, ds9, p9, q9, hargs9, rfl, rfl, h9, r9⟩ := trodAll_cons r8
  obtain ⟨v10, vs10, d10, ds10, p10, q10, hargs10, rfl, rfl, h10, r10⟩ := trodAll_cons r9
  obtain ⟨v11, vs11, d11, ds11, p11, q11, hargs11, rfl, rfl, h11, r11⟩ := trodAll_cons r10
  obtain ⟨rfl, rfl, rfl⟩ := trodAll_nil r11
  obtain rfl : args = #[v0, v1, v2, v3, v4, v5, v6, v7, v8, v9, v10, v11] := by cases args; simp_all
  obtain ⟨n3, cs3, m3, g3, a3, le3, pre3, sl3, hv3, rel3, len3⟩ := Ab.open_puzzleC (F := Ab.F) (Ab.rel_nothing Ab.F W) Tryz.underlying24 (by kernel_rfl) (by kernel_rfl) Tryz.underlying3 Tryz.underlying22 Tryz.underlying26 (by kernel_rfl) (by kernel_rfl) Tryz.underlying3 Tryz.underlying3 Tryz.underlying3 (hval 3 24 v3 rfl rfl) h3
  obtain ⟨n4, cs4, m4, g4, a4, le4, pre4, sl4, hv4, rel4, len4⟩ := Ab.open_puzzleC (F := Ab.F) rel3 Tryz.underlying24 (by kernel_rfl) (by kernel_rfl) Tryz.underlying3 Tryz.underlying22 Tryz.underlying26 (by kernel_rfl) (by kernel_rfl) Tryz.underlying3 Tryz.underlying3 Tryz.underlying3 (hval 4 24 v4 rfl rfl) h4
  obtain ⟨n6, cs6, m6, g6, a6, le6, pre6, sl6, hv6, rel6, len6⟩ := Ab.open_puzzleC (F := Ab.F) rel4 Tryz.underlying24 (by kernel_rfl) (by kernel_rfl) Tryz.underlying3 Tryz.underlying22 Tryz.underlying26 (by kernel_rfl) (by kernel_rfl) Tryz.underlying3 Tryz.underlying3 Tryz.underlying3 (hval 6 24 v6 rfl rfl) h6
  have hrel := rel6
  obtain ⟨s0, hv0, len0⟩ := Ab.open_str Tryz.underlying9 (hval 0 9 v0 rfl rfl) h0
  obtain ⟨s1, hv1⟩ := okWide_int Tryz.underlying3 (hval 1 3 v1 rfl rfl)
  obtain ⟨s2, hv2⟩ := okWide_int Tryz.underlying3 (hval 2 3 v2 rfl rfl)
  obtain ⟨s5, hv5⟩ := Ab.open_clueA Tryz.underlying26 (by kernel_rfl) (by kernel_rfl) Tryz.underlying3 Tryz.underlying3 Tryz.underlying3 (hval 5 26 v5 rfl rfl) h5
  obtain ⟨s7, hv7⟩ := okWide_int Tryz.underlying3 (hval 7 3 v7 rfl rfl)
  obtain ⟨s8, hv8⟩ := Ab.open_clueA Tryz.underlying26 (by kernel_rfl) (by kernel_rfl) Tryz.underlying3 Tryz.underlying3 Tryz.underlying3 (hval 8 26 v8 rfl rfl) h8
  obtain ⟨s9, hv9, len9⟩ := Ab.open_str Tryz.underlying9 (hval 9 9 v9 rfl rfl) h9
  obtain ⟨s10, hv10⟩ := okWide_int Tryz.underlying3 (hval 10 3 v10 rfl rfl)
  obtain ⟨s11, hv11⟩ := Ab.open_clueA Tryz.underlying26 (by kernel_rfl) (by kernel_rfl) Tryz.underlying3 Tryz.underlying3 Tryz.underlying3 (hval 11 26 v11 rfl rfl) h11
  have hlaw := Ab.law_LinesHiddenOfAll s0 len0 s1 s2 n3 (sl3.pre (Ab.Pre.trans pre4 pre6)) len3 n4 (sl4.pre pre6) len4 s5 n6 sl6 len6 s7 s8 s9 len9 s10 s11 (h := g6)
  have hargs : Ab.RelL Ab.F m6 [.str s0, .int .i64 s1, .int .i64 s2, .agg [.int .i64 n3, a3], .agg [.int .i64 n4, a4], .agg (Ab.encC s5), .agg [.int .i64 n6, a6], .int .i64 s7, .agg (Ab.encC s8), .str s9, .int .i64 s10, .agg (Ab.encC s11)] (#[v0, v1, v2, v3, v4, v5, v6, v7, v8, v9, v10, v11] : Array Value).toList := by
    simp only [Ab.RelL]
    exact ⟨v0, [v1, v2, v3, v4, v5, v6, v7, v8, v9, v10, v11], rfl, by simpa only [Ab.RelV] using hv0, v1, [v2, v3, v4, v5, v6, v7, v8, v9, v10, v11], rfl, by simpa only [Ab.RelV] using hv1, v2, [v3, v4, v5, v6, v7, v8, v9, v10, v11], rfl, by simpa only [Ab.RelV] using hv2, v3, [v4, v5, v6, v7, v8, v9, v10, v11], rfl, Ab.RelV.mono (Ab.Emb.le_trans le4 le6) _ _ hv3, v4, [v5, v6, v7, v8, v9, v10, v11], rfl, Ab.RelV.mono le6 _ _ hv4, v5, [v6, v7, v8, v9, v10, v11], rfl, hv5 _ _, v6, [v7, v8, v9, v10, v11], rfl, hv6, v7, [v8, v9, v10, v11], rfl, by simpa only [Ab.RelV] using hv7, v8, [v9, v10, v11], rfl, hv8 _ _, v9, [v10, v11], rfl, by simpa only [Ab.RelV] using hv9, v10, [v11], rfl, by simpa only [Ab.RelV] using hv10, v11, [], rfl, hv11 _ _, rfl⟩
  have hres : (Rows.fnLinesHiddenOfAllSpec.fn H ([d0, d1, d2, d3, d4, d5, d6, d7, d8, d9, d10, d11] ++ [])).results = [.lit (.bool true)] := rfl
  have hback : (Rows.fnLinesHiddenOfAllSpec.fn H ([d0, d1, d2, d3, d4, d5, d6, d7, d8, d9, d10, d11] ++ [])).args = [d0, d1, d2, d3, d4, d5, d6, d7, d8, d9, d10, d11] := rfl
  refine (Ab.law_calls (P := Tryz.prog) (F := Ab.F) Ab.all_sound (f := 539) (h := g6) hlaw hrel hargs).mono ?_
  rintro e W' ⟨rfl, hb⟩
  refine ⟨_, rfl, Ab.post_below (pa := p0 ++ (p1 ++ (p2 ++ (p3 ++ (p4 ++ (p5 ++ (p6 ++ (p7 ++ (p8 ++ (p9 ++ (p10 ++ (p11 ++ [])))))))))))) (pv := []) hW' (fun _ _ _ => ?_) (fun sp hsp => ?_) (fun _ _ => rfl) (by simp) hb (ok_one (by kernel_rfl) rfl (okWide_bool_mk Tryz.underlying4 _))⟩
  · rw [hres]
    exact trodAll_cons_mk (shut_bool Tryz.underlying4 _) trodAll_mk0
  · rw [hback]
    exact Ab.trodAll_stays laidOut hb readable hA0 (fun x hx => hW'.lt x (by simpa using hx)) (fun x hx => hsp x (by simpa using hx))

/-- A WORLD FOR THE WITNESS: the settled one, the tables holding what is laid. -/
def lits : List (DataW Unit) → List Value
  | [] => []
  | .lit (.int kd n) :: l => .int kd n :: lits l
  | _ :: l => lits l
def cellsT : DataW Unit → List Value
  | .agg l => l.flatMap fun
    | .lit (.int kd n) => [.int kd n]
    | .agg l' => lits l'
    | _ => []
  | _ => []
def setCells (cs : List Value) : Obj → Obj
  | .cells _ t frozen => .cells cs.toArray t frozen
  | o => o
noncomputable def laidWorld (os : Os) : World :=
  { World.holding Tryz.prog os ⟨#[], #[], []⟩ with heap := ((World.holding Tryz.prog os ⟨#[], #[], []⟩).heap.modify 1 (setCells (cellsT Rows.laid_unicode_utf8_first))).modify 2 (setCells (cellsT Rows.laid_unicode_utf8_acceptRanges)) }
theorem laid_met (os : Os) : laidMet Tryz.prog Rows.fnLinesHiddenOfAllRow.laid ((laidWorld os).forCall (fun _ _ => 0) ⟨#[], #[.string ⟨#[]⟩, .int .i64 0, .int .i64 0, .agg #[.int .i64 0, .slice none 0 0], .agg #[.int .i64 0, .slice none 0 0], .agg #[.int .i64 0, .int .i64 0, .int .i64 0], .agg #[.int .i64 0, .slice none 0 0], .int .i64 0, .agg #[.int .i64 0, .int .i64 0, .int .i64 0], .string ⟨#[]⟩, .int .i64 0, .agg #[.int .i64 0, .int .i64 0, .int .i64 0]], []⟩).memory :=
  laidMet_of_run' 8 (by kernel_rfl) (by kernel_rfl)
theorem reads (os : Os) {H : Type} (enc : TypeId × Value → H) : ∃ places, DataW.whole enc Tryz.prog ((laidWorld os).forCall (fun _ _ => 0) ⟨#[], #[.string ⟨#[]⟩, .int .i64 0, .int .i64 0, .agg #[.int .i64 0, .slice none 0 0], .agg #[.int .i64 0, .slice none 0 0], .agg #[.int .i64 0, .int .i64 0, .int .i64 0], .agg #[.int .i64 0, .slice none 0 0], .int .i64 0, .agg #[.int .i64 0, .int .i64 0, .int .i64 0], .string ⟨#[]⟩, .int .i64 0, .agg #[.int .i64 0, .int .i64 0, .int .i64 0]], []⟩).memory Tryz.f3.params.toList Rows.fnLinesHiddenOfAllSpec.vars false (#[.string ⟨#[]⟩, .int .i64 0, .int .i64 0, .agg #[.int .i64 0, .slice none 0 0], .agg #[.int .i64 0, .slice none 0 0], .agg #[.int .i64 0, .int .i64 0, .int .i64 0], .agg #[.int .i64 0, .slice none 0 0], .int .i64 0, .agg #[.int .i64 0, .int .i64 0, .int .i64 0], .string ⟨#[]⟩, .int .i64 0, .agg #[.int .i64 0, .int .i64 0, .int .i64 0]] : Array Value).toList 8 = some ([.lit (.string []), .lit (.int .i64 0), .lit (.int .i64 0), .agg [.lit (.int .i64 0), .nil], .agg [.lit (.int .i64 0), .nil], .agg [.lit (.int .i64 0), .lit (.int .i64 0), .lit (.int .i64 0)], .agg [.lit (.int .i64 0), .nil], .lit (.int .i64 0), .agg [.lit (.int .i64 0), .lit (.int .i64 0), .lit (.int .i64 0)], .lit (.string []), .lit (.int .i64 0), .agg [.lit (.int .i64 0), .lit (.int .i64 0), .lit (.int .i64 0)]], [], places) :=
  ⟨[], by kernel_rfl⟩

theorem lifted (os : Os) (started : os.Started) (H : Type) (enc : TypeId × Value → H) (F : Stop.Interp) :
    ReturnsInHanded {} Tryz.checked os 3 .any ((OpenSpec.ofChange Rows.fnLinesHiddenOfAllSpec).preRow enc Tryz.prog Tryz.f3 Rows.fnLinesHiddenOfAllRow.domain false Rows.fnLinesHiddenOfAllRow.laid) (((OpenSpec.ofChange Rows.fnLinesHiddenOfAllSpec).at F).post enc Tryz.prog Tryz.f3 false true false false) := by
  obtain ⟨places, hx⟩ := reads os enc
  refine returnsInHanded_of_row (C := Tryz.checked) (s := OpenSpec.ofChange Rows.fnLinesHiddenOfAllSpec) own started (by kernel_rfl) Tryz.func3
    (witness_row_at (enc := enc) (C := Tryz.checked) false (laidWorld os) #[.string ⟨#[]⟩, .int .i64 0, .int .i64 0, .agg #[.int .i64 0, .slice none 0 0], .agg #[.int .i64 0, .slice none 0 0], .agg #[.int .i64 0, .int .i64 0, .int .i64 0], .agg #[.int .i64 0, .slice none 0 0], .int .i64 0, .agg #[.int .i64 0, .int .i64 0, .int .i64 0], .string ⟨#[]⟩, .int .i64 0, .agg #[.int .i64 0, .int .i64 0, .int .i64 0]] rfl (by kernel_rfl) (by kernel_rfl) (by kernel_rfl)
      (OpenSpec.preRow_of_cond 8 hx (by kernel_rfl) (fun k hk => by cases hk) (by kernel_rfl) (laid_met os))) ?_
  intro W base args ds gs before hval hW _ _ _ _ _ _
  exact contract H enc W base args ds gs before hval hW

theorem said : Rows.FnLinesHiddenOfAllSaid :=
  OpenClaim.holds_of_cond 3 Tryz.f3 rfl rfl rfl rfl rfl rfl rfl ⟨rfl, rfl, rfl, rfl, rfl⟩ rfl rfl rfl rfl rfl (by kernel_rfl) Tryz.func3 (by kernel_rfl)
    (of_decide_eq_true (by kernel_rfl)) (by unfold Func.isWrapper; first | (rw [if_pos (by decide +kernel)]; kernel_rfl) | (rw [if_neg (by decide +kernel)]; exact ⟨rfl, rfl⟩))
    (fun os started H enc _ F => by rw [OpenClaim.pre_eq_preRow]; exact lifted os started H enc F)

/-- No parameter wants a stand-in; the program's own looks are off: what the card asks. -/
theorem plain (f : FuncId) (fn : Func) (hf : Tryz.pinned.checked.prog.funcNamed "loop.example/g01271/laws.FnLinesHiddenOfAll" = some f) (hfn : Tryz.pinned.checked.prog.funcs[f]? = some fn) :
    false = Tryz.pinned.checked.prog.looks [] ∧ ∀ (j : Nat) t, fn.params[j]? = some t → Tryz.pinned.checked.prog.wantsStandIn t = false := by
  obtain rfl : f = 3 := Option.some.inj ((show Tryz.prog.funcNamed "loop.example/g01271/laws.FnLinesHiddenOfAll" = some 3 by kernel_rfl).symm.trans hf) |>.symm
  obtain rfl : fn = Tryz.f3 := (Option.some.inj (Tryz.func3.symm.trans hfn)).symm
  refine ⟨by kernel_rfl, fun j t ht => ?_⟩
  rw [Tryz.params3] at ht
  have hm : t ∈ ([9, 3, 3, 24, 24, 26, 24, 3, 26, 9, 3, 26] : List Nat) := by
    have := Array.mem_of_getElem? ht
    simpa using this
  simp only [List.mem_cons, List.not_mem_nil, or_false] at hm
  rcases hm with rfl | rfl | rfl | rfl | rfl | rfl | rfl | rfl | rfl | rfl | rfl | rfl
  · exact (show Tryz.prog.wantsStandIn 9 = false by kernel_rfl)
  · exact (show Tryz.prog.wantsStandIn 3 = false by kernel_rfl)
  · exact (show Tryz.prog.wantsStandIn 3 = false by kernel_rfl)
  · exact (show Tryz.prog.wantsStandIn 24 = false by kernel_rfl)
  · exact (show Tryz.prog.wantsStandIn 24 = false by kernel_rfl)
  · exact (show Tryz.prog.wantsStandIn 26 = false by kernel_rfl)
  · exact (show Tryz.prog.wantsStandIn 24 = false by kernel_rfl)
  · exact (show Tryz.prog.wantsStandIn 3 = false by kernel_rfl)
  · exact (show Tryz.prog.wantsStandIn 26 = false by kernel_rfl)
  · exact (show Tryz.prog.wantsStandIn 9 = false by kernel_rfl)
  · exact (show Tryz.prog.wantsStandIn 3 = false by kernel_rfl)
  · exact (show Tryz.prog.wantsStandIn 26 = false by kernel_rfl)
theorem card : Rows.FnLinesHiddenOfAllCardSaid :=
  Claim7.holds_tied_plain_at .later [] _ _ _ _ said (fun _ h => by cases h) (by kernel_rfl) (fun _ h => by cases h) fnLinesHiddenOfAll_row_tie rfl ⟨rfl, rfl⟩ (by kernel_rfl) rfl plain (by kernel_rfl)
end Go.Proofs.YtnamhjdfegohbaaGreatDoor.fnLinesHiddenOfAll
