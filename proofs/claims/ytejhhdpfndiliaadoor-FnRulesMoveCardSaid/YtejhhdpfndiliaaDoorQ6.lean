/- The proof that the law FnRulesMove of the given program returns true for every input; the condition: the tables that the row lists are laid as the program's text lays them. -/
import Derived.Test.YtejhhdpfndiliaaDoorCards
import Derived.Test.YtejhhdpfndiliaaDoorTie
import Derived.OpenShut
import Derived.Deep.DeepHandedRow
import Derived.Lib.LaidTab
import Derived.Test.YtejhhdpfndiliaaDoorQ5
set_option linter.unusedSimpArgs false
set_option linter.unusedVariables false
/- THE LAW OF RULES: its loops. -/
namespace Go.Proofs.YtejhhdpfndiliaaDoor.Ab
open Go
set_option maxRecDepth 100000
set_option maxHeartbeats 8000000

theorem lp_yOrderL {c kk off : Nat} {L : List (Int × Int)} (hlen : L.length < 2 ^ 30) {h : AH} (hs : Slc 2 encM h (.slice c kk off L.length 2) L) (ho : L.Pairwise ltM) {R : X → Env → AH → Prop} (hR : R (.exit 0) [] h) : ∀ (rest pre : List (Int × Int)) (y : Int × Int), L = pre ++ y :: rest →
    Cx (.loop lp17_0) [(0, .slice c kk off L.length 2), (3, .int .i64 ((pre.length + 1 : Nat) : Int))] h R k k
  | [], pre, y, hL => by
    have hl : L.length = pre.length + 1 := by rw [hL]; simp
    have hn : ¬ (((pre.length + 1 : Nat) : Int) < ((pre.length + 1 : Nat) : Int)) := by omega
    rw [hl]
    rw [w_loopb (c := lp17_0) (d := lb17_0) rfl]; unfold lb17_0
    simp (maxSteps := 1000000) (disch := first | omega | rfl | (simp only [zL, two63, room] <;> omega) | fail) only [↓reduceIte, ↓zP, zW, WOp, evOp, evBin, binI, binSh, binS, evNil, keyIs, keyEq, mkv, AV.cells, AV.sc, optv, bnd, env, put, Env.get, Env.set, Env.del, Env.dels, Env.init, res1, resL, resV, fillP, splice, newRow, Nat.reduceEqDiff, Nat.reduceLT, Nat.reduceLeDiff, Nat.reduceAdd, Nat.reduceMul, Nat.reduceSub, Nat.reduceBEq, reduceCtorEq, ↓zR, zQ, Tr, StA, StT, hn]
    exact hR
  | x :: rest, pre, y, hL => by
    have ih := lp_yOrderL hlen hs ho (R := R) hR rest (pre ++ [y]) x (by rw [hL]; simp)
    have hl : L.length = pre.length + 2 + rest.length := by rw [hL]; simp; omega
    have hxy : ltM y x := by
      rw [hL, List.pairwise_append] at ho
      have := ho.2.1
      rw [List.pairwise_cons] at this
      exact this.1 x (by simp)
    have hs1 := hs
    have hs2 := hs
    rw [show L = pre ++ y :: (x :: rest) from hL] at hs1
    rw [show L = (pre ++ [y]) ++ x :: rest by rw [hL]; simp] at hs2
    obtain ⟨a1, a2⟩ := hs1.fldM
    obtain ⟨b1, b2⟩ := hs2.fldM
    rw [show (pre ++ [y]).length = pre.length + 1 by simp] at b1 b2 ih
    have hlt : ((pre.length + 1 : Nat) : Int) < ((pre.length + 2 + rest.length : Nat) : Int) := by omega
    have hlt2 : (pre.length : Int) < ((pre.length + 2 + rest.length : Nat) : Int) := by omega
    have hw0 : ((pre.length + 1 : Nat) : Int) - 1 = (pre.length : Int) := by omega
    have hw0' : IntKind.i64.wrap (pre.length : Int) = (pre.length : Int) := wrap_i (by omega)
    have hw1 : ((pre.length + 1 : Nat) : Int) + 1 = ((pre.length + 1 + 1 : Nat) : Int) := by omega
    have hw2 : IntKind.i64.wrap ((pre.length + 1 + 1 : Nat) : Int) = ((pre.length + 1 + 1 : Nat) : Int) := wrap_i (by omega)
    rw [hl] at ih ⊢
    rcases hxy with hxy | ⟨hx1, hx2⟩
    · have g1 : ¬ (y.1 > x.1) := by omega
      have g2 : (y.1 == x.1) = false := by
        rw [beq_eq_false_iff_ne]; omega
      rw [w_loopb (c := lp17_0) (d := lb17_0) rfl]; unfold lb17_0
      simp (maxSteps := 1000000) (disch := first | omega | rfl | (simp only [zL, two63, room] <;> omega) | fail) only [↓reduceIte, ↓zP, zW, WOp, evOp, evBin, binI, binSh, binS, evNil, keyIs, keyEq, mkv, AV.cells, AV.sc, optv, bnd, env, put, Env.get, Env.set, Env.del, Env.dels, Env.init, res1, resL, resV, fillP, splice, newRow, Nat.reduceEqDiff, Nat.reduceLT, Nat.reduceLeDiff, Nat.reduceAdd, Nat.reduceMul, Nat.reduceSub, Nat.reduceBEq, reduceCtorEq, ↓zR, zQ, Tr, StA, StT, hlt, hlt2, hw0, hw0', a1, a2, b1, b2, g1, g2, hw1, hw2]
      try refine w_drw ?_
      try (simp (maxSteps := 1000000) (disch := first | omega | rfl | (simp only [zL, two63, room] <;> omega) | fail) only [↓reduceIte, ↓zP, zW, WOp, evOp, evBin, binI, binSh, binS, evNil, keyIs, keyEq, mkv, AV.cells, AV.sc, optv, bnd, env, put, Env.get, Env.set, Env.del, Env.dels, Env.init, res1, resL, resV, fillP, splice, newRow, Nat.reduceEqDiff, Nat.reduceLT, Nat.reduceLeDiff, Nat.reduceAdd, Nat.reduceMul, Nat.reduceSub, Nat.reduceBEq, reduceCtorEq, ↓zR, zQ, Tr, StA, StT, hlt, hlt2, hw0, hw0', a1, a2, b1, b2, g1, g2, hw1, hw2])
      rw [w_loopn (c := lp17_0) rfl]
      simp (maxSteps := 1000000) (disch := first | omega | rfl | (simp only [zL, two63, room] <;> omega) | fail) only [↓reduceIte, ↓zP, zW, WOp, evOp, evBin, binI, binSh, binS, evNil, keyIs, keyEq, mkv, AV.cells, AV.sc, optv, bnd, env, put, Env.get, Env.set, Env.del, Env.dels, Env.init, res1, resL, resV, fillP, splice, newRow, Nat.reduceEqDiff, Nat.reduceLT, Nat.reduceLeDiff, Nat.reduceAdd, Nat.reduceMul, Nat.reduceSub, Nat.reduceBEq, reduceCtorEq, ↓zR, zQ, Tr, StA, StT]
      exact ih
    · have g1 : ¬ (y.1 > x.1) := by omega
      have g2 : (y.1 == x.1) = true := by
        rw [beq_iff_eq]; omega
      have g3 : ¬ (y.2 ≥ x.2) := by omega
      rw [w_loopb (c := lp17_0) (d := lb17_0) rfl]; unfold lb17_0
      simp (maxSteps := 1000000) (disch := first | omega | rfl | (simp only [zL, two63, room] <;> omega) | fail) only [↓reduceIte, ↓zP, zW, WOp, evOp, evBin, binI, binSh, binS, evNil, keyIs, keyEq, mkv, AV.cells, AV.sc, optv, bnd, env, put, Env.get, Env.set, Env.del, Env.dels, Env.init, res1, resL, resV, fillP, splice, newRow, Nat.reduceEqDiff, Nat.reduceLT, Nat.reduceLeDiff, Nat.reduceAdd, Nat.reduceMul, Nat.reduceSub, Nat.reduceBEq, reduceCtorEq, ↓zR, zQ, Tr, StA, StT, hlt, hlt2, hw0, hw0', a1, a2, b1, b2, g1, g2, g3, hw1, hw2]
      try refine w_drw ?_
      try (simp (maxSteps := 1000000) (disch := first | omega | rfl | (simp only [zL, two63, room] <;> omega) | fail) only [↓reduceIte, ↓zP, zW, WOp, evOp, evBin, binI, binSh, binS, evNil, keyIs, keyEq, mkv, AV.cells, AV.sc, optv, bnd, env, put, Env.get, Env.set, Env.del, Env.dels, Env.init, res1, resL, resV, fillP, splice, newRow, Nat.reduceEqDiff, Nat.reduceLT, Nat.reduceLeDiff, Nat.reduceAdd, Nat.reduceMul, Nat.reduceSub, Nat.reduceBEq, reduceCtorEq, ↓zR, zQ, Tr, StA, StT, hlt, hlt2, hw0, hw0', a1, a2, b1, b2, g1, g2, g3, hw1, hw2])
      rw [w_loopn (c := lp17_0) rfl]
      simp (maxSteps := 1000000) (disch := first | omega | rfl | (simp only [zL, two63, room] <;> omega) | fail) only [↓reduceIte, ↓zP, zW, WOp, evOp, evBin, binI, binSh, binS, evNil, keyIs, keyEq, mkv, AV.cells, AV.sc, optv, bnd, env, put, Env.get, Env.set, Env.del, Env.dels, Env.init, res1, resL, resV, fillP, splice, newRow, Nat.reduceEqDiff, Nat.reduceLT, Nat.reduceLeDiff, Nat.reduceAdd, Nat.reduceMul, Nat.reduceSub, Nat.reduceBEq, reduceCtorEq, ↓zR, zQ, Tr, StA, StT]
      exact ih
theorem c_yOrderL {v : AV} {L : List (Int × Int)} (hlen : L.length < 2 ^ 30) {h : AH} (hs : Slc 2 encM h v L) (ho : L.Pairwise ltM) {post : AV → AH → Prop} (hp : post (.bool true) h) : S 17 [v] h post k := by
  refine S_of rfl T17 ?_; unfold fi17
  rcases hs.cases with ⟨rfl, h0⟩ | ⟨rfl, h0⟩ | ⟨c, kk, off, rfl⟩
  · simp (maxSteps := 1000000) (disch := first | omega | rfl | (simp only [zL, two63, room] <;> omega) | fail) only [↓reduceIte, ↓zP, zW, WOp, evOp, evBin, binI, binSh, binS, evNil, keyIs, keyEq, mkv, AV.cells, AV.sc, optv, bnd, env, put, Env.get, Env.set, Env.del, Env.dels, Env.init, res1, resL, resV, fillP, splice, newRow, Nat.reduceEqDiff, Nat.reduceLT, Nat.reduceLeDiff, Nat.reduceAdd, Nat.reduceMul, Nat.reduceSub, Nat.reduceBEq, reduceCtorEq, ↓zR, zQ, Tr, StA, StT]
    rw [w_loopb (c := lp17_0) (d := lb17_0) rfl]; unfold lb17_0
    simp (maxSteps := 1000000) (disch := first | omega | rfl | (simp only [zL, two63, room] <;> omega) | fail) only [↓reduceIte, ↓zP, zW, WOp, evOp, evBin, binI, binSh, binS, evNil, keyIs, keyEq, mkv, AV.cells, AV.sc, optv, bnd, env, put, Env.get, Env.set, Env.del, Env.dels, Env.init, res1, resL, resV, fillP, splice, newRow, Nat.reduceEqDiff, Nat.reduceLT, Nat.reduceLeDiff, Nat.reduceAdd, Nat.reduceMul, Nat.reduceSub, Nat.reduceBEq, reduceCtorEq, ↓zR, zQ, Tr, StA, StT]
    exact hp
  · simp (maxSteps := 1000000) (disch := first | omega | rfl | (simp only [zL, two63, room] <;> omega) | fail) only [↓reduceIte, ↓zP, zW, WOp, evOp, evBin, binI, binSh, binS, evNil, keyIs, keyEq, mkv, AV.cells, AV.sc, optv, bnd, env, put, Env.get, Env.set, Env.del, Env.dels, Env.init, res1, resL, resV, fillP, splice, newRow, Nat.reduceEqDiff, Nat.reduceLT, Nat.reduceLeDiff, Nat.reduceAdd, Nat.reduceMul, Nat.reduceSub, Nat.reduceBEq, reduceCtorEq, ↓zR, zQ, Tr, StA, StT]
    rw [w_loopb (c := lp17_0) (d := lb17_0) rfl]; unfold lb17_0
    simp (maxSteps := 1000000) (disch := first | omega | rfl | (simp only [zL, two63, room] <;> omega) | fail) only [↓reduceIte, ↓zP, zW, WOp, evOp, evBin, binI, binSh, binS, evNil, keyIs, keyEq, mkv, AV.cells, AV.sc, optv, bnd, env, put, Env.get, Env.set, Env.del, Env.dels, Env.init, res1, resL, resV, fillP, splice, newRow, Nat.reduceEqDiff, Nat.reduceLT, Nat.reduceLeDiff, Nat.reduceAdd, Nat.reduceMul, Nat.reduceSub, Nat.reduceBEq, reduceCtorEq, ↓zR, zQ, Tr, StA, StT]
    exact hp
  · cases L with
    | nil =>
      simp (maxSteps := 1000000) (disch := first | omega | rfl | (simp only [zL, two63, room] <;> omega) | fail) only [↓reduceIte, ↓zP, zW, WOp, evOp, evBin, binI, binSh, binS, evNil, keyIs, keyEq, mkv, AV.cells, AV.sc, optv, bnd, env, put, Env.get, Env.set, Env.del, Env.dels, Env.init, res1, resL, resV, fillP, splice, newRow, Nat.reduceEqDiff, Nat.reduceLT, Nat.reduceLeDiff, Nat.reduceAdd, Nat.reduceMul, Nat.reduceSub, Nat.reduceBEq, reduceCtorEq, ↓zR, zQ, Tr, StA, StT]
      rw [w_loopb (c := lp17_0) (d := lb17_0) rfl]; unfold lb17_0
      simp (maxSteps := 1000000) (disch := first | omega | rfl | (simp only [zL, two63, room] <;> omega) | fail) only [↓reduceIte, ↓zP, zW, WOp, evOp, evBin, binI, binSh, binS, evNil, keyIs, keyEq, mkv, AV.cells, AV.sc, optv, bnd, env, put, Env.get, Env.set, Env.del, Env.dels, Env.init, res1, resL, resV, fillP, splice, newRow, Nat.reduceEqDiff, Nat.reduceLT, Nat.reduceLeDiff, Nat.reduceAdd, Nat.reduceMul, Nat.reduceSub, Nat.reduceBEq, reduceCtorEq, ↓zR, zQ, Tr, StA, StT]
      exact hp
    | cons y rest =>
      simp (maxSteps := 1000000) (disch := first | omega | rfl | (simp only [zL, two63, room] <;> omega) | fail) only [↓reduceIte, ↓zP, zW, WOp, evOp, evBin, binI, binSh, binS, evNil, keyIs, keyEq, mkv, AV.cells, AV.sc, optv, bnd, env, put, Env.get, Env.set, Env.del, Env.dels, Env.init, res1, resL, resV, fillP, splice, newRow, Nat.reduceEqDiff, Nat.reduceLT, Nat.reduceLeDiff, Nat.reduceAdd, Nat.reduceMul, Nat.reduceSub, Nat.reduceBEq, reduceCtorEq, ↓zR, zQ, Tr, StA, StT]
      refine lp_yOrderL hlen hs ho ?_ rest [] y rfl
      simp (maxSteps := 1000000) (disch := first | omega | rfl | (simp only [zL, two63, room] <;> omega) | fail) only [↓reduceIte, ↓zP, zW, WOp, evOp, evBin, binI, binSh, binS, evNil, keyIs, keyEq, mkv, AV.cells, AV.sc, optv, bnd, env, put, Env.get, Env.set, Env.del, Env.dels, Env.init, res1, resL, resV, fillP, splice, newRow, Nat.reduceEqDiff, Nat.reduceLT, Nat.reduceLeDiff, Nat.reduceAdd, Nat.reduceMul, Nat.reduceSub, Nat.reduceBEq, reduceCtorEq, ↓zR, zQ, Tr, StA, StT]
      exact hp

theorem lp_rm0 {w : List UInt8} (hs : ∀ i, i < w.length → isSign (w.getD i 0) = true) (hw : w.length ≤ 10) (r : Ru) (mv W13 : AV) {c6 : Nat} {v7 v11 : AV} {b : AH} (s7 : Slc 2 encM b v7 (mvR w r)) (s11 : Slc 2 encM b v11 (movesB w [84, 70])) {R : X → Env → AH → Prop}
    (hR : ∀ h', Pre b h' → R (.exit 0) [(1, mv), (5, .str w), (6, .ptr c6 0 0 3), (7, v7), (13, W13)] h') : ∀ (rest pre : List (Int × Int)) (h : AH), movesB w [84, 70] = pre ++ rest → Pre b h →
    Cx (.loop lp23_0) [(1, mv), (5, .str w), (6, .ptr c6 0 0 3), (7, v7), (13, W13), (132, v11), (133, .int .i64 (movesB w [84, 70]).length), (134, .int .i64 pre.length)] h R k k := by
  intro rest
  induction rest with
  | nil =>
    intro pre h hL hp
    have hl : (movesB w [84, 70]).length = pre.length := by rw [hL]; simp
    rw [hl]
    rw [w_loopb (c := lp23_0) (d := lb23_0) rfl]; unfold lb23_0
    simp (maxSteps := 1000000) (disch := first | omega | rfl | (simp only [zL, two63, room] <;> omega) | fail) only [↓reduceIte, ↓zP, zW, WOp, evOp, evBin, binI, binSh, binS, evNil, keyIs, keyEq, mkv, AV.cells, AV.sc, optv, bnd, env, put, Env.get, Env.set, Env.del, Env.dels, Env.init, res1, resL, resV, fillP, splice, newRow, Nat.reduceEqDiff, Nat.reduceLT, Nat.reduceLeDiff, Nat.reduceAdd, Nat.reduceMul, Nat.reduceSub, Nat.reduceBEq, reduceCtorEq, ↓zR, zQ, Tr, StA, StT]
    exact hR h hp
  | cons m rest ihr =>
    intro pre h hL hp
    have ih := ihr (pre ++ [m])
    have hbd := movesB_len w [84, 70]
    have hl : (movesB w [84, 70]).length = pre.length + 1 + rest.length := by rw [hL]; simp; omega
    have hmm : m ∈ movesB w [84, 70] := by rw [hL]; simp
    have hin := mvR_has_plain hmm r
    have hs1 := s11.pre hp
    rw [hL] at hs1
    obtain ⟨r1, k1, o1, hve, hr⟩ := hs1.at hlM
    rw [← hL, hl] at hve
    subst hve
    rw [hl] at ih ⊢
    obtain ⟨i, t⟩ := m
    have hr' : rdRow h r1 k1 (o1 + pre.length * 2) 2 = some [.int .i64 i, .int .i64 t] := hr
    have hlt : (pre.length : Int) < ((pre.length + 1 + rest.length : Nat) : Int) := by omega
    have hw1 : (pre.length : Int) + 1 = ((pre ++ [((i, t) : Int × Int)]).length : Int) := by simp
    have hw2 : IntKind.i64.wrap ((pre ++ [((i, t) : Int × Int)]).length : Int) = ((pre ++ [((i, t) : Int × Int)]).length : Int) := wrap_i (by simp; omega)
    have hpR : Pre b (h ++ [AO.row [AV.int .i64 i, AV.int .i64 t] 0 0 false]) := hp.trans (Pre.push _ _)
    have hml : (mvR w r).length ≤ 10 * 10 := Nat.le_trans (mvR_len w r) (Nat.mul_le_mul hw hw)
    rw [w_loopb (c := lp23_0) (d := lb23_0) rfl]; unfold lb23_0
    simp (maxSteps := 1000000) (disch := first | omega | rfl | (simp only [zL, two63, room] <;> omega) | fail) only [↓reduceIte, ↓zP, zW, WOp, evOp, evBin, binI, binSh, binS, evNil, keyIs, keyEq, mkv, AV.cells, AV.sc, optv, bnd, env, put, Env.get, Env.set, Env.del, Env.dels, Env.init, res1, resL, resV, fillP, splice, newRow, Nat.reduceEqDiff, Nat.reduceLT, Nat.reduceLeDiff, Nat.reduceAdd, Nat.reduceMul, Nat.reduceSub, Nat.reduceBEq, reduceCtorEq, ↓zR, zQ, Tr, StA, StT, hlt, hr']
    refine c_yInV (by omega) i t hin (s7.pre hpR) ?_
    intro h2 hp2
    simp (maxSteps := 1000000) (disch := first | omega | rfl | (simp only [zL, two63, room] <;> omega) | fail) only [↓reduceIte, ↓zP, zW, WOp, evOp, evBin, binI, binSh, binS, evNil, keyIs, keyEq, mkv, AV.cells, AV.sc, optv, bnd, env, put, Env.get, Env.set, Env.del, Env.dels, Env.init, res1, resL, resV, fillP, splice, newRow, Nat.reduceEqDiff, Nat.reduceLT, Nat.reduceLeDiff, Nat.reduceAdd, Nat.reduceMul, Nat.reduceSub, Nat.reduceBEq, reduceCtorEq, ↓zR, zQ, Tr, StA, StT, hw1, hw2]
    rw [w_loopn (c := lp23_0) rfl]
    simp (maxSteps := 1000000) (disch := first | omega | rfl | (simp only [zL, two63, room] <;> omega) | fail) only [↓reduceIte, ↓zP, zW, WOp, evOp, evBin, binI, binSh, binS, evNil, keyIs, keyEq, mkv, AV.cells, AV.sc, optv, bnd, env, put, Env.get, Env.set, Env.del, Env.dels, Env.init, res1, resL, resV, fillP, splice, newRow, Nat.reduceEqDiff, Nat.reduceLT, Nat.reduceLeDiff, Nat.reduceAdd, Nat.reduceMul, Nat.reduceSub, Nat.reduceBEq, reduceCtorEq, ↓zR, zQ, Tr, StA, StT]
    exact ih h2 (by rw [hL]; simp) (hpR.trans hp2)
theorem lp_rm1 {w : List UInt8} (hg : plG10 w = true) (r : Ru) (mv : AV) {c6 : Nat} {v7 v13 : AV} {b : AH} (q6 : rdRow b c6 0 0 3 = some (encR r)) (q61 : rdRow b c6 0 1 1 = some [.bool r.2.1]) (s7 : Slc 2 encM b v7 (mvR w r)) (s13 : Slc 2 encM b v13 (mvR w (true, true, true))) {R : X → Env → AH → Prop}
    (hR : ∀ h', Pre b h' → R (.exit 2) [(1, mv)] h') : ∀ (rest pre : List (Int × Int)) (h : AH), mvR w r = pre ++ rest → Pre b h →
    Cx (.loop lp23_1) [(1, mv), (5, .str w), (6, .ptr c6 0 0 3), (13, v13), (143, v7), (144, .int .i64 (mvR w r).length), (145, .int .i64 pre.length)] h R k k := by
  intro rest
  obtain ⟨l1, l2, l3⟩ := pl10 hg
  have hml : (mvR w r).length ≤ 10 * 10 := Nat.le_trans (mvR_len w r) (Nat.mul_le_mul l2 l2)
  have hml2 : (mvR w (true, true, true)).length ≤ 10 * 10 := Nat.le_trans (mvR_len w _) (Nat.mul_le_mul l2 l2)
  induction rest with
  | nil =>
    intro pre h hL hp
    have hl : (mvR w r).length = pre.length := by rw [hL]; simp
    rw [hl]
    rw [w_loopb (c := lp23_1) (d := lb23_1) rfl]; unfold lb23_1
    simp (maxSteps := 1000000) (disch := first | omega | rfl | (simp only [zL, two63, room] <;> omega) | fail) only [↓reduceIte, ↓zP, zW, WOp, evOp, evBin, binI, binSh, binS, evNil, keyIs, keyEq, mkv, AV.cells, AV.sc, optv, bnd, env, put, Env.get, Env.set, Env.del, Env.dels, Env.init, res1, resL, resV, fillP, splice, newRow, Nat.reduceEqDiff, Nat.reduceLT, Nat.reduceLeDiff, Nat.reduceAdd, Nat.reduceMul, Nat.reduceSub, Nat.reduceBEq, reduceCtorEq, ↓zR, zQ, Tr, StA, StT]
    exact hR h hp
  | cons m rest ihr =>
    intro pre h hL hp
    have ih := ihr (pre ++ [m])
    have hl : (mvR w r).length = pre.length + 1 + rest.length := by rw [hL]; simp; omega
    have hmm : m ∈ mvR w r := by rw [hL]; simp
    obtain ⟨i, t, rfl, hm⟩ := mem_mvR.1 hmm
    have hin := mvR_all hm
    have hs1 := s7.pre hp
    rw [hL] at hs1
    obtain ⟨r1, k1, o1, hve, hr⟩ := hs1.at hlM
    rw [← hL, hl] at hve
    subst hve
    rw [hl] at ih ⊢
    have hr' : rdRow h r1 k1 (o1 + pre.length * 2) 2 = some [.int .i64 i, .int .i64 t] := hr
    have hlt : (pre.length : Int) < ((pre.length + 1 + rest.length : Nat) : Int) := by omega
    have hw1 : (pre.length : Int) + 1 = ((pre ++ [((i : Int), (t : Int))]).length : Int) := by simp
    have hw2 : IntKind.i64.wrap ((pre ++ [((i : Int), (t : Int))]).length : Int) = ((pre ++ [((i : Int), (t : Int))]).length : Int) := wrap_i (by simp; omega)
    obtain ⟨q, qa, qb⟩ := mvRow h i t
    have hpR : Pre b (h ++ [AO.row [AV.int .i64 i, AV.int .i64 t] 0 0 false]) := hp.trans (Pre.push _ _)
    have q60 := rdRow_pre hpR q6
    have hok : rcG w r ((i : Int), (t : Int)) = true := by
      unfold rcG
      rw [hg, rcB_nat, decide_eq_true hm]; rfl
    have hmk : mkR w r ((i : Int), (t : Int)) = madeB w i t := by unfold mkR; rw [hok]; simp
    have hlw : (madeB w i t).length = w.length := madeB_length w i t
    have hgm : plG10 (madeB w i t) = true := by
      have hs' := signs_madeR (t := t) l3 hm.1
      unfold plG10 signs at *
      rw [hlw, hs', Bool.and_true]
      rw [Bool.and_eq_true] at hg
      exact hg.1
    rw [w_loopb (c := lp23_1) (d := lb23_1) rfl]; unfold lb23_1
    simp (maxSteps := 1000000) (disch := first | omega | rfl | (simp only [zL, two63, room] <;> omega) | fail) only [↓reduceIte, ↓zP, zW, WOp, evOp, evBin, binI, binSh, binS, evNil, keyIs, keyEq, mkv, AV.cells, AV.sc, optv, bnd, env, put, Env.get, Env.set, Env.del, Env.dels, Env.init, res1, resL, resV, fillP, splice, newRow, Nat.reduceEqDiff, Nat.reduceLT, Nat.reduceLeDiff, Nat.reduceAdd, Nat.reduceMul, Nat.reduceSub, Nat.reduceBEq, reduceCtorEq, ↓zR, zQ, Tr, StA, StT, hlt, hr', q60]
    refine c_CanByRule w (by omega) r i t ?_
    intro h2 hp2
    have q2 := rdRow_pre hp2 q
    have q62 := rdRow_pre hp2 q60
    simp (maxSteps := 1000000) (disch := first | omega | rfl | (simp only [zL, two63, room] <;> omega) | fail) only [↓reduceIte, ↓zP, zW, WOp, evOp, evBin, binI, binSh, binS, evNil, keyIs, keyEq, mkv, AV.cells, AV.sc, optv, bnd, env, put, Env.get, Env.set, Env.del, Env.dels, Env.init, res1, resL, resV, fillP, splice, newRow, Nat.reduceEqDiff, Nat.reduceLT, Nat.reduceLeDiff, Nat.reduceAdd, Nat.reduceMul, Nat.reduceSub, Nat.reduceBEq, reduceCtorEq, ↓zR, zQ, Tr, StA, StT, q2, q62, hok, hg]
    refine c_MakeByRule w (by omega) r i t ?_
    intro h3 hp3
    have q3 := rdRow_pre hp3 q2
    simp (maxSteps := 1000000) (disch := first | omega | rfl | (simp only [zL, two63, room] <;> omega) | fail) only [↓reduceIte, ↓zP, zW, WOp, evOp, evBin, binI, binSh, binS, evNil, keyIs, keyEq, mkv, AV.cells, AV.sc, optv, bnd, env, put, Env.get, Env.set, Env.del, Env.dels, Env.init, res1, resL, resV, fillP, splice, newRow, Nat.reduceEqDiff, Nat.reduceLT, Nat.reduceLeDiff, Nat.reduceAdd, Nat.reduceMul, Nat.reduceSub, Nat.reduceBEq, reduceCtorEq, ↓zR, zQ, Tr, StA, StT, q3, hok, hmk]
    refine c_yInV (by omega) i t hin (s13.pre (hpR.trans (hp2.trans hp3))) ?_
    intro h4 hp4
    have hb4 := hpR.trans (hp2.trans (hp3.trans hp4))
    have q4 := rdRow_pre hp4 q3
    have q64 := rdRow_pre (hp3.trans hp4) q62
    have q641 := rdRow_pre hb4 q61
    have q4a := rdRow_pre (hp2.trans (hp3.trans hp4)) qa
    have q4b := rdRow_pre (hp2.trans (hp3.trans hp4)) qb
    have fin : ∀ h', Pre h4 h' → Cx (.loop lp23_1) [(1, mv), (5, .str w), (6, .ptr c6 0 0 3), (13, v13), (143, .slice r1 k1 o1 (pre.length + 1 + rest.length) 2), (144, .int .i64 ((pre.length + 1 + rest.length : Nat) : Int)), (145, .int .i64 (pre ++ [((i : Int), (t : Int))]).length)] h' R k k := by
      intro h' hp'
      exact ih h' (by rw [hL]; simp) (hb4.trans hp')
    have hle : ((madeB w i t).length : Int) = (w.length : Int) := by rw [hlw]
    cases hbk : r.2.1
    · rw [hbk] at q641
      simp (maxSteps := 1000000) (disch := first | omega | rfl | (simp only [zL, two63, room] <;> omega) | fail) only [↓reduceIte, ↓zP, zW, WOp, evOp, evBin, binI, binSh, binS, evNil, keyIs, keyEq, mkv, AV.cells, AV.sc, optv, bnd, env, put, Env.get, Env.set, Env.del, Env.dels, Env.init, res1, resL, resV, fillP, splice, newRow, Nat.reduceEqDiff, Nat.reduceLT, Nat.reduceLeDiff, Nat.reduceAdd, Nat.reduceMul, Nat.reduceSub, Nat.reduceBEq, reduceCtorEq, ↓zR, zQ, Tr, StA, StT, hle, q641, hw1, hw2]
      rw [w_loopn (c := lp23_1) rfl]
      simp (maxSteps := 1000000) (disch := first | omega | rfl | (simp only [zL, two63, room] <;> omega) | fail) only [↓reduceIte, ↓zP, zW, WOp, evOp, evBin, binI, binSh, binS, evNil, keyIs, keyEq, mkv, AV.cells, AV.sc, optv, bnd, env, put, Env.get, Env.set, Env.del, Env.dels, Env.init, res1, resL, resV, fillP, splice, newRow, Nat.reduceEqDiff, Nat.reduceLT, Nat.reduceLeDiff, Nat.reduceAdd, Nat.reduceMul, Nat.reduceSub, Nat.reduceBEq, reduceCtorEq, ↓zR, zQ, Tr, StA, StT]
      exact fin h4 (Pre.refl _)
    · rw [hbk] at q641
      obtain ⟨b1, b2⟩ := rc_back hm hbk
      have hok2 : rcG (madeB w i t) r ((t : Int), (i : Int)) = true := by
        unfold rcG
        rw [hgm, rcB_nat, decide_eq_true b1]; rfl
      have hmk2 : mkR (madeB w i t) r ((t : Int), (i : Int)) = w := by unfold mkR; rw [hok2]; simpa using b2
      simp (maxSteps := 1000000) (disch := first | omega | rfl | (simp only [zL, two63, room] <;> omega) | fail) only [↓reduceIte, ↓zP, zW, WOp, evOp, evBin, binI, binSh, binS, evNil, keyIs, keyEq, mkv, AV.cells, AV.sc, optv, bnd, env, put, Env.get, Env.set, Env.del, Env.dels, Env.init, res1, resL, resV, fillP, splice, newRow, Nat.reduceEqDiff, Nat.reduceLT, Nat.reduceLeDiff, Nat.reduceAdd, Nat.reduceMul, Nat.reduceSub, Nat.reduceBEq, reduceCtorEq, ↓zR, zQ, Tr, StA, StT, hle, q641, q4a, q4b, q64]
      refine c_MakeByRule (madeB w i t) (by omega) r t i ?_
      intro h5 hp5
      simp (maxSteps := 1000000) (disch := first | omega | rfl | (simp only [zL, two63, room] <;> omega) | fail) only [↓reduceIte, ↓zP, zW, WOp, evOp, evBin, binI, binSh, binS, evNil, keyIs, keyEq, mkv, AV.cells, AV.sc, optv, bnd, env, put, Env.get, Env.set, Env.del, Env.dels, Env.init, res1, resL, resV, fillP, splice, newRow, Nat.reduceEqDiff, Nat.reduceLT, Nat.reduceLeDiff, Nat.reduceAdd, Nat.reduceMul, Nat.reduceSub, Nat.reduceBEq, reduceCtorEq, ↓zR, zQ, Tr, StA, StT, hok2, hmk2, hw1, hw2]
      rw [w_loopn (c := lp23_1) rfl]
      simp (maxSteps := 1000000) (disch := first | omega | rfl | (simp only [zL, two63, room] <;> omega) | fail) only [↓reduceIte, ↓zP, zW, WOp, evOp, evBin, binI, binSh, binS, evNil, keyIs, keyEq, mkv, AV.cells, AV.sc, optv, bnd, env, put, Env.get, Env.set, Env.del, Env.dels, Env.init, res1, resL, resV, fillP, splice, newRow, Nat.reduceEqDiff, Nat.reduceLT, Nat.reduceLeDiff, Nat.reduceAdd, Nat.reduceMul, Nat.reduceSub, Nat.reduceBEq, reduceCtorEq, ↓zR, zQ, Tr, StA, StT]
      exact fin h5 hp5
theorem lp_rm2 {L : List (Int × Int)} (hL0 : L.length < 2 ^ 30) (r : Ru) {c : Nat} {v : AV} {E : AV} {b : AH} (hb : rdRow b c 0 0 3 = some (encR r)) (hs : Slc 2 encM b v L) {R : X → Env → AH → Prop} : ∀ (rest pre : List (Int × Int)) (w : List UInt8) (h : AH), L = pre ++ rest → plG10 w = true → (plR r w rest).2 = rest.length → Pre b h →
    (∀ h', Pre b h' → R (.exit 4) [(41, E), (59, .str (plR r w rest).1)] h') →
    Cx (.loop lp23_2) [(40, .ptr c 0 0 3), (41, E), (59, .str w), (372, v), (373, .int .i64 L.length), (374, .int .i64 pre.length)] h R k k := by
  intro rest
  induction rest with
  | nil =>
    intro pre w h hpre hg _ hp h1
    have hl : L.length = pre.length := by rw [hpre]; simp
    rw [hl]
    rw [w_loopb (c := lp23_2) (d := lb23_2) rfl]; unfold lb23_2
    simp (maxSteps := 1000000) (disch := first | omega | rfl | (simp only [zL, two63, room] <;> omega) | fail) only [↓reduceIte, ↓zP, zW, WOp, evOp, evBin, binI, binSh, binS, evNil, keyIs, keyEq, mkv, AV.cells, AV.sc, optv, bnd, env, put, Env.get, Env.set, Env.del, Env.dels, Env.init, res1, resL, resV, fillP, splice, newRow, Nat.reduceEqDiff, Nat.reduceLT, Nat.reduceLeDiff, Nat.reduceAdd, Nat.reduceMul, Nat.reduceSub, Nat.reduceBEq, reduceCtorEq, ↓zR, zQ, Tr, StA, StT]
    exact h1 h hp
  | cons m rest ih =>
    intro pre w h hpre hg hall hp h1
    obtain ⟨i, t⟩ := m
    obtain ⟨l1, l2, l3⟩ := pl10 hg
    have hl : L.length = pre.length + 1 + rest.length := by rw [hpre]; simp; omega
    have hs' := hs.pre hp
    rw [hpre] at hs'
    obtain ⟨r1, k1, o1, hve, hr⟩ := hs'.at hlM
    rw [← hpre, hl] at hve
    subst hve
    rw [hl] at ih ⊢
    have hr' : rdRow h r1 k1 (o1 + pre.length * 2) 2 = some [.int .i64 i, .int .i64 t] := hr
    have hlt : (pre.length : Int) < ((pre.length + 1 + rest.length : Nat) : Int) := by omega
    have hw1 : (pre.length : Int) + 1 = ((pre ++ [((i, t) : Int × Int)]).length : Int) := by simp
    have hw2 : IntKind.i64.wrap ((pre ++ [((i, t) : Int × Int)]).length : Int) = ((pre ++ [((i, t) : Int × Int)]).length : Int) := wrap_i (by simp; omega)
    have hpR : Pre b (h ++ [AO.row [AV.int .i64 i, AV.int .i64 t] 0 0 false]) := hp.trans (Pre.push _ _)
    have hcR := rdRow_pre hpR hb
    have hcan : rcB w r (i, t) = true := by
      cases e : rcB w r (i, t)
      · simp only [plR, e, Bool.false_eq_true, if_false, List.length_cons] at hall
        omega
      · rfl
    obtain ⟨i, t, rfl, rfl, hm⟩ := rcB_mv hcan
    have e : plR r w (((i : Int), (t : Int)) :: rest) = ((plR r (madeB w i t) rest).1, (plR r (madeB w i t) rest).2 + 1) := by simp only [plR, hcan, if_true, Int.toNat_natCast]
    rw [e] at h1 hall
    have hok : rcG w r ((i : Int), (t : Int)) = true := by
      unfold rcG
      rw [hg, hcan]; rfl
    have hmk : mkR w r ((i : Int), (t : Int)) = madeB w i t := by unfold mkR; rw [hok]; simp
    have hgm : plG10 (madeB w i t) = true := by
      have hs' := signs_madeR (t := t) l3 hm.1
      unfold plG10 signs at *
      rw [madeB_length, hs', Bool.and_true]
      rw [Bool.and_eq_true] at hg
      exact hg.1
    rw [w_loopb (c := lp23_2) (d := lb23_2) rfl]; unfold lb23_2
    simp (maxSteps := 1000000) (disch := first | omega | rfl | (simp only [zL, two63, room] <;> omega) | fail) only [↓reduceIte, ↓zP, zW, WOp, evOp, evBin, binI, binSh, binS, evNil, keyIs, keyEq, mkv, AV.cells, AV.sc, optv, bnd, env, put, Env.get, Env.set, Env.del, Env.dels, Env.init, res1, resL, resV, fillP, splice, newRow, Nat.reduceEqDiff, Nat.reduceLT, Nat.reduceLeDiff, Nat.reduceAdd, Nat.reduceMul, Nat.reduceSub, Nat.reduceBEq, reduceCtorEq, ↓zR, zQ, Tr, StA, StT, hlt, hr', hcR]
    refine c_MakeByRule w (by omega) r i t ?_
    intro h3 hp3
    simp (maxSteps := 1000000) (disch := first | omega | rfl | (simp only [zL, two63, room] <;> omega) | fail) only [↓reduceIte, ↓zP, zW, WOp, evOp, evBin, binI, binSh, binS, evNil, keyIs, keyEq, mkv, AV.cells, AV.sc, optv, bnd, env, put, Env.get, Env.set, Env.del, Env.dels, Env.init, res1, resL, resV, fillP, splice, newRow, Nat.reduceEqDiff, Nat.reduceLT, Nat.reduceLeDiff, Nat.reduceAdd, Nat.reduceMul, Nat.reduceSub, Nat.reduceBEq, reduceCtorEq, ↓zR, zQ, Tr, StA, StT, hok, hmk, hw1, hw2]
    rw [w_loopn (c := lp23_2) rfl]
    simp (maxSteps := 1000000) (disch := first | omega | rfl | (simp only [zL, two63, room] <;> omega) | fail) only [↓reduceIte, ↓zP, zW, WOp, evOp, evBin, binI, binSh, binS, evNil, keyIs, keyEq, mkv, AV.cells, AV.sc, optv, bnd, env, put, Env.get, Env.set, Env.del, Env.dels, Env.init, res1, resL, resV, fillP, splice, newRow, Nat.reduceEqDiff, Nat.reduceLT, Nat.reduceLeDiff, Nat.reduceAdd, Nat.reduceMul, Nat.reduceSub, Nat.reduceBEq, reduceCtorEq, ↓zR, zQ, Tr, StA, StT]
    exact ih (pre ++ [((i : Int), (t : Int))]) (madeB w i t) h3 (by rw [hpre]; simp) hgm (by simpa using hall) (hpR.trans hp3) h1
end Go.Proofs.YtejhhdpfndiliaaDoor.Ab

/- THE LAW OF RULES. -/
namespace Go.Proofs.YtejhhdpfndiliaaDoor.Ab
open Go
set_option maxRecDepth 100000
set_option maxHeartbeats 16000000

theorem seqR (a b c : Bool) : seqL [2, 2, 2] [.bool a, .bool b, .bool c] [.bool a, .bool b, .bool c] = some true := by
  cases a <;> cases b <;> cases c <;> rfl
theorem rmL_len (w : List UInt8) (r : Ru) : (rmL w r).length ≤ 100 := by
  unfold rmL
  cases hg : plG10 w
  · simp
  · obtain ⟨l1, l2, l3⟩ := pl10 hg
    have : w.length * w.length ≤ 10 * 10 := Nat.mul_le_mul l2 l2
    have := mvR_len w r
    simp only [if_true]; omega
theorem rowR (h : AH) (r : Ru) : rdRow (h ++ [AO.row (encR r) 0 0 false]) h.length 0 0 3 = some (encR r) := (row3 (x := .bool r.1) (y := .bool r.2.1) (z := .bool r.2.2) (h := h ++ [AO.row (encR r) 0 0 false]) (c := h.length) (by simp)).2.2.2
theorem rowR1 (h : AH) (r : Ru) : rdRow (h ++ [AO.row (encR r) 0 0 false]) h.length 0 1 1 = some [.bool r.2.1] := (row3 (x := .bool r.1) (y := .bool r.2.1) (z := .bool r.2.2) (h := h ++ [AO.row (encR r) 0 0 false]) (c := h.length) (by simp)).2.1
theorem ruP_text (r : Ru) : ruP (ruT r) = (r, true) := by unfold ruP; rw [ruF_text]
theorem ruP_some {s : List UInt8} (h : (ruP s).2 = true) : ruT (ruP s).1 = s := by
  unfold ruP at h ⊢
  cases e : ruF s with
  | none => rw [e] at h; cases h
  | some r => exact ruF_some e
theorem law_RulesMove_of {cv mv : AV} {cs ms : List UInt8} {h : AH} (hs : Slc 1 encU h cv cs) (ht : Slc 1 encU h mv ms) {post : AV → AH → Prop} (hp : ∀ h', post (.bool true) h') : S 23 [cv, mv] h post k := by
  refine S_of rfl T23 ?_; unfold fi23
  simp (maxSteps := 1000000) (disch := first | omega | rfl | (simp only [zL, two63, room] <;> omega) | fail) only [↓reduceIte, ↓zP, zW, WOp, evOp, evBin, binI, binSh, binS, evNil, keyIs, keyEq, mkv, AV.cells, AV.sc, optv, bnd, env, put, Env.get, Env.set, Env.del, Env.dels, Env.init, res1, resL, resV, fillP, splice, newRow, Nat.reduceEqDiff, Nat.reduceLT, Nat.reduceLeDiff, Nat.reduceAdd, Nat.reduceMul, Nat.reduceSub, Nat.reduceBEq, reduceCtorEq, ↓zR, zQ, Tr, StA, StT]
  refine c_big hs ht ?_
  intro bg hbg
  cases bg
  case true =>
    simp (maxSteps := 1000000) (disch := first | omega | rfl | (simp only [zL, two63, room] <;> omega) | fail) only [↓reduceIte, ↓zP, zW, WOp, evOp, evBin, binI, binSh, binS, evNil, keyIs, keyEq, mkv, AV.cells, AV.sc, optv, bnd, env, put, Env.get, Env.set, Env.del, Env.dels, Env.init, res1, resL, resV, fillP, splice, newRow, Nat.reduceEqDiff, Nat.reduceLT, Nat.reduceLeDiff, Nat.reduceAdd, Nat.reduceMul, Nat.reduceSub, Nat.reduceBEq, reduceCtorEq, ↓zR, zQ, Tr, StA, StT]
    exact hp h
  obtain ⟨hl1, hl2⟩ := hbg rfl
  clear hbg
  simp (maxSteps := 1000000) (disch := first | omega | rfl | (simp only [zL, two63, room] <;> omega) | fail) only [↓reduceIte, ↓zP, zW, WOp, evOp, evBin, binI, binSh, binS, evNil, keyIs, keyEq, mkv, AV.cells, AV.sc, optv, bnd, env, put, Env.get, Env.set, Env.del, Env.dels, Env.init, res1, resL, resV, fillP, splice, newRow, Nat.reduceEqDiff, Nat.reduceLT, Nat.reduceLeDiff, Nat.reduceAdd, Nat.reduceMul, Nat.reduceSub, Nat.reduceBEq, reduceCtorEq, ↓zR, zQ, Tr, StA, StT]
  refine c_DrawRuleMoves hs (by omega) ?_
  intro w r h0 hw p0
  have pr0 := Pre.push h0 (AO.row (encR r) 0 0 false)
  have q6 := rowR h0 r
  have q61 := rowR1 h0 r
  generalize hh1 : h0 ++ [AO.row (encR r) 0 0 false] = h1 at pr0 q6 q61
  simp (maxSteps := 1000000) (disch := first | omega | rfl | (simp only [zL, two63, room] <;> omega) | fail) only [↓reduceIte, ↓zP, zW, WOp, evOp, evBin, binI, binSh, binS, evNil, keyIs, keyEq, mkv, AV.cells, AV.sc, optv, bnd, env, put, Env.get, Env.set, Env.del, Env.dels, Env.init, res1, resL, resV, fillP, splice, newRow, Nat.reduceEqDiff, Nat.reduceLT, Nat.reduceLeDiff, Nat.reduceAdd, Nat.reduceMul, Nat.reduceSub, Nat.reduceBEq, reduceCtorEq, ↓zR, zQ, Tr, StA, StT, hh1, q6]
  refine c_RuleMoves w (by omega) r ?_
  intro v7 h2 ho7 p2
  have q62 := rdRow_pre p2 q6
  have s7 := ho7.slc
  simp (maxSteps := 1000000) (disch := first | omega | rfl | (simp only [zL, two63, room] <;> omega) | fail) only [↓reduceIte, ↓zP, zW, WOp, evOp, evBin, binI, binSh, binS, evNil, keyIs, keyEq, mkv, AV.cells, AV.sc, optv, bnd, env, put, Env.get, Env.set, Env.del, Env.dels, Env.init, res1, resL, resV, fillP, splice, newRow, Nat.reduceEqDiff, Nat.reduceLT, Nat.reduceLeDiff, Nat.reduceAdd, Nat.reduceMul, Nat.reduceSub, Nat.reduceBEq, reduceCtorEq, ↓zR, zQ, Tr, StA, StT, q62]
  refine c_sRuleMoves w (by omega) r ?_
  intro v9 h3 ho9 p3
  have hlr := rmL_len w r
  have p013 := (p0.trans pr0).trans (p2.trans p3)
  cases hg : plG10 w
  · simp (maxSteps := 1000000) (disch := first | omega | rfl | (simp only [zL, two63, room] <;> omega) | fail) only [↓reduceIte, ↓zP, zW, WOp, evOp, evBin, binI, binSh, binS, evNil, keyIs, keyEq, mkv, AV.cells, AV.sc, optv, bnd, env, put, Env.get, Env.set, Env.del, Env.dels, Env.init, res1, resL, resV, fillP, splice, newRow, Nat.reduceEqDiff, Nat.reduceLT, Nat.reduceLeDiff, Nat.reduceAdd, Nat.reduceMul, Nat.reduceSub, Nat.reduceBEq, reduceCtorEq, ↓zR, zQ, Tr, StA, StT]
    refine c_yMoves (by omega) (s7.pre p3) ho9.slc ?_
    have pT := p013
    simp (maxSteps := 1000000) (disch := first | omega | rfl | (simp only [zL, two63, room] <;> omega) | fail) only [↓reduceIte, ↓zP, zW, WOp, evOp, evBin, binI, binSh, binS, evNil, keyIs, keyEq, mkv, AV.cells, AV.sc, optv, bnd, env, put, Env.get, Env.set, Env.del, Env.dels, Env.init, res1, resL, resV, fillP, splice, newRow, Nat.reduceEqDiff, Nat.reduceLT, Nat.reduceLeDiff, Nat.reduceAdd, Nat.reduceMul, Nat.reduceSub, Nat.reduceBEq, reduceCtorEq, ↓zR, zQ, Tr, StA, StT]
    refine c_DrawCanByRule (ht.pre pT) (by omega) ?_
    intro v i t s g1 hv pg1
    have pm := Pre.push g1 (AO.row [AV.int .i64 i, AV.int .i64 t] 0 0 false)
    obtain ⟨qm, -, -⟩ := mvRow g1 i t
    have hlen0 : (g1 ++ [AO.row [AV.int .i64 0, AV.int .i64 0] 0 0 false]).length = (g1 ++ [AO.row [AV.int .i64 i, AV.int .i64 t] 0 0 false]).length := by simp
    generalize hg1m : g1 ++ [AO.row [AV.int .i64 i, AV.int .i64 t] 0 0 false] = g1m at pm qm hlen0
    have ps := Pre.push g1m (AO.row (encR s) 0 0 false)
    have qs := rowR g1m s
    generalize hg1s : g1m ++ [AO.row (encR s) 0 0 false] = g1s at ps qs
    replace qm := rdRow_pre ps qm
    simp (maxSteps := 1000000) (disch := first | omega | rfl | (simp only [zL, two63, room] <;> omega) | fail) only [↓reduceIte, ↓zP, zW, WOp, evOp, evBin, binI, binSh, binS, evNil, keyIs, keyEq, mkv, AV.cells, AV.sc, optv, bnd, env, put, Env.get, Env.set, Env.del, Env.dels, Env.init, res1, resL, resV, fillP, splice, newRow, Nat.reduceEqDiff, Nat.reduceLT, Nat.reduceLeDiff, Nat.reduceAdd, Nat.reduceMul, Nat.reduceSub, Nat.reduceBEq, reduceCtorEq, ↓zR, zQ, Tr, StA, StT, hlen0, hg1m, hg1s, qm, qs]
    refine c_CanByRule v (by omega) s i t ?_
    intro g2 p2
    have qm2 := rdRow_pre p2 qm
    have qs2 := rdRow_pre p2 qs
    simp (maxSteps := 1000000) (disch := first | omega | rfl | (simp only [zL, two63, room] <;> omega) | fail) only [↓reduceIte, ↓zP, zW, WOp, evOp, evBin, binI, binSh, binS, evNil, keyIs, keyEq, mkv, AV.cells, AV.sc, optv, bnd, env, put, Env.get, Env.set, Env.del, Env.dels, Env.init, res1, resL, resV, fillP, splice, newRow, Nat.reduceEqDiff, Nat.reduceLT, Nat.reduceLeDiff, Nat.reduceAdd, Nat.reduceMul, Nat.reduceSub, Nat.reduceBEq, reduceCtorEq, ↓zR, zQ, Tr, StA, StT, qm2, qs2]
    refine c_sCanByRule v (by omega) s i t ?_
    intro g3 p3
    have qm3 := rdRow_pre p3 qm2
    have qs3 := rdRow_pre p3 qs2
    simp (maxSteps := 1000000) (disch := first | omega | rfl | (simp only [zL, two63, room] <;> omega) | fail) only [↓reduceIte, ↓zP, zW, WOp, evOp, evBin, binI, binSh, binS, evNil, keyIs, keyEq, mkv, AV.cells, AV.sc, optv, bnd, env, put, Env.get, Env.set, Env.del, Env.dels, Env.init, res1, resL, resV, fillP, splice, newRow, Nat.reduceEqDiff, Nat.reduceLT, Nat.reduceLeDiff, Nat.reduceAdd, Nat.reduceMul, Nat.reduceSub, Nat.reduceBEq, reduceCtorEq, ↓zR, zQ, Tr, StA, StT, qm3, qs3]
    refine c_MakeByRule v (by omega) s i t ?_
    intro g4 p4
    have qm4 := rdRow_pre p4 qm3
    have qs4 := rdRow_pre p4 qs3
    simp (maxSteps := 1000000) (disch := first | omega | rfl | (simp only [zL, two63, room] <;> omega) | fail) only [↓reduceIte, ↓zP, zW, WOp, evOp, evBin, binI, binSh, binS, evNil, keyIs, keyEq, mkv, AV.cells, AV.sc, optv, bnd, env, put, Env.get, Env.set, Env.del, Env.dels, Env.init, res1, resL, resV, fillP, splice, newRow, Nat.reduceEqDiff, Nat.reduceLT, Nat.reduceLeDiff, Nat.reduceAdd, Nat.reduceMul, Nat.reduceSub, Nat.reduceBEq, reduceCtorEq, ↓zR, zQ, Tr, StA, StT, qm4, qs4]
    refine c_sMakeByRule v (by omega) s i t ?_
    intro g5 p5
    simp (maxSteps := 1000000) (disch := first | omega | rfl | (simp only [zL, two63, room] <;> omega) | fail) only [↓reduceIte, ↓zP, zW, WOp, evOp, evBin, binI, binSh, binS, evNil, keyIs, keyEq, mkv, AV.cells, AV.sc, optv, bnd, env, put, Env.get, Env.set, Env.del, Env.dels, Env.init, res1, resL, resV, fillP, splice, newRow, Nat.reduceEqDiff, Nat.reduceLT, Nat.reduceLeDiff, Nat.reduceAdd, Nat.reduceMul, Nat.reduceSub, Nat.reduceBEq, reduceCtorEq, ↓zR, zQ, Tr, StA, StT]
    have pT5 := pT.trans (pg1.trans (pm.trans (ps.trans (p2.trans (p3.trans (p4.trans p5))))))
    refine c_DrawPlayByRule (ht.pre pT5) (by omega) ?_
    intro x lv L q g6 hx hL p6 sL
    have pq := Pre.push g6 (AO.row (encR q) 0 0 false)
    have qq := rowR g6 q
    generalize hg6 : g6 ++ [AO.row (encR q) 0 0 false] = g7 at pq qq
    have sL7 := sL.pre pq
    try (simp (maxSteps := 1000000) (disch := first | omega | rfl | (simp only [zL, two63, room] <;> omega) | fail) only [↓reduceIte, ↓zP, zW, WOp, evOp, evBin, binI, binSh, binS, evNil, keyIs, keyEq, mkv, AV.cells, AV.sc, optv, bnd, env, put, Env.get, Env.set, Env.del, Env.dels, Env.init, res1, resL, resV, fillP, splice, newRow, Nat.reduceEqDiff, Nat.reduceLT, Nat.reduceLeDiff, Nat.reduceAdd, Nat.reduceMul, Nat.reduceSub, Nat.reduceBEq, reduceCtorEq, ↓zR, zQ, Tr, StA, StT, hg6, qq])
    refine c_PlayByRule (by omega) x (by omega) q sL7 ?_
    intro g8 p8
    have qq8 := rdRow_pre p8 qq
    have sL8 := sL7.pre p8
    simp (maxSteps := 1000000) (disch := first | omega | rfl | (simp only [zL, two63, room] <;> omega) | fail) only [↓reduceIte, ↓zP, zW, WOp, evOp, evBin, binI, binSh, binS, evNil, keyIs, keyEq, mkv, AV.cells, AV.sc, optv, bnd, env, put, Env.get, Env.set, Env.del, Env.dels, Env.init, res1, resL, resV, fillP, splice, newRow, Nat.reduceEqDiff, Nat.reduceLT, Nat.reduceLeDiff, Nat.reduceAdd, Nat.reduceMul, Nat.reduceSub, Nat.reduceBEq, reduceCtorEq, ↓zR, zQ, Tr, StA, StT, qq8]
    refine c_sPlayByRule (by omega) x (by omega) q sL8 ?_
    intro g9 p9
    have qq9 := rdRow_pre p9 qq8
    have sL9 := sL8.pre p9
    simp (maxSteps := 1000000) (disch := first | omega | rfl | (simp only [zL, two63, room] <;> omega) | fail) only [↓reduceIte, ↓zP, zW, WOp, evOp, evBin, binI, binSh, binS, evNil, keyIs, keyEq, mkv, AV.cells, AV.sc, optv, bnd, env, put, Env.get, Env.set, Env.del, Env.dels, Env.init, res1, resL, resV, fillP, splice, newRow, Nat.reduceEqDiff, Nat.reduceLT, Nat.reduceLeDiff, Nat.reduceAdd, Nat.reduceMul, Nat.reduceSub, Nat.reduceBEq, reduceCtorEq, ↓zR, zQ, Tr, StA, StT]
    have pT9 := pT5.trans (p6.trans (pq.trans (p8.trans p9)))
    refine c_DrawRuleText (ht.pre pT9) (by omega) ?_
    intro rule g10 p10
    have pr := Pre.push g10 (AO.row (encR rule) 0 0 false)
    have qr := rowR g10 rule
    generalize hg10 : g10 ++ [AO.row (encR rule) 0 0 false] = g11 at pr qr
    try (simp (maxSteps := 1000000) (disch := first | omega | rfl | (simp only [zL, two63, room] <;> omega) | fail) only [↓reduceIte, ↓zP, zW, WOp, evOp, evBin, binI, binSh, binS, evNil, keyIs, keyEq, mkv, AV.cells, AV.sc, optv, bnd, env, put, Env.get, Env.set, Env.del, Env.dels, Env.init, res1, resL, resV, fillP, splice, newRow, Nat.reduceEqDiff, Nat.reduceLT, Nat.reduceLeDiff, Nat.reduceAdd, Nat.reduceMul, Nat.reduceSub, Nat.reduceBEq, reduceCtorEq, ↓zR, zQ, Tr, StA, StT, hg10, qr])
    refine c_RuleText rule ?_
    intro g12 p12
    have qr12 := rdRow_pre p12 qr
    simp (maxSteps := 1000000) (disch := first | omega | rfl | (simp only [zL, two63, room] <;> omega) | fail) only [↓reduceIte, ↓zP, zW, WOp, evOp, evBin, binI, binSh, binS, evNil, keyIs, keyEq, mkv, AV.cells, AV.sc, optv, bnd, env, put, Env.get, Env.set, Env.del, Env.dels, Env.init, res1, resL, resV, fillP, splice, newRow, Nat.reduceEqDiff, Nat.reduceLT, Nat.reduceLeDiff, Nat.reduceAdd, Nat.reduceMul, Nat.reduceSub, Nat.reduceBEq, reduceCtorEq, ↓zR, zQ, Tr, StA, StT, qr12]
    refine c_sRuleText rule ?_
    intro g13 p13
    have qr13 := rdRow_pre p13 qr12
    simp (maxSteps := 1000000) (disch := first | omega | rfl | (simp only [zL, two63, room] <;> omega) | fail) only [↓reduceIte, ↓zP, zW, WOp, evOp, evBin, binI, binSh, binS, evNil, keyIs, keyEq, mkv, AV.cells, AV.sc, optv, bnd, env, put, Env.get, Env.set, Env.del, Env.dels, Env.init, res1, resL, resV, fillP, splice, newRow, Nat.reduceEqDiff, Nat.reduceLT, Nat.reduceLeDiff, Nat.reduceAdd, Nat.reduceMul, Nat.reduceSub, Nat.reduceBEq, reduceCtorEq, ↓zR, zQ, Tr, StA, StT]
    have pT13 := pT9.trans (p10.trans (pr.trans (p12.trans p13)))
    refine c_DrawParseRule (ht.pre pT13) (by omega) ?_
    intro nm g14 hnm p14
    simp (maxSteps := 1000000) (disch := first | omega | rfl | (simp only [zL, two63, room] <;> omega) | fail) only [↓reduceIte, ↓zP, zW, WOp, evOp, evBin, binI, binSh, binS, evNil, keyIs, keyEq, mkv, AV.cells, AV.sc, optv, bnd, env, put, Env.get, Env.set, Env.del, Env.dels, Env.init, res1, resL, resV, fillP, splice, newRow, Nat.reduceEqDiff, Nat.reduceLT, Nat.reduceLeDiff, Nat.reduceAdd, Nat.reduceMul, Nat.reduceSub, Nat.reduceBEq, reduceCtorEq, ↓zR, zQ, Tr, StA, StT]
    refine c_ParseRule nm ?_
    intro g15 p15
    have hsm := ruP_some (s := nm)
    generalize hrp : ruP nm = rp at *
    obtain ⟨rd, nine⟩ := rp
    simp only at hsm
    have pe := Pre.push g15 (AO.row (encR rd) 0 0 false)
    have qe := rowR g15 rd
    generalize hg15 : g15 ++ [AO.row (encR rd) 0 0 false] = g16 at pe qe
    try (simp (maxSteps := 1000000) (disch := first | omega | rfl | (simp only [zL, two63, room] <;> omega) | fail) only [↓reduceIte, ↓zP, zW, WOp, evOp, evBin, binI, binSh, binS, evNil, keyIs, keyEq, mkv, AV.cells, AV.sc, optv, bnd, env, put, Env.get, Env.set, Env.del, Env.dels, Env.init, res1, resL, resV, fillP, splice, newRow, Nat.reduceEqDiff, Nat.reduceLT, Nat.reduceLeDiff, Nat.reduceAdd, Nat.reduceMul, Nat.reduceSub, Nat.reduceBEq, reduceCtorEq, ↓zR, zQ, Tr, StA, StT, hg15])
    refine c_sParseRule nm ?_
    intro g17 p17
    rw [hrp]
    have qe17 := rdRow_pre p17 qe
    have pf := Pre.push g17 (AO.row (encR rd) 0 0 false)
    have qf := rowR g17 rd
    generalize hg17 : g17 ++ [AO.row (encR rd) 0 0 false] = g18 at pf qf
    have qe18 := rdRow_pre pf qe17
    have p1318 : Pre g13 g18 := p14.trans (p15.trans (pe.trans (p17.trans pf)))
    have qr18 := rdRow_pre p1318 qr13
    have p918 : Pre g9 g18 := p10.trans (pr.trans (p12.trans (p13.trans p1318)))
    have hcan : rcG v s (i, t) = true → plG10 v = true := fun e => by unfold rcG at e; rw [Bool.and_eq_true] at e; exact e.1
    have hk : (rcG v s (i, t) == (plG10 v && rcG v s (i, t))) = true := by
      cases e : rcG v s (i, t)
      · simp
      · rw [hcan e]; rfl
    have finE : ∀ g, Pre g18 g → pbOk q x L = true → ∀ R2 : X → Env → AH → Prop, (∀ g', Pre g g' → R2 (.exit 4) [(41, .str (pbG q x L)), (59, .str (pbG q x L))] g') → Cx (.loop lp23_2) [(40, .ptr g6.length 0 0 3), (41, .str (pbG q x L)), (59, .str x), (372, lv), (373, .int .i64 L.length), (374, .int .i64 0)] g R2 k k := by
      intro g pg hok R2 hR2
      have hok' := hok
      unfold pbOk at hok'
      simp only [Bool.and_eq_true, decide_eq_true_eq] at hok'
      have hpb : pbG q x L = (plR q x L).1 := by unfold pbG; rw [hok]; rfl
      refine lp_rm2 (by omega) q (rdRow_pre (p918.trans pg) qq9) (sL9.pre (p918.trans pg)) L [] x g rfl hok'.1.1 hok'.2 (Pre.refl _) ?_
      intro g' pg'
      rw [← hpb]
      exact hR2 g' pg'
    cases hk1 : plG10 v <;> cases hk2 : rcG v s (i, t)
    case false.true => exact absurd (hcan hk2) (by rw [hk1]; decide)
    all_goals
      simp (maxSteps := 1000000) (disch := first | omega | rfl | (simp only [zL, two63, room] <;> omega) | fail) only [↓reduceIte, ↓zP, zW, WOp, evOp, evBin, binI, binSh, binS, evNil, keyIs, keyEq, mkv, AV.cells, AV.sc, optv, bnd, env, put, Env.get, Env.set, Env.del, Env.dels, Env.init, res1, resL, resV, fillP, splice, newRow, Nat.reduceEqDiff, Nat.reduceLT, Nat.reduceLeDiff, Nat.reduceAdd, Nat.reduceMul, Nat.reduceSub, Nat.reduceBEq, reduceCtorEq, ↓zR, zQ, Tr, StA, StT, hg17, hk1, hk2, qe18, qf, seqR]
      refine c_ParseRule (ruT rule) ?_
      intro g19 p19
      rw [ruP_text]
      have qr19 := rdRow_pre p19 qr18
      have pz := Pre.push g19 (AO.row (encR rule) 0 0 false)
      have qz := rowR g19 rule
      generalize hg19 : g19 ++ [AO.row (encR rule) 0 0 false] = g20 at pz qz
      have qr20 := rdRow_pre pz qr19
      have qe20 := rdRow_pre (p19.trans pz) qe18
      cases nine
      · simp (maxSteps := 1000000) (disch := first | omega | rfl | (simp only [zL, two63, room] <;> omega) | fail) only [↓reduceIte, ↓zP, zW, WOp, evOp, evBin, binI, binSh, binS, evNil, keyIs, keyEq, mkv, AV.cells, AV.sc, optv, bnd, env, put, Env.get, Env.set, Env.del, Env.dels, Env.init, res1, resL, resV, fillP, splice, newRow, Nat.reduceEqDiff, Nat.reduceLT, Nat.reduceLeDiff, Nat.reduceAdd, Nat.reduceMul, Nat.reduceSub, Nat.reduceBEq, reduceCtorEq, ↓zR, zQ, Tr, StA, StT, hg19, qz, qr19, qr20, qe20, seqR]
        have pEnd : Pre g18 g20 := p19.trans pz
        cases hok : pbOk q x L
        · simp (maxSteps := 1000000) (disch := first | omega | rfl | (simp only [zL, two63, room] <;> omega) | fail) only [↓reduceIte, ↓zP, zW, WOp, evOp, evBin, binI, binSh, binS, evNil, keyIs, keyEq, mkv, AV.cells, AV.sc, optv, bnd, env, put, Env.get, Env.set, Env.del, Env.dels, Env.init, res1, resL, resV, fillP, splice, newRow, Nat.reduceEqDiff, Nat.reduceLT, Nat.reduceLeDiff, Nat.reduceAdd, Nat.reduceMul, Nat.reduceSub, Nat.reduceBEq, reduceCtorEq, ↓zR, zQ, Tr, StA, StT]
          exact hp _
        · have sX := sL9.pre (p918.trans pEnd)
          have hlv := fun g => Slc.lenV (sX) (g := g) (ρ := fun _ => _) (x := .t 0) rfl; simp only [evOp] at hlv
          have hself : (pbG q x L == pbG q x L) = true := by simp
          simp (maxSteps := 1000000) (disch := first | omega | rfl | (simp only [zL, two63, room] <;> omega) | fail) only [↓reduceIte, ↓zP, zW, WOp, evOp, evBin, binI, binSh, binS, evNil, keyIs, keyEq, mkv, AV.cells, AV.sc, optv, bnd, env, put, Env.get, Env.set, Env.del, Env.dels, Env.init, res1, resL, resV, fillP, splice, newRow, Nat.reduceEqDiff, Nat.reduceLT, Nat.reduceLeDiff, Nat.reduceAdd, Nat.reduceMul, Nat.reduceSub, Nat.reduceBEq, reduceCtorEq, ↓zR, zQ, Tr, StA, StT, hlv]
          refine finE _ pEnd hok _ ?_
          intro g' pg'
          simp (maxSteps := 1000000) (disch := first | omega | rfl | (simp only [zL, two63, room] <;> omega) | fail) only [↓reduceIte, ↓zP, zW, WOp, evOp, evBin, binI, binSh, binS, evNil, keyIs, keyEq, mkv, AV.cells, AV.sc, optv, bnd, env, put, Env.get, Env.set, Env.del, Env.dels, Env.init, res1, resL, resV, fillP, splice, newRow, Nat.reduceEqDiff, Nat.reduceLT, Nat.reduceLeDiff, Nat.reduceAdd, Nat.reduceMul, Nat.reduceSub, Nat.reduceBEq, reduceCtorEq, ↓zR, zQ, Tr, StA, StT, hself]
          exact hp _
      · simp (maxSteps := 1000000) (disch := first | omega | rfl | (simp only [zL, two63, room] <;> omega) | fail) only [↓reduceIte, ↓zP, zW, WOp, evOp, evBin, binI, binSh, binS, evNil, keyIs, keyEq, mkv, AV.cells, AV.sc, optv, bnd, env, put, Env.get, Env.set, Env.del, Env.dels, Env.init, res1, resL, resV, fillP, splice, newRow, Nat.reduceEqDiff, Nat.reduceLT, Nat.reduceLeDiff, Nat.reduceAdd, Nat.reduceMul, Nat.reduceSub, Nat.reduceBEq, reduceCtorEq, ↓zR, zQ, Tr, StA, StT, hg19, qz, qr19, qr20, qe20, seqR]
        refine c_RuleText rd ?_
        intro g21 p21
        rw [hsm rfl]
        simp (maxSteps := 1000000) (disch := first | omega | rfl | (simp only [zL, two63, room] <;> omega) | fail) only [↓reduceIte, ↓zP, zW, WOp, evOp, evBin, binI, binSh, binS, evNil, keyIs, keyEq, mkv, AV.cells, AV.sc, optv, bnd, env, put, Env.get, Env.set, Env.del, Env.dels, Env.init, res1, resL, resV, fillP, splice, newRow, Nat.reduceEqDiff, Nat.reduceLT, Nat.reduceLeDiff, Nat.reduceAdd, Nat.reduceMul, Nat.reduceSub, Nat.reduceBEq, reduceCtorEq, ↓zR, zQ, Tr, StA, StT]
        have pEnd : Pre g18 g21 := p19.trans (pz.trans p21)
        cases hok : pbOk q x L
        · simp (maxSteps := 1000000) (disch := first | omega | rfl | (simp only [zL, two63, room] <;> omega) | fail) only [↓reduceIte, ↓zP, zW, WOp, evOp, evBin, binI, binSh, binS, evNil, keyIs, keyEq, mkv, AV.cells, AV.sc, optv, bnd, env, put, Env.get, Env.set, Env.del, Env.dels, Env.init, res1, resL, resV, fillP, splice, newRow, Nat.reduceEqDiff, Nat.reduceLT, Nat.reduceLeDiff, Nat.reduceAdd, Nat.reduceMul, Nat.reduceSub, Nat.reduceBEq, reduceCtorEq, ↓zR, zQ, Tr, StA, StT]
          exact hp _
        · have sX := sL9.pre (p918.trans pEnd)
          have hlv := fun g => Slc.lenV (sX) (g := g) (ρ := fun _ => _) (x := .t 0) rfl; simp only [evOp] at hlv
          have hself : (pbG q x L == pbG q x L) = true := by simp
          simp (maxSteps := 1000000) (disch := first | omega | rfl | (simp only [zL, two63, room] <;> omega) | fail) only [↓reduceIte, ↓zP, zW, WOp, evOp, evBin, binI, binSh, binS, evNil, keyIs, keyEq, mkv, AV.cells, AV.sc, optv, bnd, env, put, Env.get, Env.set, Env.del, Env.dels, Env.init, res1, resL, resV, fillP, splice, newRow, Nat.reduceEqDiff, Nat.reduceLT, Nat.reduceLeDiff, Nat.reduceAdd, Nat.reduceMul, Nat.reduceSub, Nat.reduceBEq, reduceCtorEq, ↓zR, zQ, Tr, StA, StT, hlv]
          refine finE _ pEnd hok _ ?_
          intro g' pg'
          simp (maxSteps := 1000000) (disch := first | omega | rfl | (simp only [zL, two63, room] <;> omega) | fail) only [↓reduceIte, ↓zP, zW, WOp, evOp, evBin, binI, binSh, binS, evNil, keyIs, keyEq, mkv, AV.cells, AV.sc, optv, bnd, env, put, Env.get, Env.set, Env.del, Env.dels, Env.init, res1, resL, resV, fillP, splice, newRow, Nat.reduceEqDiff, Nat.reduceLT, Nat.reduceLeDiff, Nat.reduceAdd, Nat.reduceMul, Nat.reduceSub, Nat.reduceBEq, reduceCtorEq, ↓zR, zQ, Tr, StA, StT, hself]
          exact hp _
  · obtain ⟨l1, l2, l3⟩ := pl10 hg
    have hgd : goodLine w = true := by rw [pl10_good, Bool.and_eq_true] at hg; exact hg.1
    have hrm : ∀ r, rmL w r = mvR w r := fun r => by unfold rmL; rw [hg]; rfl
    have hmg : mvG [84, 70] w = movesB w [84, 70] := by unfold mvG; rw [hgd]; rfl
    have hbd := movesB_len w [84, 70]
    have hsg := signs_sg l3
    rw [hrm] at s7 hlr
    have s7' := s7.pre p3
    have s9 := ho9.slc
    rw [hrm] at s9
    simp (maxSteps := 1000000) (disch := first | omega | rfl | (simp only [zL, two63, room] <;> omega) | fail) only [↓reduceIte, ↓zP, zW, WOp, evOp, evBin, binI, binSh, binS, evNil, keyIs, keyEq, mkv, AV.cells, AV.sc, optv, bnd, env, put, Env.get, Env.set, Env.del, Env.dels, Env.init, res1, resL, resV, fillP, splice, newRow, Nat.reduceEqDiff, Nat.reduceLT, Nat.reduceLeDiff, Nat.reduceAdd, Nat.reduceMul, Nat.reduceSub, Nat.reduceBEq, reduceCtorEq, ↓zR, zQ, Tr, StA, StT]
    refine c_yMoves (by omega) s7' s9 ?_
    simp (maxSteps := 1000000) (disch := first | omega | rfl | (simp only [zL, two63, room] <;> omega) | fail) only [↓reduceIte, ↓zP, zW, WOp, evOp, evBin, binI, binSh, binS, evNil, keyIs, keyEq, mkv, AV.cells, AV.sc, optv, bnd, env, put, Env.get, Env.set, Env.del, Env.dels, Env.init, res1, resL, resV, fillP, splice, newRow, Nat.reduceEqDiff, Nat.reduceLT, Nat.reduceLeDiff, Nat.reduceAdd, Nat.reduceMul, Nat.reduceSub, Nat.reduceBEq, reduceCtorEq, ↓zR, zQ, Tr, StA, StT]
    refine c_MovesOf w (by omega) ?_
    intro v11 h4 ho11 p4
    have s11 := ho11.slc
    rw [hmg] at s11
    simp (maxSteps := 1000000) (disch := first | omega | rfl | (simp only [zL, two63, room] <;> omega) | fail) only [↓reduceIte, ↓zP, zW, WOp, evOp, evBin, binI, binSh, binS, evNil, keyIs, keyEq, mkv, AV.cells, AV.sc, optv, bnd, env, put, Env.get, Env.set, Env.del, Env.dels, Env.init, res1, resL, resV, fillP, splice, newRow, Nat.reduceEqDiff, Nat.reduceLT, Nat.reduceLeDiff, Nat.reduceAdd, Nat.reduceMul, Nat.reduceSub, Nat.reduceBEq, reduceCtorEq, ↓zR, zQ, Tr, StA, StT, hgd]
    refine c_RuleMoves w (by omega) (true, true, true) ?_
    intro v13 h5 ho13 p5
    have s13 := ho13.slc
    rw [hrm] at s13
    simp (maxSteps := 1000000) (disch := first | omega | rfl | (simp only [zL, two63, room] <;> omega) | fail) only [↓reduceIte, ↓zP, zW, WOp, evOp, evBin, binI, binSh, binS, evNil, keyIs, keyEq, mkv, AV.cells, AV.sc, optv, bnd, env, put, Env.get, Env.set, Env.del, Env.dels, Env.init, res1, resL, resV, fillP, splice, newRow, Nat.reduceEqDiff, Nat.reduceLT, Nat.reduceLeDiff, Nat.reduceAdd, Nat.reduceMul, Nat.reduceSub, Nat.reduceBEq, reduceCtorEq, ↓zR, zQ, Tr, StA, StT, hg]
    refine c_RuleMoves w (by omega) (false, false, false) ?_
    intro v15 h6 ho15 p6
    have s15 := ho15.slc
    rw [hrm, mvR_none hsg] at s15
    simp (maxSteps := 1000000) (disch := first | omega | rfl | (simp only [zL, two63, room] <;> omega) | fail) only [↓reduceIte, ↓zP, zW, WOp, evOp, evBin, binI, binSh, binS, evNil, keyIs, keyEq, mkv, AV.cells, AV.sc, optv, bnd, env, put, Env.get, Env.set, Env.del, Env.dels, Env.init, res1, resL, resV, fillP, splice, newRow, Nat.reduceEqDiff, Nat.reduceLT, Nat.reduceLeDiff, Nat.reduceAdd, Nat.reduceMul, Nat.reduceSub, Nat.reduceBEq, reduceCtorEq, ↓zR, zQ, Tr, StA, StT, hg]
    refine c_yMoves (by omega) s15 (s11.pre (p5.trans p6)) ?_
    simp (maxSteps := 1000000) (disch := first | omega | rfl | (simp only [zL, two63, room] <;> omega) | fail) only [↓reduceIte, ↓zP, zW, WOp, evOp, evBin, binI, binSh, binS, evNil, keyIs, keyEq, mkv, AV.cells, AV.sc, optv, bnd, env, put, Env.get, Env.set, Env.del, Env.dels, Env.init, res1, resL, resV, fillP, splice, newRow, Nat.reduceEqDiff, Nat.reduceLT, Nat.reduceLeDiff, Nat.reduceAdd, Nat.reduceMul, Nat.reduceSub, Nat.reduceBEq, reduceCtorEq, ↓zR, zQ, Tr, StA, StT]
    refine c_yOrderL (by omega) (s7'.pre (p4.trans (p5.trans p6))) (mvR_sorted w r) ?_
    have s7f := s7'.pre (p4.trans (p5.trans p6))
    have s11f := s11.pre (p5.trans p6)
    have hv11 := fun g => Slc.lenV (s11f) (g := g) (ρ := fun _ => _) (x := .t 0) rfl; simp only [evOp] at hv11
    simp (maxSteps := 1000000) (disch := first | omega | rfl | (simp only [zL, two63, room] <;> omega) | fail) only [↓reduceIte, ↓zP, zW, WOp, evOp, evBin, binI, binSh, binS, evNil, keyIs, keyEq, mkv, AV.cells, AV.sc, optv, bnd, env, put, Env.get, Env.set, Env.del, Env.dels, Env.init, res1, resL, resV, fillP, splice, newRow, Nat.reduceEqDiff, Nat.reduceLT, Nat.reduceLeDiff, Nat.reduceAdd, Nat.reduceMul, Nat.reduceSub, Nat.reduceBEq, reduceCtorEq, ↓zR, zQ, Tr, StA, StT, hv11]
    refine lp_rm0 hsg l2 r mv v13 s7f s11f ?_ (movesB w [84, 70]) [] h6 rfl (Pre.refl _)
    intro h7 p7
    have s7g := s7f.pre p7
    have hv7 := fun g => Slc.lenV (s7g) (g := g) (ρ := fun _ => _) (x := .t 0) rfl; simp only [evOp] at hv7
    simp (maxSteps := 1000000) (disch := first | omega | rfl | (simp only [zL, two63, room] <;> omega) | fail) only [↓reduceIte, ↓zP, zW, WOp, evOp, evBin, binI, binSh, binS, evNil, keyIs, keyEq, mkv, AV.cells, AV.sc, optv, bnd, env, put, Env.get, Env.set, Env.del, Env.dels, Env.init, res1, resL, resV, fillP, splice, newRow, Nat.reduceEqDiff, Nat.reduceLT, Nat.reduceLeDiff, Nat.reduceAdd, Nat.reduceMul, Nat.reduceSub, Nat.reduceBEq, reduceCtorEq, ↓zR, zQ, Tr, StA, StT, hv7]
    refine lp_rm1 hg r mv (rdRow_pre (p3.trans (p4.trans (p5.trans (p6.trans p7)))) q62) (rdRow_pre (p2.trans (p3.trans (p4.trans (p5.trans (p6.trans p7))))) q61) s7g (s13.pre (p6.trans p7)) ?_ (mvR w r) [] h7 rfl (Pre.refl _)
    intro h8 p8
    have pT := p013.trans (p4.trans (p5.trans (p6.trans (p7.trans p8))))
    simp (maxSteps := 1000000) (disch := first | omega | rfl | (simp only [zL, two63, room] <;> omega) | fail) only [↓reduceIte, ↓zP, zW, WOp, evOp, evBin, binI, binSh, binS, evNil, keyIs, keyEq, mkv, AV.cells, AV.sc, optv, bnd, env, put, Env.get, Env.set, Env.del, Env.dels, Env.init, res1, resL, resV, fillP, splice, newRow, Nat.reduceEqDiff, Nat.reduceLT, Nat.reduceLeDiff, Nat.reduceAdd, Nat.reduceMul, Nat.reduceSub, Nat.reduceBEq, reduceCtorEq, ↓zR, zQ, Tr, StA, StT]
    refine c_DrawCanByRule (ht.pre pT) (by omega) ?_
    intro v i t s g1 hv pg1
    have pm := Pre.push g1 (AO.row [AV.int .i64 i, AV.int .i64 t] 0 0 false)
    obtain ⟨qm, -, -⟩ := mvRow g1 i t
    have hlen0 : (g1 ++ [AO.row [AV.int .i64 0, AV.int .i64 0] 0 0 false]).length = (g1 ++ [AO.row [AV.int .i64 i, AV.int .i64 t] 0 0 false]).length := by simp
    generalize hg1m : g1 ++ [AO.row [AV.int .i64 i, AV.int .i64 t] 0 0 false] = g1m at pm qm hlen0
    have ps := Pre.push g1m (AO.row (encR s) 0 0 false)
    have qs := rowR g1m s
    generalize hg1s : g1m ++ [AO.row (encR s) 0 0 false] = g1s at ps qs
    replace qm := rdRow_pre ps qm
    simp (maxSteps := 1000000) (disch := first | omega | rfl | (simp only [zL, two63, room] <;> omega) | fail) only [↓reduceIte, ↓zP, zW, WOp, evOp, evBin, binI, binSh, binS, evNil, keyIs, keyEq, mkv, AV.cells, AV.sc, optv, bnd, env, put, Env.get, Env.set, Env.del, Env.dels, Env.init, res1, resL, resV, fillP, splice, newRow, Nat.reduceEqDiff, Nat.reduceLT, Nat.reduceLeDiff, Nat.reduceAdd, Nat.reduceMul, Nat.reduceSub, Nat.reduceBEq, reduceCtorEq, ↓zR, zQ, Tr, StA, StT, hlen0, hg1m, hg1s, qm, qs]
    refine c_CanByRule v (by omega) s i t ?_
    intro g2 p2
    have qm2 := rdRow_pre p2 qm
    have qs2 := rdRow_pre p2 qs
    simp (maxSteps := 1000000) (disch := first | omega | rfl | (simp only [zL, two63, room] <;> omega) | fail) only [↓reduceIte, ↓zP, zW, WOp, evOp, evBin, binI, binSh, binS, evNil, keyIs, keyEq, mkv, AV.cells, AV.sc, optv, bnd, env, put, Env.get, Env.set, Env.del, Env.dels, Env.init, res1, resL, resV, fillP, splice, newRow, Nat.reduceEqDiff, Nat.reduceLT, Nat.reduceLeDiff, Nat.reduceAdd, Nat.reduceMul, Nat.reduceSub, Nat.reduceBEq, reduceCtorEq, ↓zR, zQ, Tr, StA, StT, qm2, qs2]
    refine c_sCanByRule v (by omega) s i t ?_
    intro g3 p3
    have qm3 := rdRow_pre p3 qm2
    have qs3 := rdRow_pre p3 qs2
    simp (maxSteps := 1000000) (disch := first | omega | rfl | (simp only [zL, two63, room] <;> omega) | fail) only [↓reduceIte, ↓zP, zW, WOp, evOp, evBin, binI, binSh, binS, evNil, keyIs, keyEq, mkv, AV.cells, AV.sc, optv, bnd, env, put, Env.get, Env.set, Env.del, Env.dels, Env.init, res1, resL, resV, fillP, splice, newRow, Nat.reduceEqDiff, Nat.reduceLT, Nat.reduceLeDiff, Nat.reduceAdd, Nat.reduceMul, Nat.reduceSub, Nat.reduceBEq, reduceCtorEq, ↓zR, zQ, Tr, StA, StT, qm3, qs3]
    refine c_MakeByRule v (by omega) s i t ?_
    intro g4 p4
    have qm4 := rdRow_pre p4 qm3
    have qs4 := rdRow_pre p4 qs3
    simp (maxSteps := 1000000) (disch := first | omega | rfl | (simp only [zL, two63, room] <;> omega) | fail) only [↓reduceIte, ↓zP, zW, WOp, evOp, evBin, binI, binSh, binS, evNil, keyIs, keyEq, mkv, AV.cells, AV.sc, optv, bnd, env, put, Env.get, Env.set, Env.del, Env.dels, Env.init, res1, resL, resV, fillP, splice, newRow, Nat.reduceEqDiff, Nat.reduceLT, Nat.reduceLeDiff, Nat.reduceAdd, Nat.reduceMul, Nat.reduceSub, Nat.reduceBEq, reduceCtorEq, ↓zR, zQ, Tr, StA, StT, qm4, qs4]
    refine c_sMakeByRule v (by omega) s i t ?_
    intro g5 p5
    simp (maxSteps := 1000000) (disch := first | omega | rfl | (simp only [zL, two63, room] <;> omega) | fail) only [↓reduceIte, ↓zP, zW, WOp, evOp, evBin, binI, binSh, binS, evNil, keyIs, keyEq, mkv, AV.cells, AV.sc, optv, bnd, env, put, Env.get, Env.set, Env.del, Env.dels, Env.init, res1, resL, resV, fillP, splice, newRow, Nat.reduceEqDiff, Nat.reduceLT, Nat.reduceLeDiff, Nat.reduceAdd, Nat.reduceMul, Nat.reduceSub, Nat.reduceBEq, reduceCtorEq, ↓zR, zQ, Tr, StA, StT]
    have pT5 := pT.trans (pg1.trans (pm.trans (ps.trans (p2.trans (p3.trans (p4.trans p5))))))
    refine c_DrawPlayByRule (ht.pre pT5) (by omega) ?_
    intro x lv L q g6 hx hL p6 sL
    have pq := Pre.push g6 (AO.row (encR q) 0 0 false)
    have qq := rowR g6 q
    generalize hg6 : g6 ++ [AO.row (encR q) 0 0 false] = g7 at pq qq
    have sL7 := sL.pre pq
    try (simp (maxSteps := 1000000) (disch := first | omega | rfl | (simp only [zL, two63, room] <;> omega) | fail) only [↓reduceIte, ↓zP, zW, WOp, evOp, evBin, binI, binSh, binS, evNil, keyIs, keyEq, mkv, AV.cells, AV.sc, optv, bnd, env, put, Env.get, Env.set, Env.del, Env.dels, Env.init, res1, resL, resV, fillP, splice, newRow, Nat.reduceEqDiff, Nat.reduceLT, Nat.reduceLeDiff, Nat.reduceAdd, Nat.reduceMul, Nat.reduceSub, Nat.reduceBEq, reduceCtorEq, ↓zR, zQ, Tr, StA, StT, hg6, qq])
    refine c_PlayByRule (by omega) x (by omega) q sL7 ?_
    intro g8 p8
    have qq8 := rdRow_pre p8 qq
    have sL8 := sL7.pre p8
    simp (maxSteps := 1000000) (disch := first | omega | rfl | (simp only [zL, two63, room] <;> omega) | fail) only [↓reduceIte, ↓zP, zW, WOp, evOp, evBin, binI, binSh, binS, evNil, keyIs, keyEq, mkv, AV.cells, AV.sc, optv, bnd, env, put, Env.get, Env.set, Env.del, Env.dels, Env.init, res1, resL, resV, fillP, splice, newRow, Nat.reduceEqDiff, Nat.reduceLT, Nat.reduceLeDiff, Nat.reduceAdd, Nat.reduceMul, Nat.reduceSub, Nat.reduceBEq, reduceCtorEq, ↓zR, zQ, Tr, StA, StT, qq8]
    refine c_sPlayByRule (by omega) x (by omega) q sL8 ?_
    intro g9 p9
    have qq9 := rdRow_pre p9 qq8
    have sL9 := sL8.pre p9
    simp (maxSteps := 1000000) (disch := first | omega | rfl | (simp only [zL, two63, room] <;> omega) | fail) only [↓reduceIte, ↓zP, zW, WOp, evOp, evBin, binI, binSh, binS, evNil, keyIs, keyEq, mkv, AV.cells, AV.sc, optv, bnd, env, put, Env.get, Env.set, Env.del, Env.dels, Env.init, res1, resL, resV, fillP, splice, newRow, Nat.reduceEqDiff, Nat.reduceLT, Nat.reduceLeDiff, Nat.reduceAdd, Nat.reduceMul, Nat.reduceSub, Nat.reduceBEq, reduceCtorEq, ↓zR, zQ, Tr, StA, StT]
    have pT9 := pT5.trans (p6.trans (pq.trans (p8.trans p9)))
    refine c_DrawRuleText (ht.pre pT9) (by omega) ?_
    intro rule g10 p10
    have pr := Pre.push g10 (AO.row (encR rule) 0 0 false)
    have qr := rowR g10 rule
    generalize hg10 : g10 ++ [AO.row (encR rule) 0 0 false] = g11 at pr qr
    try (simp (maxSteps := 1000000) (disch := first | omega | rfl | (simp only [zL, two63, room] <;> omega) | fail) only [↓reduceIte, ↓zP, zW, WOp, evOp, evBin, binI, binSh, binS, evNil, keyIs, keyEq, mkv, AV.cells, AV.sc, optv, bnd, env, put, Env.get, Env.set, Env.del, Env.dels, Env.init, res1, resL, resV, fillP, splice, newRow, Nat.reduceEqDiff, Nat.reduceLT, Nat.reduceLeDiff, Nat.reduceAdd, Nat.reduceMul, Nat.reduceSub, Nat.reduceBEq, reduceCtorEq, ↓zR, zQ, Tr, StA, StT, hg10, qr])
    refine c_RuleText rule ?_
    intro g12 p12
    have qr12 := rdRow_pre p12 qr
    simp (maxSteps := 1000000) (disch := first | omega | rfl | (simp only [zL, two63, room] <;> omega) | fail) only [↓reduceIte, ↓zP, zW, WOp, evOp, evBin, binI, binSh, binS, evNil, keyIs, keyEq, mkv, AV.cells, AV.sc, optv, bnd, env, put, Env.get, Env.set, Env.del, Env.dels, Env.init, res1, resL, resV, fillP, splice, newRow, Nat.reduceEqDiff, Nat.reduceLT, Nat.reduceLeDiff, Nat.reduceAdd, Nat.reduceMul, Nat.reduceSub, Nat.reduceBEq, reduceCtorEq, ↓zR, zQ, Tr, StA, StT, qr12]
    refine c_sRuleText rule ?_
    intro g13 p13
    have qr13 := rdRow_pre p13 qr12
    simp (maxSteps := 1000000) (disch := first | omega | rfl | (simp only [zL, two63, room] <;> omega) | fail) only [↓reduceIte, ↓zP, zW, WOp, evOp, evBin, binI, binSh, binS, evNil, keyIs, keyEq, mkv, AV.cells, AV.sc, optv, bnd, env, put, Env.get, Env.set, Env.del, Env.dels, Env.init, res1, resL, resV, fillP, splice, newRow, Nat.reduceEqDiff, Nat.reduceLT, Nat.reduceLeDiff, Nat.reduceAdd, Nat.reduceMul, Nat.reduceSub, Nat.reduceBEq, reduceCtorEq, ↓zR, zQ, Tr, StA, StT]
    have pT13 := pT9.trans (p10.trans (pr.trans (p12.trans p13)))
    refine c_DrawParseRule (ht.pre pT13) (by omega) ?_
    intro nm g14 hnm p14
    simp (maxSteps := 1000000) (disch := first | omega | rfl | (simp only [zL, two63, room] <;> omega) | fail) only [↓reduceIte, ↓zP, zW, WOp, evOp, evBin, binI, binSh, binS, evNil, keyIs, keyEq, mkv, AV.cells, AV.sc, optv, bnd, env, put, Env.get, Env.set, Env.del, Env.dels, Env.init, res1, resL, resV, fillP, splice, newRow, Nat.reduceEqDiff, Nat.reduceLT, Nat.reduceLeDiff, Nat.reduceAdd, Nat.reduceMul, Nat.reduceSub, Nat.reduceBEq, reduceCtorEq, ↓zR, zQ, Tr, StA, StT]
    refine c_ParseRule nm ?_
    intro g15 p15
    have hsm := ruP_some (s := nm)
    generalize hrp : ruP nm = rp at *
    obtain ⟨rd, nine⟩ := rp
    simp only at hsm
    have pe := Pre.push g15 (AO.row (encR rd) 0 0 false)
    have qe := rowR g15 rd
    generalize hg15 : g15 ++ [AO.row (encR rd) 0 0 false] = g16 at pe qe
    try (simp (maxSteps := 1000000) (disch := first | omega | rfl | (simp only [zL, two63, room] <;> omega) | fail) only [↓reduceIte, ↓zP, zW, WOp, evOp, evBin, binI, binSh, binS, evNil, keyIs, keyEq, mkv, AV.cells, AV.sc, optv, bnd, env, put, Env.get, Env.set, Env.del, Env.dels, Env.init, res1, resL, resV, fillP, splice, newRow, Nat.reduceEqDiff, Nat.reduceLT, Nat.reduceLeDiff, Nat.reduceAdd, Nat.reduceMul, Nat.reduceSub, Nat.reduceBEq, reduceCtorEq, ↓zR, zQ, Tr, StA, StT, hg15])
    refine c_sParseRule nm ?_
    intro g17 p17
    rw [hrp]
    have qe17 := rdRow_pre p17 qe
    have pf := Pre.push g17 (AO.row (encR rd) 0 0 false)
    have qf := rowR g17 rd
    generalize hg17 : g17 ++ [AO.row (encR rd) 0 0 false] = g18 at pf qf
    have qe18 := rdRow_pre pf qe17
    have p1318 : Pre g13 g18 := p14.trans (p15.trans (pe.trans (p17.trans pf)))
    have qr18 := rdRow_pre p1318 qr13
    have p918 : Pre g9 g18 := p10.trans (pr.trans (p12.trans (p13.trans p1318)))
    have hcan : rcG v s (i, t) = true → plG10 v = true := fun e => by unfold rcG at e; rw [Bool.and_eq_true] at e; exact e.1
    have hk : (rcG v s (i, t) == (plG10 v && rcG v s (i, t))) = true := by
      cases e : rcG v s (i, t)
      · simp
      · rw [hcan e]; rfl
    have finE : ∀ g, Pre g18 g → pbOk q x L = true → ∀ R2 : X → Env → AH → Prop, (∀ g', Pre g g' → R2 (.exit 4) [(41, .str (pbG q x L)), (59, .str (pbG q x L))] g') → Cx (.loop lp23_2) [(40, .ptr g6.length 0 0 3), (41, .str (pbG q x L)), (59, .str x), (372, lv), (373, .int .i64 L.length), (374, .int .i64 0)] g R2 k k := by
      intro g pg hok R2 hR2
      have hok' := hok
      unfold pbOk at hok'
      simp only [Bool.and_eq_true, decide_eq_true_eq] at hok'
      have hpb : pbG q x L = (plR q x L).1 := by unfold pbG; rw [hok]; rfl
      refine lp_rm2 (by omega) q (rdRow_pre (p918.trans pg) qq9) (sL9.pre (p918.trans pg)) L [] x g rfl hok'.1.1 hok'.2 (Pre.refl _) ?_
      intro g' pg'
      rw [← hpb]
      exact hR2 g' pg'
    cases hk1 : plG10 v <;> cases hk2 : rcG v s (i, t)
    case false.true => exact absurd (hcan hk2) (by rw [hk1]; decide)
    all_goals
      simp (maxSteps := 1000000) (disch := first | omega | rfl | (simp only [zL, two63, room] <;> omega) | fail) only [↓reduceIte, ↓zP, zW, WOp, evOp, evBin, binI, binSh, binS, evNil, keyIs, keyEq, mkv, AV.cells, AV.sc, optv, bnd, env, put, Env.get, Env.set, Env.del, Env.dels, Env.init, res1, resL, resV, fillP, splice, newRow, Nat.reduceEqDiff, Nat.reduceLT, Nat.reduceLeDiff, Nat.reduceAdd, Nat.reduceMul, Nat.reduceSub, Nat.reduceBEq, reduceCtorEq, ↓zR, zQ, Tr, StA, StT, hg17, hk1, hk2, qe18, qf, seqR]
      refine c_ParseRule (ruT rule) ?_
      intro g19 p19
      rw [ruP_text]
      have qr19 := rdRow_pre p19 qr18
      have pz := Pre.push g19 (AO.row (encR rule) 0 0 false)
      have qz := rowR g19 rule
      generalize hg19 : g19 ++ [AO.row (encR rule) 0 0 false] = g20 at pz qz
      have qr20 := rdRow_pre pz qr19
      have qe20 := rdRow_pre (p19.trans pz) qe18
      cases nine
      · simp (maxSteps := 1000000) (disch := first | omega | rfl | (simp only [zL, two63, room] <;> omega) | fail) only [↓reduceIte, ↓zP, zW, WOp, evOp, evBin, binI, binSh, binS, evNil, keyIs, keyEq, mkv, AV.cells, AV.sc, optv, bnd, env, put, Env.get, Env.set, Env.del, Env.dels, Env.init, res1, resL, resV, fillP, splice, newRow, Nat.reduceEqDiff, Nat.reduceLT, Nat.reduceLeDiff, Nat.reduceAdd, Nat.reduceMul, Nat.reduceSub, Nat.reduceBEq, reduceCtorEq, ↓zR, zQ, Tr, StA, StT, hg19, qz, qr19, qr20, qe20, seqR]
        have pEnd : Pre g18 g20 := p19.trans pz
        cases hok : pbOk q x L
        · simp (maxSteps := 1000000) (disch := first | omega | rfl | (simp only [zL, two63, room] <;> omega) | fail) only [↓reduceIte, ↓zP, zW, WOp, evOp, evBin, binI, binSh, binS, evNil, keyIs, keyEq, mkv, AV.cells, AV.sc, optv, bnd, env, put, Env.get, Env.set, Env.del, Env.dels, Env.init, res1, resL, resV, fillP, splice, newRow, Nat.reduceEqDiff, Nat.reduceLT, Nat.reduceLeDiff, Nat.reduceAdd, Nat.reduceMul, Nat.reduceSub, Nat.reduceBEq, reduceCtorEq, ↓zR, zQ, Tr, StA, StT]
          exact hp _
        · have sX := sL9.pre (p918.trans pEnd)
          have hlv := fun g => Slc.lenV (sX) (g := g) (ρ := fun _ => _) (x := .t 0) rfl; simp only [evOp] at hlv
          have hself : (pbG q x L == pbG q x L) = true := by simp
          simp (maxSteps := 1000000) (disch := first | omega | rfl | (simp only [zL, two63, room] <;> omega) | fail) only [↓reduceIte, ↓zP, zW, WOp, evOp, evBin, binI, binSh, binS, evNil, keyIs, keyEq, mkv, AV.cells, AV.sc, optv, bnd, env, put, Env.get, Env.set, Env.del, Env.dels, Env.init, res1, resL, resV, fillP, splice, newRow, Nat.reduceEqDiff, Nat.reduceLT, Nat.reduceLeDiff, Nat.reduceAdd, Nat.reduceMul, Nat.reduceSub, Nat.reduceBEq, reduceCtorEq, ↓zR, zQ, Tr, StA, StT, hlv]
          refine finE _ pEnd hok _ ?_
          intro g' pg'
          simp (maxSteps := 1000000) (disch := first | omega | rfl | (simp only [zL, two63, room] <;> omega) | fail) only [↓reduceIte, ↓zP, zW, WOp, evOp, evBin, binI, binSh, binS, evNil, keyIs, keyEq, mkv, AV.cells, AV.sc, optv, bnd, env, put, Env.get, Env.set, Env.del, Env.dels, Env.init, res1, resL, resV, fillP, splice, newRow, Nat.reduceEqDiff, Nat.reduceLT, Nat.reduceLeDiff, Nat.reduceAdd, Nat.reduceMul, Nat.reduceSub, Nat.reduceBEq, reduceCtorEq, ↓zR, zQ, Tr, StA, StT, hself]
          exact hp _
      · simp (maxSteps := 1000000) (disch := first | omega | rfl | (simp only [zL, two63, room] <;> omega) | fail) only [↓reduceIte, ↓zP, zW, WOp, evOp, evBin, binI, binSh, binS, evNil, keyIs, keyEq, mkv, AV.cells, AV.sc, optv, bnd, env, put, Env.get, Env.set, Env.del, Env.dels, Env.init, res1, resL, resV, fillP, splice, newRow, Nat.reduceEqDiff, Nat.reduceLT, Nat.reduceLeDiff, Nat.reduceAdd, Nat.reduceMul, Nat.reduceSub, Nat.reduceBEq, reduceCtorEq, ↓zR, zQ, Tr, StA, StT, hg19, qz, qr19, qr20, qe20, seqR]
        refine c_RuleText rd ?_
        intro g21 p21
        rw [hsm rfl]
        simp (maxSteps := 1000000) (disch := first | omega | rfl | (simp only [zL, two63, room] <;> omega) | fail) only [↓reduceIte, ↓zP, zW, WOp, evOp, evBin, binI, binSh, binS, evNil, keyIs, keyEq, mkv, AV.cells, AV.sc, optv, bnd, env, put, Env.get, Env.set, Env.del, Env.dels, Env.init, res1, resL, resV, fillP, splice, newRow, Nat.reduceEqDiff, Nat.reduceLT, Nat.reduceLeDiff, Nat.reduceAdd, Nat.reduceMul, Nat.reduceSub, Nat.reduceBEq, reduceCtorEq, ↓zR, zQ, Tr, StA, StT]
        have pEnd : Pre g18 g21 := p19.trans (pz.trans p21)
        cases hok : pbOk q x L
        · simp (maxSteps := 1000000) (disch := first | omega | rfl | (simp only [zL, two63, room] <;> omega) | fail) only [↓reduceIte, ↓zP, zW, WOp, evOp, evBin, binI, binSh, binS, evNil, keyIs, keyEq, mkv, AV.cells, AV.sc, optv, bnd, env, put, Env.get, Env.set, Env.del, Env.dels, Env.init, res1, resL, resV, fillP, splice, newRow, Nat.reduceEqDiff, Nat.reduceLT, Nat.reduceLeDiff, Nat.reduceAdd, Nat.reduceMul, Nat.reduceSub, Nat.reduceBEq, reduceCtorEq, ↓zR, zQ, Tr, StA, StT]
          exact hp _
        · have sX := sL9.pre (p918.trans pEnd)
          have hlv := fun g => Slc.lenV (sX) (g := g) (ρ := fun _ => _) (x := .t 0) rfl; simp only [evOp] at hlv
          have hself : (pbG q x L == pbG q x L) = true := by simp
          simp (maxSteps := 1000000) (disch := first | omega | rfl | (simp only [zL, two63, room] <;> omega) | fail) only [↓reduceIte, ↓zP, zW, WOp, evOp, evBin, binI, binSh, binS, evNil, keyIs, keyEq, mkv, AV.cells, AV.sc, optv, bnd, env, put, Env.get, Env.set, Env.del, Env.dels, Env.init, res1, resL, resV, fillP, splice, newRow, Nat.reduceEqDiff, Nat.reduceLT, Nat.reduceLeDiff, Nat.reduceAdd, Nat.reduceMul, Nat.reduceSub, Nat.reduceBEq, reduceCtorEq, ↓zR, zQ, Tr, StA, StT, hlv]
          refine finE _ pEnd hok _ ?_
          intro g' pg'
          simp (maxSteps := 1000000) (disch := first | omega | rfl | (simp only [zL, two63, room] <;> omega) | fail) only [↓reduceIte, ↓zP, zW, WOp, evOp, evBin, binI, binSh, binS, evNil, keyIs, keyEq, mkv, AV.cells, AV.sc, optv, bnd, env, put, Env.get, Env.set, Env.del, Env.dels, Env.init, res1, resL, resV, fillP, splice, newRow, Nat.reduceEqDiff, Nat.reduceLT, Nat.reduceLeDiff, Nat.reduceAdd, Nat.reduceMul, Nat.reduceSub, Nat.reduceBEq, reduceCtorEq, ↓zR, zQ, Tr, StA, StT, hself]
          exact hp _
theorem law_RulesMove {cv mv : AV} {cs ms : List UInt8} {h : AH} (hs : Slc 1 encU h cv cs) (ht : Slc 1 encU h mv ms) : S 23 [cv, mv] h (fun r _ => r = .bool true) k := law_RulesMove_of hs ht fun _ => rfl
end Go.Proofs.YtejhhdpfndiliaaDoor.Ab

/- The law FnRulesMove of the given program returns true, whatever the input: its tied card. Condition: what the row lists of package-level tables is laid as the program's text lays it. -/
namespace Go.Proofs.YtejhhdpfndiliaaDoor.fnRulesMove
open Go Go.ChangeShapes Go.WideShapes Go.ChangeAt Go.RowKit
set_option maxRecDepth 1000000

theorem own : ownKnob Tryd.prog.godebug = none := by kernel_rfl
theorem laidOut : laidOutB Tryd.prog = true := by kernel_rfl
theorem readable : ∀ t ∈ Tryd.f3.params.toList, Tryd.prog.readableRec t = true ∧ t < Tryd.prog.types.size := by
  rw [Tryd.params3]
  intro t ht
  simp only [List.mem_cons, List.not_mem_nil, or_false] at ht
  rcases ht with rfl | rfl
  · exact ⟨by kernel_rfl, of_decide_eq_true (by kernel_rfl)⟩
  · exact ⟨by kernel_rfl, of_decide_eq_true (by kernel_rfl)⟩
theorem contract (H : Type) (enc : TypeId × Value → H) (W : World) (base : Nat) (args : Array Value) (ds gs : List (DataW H)) (before : List MemPlace)
    (hval : ∀ (j : Nat) t v, Tryd.f3.params[j]? = some t → args[j]? = some v → Value.okWide Tryd.prog W .any base t v)
    (hW : DataW.Whole enc Tryd.prog Tryd.f3.params.toList Rows.fnRulesMoveSpec.vars false W args.toList ds gs before) :
    Calls Tryd.prog 3 args W fun e W' => ∃ v, e = .returned v ∧ Rows.fnRulesMoveSpec.post enc Tryd.prog Tryd.f3 false true false false W args v W' := by
  have hW' := hW
  obtain ⟨p, q, hA0, hV, rfl, hfz, hnd⟩ := hW
  obtain ⟨rfl, rfl⟩ := trodVars_none hV
  have hA : DataW.TrodAll enc Tryd.prog W 0 (fun _ => true) true Tryd.f3.params.toList args.toList ds p := hA0
  rw [Tryd.params3] at hA hval
  obtain ⟨v0, vs0, d0, ds0, p0, q0, hargs0, rfl, rfl, h0, r0⟩ := trodAll_cons hA
  obtain ⟨v1, vs1, d1, ds1, p1, q1, hargs1, rfl, rfl, h1, r1⟩ := trodAll_cons r0
  obtain ⟨rfl, rfl, rfl⟩ := trodAll_nil r1
  obtain rfl : args = #[v0, v1] := by cases args; simp_all
  obtain ⟨s0, m0, g0, a0, _, _, sl0, hv0, rel0⟩ := Ab.open_bytes (F := Ab.F) (Ab.rel_nothing Ab.F W) Tryd.underlying22 Tryd.underlying5 (by kernel_rfl) (hval 0 22 v0 rfl rfl) h0
  obtain ⟨s1, m, g, a1, le1, pre1, sl1, hv1, hrel⟩ := Ab.open_bytes (F := Ab.F) rel0 Tryd.underlying22 Tryd.underlying5 (by kernel_rfl) (hval 1 22 v1 rfl rfl) h1
  have hlaw := Ab.law_RulesMove (sl0.pre pre1) sl1
  have hargs : Ab.RelL Ab.F m [a0, a1] (#[v0, v1] : Array Value).toList := by
    simp only [Ab.RelL]
    exact ⟨v0, [v1], rfl, Ab.RelV.mono le1 _ _ hv0, v1, [], rfl, hv1, rfl⟩
  have hres : (Rows.fnRulesMoveSpec.fn H ([d0, d1] ++ [])).results = [.lit (.bool true)] := rfl
  have hback : (Rows.fnRulesMoveSpec.fn H ([d0, d1] ++ [])).args = [d0, d1] := rfl
  refine (Ab.law_calls (P := Tryd.prog) (F := Ab.F) Ab.all_sound (f := 23) (h := g) hlaw hrel hargs).mono ?_
  rintro e W' ⟨rfl, hb⟩
  refine ⟨_, rfl, Ab.post_below (pa := p0 ++ (p1 ++ [])) (pv := []) hW' (fun _ _ _ => ?_) (fun sp hsp => ?_) (fun _ _ => rfl) (by simp) hb (ok_one (by kernel_rfl) rfl (okWide_bool_mk Tryd.underlying4 _))⟩
  · rw [hres]
    exact trodAll_cons_mk (shut_bool Tryd.underlying4 _) trodAll_mk0
  · rw [hback]
    exact Ab.trodAll_stays laidOut hb readable hA0 (fun x hx => hW'.lt x (by simpa using hx)) (fun x hx => hsp x (by simpa using hx))

/-- A WORLD FOR THE WITNESS: the settled one, the tables holding what is laid. -/
def lits : List (DataW Unit) → List Value
  | [] => []
  | .lit (.int kd n) :: l => .int kd n :: lits l
  | _ :: l => lits l
def cellsT : DataW Unit → List Value
  | .agg l => l.flatMap fun
    | .lit (.int kd n) => [.int kd n]
    | .agg l' => lits l'
    | _ => []
  | _ => []
def setCells (cs : List Value) : Obj → Obj
  | .cells _ t frozen => .cells cs.toArray t frozen
  | o => o
noncomputable def laidWorld (os : Os) : World :=
  { World.holding Tryd.prog os ⟨#[], #[], []⟩ with heap := ((World.holding Tryd.prog os ⟨#[], #[], []⟩).heap.modify 1 (setCells (cellsT Rows.laid_unicode_utf8_first))).modify 2 (setCells (cellsT Rows.laid_unicode_utf8_acceptRanges)) }
theorem laid_met (os : Os) : laidMet Tryd.prog Rows.fnRulesMoveRow.laid ((laidWorld os).forCall (fun _ _ => 0) ⟨#[], #[.slice none 0 0, .slice none 0 0], []⟩).memory :=
  laidMet_of_run' 8 (by kernel_rfl) (by kernel_rfl)
theorem reads (os : Os) {H : Type} (enc : TypeId × Value → H) : ∃ places, DataW.whole enc Tryd.prog ((laidWorld os).forCall (fun _ _ => 0) ⟨#[], #[.slice none 0 0, .slice none 0 0], []⟩).memory Tryd.f3.params.toList Rows.fnRulesMoveSpec.vars false (#[.slice none 0 0, .slice none 0 0] : Array Value).toList 8 = some ([.nil, .nil], [], places) :=
  ⟨[], by kernel_rfl⟩

theorem lifted (os : Os) (started : os.Started) (H : Type) (enc : TypeId × Value → H) (F : Stop.Interp) :
    ReturnsInHanded {} Tryd.checked os 3 .any ((OpenSpec.ofChange Rows.fnRulesMoveSpec).preRow enc Tryd.prog Tryd.f3 Rows.fnRulesMoveRow.domain false Rows.fnRulesMoveRow.laid) (((OpenSpec.ofChange Rows.fnRulesMoveSpec).at F).post enc Tryd.prog Tryd.f3 false true false false) := by
  obtain ⟨places, hx⟩ := reads os enc
  refine returnsInHanded_of_row (C := Tryd.checked) (s := OpenSpec.ofChange Rows.fnRulesMoveSpec) own started (by kernel_rfl) Tryd.func3
    (witness_row_at (enc := enc) (C := Tryd.checked) false (laidWorld os) #[.slice none 0 0, .slice none 0 0] rfl (by kernel_rfl) (by kernel_rfl) (by kernel_rfl)
      (OpenSpec.preRow_of_cond 8 hx (by kernel_rfl) (fun k hk => by cases hk) (by kernel_rfl) (laid_met os))) ?_
  intro W base args ds gs before hval hW _ _ _ _ _ _
  exact contract H enc W base args ds gs before hval hW

theorem said : Rows.FnRulesMoveSaid :=
  OpenClaim.holds_of_cond 3 Tryd.f3 rfl rfl rfl rfl rfl rfl rfl ⟨rfl, rfl, rfl, rfl, rfl⟩ rfl rfl rfl rfl rfl (by kernel_rfl) Tryd.func3 (by kernel_rfl)
    (of_decide_eq_true (by kernel_rfl)) (by unfold Func.isWrapper; first | (rw [if_pos (by decide +kernel)]; kernel_rfl) | (rw [if_neg (by decide +kernel)]; exact ⟨rfl, rfl⟩))
    (fun os started H enc _ F => by rw [OpenClaim.pre_eq_preRow]; exact lifted os started H enc F)

/-- No parameter wants a stand-in; the program's own looks are off: what the card asks. -/
theorem plain (f : FuncId) (fn : Func) (hf : Tryd.pinned.checked.prog.funcNamed "loop.example/g01271/laws.FnRulesMove" = some f) (hfn : Tryd.pinned.checked.prog.funcs[f]? = some fn) :
    false = Tryd.pinned.checked.prog.looks [] ∧ ∀ (j : Nat) t, fn.params[j]? = some t → Tryd.pinned.checked.prog.wantsStandIn t = false := by
  obtain rfl : f = 3 := Option.some.inj ((show Tryd.prog.funcNamed "loop.example/g01271/laws.FnRulesMove" = some 3 by kernel_rfl).symm.trans hf) |>.symm
  obtain rfl : fn = Tryd.f3 := (Option.some.inj (Tryd.func3.symm.trans hfn)).symm
  refine ⟨by kernel_rfl, fun j t ht => ?_⟩
  rw [Tryd.params3] at ht
  have hm : t ∈ ([22, 22] : List Nat) := by
    have := Array.mem_of_getElem? ht
    simpa using this
  simp only [List.mem_cons, List.not_mem_nil, or_false] at hm
  rcases hm with rfl | rfl
  · exact (show Tryd.prog.wantsStandIn 22 = false by kernel_rfl)
  · exact (show Tryd.prog.wantsStandIn 22 = false by kernel_rfl)
theorem card : Rows.FnRulesMoveCardSaid :=
  Claim7.holds_tied_plain_at .later [] _ _ _ _ said (fun _ h => by cases h) (by kernel_rfl) (fun _ h => by cases h) fnRulesMove_row_tie rfl ⟨rfl, rfl⟩ (by kernel_rfl) rfl plain (by kernel_rfl)
end Go.Proofs.YtejhhdpfndiliaaDoor.fnRulesMove
