/- The proof that the law FnExactMakeOnBoard of the given program returns true for every input; the condition: the tables that the row lists are laid as the program's text lays them. -/
import Derived.Test.YtgdlaopjabjkbaaDoorCards
import Derived.Test.YtgdlaopjabjkbaaDoorTie
import Derived.OpenShut
import Derived.Deep.DeepHandedRow
import Derived.Lib.LaidTab
import Derived.Test.YtgdlaopjabjkbaaDoorQ4
set_option linter.unusedSimpArgs false
set_option linter.unusedVariables false
/- BOARDS: PlayOnBoard, BoardMoveThatFails, MakeOnBoard: both sides and the laws. -/
namespace Go.Proofs.YtgdlaopjabjkbaaDoor.Ab
open Go
set_option maxRecDepth 100000
set_option maxHeartbeats 4000000

def rowsB (w h : Nat) (cells : List UInt8) : List (List UInt8) := (List.range h).map fun y => (cells.drop (y * w)).take w
theorem rowsB_eq {rs : List (List UInt8)} {w h : Nat} (hb : Bd rs w h) : rowsB w h rs.flatten = rs := by
  unfold rowsB
  apply List.ext_getElem
  · simp [hb.len]
  · intro i h1 h2
    rw [List.getElem_map, List.getElem_range, flat_row (fun r hr => (hb.row r hr).1) h2]
    simp [List.getD_eq_getElem?_getD, h2]
theorem bPlay_bd {w h : Nat} : ∀ (ms : List Mo) (rs : List (List UInt8)), Bd rs w h → ∃ rs', Bd rs' w h ∧ rs'.flatten = (bPlay w h rs.flatten ms).1
  | [], rs, hb => ⟨rs, hb, rfl⟩
  | m :: ms, rs, hb => by
    cases e : bCan rs.flatten w h m
    · exact ⟨rs, hb, by unfold bPlay; rw [if_neg (by rw [e]; decide)]⟩
    · obtain ⟨f, t, rfl, hf, ht, hne⟩ := bCan_rng hb e
      obtain ⟨hb2, hfl2⟩ := hb.make hf ht hne
      obtain ⟨rs', h1, h2⟩ := bPlay_bd ms (rMake w rs f t) hb2
      refine ⟨rs', h1, ?_⟩
      rw [h2, hfl2]
      conv => rhs; unfold bPlay
      rw [if_pos e]
      simp only [Int.toNat_natCast]
/-- What a play on a board comes to. -/
def plN (b : List UInt8) (ms : List Mo) : Nat := (bPlay (bW b) (spl b).length (noB 47 b) ms).2
def plG (b : List UInt8) (ms : List Mo) : Bool := boOK b && decide (ms.length ≤ 200)
def plA (b : List UInt8) (ms : List Mo) : Bool := plG b ms && decide (plN b ms = ms.length)
def plT (b : List UInt8) (ms : List Mo) : List UInt8 := if plA b ms then txB (rowsB (bW b) (spl b).length (bPlay (bW b) (spl b).length (noB 47 b) ms).1) else []
theorem nob_fl (b : List UInt8) : noB 47 b = (spl b).flatten := (spl_flat b).symm
theorem c_PlayOnBoard (b : List UInt8) (hb : b.length < 2 ^ 30) {vm : AV} {ms : List Mo} (hL : ms.length < 2 ^ 30) {g : AH} (hs : Slc 2 encM g vm ms) {post : AV → AH → Prop} (hp : ∀ g', Pre g g' → post (.tup [.str (plT b ms), .bool (plA b ms)]) g') : S 336 [.str b, vm] g post k := by
  have hg : plG b ms = (boOK b && decide (ms.length ≤ 200)) := rfl
  have ha : plA b ms = (plG b ms && decide (plN b ms = ms.length)) := rfl
  have hno : plA b ms = false → ∀ g', Pre g g' → post (.tup [.str [], .bool false]) g' := fun e g' p => by
    have := hp g' p
    unfold plT at this
    rw [e] at this
    exact this
  have hle := bPlay_le (bW b) (spl b).length ms (noB 47 b)
  refine S_of rfl T336 ?_; unfold fi336
  simp (maxSteps := 1000000) (disch := first | omega | rfl | (simp only [zL, two63, room] <;> omega) | fail) only [↓reduceIte, ↓zP, zW, WOp, evOp, evBin, binI, binSh, binS, evNil, keyIs, keyEq, mkv, AV.cells, AV.sc, optv, bnd, env, put, Env.get, Env.set, Env.del, Env.dels, Env.init, res1, resL, resV, fillP, splice, newRow, Nat.reduceEqDiff, Nat.reduceLT, Nat.reduceLeDiff, Nat.reduceAdd, Nat.reduceMul, Nat.reduceSub, Nat.reduceBEq, reduceCtorEq, ↓zR, zQ, Tr, StA, StT]
  refine c_IsBoard b hb ?_
  intro g1 p1
  cases e : boOK b
  · have hA : plA b ms = false := by rw [ha, hg, e]; simp
    simp (maxSteps := 1000000) (disch := first | omega | rfl | (simp only [zL, two63, room] <;> omega) | fail) only [↓reduceIte, ↓zP, zW, WOp, evOp, evBin, binI, binSh, binS, evNil, keyIs, keyEq, mkv, AV.cells, AV.sc, optv, bnd, env, put, Env.get, Env.set, Env.del, Env.dels, Env.init, res1, resL, resV, fillP, splice, newRow, Nat.reduceEqDiff, Nat.reduceLT, Nat.reduceLeDiff, Nat.reduceAdd, Nat.reduceMul, Nat.reduceSub, Nat.reduceBEq, reduceCtorEq, ↓zR, zQ, Tr, StA, StT]
    exact hno hA g1 p1
  have hl := fun g => Slc.lenV ((hs.pre p1)) (g := g) (ρ := fun _ => _) (x := .t 0) rfl; simp only [evOp] at hl
  by_cases e2 : ms.length ≤ 200
  · have e2' : (ms.length : Int) ≤ 200 := by omega
    simp (maxSteps := 1000000) (disch := first | omega | rfl | (simp only [zL, two63, room] <;> omega) | fail) only [↓reduceIte, ↓zP, zW, WOp, evOp, evBin, binI, binSh, binS, evNil, keyIs, keyEq, mkv, AV.cells, AV.sc, optv, bnd, env, put, Env.get, Env.set, Env.del, Env.dels, Env.init, res1, resL, resV, fillP, splice, newRow, Nat.reduceEqDiff, Nat.reduceLT, Nat.reduceLeDiff, Nat.reduceAdd, Nat.reduceMul, Nat.reduceSub, Nat.reduceBEq, reduceCtorEq, ↓zR, zQ, Tr, StA, StT, hl, e2']
    refine c_boardOf b hb ?_
    intro g2 p2
    have hd : Bd (spl b) (bW b) (spl b).length := boOK_bd e
    have hs2 := (hs.pre p1).pre p2
    obtain ⟨rs', hb', hfl⟩ := bPlay_bd ms (spl b) hd
    simp (maxSteps := 1000000) (disch := first | omega | rfl | (simp only [zL, two63, room] <;> omega) | fail) only [↓reduceIte, ↓zP, zW, WOp, evOp, evBin, binI, binSh, binS, evNil, keyIs, keyEq, mkv, AV.cells, AV.sc, optv, bnd, env, put, Env.get, Env.set, Env.del, Env.dels, Env.init, res1, resL, resV, fillP, splice, newRow, Nat.reduceEqDiff, Nat.reduceLT, Nat.reduceLeDiff, Nat.reduceAdd, Nat.reduceMul, Nat.reduceSub, Nat.reduceBEq, reduceCtorEq, ↓zR, zQ, Tr, StA, StT]
    rw [nob_fl]
    have hnn : (bPlay (bW b) (spl b).length (spl b).flatten ms).2 = plN b ms := by unfold plN; rw [nob_fl]
    have hcc : (bPlay (bW b) (spl b).length (spl b).flatten ms).1 = (bPlay (bW b) (spl b).length (noB 47 b) ms).1 := by rw [nob_fl]
    refine c_bPlay hd hL hs2 ?_ ?_
    · intro g3 p3 e3
      rw [hnn] at e3
      rw [hcc] at hfl ⊢
      have hl2 := fun g => Slc.lenV ((hs2.pre p3)) (g := g) (ρ := fun _ => _) (x := .t 0) rfl; simp only [evOp] at hl2
      have hA : plA b ms = true := by rw [ha, hg, e, decide_eq_true e2, decide_eq_true e3]; rfl
      have hT : plT b ms = txB rs' := by
        unfold plT
        rw [hA, if_pos rfl, ← hfl]
        congr 1
        exact rowsB_eq hb'
      rw [← hfl]
      generalize hB : g3 ++ [AO.row [.str rs'.flatten, .int .i64 (bW b : Int)] 0 0 false] = gB
      have pB : Pre g3 gB := hB ▸ Pre.push _ _
      have rB : rdRow gB g3.length 0 0 2 = some [.str rs'.flatten, .int .i64 (bW b : Int)] := by rw [← hB]; simp (maxSteps := 1000000) (disch := first | omega | rfl | (simp only [zL, two63, room] <;> omega) | fail) only [↓reduceIte, ↓zP, zW, WOp, evOp, evBin, binI, binSh, binS, evNil, keyIs, keyEq, mkv, AV.cells, AV.sc, optv, bnd, env, put, Env.get, Env.set, Env.del, Env.dels, Env.init, res1, resL, resV, fillP, splice, newRow, Nat.reduceEqDiff, Nat.reduceLT, Nat.reduceLeDiff, Nat.reduceAdd, Nat.reduceMul, Nat.reduceSub, Nat.reduceBEq, reduceCtorEq, ↓zR, zQ, Tr, StA, StT]
      simp (maxSteps := 1000000) (disch := first | omega | rfl | (simp only [zL, two63, room] <;> omega) | fail) only [↓reduceIte, ↓zP, zW, WOp, evOp, evBin, binI, binSh, binS, evNil, keyIs, keyEq, mkv, AV.cells, AV.sc, optv, bnd, env, put, Env.get, Env.set, Env.del, Env.dels, Env.init, res1, resL, resV, fillP, splice, newRow, Nat.reduceEqDiff, Nat.reduceLT, Nat.reduceLeDiff, Nat.reduceAdd, Nat.reduceMul, Nat.reduceSub, Nat.reduceBEq, reduceCtorEq, ↓zR, zQ, Tr, StA, StT, hl2, hB, rB]
      refine c_bText hb' ?_
      intro g4 p4
      have hq := hp g4 ((((p1.trans p2).trans p3).trans pB).trans p4)
      rw [hT, hA] at hq
      simp (maxSteps := 1000000) (disch := first | omega | rfl | (simp only [zL, two63, room] <;> omega) | fail) only [↓reduceIte, ↓zP, zW, WOp, evOp, evBin, binI, binSh, binS, evNil, keyIs, keyEq, mkv, AV.cells, AV.sc, optv, bnd, env, put, Env.get, Env.set, Env.del, Env.dels, Env.init, res1, resL, resV, fillP, splice, newRow, Nat.reduceEqDiff, Nat.reduceLT, Nat.reduceLeDiff, Nat.reduceAdd, Nat.reduceMul, Nat.reduceSub, Nat.reduceBEq, reduceCtorEq, ↓zR, zQ, Tr, StA, StT]
      exact hq
    · intro g3 p3 e3
      rw [hnn] at e3 ⊢
      have hl2 := fun g => Slc.lenV ((hs2.pre p3)) (g := g) (ρ := fun _ => _) (x := .t 0) rfl; simp only [evOp] at hl2
      have hA : plA b ms = false := by rw [ha, decide_eq_false (by omega)]; simp
      have e3' : (plN b ms : Int) < (ms.length : Int) := by omega
      have pB := Pre.push g3 (AO.row [.str [], .int .i64 (bW b : Int)] 0 0 false)
      simp (maxSteps := 1000000) (disch := first | omega | rfl | (simp only [zL, two63, room] <;> omega) | fail) only [↓reduceIte, ↓zP, zW, WOp, evOp, evBin, binI, binSh, binS, evNil, keyIs, keyEq, mkv, AV.cells, AV.sc, optv, bnd, env, put, Env.get, Env.set, Env.del, Env.dels, Env.init, res1, resL, resV, fillP, splice, newRow, Nat.reduceEqDiff, Nat.reduceLT, Nat.reduceLeDiff, Nat.reduceAdd, Nat.reduceMul, Nat.reduceSub, Nat.reduceBEq, reduceCtorEq, ↓zR, zQ, Tr, StA, StT, hl2, e3']
      exact hno hA _ (((p1.trans p2).trans p3).trans pB)
  · have e2' : (ms.length : Int) > 200 := by omega
    have hA : plA b ms = false := by rw [ha, hg, decide_eq_false e2]; simp
    simp (maxSteps := 1000000) (disch := first | omega | rfl | (simp only [zL, two63, room] <;> omega) | fail) only [↓reduceIte, ↓zP, zW, WOp, evOp, evBin, binI, binSh, binS, evNil, keyIs, keyEq, mkv, AV.cells, AV.sc, optv, bnd, env, put, Env.get, Env.set, Env.del, Env.dels, Env.init, res1, resL, resV, fillP, splice, newRow, Nat.reduceEqDiff, Nat.reduceLT, Nat.reduceLeDiff, Nat.reduceAdd, Nat.reduceMul, Nat.reduceSub, Nat.reduceBEq, reduceCtorEq, ↓zR, zQ, Tr, StA, StT, hl, e2']
    exact hno hA g1 p1

theorem c_toMove (m : Mo) {h : AH} {post : AV → AH → Prop} (hp : ∀ h', Pre h h' → post (.agg (encM m)) h') : S 325 [.agg (encM m)] h post k := by
  refine S_of rfl T325 ?_; unfold fi325
  simp (maxSteps := 1000000) (disch := first | omega | rfl | (simp only [zL, two63, room] <;> omega) | fail) only [↓reduceIte, ↓zP, zW, WOp, evOp, evBin, binI, binSh, binS, evNil, keyIs, keyEq, mkv, AV.cells, AV.sc, optv, bnd, env, put, Env.get, Env.set, Env.del, Env.dels, Env.init, res1, resL, resV, fillP, splice, newRow, Nat.reduceEqDiff, Nat.reduceLT, Nat.reduceLeDiff, Nat.reduceAdd, Nat.reduceMul, Nat.reduceSub, Nat.reduceBEq, reduceCtorEq, ↓zR, zQ, Tr, StA, StT]
  exact hp _ ((Pre.push _ _).trans ((Pre.push _ _).trans (Pre.push _ _)))
theorem rep_flatM (n : Nat) : (List.replicate n [AV.int .i64 0, AV.int .i64 0]).flatten = (List.replicate n ((0, 0) : Mo)).flatMap encM := by
  induction n with
  | zero => rfl
  | succ n ih => rw [List.replicate_succ, List.replicate_succ, List.flatten_cons, List.flatMap_cons, ih]
theorem c_sMakeOnBoard (b : List UInt8) (hb : b.length < 2 ^ 30) (m : Mo) {g : AH} {post : AV → AH → Prop} (hp : ∀ g', Pre g g' → post (.tup [.str (plT b [m]), .bool (plA b [m])]) g') : S 326 [.str b, .agg (encM m)] g post k := by
  have hno : plA b [m] = false → ∀ g', Pre g g' → post (.tup [.str [], .bool false]) g' := fun e g' p => by
    have := hp g' p
    unfold plT at this
    rw [e] at this
    exact this
  have hpl : bPlay (bW b) (spl b).length (noB 47 b) [m] = if bCan (spl b).flatten (bW b) (spl b).length m then (madeB (spl b).flatten m.1.toNat m.2.toNat, 1) else ((spl b).flatten, 0) := by rw [nob_fl]; rfl
  have hA : plA b [m] = (boOK b && bCan (spl b).flatten (bW b) (spl b).length m) := by
    unfold plA plG plN
    rw [hpl]
    cases e : bCan (spl b).flatten (bW b) (spl b).length m <;> simp
  have pA := Pre.push g (AO.row (encM m) 0 0 false)
  have rA : rdRow (g ++ [AO.row (encM m) 0 0 false]) g.length 0 0 2 = some (encM m) := by simp (maxSteps := 1000000) (disch := first | omega | rfl | (simp only [zL, two63, room] <;> omega) | fail) only [↓reduceIte, ↓zP, zW, WOp, evOp, evBin, binI, binSh, binS, evNil, keyIs, keyEq, mkv, AV.cells, AV.sc, optv, bnd, env, put, Env.get, Env.set, Env.del, Env.dels, Env.init, res1, resL, resV, fillP, splice, newRow, Nat.reduceEqDiff, Nat.reduceLT, Nat.reduceLeDiff, Nat.reduceAdd, Nat.reduceMul, Nat.reduceSub, Nat.reduceBEq, reduceCtorEq, ↓zR, zQ, Tr, StA, StT]
  generalize hgA : g ++ [AO.row (encM m) 0 0 false] = gA at pA rA
  refine S_of rfl T326 ?_; unfold fi326
  simp (maxSteps := 1000000) (disch := first | omega | rfl | (simp only [zL, two63, room] <;> omega) | fail) only [↓reduceIte, ↓zP, zW, WOp, evOp, evBin, binI, binSh, binS, evNil, keyIs, keyEq, mkv, AV.cells, AV.sc, optv, bnd, env, put, Env.get, Env.set, Env.del, Env.dels, Env.init, res1, resL, resV, fillP, splice, newRow, Nat.reduceEqDiff, Nat.reduceLT, Nat.reduceLeDiff, Nat.reduceAdd, Nat.reduceMul, Nat.reduceSub, Nat.reduceBEq, reduceCtorEq, ↓zR, zQ, Tr, StA, StT, hgA]
  refine c_boRows b hb ?_ ?_
  · intro e v g1 ho p1
    have rB := rdRow_pre p1 rA
    simp (maxSteps := 1000000) (disch := first | omega | rfl | (simp only [zL, two63, room] <;> omega) | fail) only [↓reduceIte, ↓zP, zW, WOp, evOp, evBin, binI, binSh, binS, evNil, keyIs, keyEq, mkv, AV.cells, AV.sc, optv, bnd, env, put, Env.get, Env.set, Env.del, Env.dels, Env.init, res1, resL, resV, fillP, splice, newRow, Nat.reduceEqDiff, Nat.reduceLT, Nat.reduceLeDiff, Nat.reduceAdd, Nat.reduceMul, Nat.reduceSub, Nat.reduceBEq, reduceCtorEq, ↓zR, zQ, Tr, StA, StT, rB]
    have hd : Bd (spl b) (bW b) (spl b).length := boOK_bd e
    refine c_boCan hd m.1 m.2 ho.slc ?_
    intro g2 p2
    have rC := rdRow_pre p2 rB
    rw [e, Bool.true_and] at hA
    cases e2 : bCan (spl b).flatten (bW b) (spl b).length (m.1, m.2)
    · simp (maxSteps := 1000000) (disch := first | omega | rfl | (simp only [zL, two63, room] <;> omega) | fail) only [↓reduceIte, ↓zP, zW, WOp, evOp, evBin, binI, binSh, binS, evNil, keyIs, keyEq, mkv, AV.cells, AV.sc, optv, bnd, env, put, Env.get, Env.set, Env.del, Env.dels, Env.init, res1, resL, resV, fillP, splice, newRow, Nat.reduceEqDiff, Nat.reduceLT, Nat.reduceLeDiff, Nat.reduceAdd, Nat.reduceMul, Nat.reduceSub, Nat.reduceBEq, reduceCtorEq, ↓zR, zQ, Tr, StA, StT]
      exact hno (by rw [hA]; exact e2) g2 ((pA.trans p1).trans p2)
    · obtain ⟨f, t, hft, hf, ht, hne⟩ := bCan_rng hd e2
      obtain rfl : m = ((f : Int), (t : Int)) := hft
      obtain ⟨hb2, hfl2⟩ := hd.make hf ht hne
      simp (maxSteps := 1000000) (disch := first | omega | rfl | (simp only [zL, two63, room] <;> omega) | fail) only [↓reduceIte, ↓zP, zW, WOp, evOp, evBin, binI, binSh, binS, evNil, keyIs, keyEq, mkv, AV.cells, AV.sc, optv, bnd, env, put, Env.get, Env.set, Env.del, Env.dels, Env.init, res1, resL, resV, fillP, splice, newRow, Nat.reduceEqDiff, Nat.reduceLT, Nat.reduceLeDiff, Nat.reduceAdd, Nat.reduceMul, Nat.reduceSub, Nat.reduceBEq, reduceCtorEq, ↓zR, zQ, Tr, StA, StT, rC]
      refine c_boMake hd hf ht (ho.slc.pre p2) ?_
      intro v3 g3 ho3 p3
      simp (maxSteps := 1000000) (disch := first | omega | rfl | (simp only [zL, two63, room] <;> omega) | fail) only [↓reduceIte, ↓zP, zW, WOp, evOp, evBin, binI, binSh, binS, evNil, keyIs, keyEq, mkv, AV.cells, AV.sc, optv, bnd, env, put, Env.get, Env.set, Env.del, Env.dels, Env.init, res1, resL, resV, fillP, splice, newRow, Nat.reduceEqDiff, Nat.reduceLT, Nat.reduceLeDiff, Nat.reduceAdd, Nat.reduceMul, Nat.reduceSub, Nat.reduceBEq, reduceCtorEq, ↓zR, zQ, Tr, StA, StT]
      refine c_boText hb2 ho3.slc ?_
      have hq := hp g3 (((pA.trans p1).trans p2).trans p3)
      have hT : plT b [((f : Int), (t : Int))] = txB (rMake (bW b) (spl b) f t) := by
        unfold plT
        rw [hA, e2, if_pos rfl, hpl, if_pos e2]
        congr 1
        show rowsB _ _ (madeB (spl b).flatten (f : Int).toNat (t : Int).toNat) = _
        rw [Int.toNat_natCast, Int.toNat_natCast, ← hfl2]
        exact rowsB_eq hb2
      rw [hT, hA, e2] at hq
      simp (maxSteps := 1000000) (disch := first | omega | rfl | (simp only [zL, two63, room] <;> omega) | fail) only [↓reduceIte, ↓zP, zW, WOp, evOp, evBin, binI, binSh, binS, evNil, keyIs, keyEq, mkv, AV.cells, AV.sc, optv, bnd, env, put, Env.get, Env.set, Env.del, Env.dels, Env.init, res1, resL, resV, fillP, splice, newRow, Nat.reduceEqDiff, Nat.reduceLT, Nat.reduceLeDiff, Nat.reduceAdd, Nat.reduceMul, Nat.reduceSub, Nat.reduceBEq, reduceCtorEq, ↓zR, zQ, Tr, StA, StT]
      exact hq
  · intro e g1 p1
    rw [e] at hA
    simp (maxSteps := 1000000) (disch := first | omega | rfl | (simp only [zL, two63, room] <;> omega) | fail) only [↓reduceIte, ↓zP, zW, WOp, evOp, evBin, binI, binSh, binS, evNil, keyIs, keyEq, mkv, AV.cells, AV.sc, optv, bnd, env, put, Env.get, Env.set, Env.del, Env.dels, Env.init, res1, resL, resV, fillP, splice, newRow, Nat.reduceEqDiff, Nat.reduceLT, Nat.reduceLeDiff, Nat.reduceAdd, Nat.reduceMul, Nat.reduceSub, Nat.reduceBEq, reduceCtorEq, ↓zR, zQ, Tr, StA, StT]
    exact hno hA g1 (pA.trans p1)
theorem c_MakeOnBoard (b : List UInt8) (hb : b.length < 2 ^ 30) (m : Mo) {g : AH} {post : AV → AH → Prop} (hp : ∀ g', Pre g g' → post (.tup [.str (plT b [m]), .bool (plA b [m])]) g') : S 327 [.str b, .agg (encM m)] g post k := by
  have pA := Pre.push g (AO.row (encM m) 0 0 false)
  have rA : rdRow (g ++ [AO.row (encM m) 0 0 false]) g.length 0 0 2 = some (encM m) := by simp (maxSteps := 1000000) (disch := first | omega | rfl | (simp only [zL, two63, room] <;> omega) | fail) only [↓reduceIte, ↓zP, zW, WOp, evOp, evBin, binI, binSh, binS, evNil, keyIs, keyEq, mkv, AV.cells, AV.sc, optv, bnd, env, put, Env.get, Env.set, Env.del, Env.dels, Env.init, res1, resL, resV, fillP, splice, newRow, Nat.reduceEqDiff, Nat.reduceLT, Nat.reduceLeDiff, Nat.reduceAdd, Nat.reduceMul, Nat.reduceSub, Nat.reduceBEq, reduceCtorEq, ↓zR, zQ, Tr, StA, StT]
  generalize hgA : g ++ [AO.row (encM m) 0 0 false] = gA at pA rA
  refine S_of rfl T327 ?_; unfold fi327
  simp (maxSteps := 1000000) (disch := first | omega | rfl | (simp only [zL, two63, room] <;> omega) | fail) only [↓reduceIte, ↓zP, zW, WOp, evOp, evBin, binI, binSh, binS, evNil, keyIs, keyEq, mkv, AV.cells, AV.sc, optv, bnd, env, put, Env.get, Env.set, Env.del, Env.dels, Env.init, res1, resL, resV, fillP, splice, newRow, Nat.reduceEqDiff, Nat.reduceLT, Nat.reduceLeDiff, Nat.reduceAdd, Nat.reduceMul, Nat.reduceSub, Nat.reduceBEq, reduceCtorEq, ↓zR, zQ, Tr, StA, StT, hgA, rA]
  have hs : Slc 2 encM (gA ++ [AO.row [.int .i64 m.1, .int .i64 m.2] 0 0 false]) (.slice gA.length 0 0 1 2) [m] := by
    unfold Slc Sl
    refine ⟨rfl, rfl, rfl, ?_⟩
    exact rdRow_push _ _ _ rfl
  have pB := Pre.push gA (AO.row [.int .i64 m.1, .int .i64 m.2] 0 0 false)
  refine c_PlayOnBoard b hb (by simp) hs ?_
  intro g2 p2
  have hq := hp g2 ((pA.trans pB).trans p2)
  simp (maxSteps := 1000000) (disch := first | omega | rfl | (simp only [zL, two63, room] <;> omega) | fail) only [↓reduceIte, ↓zP, zW, WOp, evOp, evBin, binI, binSh, binS, evNil, keyIs, keyEq, mkv, AV.cells, AV.sc, optv, bnd, env, put, Env.get, Env.set, Env.del, Env.dels, Env.init, res1, resL, resV, fillP, splice, newRow, Nat.reduceEqDiff, Nat.reduceLT, Nat.reduceLeDiff, Nat.reduceAdd, Nat.reduceMul, Nat.reduceSub, Nat.reduceBEq, reduceCtorEq, ↓zR, zQ, Tr, StA, StT]
  exact hq
theorem law_MakeOnBoard (b : List UInt8) (m : Mo) (hl63 : b.length < 2 ^ 63) {h : AH} : S 324 [.str b, .agg (encM m)] h (fun r _ => r = .bool true) k := by
  have pA := Pre.push h (AO.row (encM m) 0 0 false)
  have rA : rdRow (h ++ [AO.row (encM m) 0 0 false]) h.length 0 0 2 = some (encM m) := by simp (maxSteps := 1000000) (disch := first | omega | rfl | (simp only [zL, two63, room] <;> omega) | fail) only [↓reduceIte, ↓zP, zW, WOp, evOp, evBin, binI, binSh, binS, evNil, keyIs, keyEq, mkv, AV.cells, AV.sc, optv, bnd, env, put, Env.get, Env.set, Env.del, Env.dels, Env.init, res1, resL, resV, fillP, splice, newRow, Nat.reduceEqDiff, Nat.reduceLT, Nat.reduceLeDiff, Nat.reduceAdd, Nat.reduceMul, Nat.reduceSub, Nat.reduceBEq, reduceCtorEq, ↓zR, zQ, Tr, StA, StT]
  generalize hgA : h ++ [AO.row (encM m) 0 0 false] = gA at pA rA
  refine S_of rfl T324 ?_; unfold fi324
  by_cases hl : (1048576 : Int) < (b.length : Int)
  · simp (maxSteps := 1000000) (disch := first | omega | rfl | (simp only [zL, two63, room] <;> omega) | fail) only [↓reduceIte, ↓zP, zW, WOp, evOp, evBin, binI, binSh, binS, evNil, keyIs, keyEq, mkv, AV.cells, AV.sc, optv, bnd, env, put, Env.get, Env.set, Env.del, Env.dels, Env.init, res1, resL, resV, fillP, splice, newRow, Nat.reduceEqDiff, Nat.reduceLT, Nat.reduceLeDiff, Nat.reduceAdd, Nat.reduceMul, Nat.reduceSub, Nat.reduceBEq, reduceCtorEq, ↓zR, zQ, Tr, StA, StT, hl]
  have hlen : b.length < 2 ^ 30 := by omega
  have cS := fun {h : AH} {post : AV → AH → Prop} => c_sMakeOnBoard b hlen m (g := h) (post := post)
  have cI := fun {h : AH} {post : AV → AH → Prop} => c_MakeOnBoard b hlen m (g := h) (post := post)
  generalize plT b [m] = A at cS cI
  generalize plA b [m] = B at cS cI
  simp (maxSteps := 1000000) (disch := first | omega | rfl | (simp only [zL, two63, room] <;> omega) | fail) only [↓reduceIte, ↓zP, zW, WOp, evOp, evBin, binI, binSh, binS, evNil, keyIs, keyEq, mkv, AV.cells, AV.sc, optv, bnd, env, put, Env.get, Env.set, Env.del, Env.dels, Env.init, res1, resL, resV, fillP, splice, newRow, Nat.reduceEqDiff, Nat.reduceLT, Nat.reduceLeDiff, Nat.reduceAdd, Nat.reduceMul, Nat.reduceSub, Nat.reduceBEq, reduceCtorEq, ↓zR, zQ, Tr, StA, StT, hl, hgA, rA]
  refine c_toMove m ?_
  intro h1 p1
  simp (maxSteps := 1000000) (disch := first | omega | rfl | (simp only [zL, two63, room] <;> omega) | fail) only [↓reduceIte, ↓zP, zW, WOp, evOp, evBin, binI, binSh, binS, evNil, keyIs, keyEq, mkv, AV.cells, AV.sc, optv, bnd, env, put, Env.get, Env.set, Env.del, Env.dels, Env.init, res1, resL, resV, fillP, splice, newRow, Nat.reduceEqDiff, Nat.reduceLT, Nat.reduceLeDiff, Nat.reduceAdd, Nat.reduceMul, Nat.reduceSub, Nat.reduceBEq, reduceCtorEq, ↓zR, zQ, Tr, StA, StT]
  refine cS ?_
  intro h2 p2
  have r2 := rdRow_pre p2 (rdRow_pre p1 rA)
  simp (maxSteps := 1000000) (disch := first | omega | rfl | (simp only [zL, two63, room] <;> omega) | fail) only [↓reduceIte, ↓zP, zW, WOp, evOp, evBin, binI, binSh, binS, evNil, keyIs, keyEq, mkv, AV.cells, AV.sc, optv, bnd, env, put, Env.get, Env.set, Env.del, Env.dels, Env.init, res1, resL, resV, fillP, splice, newRow, Nat.reduceEqDiff, Nat.reduceLT, Nat.reduceLeDiff, Nat.reduceAdd, Nat.reduceMul, Nat.reduceSub, Nat.reduceBEq, reduceCtorEq, ↓zR, zQ, Tr, StA, StT, r2]
  refine c_toMove m ?_
  intro h3 p3
  simp (maxSteps := 1000000) (disch := first | omega | rfl | (simp only [zL, two63, room] <;> omega) | fail) only [↓reduceIte, ↓zP, zW, WOp, evOp, evBin, binI, binSh, binS, evNil, keyIs, keyEq, mkv, AV.cells, AV.sc, optv, bnd, env, put, Env.get, Env.set, Env.del, Env.dels, Env.init, res1, resL, resV, fillP, splice, newRow, Nat.reduceEqDiff, Nat.reduceLT, Nat.reduceLeDiff, Nat.reduceAdd, Nat.reduceMul, Nat.reduceSub, Nat.reduceBEq, reduceCtorEq, ↓zR, zQ, Tr, StA, StT]
  refine cI ?_
  intro h4 p4
  cases B <;> simp (maxSteps := 1000000) (disch := first | omega | rfl | (simp only [zL, two63, room] <;> omega) | fail) only [↓reduceIte, ↓zP, zW, WOp, evOp, evBin, binI, binSh, binS, evNil, keyIs, keyEq, mkv, AV.cells, AV.sc, optv, bnd, env, put, Env.get, Env.set, Env.del, Env.dels, Env.init, res1, resL, resV, fillP, splice, newRow, Nat.reduceEqDiff, Nat.reduceLT, Nat.reduceLeDiff, Nat.reduceAdd, Nat.reduceMul, Nat.reduceSub, Nat.reduceBEq, reduceCtorEq, ↓zR, zQ, Tr, StA, StT]
end Go.Proofs.YtgdlaopjabjkbaaDoor.Ab

/- The law FnExactMakeOnBoard of the given program returns true, whatever the input: its tied card. Condition: what the row lists of package-level tables is laid as the program's text lays it. -/
namespace Go.Proofs.YtgdlaopjabjkbaaDoor.fnExactMakeOnBoard
open Go Go.ChangeShapes Go.WideShapes Go.ChangeAt Go.RowKit
set_option maxRecDepth 1000000

theorem own : ownKnob Tryd.prog.godebug = none := by kernel_rfl
theorem laidOut : laidOutB Tryd.prog = true := by kernel_rfl
theorem readable : ∀ t ∈ Tryd.f5.params.toList, Tryd.prog.readableRec t = true ∧ t < Tryd.prog.types.size := by
  rw [Tryd.params5]
  intro t ht
  simp only [List.mem_cons, List.not_mem_nil, or_false] at ht
  rcases ht with rfl | rfl
  · exact ⟨by kernel_rfl, of_decide_eq_true (by kernel_rfl)⟩
  · exact ⟨by kernel_rfl, of_decide_eq_true (by kernel_rfl)⟩
theorem contract (H : Type) (enc : TypeId × Value → H) (W : World) (base : Nat) (args : Array Value) (ds gs : List (DataW H)) (before : List MemPlace)
    (hval : ∀ (j : Nat) t v, Tryd.f5.params[j]? = some t → args[j]? = some v → Value.okWide Tryd.prog W .any base t v)
    (hW : DataW.Whole enc Tryd.prog Tryd.f5.params.toList Rows.fnExactMakeOnBoardSpec.vars false W args.toList ds gs before) :
    Calls Tryd.prog 5 args W fun e W' => ∃ v, e = .returned v ∧ Rows.fnExactMakeOnBoardSpec.post enc Tryd.prog Tryd.f5 false true false false W args v W' := by
  have hW' := hW
  obtain ⟨p, q, hA0, hV, rfl, hfz, hnd⟩ := hW
  obtain ⟨rfl, rfl⟩ := trodVars_none hV
  have hA : DataW.TrodAll enc Tryd.prog W 0 (fun _ => true) true Tryd.f5.params.toList args.toList ds p := hA0
  rw [Tryd.params5] at hA hval
  obtain ⟨v0, vs0, d0, ds0, p0, q0, hargs0, rfl, rfl, h0, r0⟩ := trodAll_cons hA
  obtain ⟨v1, vs1, d1, ds1, p1, q1, hargs1, rfl, rfl, h1, r1⟩ := trodAll_cons r0
  obtain ⟨rfl, rfl, rfl⟩ := trodAll_nil r1
  obtain rfl : args = #[v0, v1] := by cases args; simp_all
  obtain ⟨s0, hv0, hlen0⟩ := Ab.open_str Tryd.underlying9 (hval 0 9 v0 rfl rfl) h0
  obtain ⟨s1, hv1⟩ := Ab.open_move Tryd.underlying31 (by kernel_rfl) (by kernel_rfl) Tryd.underlying3 Tryd.underlying3 (hval 1 31 v1 rfl rfl) h1
  have hrel := Ab.rel_nothing Ab.F W
  generalize ([] : Ab.AH) = g at hrel
  generalize (⟨fun _ _ => none, fun _ => none⟩ : Ab.Emb) = m at hrel
  have hlaw := Ab.law_MakeOnBoard s0 s1 hlen0 (h := g)
  have hargs : Ab.RelL Ab.F m [.str s0, .agg (Ab.encM s1)] (#[v0, v1] : Array Value).toList := by
    simp only [Ab.RelL]
    exact ⟨v0, [v1], rfl, by simpa only [Ab.RelV] using hv0, v1, [], rfl, hv1 _ _, rfl⟩
  have hres : (Rows.fnExactMakeOnBoardSpec.fn H ([d0, d1] ++ [])).results = [.lit (.bool true)] := rfl
  have hback : (Rows.fnExactMakeOnBoardSpec.fn H ([d0, d1] ++ [])).args = [d0, d1] := rfl
  refine (Ab.law_calls (P := Tryd.prog) (F := Ab.F) Ab.all_sound (f := 324) (h := g) hlaw hrel hargs).mono ?_
  rintro e W' ⟨rfl, hb⟩
  refine ⟨_, rfl, Ab.post_below (pa := p0 ++ (p1 ++ [])) (pv := []) hW' (fun _ _ _ => ?_) (fun sp hsp => ?_) (fun _ _ => rfl) (by simp) hb (ok_one (by kernel_rfl) rfl (okWide_bool_mk Tryd.underlying4 _))⟩
  · rw [hres]
    exact trodAll_cons_mk (shut_bool Tryd.underlying4 _) trodAll_mk0
  · rw [hback]
    exact Ab.trodAll_stays laidOut hb readable hA0 (fun x hx => hW'.lt x (by simpa using hx)) (fun x hx => hsp x (by simpa using hx))

/-- A WORLD FOR THE WITNESS: the settled one, the tables holding what is laid. -/
def lits : List (DataW Unit) → List Value
  | [] => []
  | .lit (.int kd n) :: l => .int kd n :: lits l
  | _ :: l => lits l
def cellsT : DataW Unit → List Value
  | .agg l => l.flatMap fun
    | .lit (.int kd n) => [.int kd n]
    | .agg l' => lits l'
    | _ => []
  | _ => []
def setCells (cs : List Value) : Obj → Obj
  | .cells _ t frozen => .cells cs.toArray t frozen
  | o => o
noncomputable def laidWorld (os : Os) : World :=
  { World.holding Tryd.prog os ⟨#[], #[], []⟩ with heap := ((World.holding Tryd.prog os ⟨#[], #[], []⟩).heap.modify 1 (setCells (cellsT Rows.laid_unicode_utf8_first))).modify 2 (setCells (cellsT Rows.laid_unicode_utf8_acceptRanges)) }
theorem laid_met (os : Os) : laidMet Tryd.prog Rows.fnExactMakeOnBoardRow.laid ((laidWorld os).forCall (fun _ _ => 0) ⟨#[], #[.string ⟨#[]⟩, .agg #[.int .i64 0, .int .i64 0]], []⟩).memory :=
  laidMet_of_run' 8 (by kernel_rfl) (by kernel_rfl)
theorem reads (os : Os) {H : Type} (enc : TypeId × Value → H) : ∃ places, DataW.whole enc Tryd.prog ((laidWorld os).forCall (fun _ _ => 0) ⟨#[], #[.string ⟨#[]⟩, .agg #[.int .i64 0, .int .i64 0]], []⟩).memory Tryd.f5.params.toList Rows.fnExactMakeOnBoardSpec.vars false (#[.string ⟨#[]⟩, .agg #[.int .i64 0, .int .i64 0]] : Array Value).toList 8 = some ([.lit (.string []), .agg [.lit (.int .i64 0), .lit (.int .i64 0)]], [], places) :=
  ⟨[], by kernel_rfl⟩

theorem lifted (os : Os) (started : os.Started) (H : Type) (enc : TypeId × Value → H) (F : Stop.Interp) :
    ReturnsInHanded {} Tryd.checked os 5 .any ((OpenSpec.ofChange Rows.fnExactMakeOnBoardSpec).preRow enc Tryd.prog Tryd.f5 Rows.fnExactMakeOnBoardRow.domain false Rows.fnExactMakeOnBoardRow.laid) (((OpenSpec.ofChange Rows.fnExactMakeOnBoardSpec).at F).post enc Tryd.prog Tryd.f5 false true false false) := by
  obtain ⟨places, hx⟩ := reads os enc
  refine returnsInHanded_of_row (C := Tryd.checked) (s := OpenSpec.ofChange Rows.fnExactMakeOnBoardSpec) own started (by kernel_rfl) Tryd.func5
    (witness_row_at (enc := enc) (C := Tryd.checked) false (laidWorld os) #[.string ⟨#[]⟩, .agg #[.int .i64 0, .int .i64 0]] rfl (by kernel_rfl) (by kernel_rfl) (by kernel_rfl)
      (OpenSpec.preRow_of_cond 8 hx (by kernel_rfl) (fun k hk => by cases hk) (by kernel_rfl) (laid_met os))) ?_
  intro W base args ds gs before hval hW _ _ _ _ _ _
  exact contract H enc W base args ds gs before hval hW

theorem said : Rows.FnExactMakeOnBoardSaid :=
  OpenClaim.holds_of_cond 5 Tryd.f5 rfl rfl rfl rfl rfl rfl rfl ⟨rfl, rfl, rfl, rfl, rfl⟩ rfl rfl rfl rfl rfl (by kernel_rfl) Tryd.func5 (by kernel_rfl)
    (of_decide_eq_true (by kernel_rfl)) (by unfold Func.isWrapper; first | (rw [if_pos (by decide +kernel)]; kernel_rfl) | (rw [if_neg (by decide +kernel)]; exact ⟨rfl, rfl⟩))
    (fun os started H enc _ F => by rw [OpenClaim.pre_eq_preRow]; exact lifted os started H enc F)

/-- No parameter wants a stand-in; the program's own looks are off: what the card asks. -/
theorem plain (f : FuncId) (fn : Func) (hf : Tryd.pinned.checked.prog.funcNamed "loop.example/g01271/laws.FnExactMakeOnBoard" = some f) (hfn : Tryd.pinned.checked.prog.funcs[f]? = some fn) :
    false = Tryd.pinned.checked.prog.looks [] ∧ ∀ (j : Nat) t, fn.params[j]? = some t → Tryd.pinned.checked.prog.wantsStandIn t = false := by
  obtain rfl : f = 5 := Option.some.inj ((show Tryd.prog.funcNamed "loop.example/g01271/laws.FnExactMakeOnBoard" = some 5 by kernel_rfl).symm.trans hf) |>.symm
  obtain rfl : fn = Tryd.f5 := (Option.some.inj (Tryd.func5.symm.trans hfn)).symm
  refine ⟨by kernel_rfl, fun j t ht => ?_⟩
  rw [Tryd.params5] at ht
  have hm : t ∈ ([9, 31] : List Nat) := by
    have := Array.mem_of_getElem? ht
    simpa using this
  simp only [List.mem_cons, List.not_mem_nil, or_false] at hm
  rcases hm with rfl | rfl
  · exact (show Tryd.prog.wantsStandIn 9 = false by kernel_rfl)
  · exact (show Tryd.prog.wantsStandIn 31 = false by kernel_rfl)
theorem card : Rows.FnExactMakeOnBoardCardSaid :=
  Claim7.holds_tied_plain_at .later [] _ _ _ _ said (fun _ h => by cases h) (by kernel_rfl) (fun _ h => by cases h) fnExactMakeOnBoard_row_tie rfl ⟨rfl, rfl⟩ (by kernel_rfl) rfl plain (by kernel_rfl)
end Go.Proofs.YtgdlaopjabjkbaaDoor.fnExactMakeOnBoard
