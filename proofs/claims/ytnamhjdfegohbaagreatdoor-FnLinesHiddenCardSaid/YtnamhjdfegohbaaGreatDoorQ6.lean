/- The proof that the law FnLinesHidden of the given program returns true for every input; the condition: the tables that the row lists are laid as the program's text lays them. -/
import Derived.Test.YtnamhjdfegohbaaGreatDoorCards
import Derived.Test.YtnamhjdfegohbaaGreatDoorTie
import Derived.OpenShut
import Derived.Deep.DeepHandedRow
import Derived.Lib.LaidTab
import Derived.Test.YtnamhjdfegohbaaGreatDoorQ5
set_option linter.unusedSimpArgs false
set_option linter.unusedVariables false
/- WHAT THE LAW OF HIDDEN LINES draws. -/
namespace Go.Proofs.YtnamhjdfegohbaaGreatDoor.Ab
open Go
set_option maxRecDepth 100000
set_option maxHeartbeats 4000000

section
variable {cv : AV} {bs : List UInt8} {h : AH} {post : AV → AH → Prop}
theorem c_DrawMakePuzzle (hs : Slc 1 encU h cv bs) (hb : bs.length < 2 ^ 40) (hp : ∀ w (c s : Int) h', w.length ≤ 13 → Pre h h' → post (.tup [.str w, .int .i64 c, .int .i64 s]) h') : S 562 [cv] h post k := by
  refine S_of rfl T562 ?_; unfold fi562
  have hc := Cur.new hs hb
  rcases hs.cases with ⟨rfl, _⟩ | ⟨rfl, _⟩ | ⟨c, kk, off, rfl⟩
  all_goals
    clear hs
    simp (maxSteps := 1000000) (disch := first | omega | rfl | (simp only [zL, two63, room] <;> omega) | fail) only [↓reduceIte, ↓zP, zW, WOp, evOp, evBin, binI, binSh, binS, evNil, keyIs, keyEq, mkv, AV.cells, AV.sc, optv, bnd, env, put, Env.get, Env.set, Env.del, Env.dels, Env.init, res1, resL, resV, fillP, splice, newRow, Nat.reduceEqDiff, Nat.reduceLT, Nat.reduceLeDiff, Nat.reduceAdd, Nat.reduceMul, Nat.reduceSub, Nat.reduceBEq, reduceCtorEq, ↓zR, zQ, Tr, StA, StT]
    refine c_one hc (by omega) 12 (by omega) ?_
    intro o g1 hc1 _
    clear hc
    cases o
    · simp (maxSteps := 1000000) (disch := first | omega | rfl | (simp only [zL, two63, room] <;> omega) | fail) only [↓reduceIte, ↓zP, zW, WOp, evOp, evBin, binI, binSh, binS, evNil, keyIs, keyEq, mkv, AV.cells, AV.sc, optv, bnd, env, put, Env.get, Env.set, Env.del, Env.dels, Env.init, res1, resL, resV, fillP, splice, newRow, Nat.reduceEqDiff, Nat.reduceLT, Nat.reduceLeDiff, Nat.reduceAdd, Nat.reduceMul, Nat.reduceSub, Nat.reduceBEq, reduceCtorEq, ↓zR, zQ, Tr, StA, StT]
      refine c_sureLine hc1 6 (by omega) (by omega) (by omega) ?_
      intro w g2 hw1 hw6 _ hc2 _
      simp (maxSteps := 1000000) (disch := first | omega | rfl | (simp only [zL, two63, room] <;> omega) | fail) only [↓reduceIte, ↓zP, zW, WOp, evOp, evBin, binI, binSh, binS, evNil, keyIs, keyEq, mkv, AV.cells, AV.sc, optv, bnd, env, put, Env.get, Env.set, Env.del, Env.dels, Env.init, res1, resL, resV, fillP, splice, newRow, Nat.reduceEqDiff, Nat.reduceLT, Nat.reduceLeDiff, Nat.reduceAdd, Nat.reduceMul, Nat.reduceSub, Nat.reduceBEq, reduceCtorEq, ↓zR, zQ, Tr, StA, StT]
      refine c_pick hc2 (by omega) 7 (by omega) ?_
      intro x g3 _ hc3 _
      simp (maxSteps := 1000000) (disch := first | omega | rfl | (simp only [zL, two63, room] <;> omega) | fail) only [↓reduceIte, ↓zP, zW, WOp, evOp, evBin, binI, binSh, binS, evNil, keyIs, keyEq, mkv, AV.cells, AV.sc, optv, bnd, env, put, Env.get, Env.set, Env.del, Env.dels, Env.init, res1, resL, resV, fillP, splice, newRow, Nat.reduceEqDiff, Nat.reduceLT, Nat.reduceLeDiff, Nat.reduceAdd, Nat.reduceMul, Nat.reduceSub, Nat.reduceBEq, reduceCtorEq, ↓zR, zQ, Tr, StA, StT]
      refine c_pick hc3 (by omega) 10000 (by omega) ?_
      intro y g4 _ hc4 _
      simp (maxSteps := 1000000) (disch := first | omega | rfl | (simp only [zL, two63, room] <;> omega) | fail) only [↓reduceIte, ↓zP, zW, WOp, evOp, evBin, binI, binSh, binS, evNil, keyIs, keyEq, mkv, AV.cells, AV.sc, optv, bnd, env, put, Env.get, Env.set, Env.del, Env.dels, Env.init, res1, resL, resV, fillP, splice, newRow, Nat.reduceEqDiff, Nat.reduceLT, Nat.reduceLeDiff, Nat.reduceAdd, Nat.reduceMul, Nat.reduceSub, Nat.reduceBEq, reduceCtorEq, ↓zR, zQ, Tr, StA, StT]
      exact hp w x y g4 (by omega) hc4.done
    · simp (maxSteps := 1000000) (disch := first | omega | rfl | (simp only [zL, two63, room] <;> omega) | fail) only [↓reduceIte, ↓zP, zW, WOp, evOp, evBin, binI, binSh, binS, evNil, keyIs, keyEq, mkv, AV.cells, AV.sc, optv, bnd, env, put, Env.get, Env.set, Env.del, Env.dels, Env.init, res1, resL, resV, fillP, splice, newRow, Nat.reduceEqDiff, Nat.reduceLT, Nat.reduceLeDiff, Nat.reduceAdd, Nat.reduceMul, Nat.reduceSub, Nat.reduceBEq, reduceCtorEq, ↓zR, zQ, Tr, StA, StT]
      refine c_line hc1 (by omega) ?_
      intro w g2 hw hc2 _
      simp (maxSteps := 1000000) (disch := first | omega | rfl | (simp only [zL, two63, room] <;> omega) | fail) only [↓reduceIte, ↓zP, zW, WOp, evOp, evBin, binI, binSh, binS, evNil, keyIs, keyEq, mkv, AV.cells, AV.sc, optv, bnd, env, put, Env.get, Env.set, Env.del, Env.dels, Env.init, res1, resL, resV, fillP, splice, newRow, Nat.reduceEqDiff, Nat.reduceLT, Nat.reduceLeDiff, Nat.reduceAdd, Nat.reduceMul, Nat.reduceSub, Nat.reduceBEq, reduceCtorEq, ↓zR, zQ, Tr, StA, StT]
      refine c_among (hc2.pre (Pre.push _ _)) (by omega) (slc_litI g2 [-1, 6, 7]) (fun r hr => by cases hr; have := hc2.lt; omega) (by simp) (by simp) ?_
      intro x _ g3 hc3 _
      simp (maxSteps := 1000000) (disch := first | omega | rfl | (simp only [zL, two63, room] <;> omega) | fail) only [↓reduceIte, ↓zP, zW, WOp, evOp, evBin, binI, binSh, binS, evNil, keyIs, keyEq, mkv, AV.cells, AV.sc, optv, bnd, env, put, Env.get, Env.set, Env.del, Env.dels, Env.init, res1, resL, resV, fillP, splice, newRow, Nat.reduceEqDiff, Nat.reduceLT, Nat.reduceLeDiff, Nat.reduceAdd, Nat.reduceMul, Nat.reduceSub, Nat.reduceBEq, reduceCtorEq, ↓zR, zQ, Tr, StA, StT]
      refine c_among (hc3.pre (Pre.push _ _)) (by omega) (slc_litI g3 [-1, 9999, 10000]) (fun r hr => by cases hr; have := hc3.lt; omega) (by simp) (by simp) ?_
      intro y _ g4 hc4 _
      simp (maxSteps := 1000000) (disch := first | omega | rfl | (simp only [zL, two63, room] <;> omega) | fail) only [↓reduceIte, ↓zP, zW, WOp, evOp, evBin, binI, binSh, binS, evNil, keyIs, keyEq, mkv, AV.cells, AV.sc, optv, bnd, env, put, Env.get, Env.set, Env.del, Env.dels, Env.init, res1, resL, resV, fillP, splice, newRow, Nat.reduceEqDiff, Nat.reduceLT, Nat.reduceLeDiff, Nat.reduceAdd, Nat.reduceMul, Nat.reduceSub, Nat.reduceBEq, reduceCtorEq, ↓zR, zQ, Tr, StA, StT]
      exact hp w x y g4 hw hc4.done
/-- Where a drawn puzzle is put. -/
theorem wr_pz {h g : AH} {n : Int} {v : AV} (hz : g[h.length]? = some (.row [.int .i64 0, .nilS] 0 0 false)) (hv : v.sc = true) : wrRow g h.length 0 0 [.int .i64 n, v] = some (g.set h.length (.row [.int .i64 n, v] 0 0 false)) ∧ rdRow (g.set h.length (.row [.int .i64 n, v] 0 0 false)) h.length 0 0 2 = some [.int .i64 n, v] := by
  have l := (List.getElem?_eq_some_iff.1 hz).1
  exact ⟨by simp [wrRow, hz, splice, AV.sc]; unfold AV.sc at hv; exact hv, (row2f (by rw [List.getElem?_set, if_pos rfl, if_pos l])).2.2⟩
theorem wr_cl {g : AH} {r : Nat} {c : Clu} (hz : g[r]? = some (.row [.int .i64 0, .int .i64 0, .int .i64 0] 0 0 false)) : wrRow g r 0 0 (encC c) = some (g.set r (.row (encC c) 0 0 false)) ∧ rdRow (g.set r (.row (encC c) 0 0 false)) r 0 0 3 = some (encC c) := by
  have l := (List.getElem?_eq_some_iff.1 hz).1
  refine ⟨by simp [wrRow, hz, splice, AV.sc], ?_⟩
  have hg : (g.set r (AO.row (encC c) 0 0 false))[r]? = some (.row (encC c) 0 0 false) := by rw [List.getElem?_set, if_pos rfl, if_pos l]
  simp [rdRow, hg]
theorem rd_sne {h : AH} {c q k off n : Nat} {o : AO} {cs : List AV} (hn : c ≠ q) (hr : rdRow h c k off n = some cs) : rdRow (h.set q o) c k off n = some cs := by
  unfold rdRow at hr ⊢
  rw [List.getElem?_set, if_neg (Ne.symm hn)]
  exact hr
theorem c_DrawAddClue (hs : Slc 1 encU h cv bs) (hb : bs.length < 2 ^ 40) (hp : ∀ (n : Int) v (L : List Clu) (c : Clu) h', L.length ≤ 10 → Slc 3 encC h' v L → Pre h h' → post (.tup [pzV n v, .agg (encC c)]) h') : S 564 [cv] h post k := by
  have P1 := Pre.push h (AO.row [.int .i64 0, .nilS] 0 0 false)
  have z1 := zrow h (AO.row [.int .i64 0, .nilS] 0 0 false)
  have l1 : h.length < (h ++ [AO.row [.int .i64 0, .nilS] 0 0 false]).length := by simp
  generalize hg1 : h ++ [AO.row [.int .i64 0, .nilS] 0 0 false] = g1 at *
  have P2 := Pre.push g1 (AO.row [.int .i64 0, .int .i64 0, .int .i64 0] 0 0 false)
  have z2 := zrow g1 (AO.row [.int .i64 0, .int .i64 0, .int .i64 0] 0 0 false)
  have l2 : g1.length < (g1 ++ [AO.row [.int .i64 0, .int .i64 0, .int .i64 0] 0 0 false]).length := by simp
  generalize hg2 : g1 ++ [AO.row [.int .i64 0, .int .i64 0, .int .i64 0] 0 0 false] = g2 at *
  have y2 : g2[h.length]? = some (AO.row [.int .i64 0, .nilS] 0 0 false) := by rw [P2.2 _ l1]; exact z1
  have hs2 := hs.pre (P1.trans P2)
  have hc := Cur.new hs2 hb
  refine S_of rfl T564 ?_; unfold fi564
  rcases hs.cases with ⟨rfl, _⟩ | ⟨rfl, _⟩ | ⟨c, kk, off, rfl⟩
  all_goals
    clear hs hs2
    simp (maxSteps := 1000000) (disch := first | omega | rfl | (simp only [zL, two63, room] <;> omega) | fail) only [↓reduceIte, ↓zP, zW, WOp, evOp, evBin, binI, binSh, binS, evNil, keyIs, keyEq, mkv, AV.cells, AV.sc, optv, bnd, env, put, Env.get, Env.set, Env.del, Env.dels, Env.init, res1, resL, resV, fillP, splice, newRow, Nat.reduceEqDiff, Nat.reduceLT, Nat.reduceLeDiff, Nat.reduceAdd, Nat.reduceMul, Nat.reduceSub, Nat.reduceBEq, reduceCtorEq, ↓zR, zQ, Tr, StA, StT, hg1, hg2]
    refine c_puzzle hc (by omega) ?_
    intro n v L g3 hL o3 hc3 _
    simp (maxSteps := 1000000) (disch := first | omega | rfl | (simp only [zL, two63, room] <;> omega) | fail) only [↓reduceIte, ↓zP, zW, WOp, evOp, evBin, binI, binSh, binS, evNil, keyIs, keyEq, mkv, AV.cells, AV.sc, optv, bnd, env, put, Env.get, Env.set, Env.del, Env.dels, Env.init, res1, resL, resV, fillP, splice, newRow, Nat.reduceEqDiff, Nat.reduceLT, Nat.reduceLeDiff, Nat.reduceAdd, Nat.reduceMul, Nat.reduceSub, Nat.reduceBEq, reduceCtorEq, ↓zR, zQ, Tr, StA, StT]
    refine c_clue hc3 (by omega) ?_
    intro c g4 hc4 p4
    have P24 := hc4.done
    have y4 : g4[h.length]? = some (AO.row [.int .i64 0, .nilS] 0 0 false) := by rw [P24.2 _ (by omega)]; exact y2
    have z4 : g4[g1.length]? = some (AO.row [.int .i64 0, .int .i64 0, .int .i64 0] 0 0 false) := by rw [P24.2 _ l2]; exact z2
    have w1 := (sl_cells o3.slc).1
    have w2 := (sl_cells o3.slc).2
    obtain ⟨a1, a2⟩ := wr_pz (n := n) y4 w2
    have z4' : (g4.set h.length (AO.row [.int .i64 n, v] 0 0 false))[g1.length]? = some (AO.row [.int .i64 0, .int .i64 0, .int .i64 0] 0 0 false) := by rw [List.getElem?_set, if_neg (by omega)]; exact z4
    obtain ⟨b1, b2⟩ := wr_cl (c := c) z4'
    have a3 := rd_sne (q := g1.length) (o := AO.row (encC c) 0 0 false) (by omega : h.length ≠ g1.length) a2
    simp only [AV.cells] at w1
    unfold AV.sc at w2
    simp (maxSteps := 1000000) (disch := first | omega | rfl | (simp only [zL, two63, room] <;> omega) | fail) only [↓reduceIte, ↓zP, zW, WOp, evOp, evBin, binI, binSh, binS, evNil, keyIs, keyEq, mkv, AV.cells, AV.sc, optv, bnd, env, put, Env.get, Env.set, Env.del, Env.dels, Env.init, res1, resL, resV, fillP, splice, newRow, Nat.reduceEqDiff, Nat.reduceLT, Nat.reduceLeDiff, Nat.reduceAdd, Nat.reduceMul, Nat.reduceSub, Nat.reduceBEq, reduceCtorEq, ↓zR, zQ, Tr, StA, StT, w1, w2, a1, b1, b2, a3]
    have lb := hc.lt
    refine hp n v L c _ hL ?_ ((((P1.trans P2).trans P24).set (Nat.le_refl _)).set (by omega))
    exact OwL.slc (own_set (own_set (own_prex o3 (by simp) p4) (by simp; omega)) (by simp; omega))
theorem c_DrawDropClue (hs : Slc 1 encU h cv bs) (hb : bs.length < 2 ^ 40) (hp : ∀ (n : Int) v (L : List Clu) (j : Int) h', L.length ≤ 10 → Slc 3 encC h' v L → Pre h h' → post (.tup [pzV n v, .int .i64 j]) h') : S 565 [cv] h post k := by
  have P1 := Pre.push h (AO.row [.int .i64 0, .nilS] 0 0 false)
  have z1 := zrow h (AO.row [.int .i64 0, .nilS] 0 0 false)
  have l1 : h.length < (h ++ [AO.row [.int .i64 0, .nilS] 0 0 false]).length := by simp
  generalize hg1 : h ++ [AO.row [.int .i64 0, .nilS] 0 0 false] = g1 at *
  have hs2 := hs.pre P1
  have hc := Cur.new hs2 hb
  have n8 : ¬ ((8 : Int) = 0) := by omega
  refine S_of rfl T565 ?_; unfold fi565
  rcases hs.cases with ⟨rfl, _⟩ | ⟨rfl, _⟩ | ⟨c, kk, off, rfl⟩
  all_goals
    clear hs hs2
    simp (maxSteps := 1000000) (disch := first | omega | rfl | (simp only [zL, two63, room] <;> omega) | fail) only [↓reduceIte, ↓zP, zW, WOp, evOp, evBin, binI, binSh, binS, evNil, keyIs, keyEq, mkv, AV.cells, AV.sc, optv, bnd, env, put, Env.get, Env.set, Env.del, Env.dels, Env.init, res1, resL, resV, fillP, splice, newRow, Nat.reduceEqDiff, Nat.reduceLT, Nat.reduceLeDiff, Nat.reduceAdd, Nat.reduceMul, Nat.reduceSub, Nat.reduceBEq, reduceCtorEq, ↓zR, zQ, Tr, StA, StT, hg1]
    refine c_puzzle hc (by omega) ?_
    intro n v L g3 hL o3 hc3 _
    simp (maxSteps := 1000000) (disch := first | omega | rfl | (simp only [zL, two63, room] <;> omega) | fail) only [↓reduceIte, ↓zP, zW, WOp, evOp, evBin, binI, binSh, binS, evNil, keyIs, keyEq, mkv, AV.cells, AV.sc, optv, bnd, env, put, Env.get, Env.set, Env.del, Env.dels, Env.init, res1, resL, resV, fillP, splice, newRow, Nat.reduceEqDiff, Nat.reduceLT, Nat.reduceLeDiff, Nat.reduceAdd, Nat.reduceMul, Nat.reduceSub, Nat.reduceBEq, reduceCtorEq, ↓zR, zQ, Tr, StA, StT]
    refine c_pick hc3 (by omega) 6 (by omega) ?_
    intro x g4 _ hc4 p4
    simp (maxSteps := 1000000) (disch := first | omega | rfl | (simp only [zL, two63, room] <;> omega) | fail) only [↓reduceIte, ↓zP, zW, WOp, evOp, evBin, binI, binSh, binS, evNil, keyIs, keyEq, mkv, AV.cells, AV.sc, optv, bnd, env, put, Env.get, Env.set, Env.del, Env.dels, Env.init, res1, resL, resV, fillP, splice, newRow, Nat.reduceEqDiff, Nat.reduceLT, Nat.reduceLeDiff, Nat.reduceAdd, Nat.reduceMul, Nat.reduceSub, Nat.reduceBEq, reduceCtorEq, ↓zR, zQ, Tr, StA, StT]
    refine c_pick hc4 (by omega) 9 (by omega) ?_
    intro y g5 _ hc5 p5
    have P24 := hc5.done
    have y4 : g5[h.length]? = some (AO.row [.int .i64 0, .nilS] 0 0 false) := by rw [P24.2 _ l1]; exact z1
    have w1 := (sl_cells o3.slc).1
    have w2 := (sl_cells o3.slc).2
    obtain ⟨a1, a2⟩ := wr_pz (n := n) y4 w2
    simp only [AV.cells] at w1
    unfold AV.sc at w2
    simp (maxSteps := 1000000) (disch := first | omega | rfl | (simp only [zL, two63, room] <;> omega) | fail) only [↓reduceIte, ↓zP, zW, WOp, evOp, evBin, binI, binSh, binS, evNil, keyIs, keyEq, mkv, AV.cells, AV.sc, optv, bnd, env, put, Env.get, Env.set, Env.del, Env.dels, Env.init, res1, resL, resV, fillP, splice, newRow, Nat.reduceEqDiff, Nat.reduceLT, Nat.reduceLeDiff, Nat.reduceAdd, Nat.reduceMul, Nat.reduceSub, Nat.reduceBEq, reduceCtorEq, ↓zR, zQ, Tr, StA, StT, n8, w1, w2, a1, a2]
    have lb := hc.lt
    refine hp n v L _ _ hL ?_ ((P1.trans P24).set (Nat.le_refl _))
    exact OwL.slc (own_set (own_prex o3 (by simp) (p4.trans p5)) (by simp; omega))
theorem c_DrawIsClue (hs : Slc 1 encU h cv bs) (hb : bs.length < 2 ^ 40) (hp : ∀ (n : Int) (c : Clu) h', Pre h h' → post (.tup [.int .i64 n, .agg (encC c)]) h') : S 567 [cv] h post k := by
  have P1 := Pre.push h (AO.row [.int .i64 0, .int .i64 0, .int .i64 0] 0 0 false)
  have z1 := zrow h (AO.row [.int .i64 0, .int .i64 0, .int .i64 0] 0 0 false)
  have l1 : h.length < (h ++ [AO.row [.int .i64 0, .int .i64 0, .int .i64 0] 0 0 false]).length := by simp
  generalize hg1 : h ++ [AO.row [.int .i64 0, .int .i64 0, .int .i64 0] 0 0 false] = g1 at *
  have hs2 := hs.pre P1
  have hc := Cur.new hs2 hb
  have n8 : ¬ ((8 : Int) = 0) := by omega
  have fin : ∀ (c : Clu) g, Pre g1 g → wrRow g h.length 0 0 (encC c) = some (g.set h.length (.row (encC c) 0 0 false)) ∧ rdRow (g.set h.length (.row (encC c) 0 0 false)) h.length 0 0 3 = some (encC c) ∧ Pre h (g.set h.length (.row (encC c) 0 0 false)) := by
    intro c g hp
    obtain ⟨a1, a2⟩ := wr_cl (c := c) (g := g) (r := h.length) (by rw [hp.2 _ l1]; exact z1)
    exact ⟨a1, a2, (P1.trans hp).set (Nat.le_refl _)⟩
  refine S_of rfl T567 ?_; unfold fi567
  rcases hs.cases with ⟨rfl, _⟩ | ⟨rfl, _⟩ | ⟨c, kk, off, rfl⟩
  all_goals
    clear hs hs2
    simp (maxSteps := 1000000) (disch := first | omega | rfl | (simp only [zL, two63, room] <;> omega) | fail) only [↓reduceIte, ↓zP, zW, WOp, evOp, evBin, binI, binSh, binS, evNil, keyIs, keyEq, mkv, AV.cells, AV.sc, optv, bnd, env, put, Env.get, Env.set, Env.del, Env.dels, Env.init, res1, resL, resV, fillP, splice, newRow, Nat.reduceEqDiff, Nat.reduceLT, Nat.reduceLeDiff, Nat.reduceAdd, Nat.reduceMul, Nat.reduceSub, Nat.reduceBEq, reduceCtorEq, ↓zR, zQ, Tr, StA, StT, hg1]
    refine c_one hc (by omega) 8 (by omega) ?_
    intro o g2 hc2 _
    clear hc
    cases o
    · simp (maxSteps := 1000000) (disch := first | omega | rfl | (simp only [zL, two63, room] <;> omega) | fail) only [↓reduceIte, ↓zP, zW, WOp, evOp, evBin, binI, binSh, binS, evNil, keyIs, keyEq, mkv, AV.cells, AV.sc, optv, bnd, env, put, Env.get, Env.set, Env.del, Env.dels, Env.init, res1, resL, resV, fillP, splice, newRow, Nat.reduceEqDiff, Nat.reduceLT, Nat.reduceLeDiff, Nat.reduceAdd, Nat.reduceMul, Nat.reduceSub, Nat.reduceBEq, reduceCtorEq, ↓zR, zQ, Tr, StA, StT]
      refine c_pick hc2 (by omega) 5 (by omega) ?_
      intro x g3 _ hc3 _
      simp (maxSteps := 1000000) (disch := first | omega | rfl | (simp only [zL, two63, room] <;> omega) | fail) only [↓reduceIte, ↓zP, zW, WOp, evOp, evBin, binI, binSh, binS, evNil, keyIs, keyEq, mkv, AV.cells, AV.sc, optv, bnd, env, put, Env.get, Env.set, Env.del, Env.dels, Env.init, res1, resL, resV, fillP, splice, newRow, Nat.reduceEqDiff, Nat.reduceLT, Nat.reduceLeDiff, Nat.reduceAdd, Nat.reduceMul, Nat.reduceSub, Nat.reduceBEq, reduceCtorEq, ↓zR, zQ, Tr, StA, StT]
      refine c_clue hc3 (by omega) ?_
      intro c g4 hc4 _
      obtain ⟨a1, a2, a3⟩ := fin c g4 hc4.done
      simp (maxSteps := 1000000) (disch := first | omega | rfl | (simp only [zL, two63, room] <;> omega) | fail) only [↓reduceIte, ↓zP, zW, WOp, evOp, evBin, binI, binSh, binS, evNil, keyIs, keyEq, mkv, AV.cells, AV.sc, optv, bnd, env, put, Env.get, Env.set, Env.del, Env.dels, Env.init, res1, resL, resV, fillP, splice, newRow, Nat.reduceEqDiff, Nat.reduceLT, Nat.reduceLeDiff, Nat.reduceAdd, Nat.reduceMul, Nat.reduceSub, Nat.reduceBEq, reduceCtorEq, ↓zR, zQ, Tr, StA, StT, a1, a2]
      exact hp _ c _ a3
    · simp (maxSteps := 1000000) (disch := first | omega | rfl | (simp only [zL, two63, room] <;> omega) | fail) only [↓reduceIte, ↓zP, zW, WOp, evOp, evBin, binI, binSh, binS, evNil, keyIs, keyEq, mkv, AV.cells, AV.sc, optv, bnd, env, put, Env.get, Env.set, Env.del, Env.dels, Env.init, res1, resL, resV, fillP, splice, newRow, Nat.reduceEqDiff, Nat.reduceLT, Nat.reduceLeDiff, Nat.reduceAdd, Nat.reduceMul, Nat.reduceSub, Nat.reduceBEq, reduceCtorEq, ↓zR, zQ, Tr, StA, StT]
      refine c_among (hc2.pre (Pre.push _ _)) (by omega) (slc_litI g2 [0, 1, 5, 6, -1]) (fun r hr => by cases hr; have := hc2.lt; omega) (by simp) (by simp) ?_
      intro x _ g3 hc3 _
      simp (maxSteps := 1000000) (disch := first | omega | rfl | (simp only [zL, two63, room] <;> omega) | fail) only [↓reduceIte, ↓zP, zW, WOp, evOp, evBin, binI, binSh, binS, evNil, keyIs, keyEq, mkv, AV.cells, AV.sc, optv, bnd, env, put, Env.get, Env.set, Env.del, Env.dels, Env.init, res1, resL, resV, fillP, splice, newRow, Nat.reduceEqDiff, Nat.reduceLT, Nat.reduceLeDiff, Nat.reduceAdd, Nat.reduceMul, Nat.reduceSub, Nat.reduceBEq, reduceCtorEq, ↓zR, zQ, Tr, StA, StT]
      refine c_pick hc3 (by omega) 7 (by omega) ?_
      intro y1 g4 _ hc4 _
      simp (maxSteps := 1000000) (disch := first | omega | rfl | (simp only [zL, two63, room] <;> omega) | fail) only [↓reduceIte, ↓zP, zW, WOp, evOp, evBin, binI, binSh, binS, evNil, keyIs, keyEq, mkv, AV.cells, AV.sc, optv, bnd, env, put, Env.get, Env.set, Env.del, Env.dels, Env.init, res1, resL, resV, fillP, splice, newRow, Nat.reduceEqDiff, Nat.reduceLT, Nat.reduceLeDiff, Nat.reduceAdd, Nat.reduceMul, Nat.reduceSub, Nat.reduceBEq, reduceCtorEq, ↓zR, zQ, Tr, StA, StT]
      refine c_pick hc4 (by omega) 9 (by omega) ?_
      intro y2 g5 _ hc5 _
      simp (maxSteps := 1000000) (disch := first | omega | rfl | (simp only [zL, two63, room] <;> omega) | fail) only [↓reduceIte, ↓zP, zW, WOp, evOp, evBin, binI, binSh, binS, evNil, keyIs, keyEq, mkv, AV.cells, AV.sc, optv, bnd, env, put, Env.get, Env.set, Env.del, Env.dels, Env.init, res1, resL, resV, fillP, splice, newRow, Nat.reduceEqDiff, Nat.reduceLT, Nat.reduceLeDiff, Nat.reduceAdd, Nat.reduceMul, Nat.reduceSub, Nat.reduceBEq, reduceCtorEq, ↓zR, zQ, Tr, StA, StT, n8]
      refine c_among (hc5.pre (Pre.push _ _)) (by omega) (slc_litI g5 [-1, 0, 4, 5, 10, 11, 4611686018427387904]) (fun r hr => by cases hr; have := hc5.lt; omega) (by simp) (by simp) ?_
      intro z g6 g7 hc7 _
      simp (maxSteps := 1000000) (disch := first | omega | rfl | (simp only [zL, two63, room] <;> omega) | fail) only [↓reduceIte, ↓zP, zW, WOp, evOp, evBin, binI, binSh, binS, evNil, keyIs, keyEq, mkv, AV.cells, AV.sc, optv, bnd, env, put, Env.get, Env.set, Env.del, Env.dels, Env.init, res1, resL, resV, fillP, splice, newRow, Nat.reduceEqDiff, Nat.reduceLT, Nat.reduceLeDiff, Nat.reduceAdd, Nat.reduceMul, Nat.reduceSub, Nat.reduceBEq, reduceCtorEq, ↓zR, zQ, Tr, StA, StT]
      refine c_among (hc7.pre (Pre.push _ _)) (by omega) (slc_litI g7 [-1, 0, 2, 3]) (fun r hr => by cases hr; have := hc7.lt; omega) (by simp) (by simp) ?_
      intro u _ g8 hc8 _
      generalize IntKind.i64.wrap ((y1 : Int) - IntKind.i64.wrap ((y2 : Int).tdiv 8)) = A
      obtain ⟨a1, a2, a3⟩ := fin (A, z, u) g8 hc8.done
      simp (maxSteps := 1000000) (disch := first | omega | rfl | (simp only [zL, two63, room] <;> omega) | fail) only [↓reduceIte, ↓zP, zW, WOp, evOp, evBin, binI, binSh, binS, evNil, keyIs, keyEq, mkv, AV.cells, AV.sc, optv, bnd, env, put, Env.get, Env.set, Env.del, Env.dels, Env.init, res1, resL, resV, fillP, splice, newRow, Nat.reduceEqDiff, Nat.reduceLT, Nat.reduceLeDiff, Nat.reduceAdd, Nat.reduceMul, Nat.reduceSub, Nat.reduceBEq, reduceCtorEq, ↓zR, zQ, Tr, StA, StT, a1, a2]
      exact hp x (A, z, u) _ a3
theorem c_DrawDoesFit (hs : Slc 1 encU h cv bs) (hb : bs.length < 2 ^ 40) (hp : ∀ (c : Clu) w h', w.length ≤ 13 → Pre h h' → post (.tup [.agg (encC c), .str w]) h') : S 566 [cv] h post k := by
  have P1 := Pre.push h (AO.row [.int .i64 0, .int .i64 0, .int .i64 0] 0 0 false)
  have z1 := zrow h (AO.row [.int .i64 0, .int .i64 0, .int .i64 0] 0 0 false)
  have l1 : h.length < (h ++ [AO.row [.int .i64 0, .int .i64 0, .int .i64 0] 0 0 false]).length := by simp
  generalize hg1 : h ++ [AO.row [.int .i64 0, .int .i64 0, .int .i64 0] 0 0 false] = g1 at *
  have hs2 := hs.pre P1
  have hc := Cur.new hs2 hb
  have fin : ∀ (c : Clu) g, Pre g1 g → wrRow g h.length 0 0 (encC c) = some (g.set h.length (.row (encC c) 0 0 false)) ∧ rdRow (g.set h.length (.row (encC c) 0 0 false)) h.length 0 0 3 = some (encC c) ∧ Pre h (g.set h.length (.row (encC c) 0 0 false)) := by
    intro c g hp
    obtain ⟨a1, a2⟩ := wr_cl (c := c) (g := g) (r := h.length) (by rw [hp.2 _ l1]; exact z1)
    exact ⟨a1, a2, (P1.trans hp).set (Nat.le_refl _)⟩
  refine S_of rfl T566 ?_; unfold fi566
  rcases hs.cases with ⟨rfl, _⟩ | ⟨rfl, _⟩ | ⟨c, kk, off, rfl⟩
  all_goals
    clear hs hs2
    simp (maxSteps := 1000000) (disch := first | omega | rfl | (simp only [zL, two63, room] <;> omega) | fail) only [↓reduceIte, ↓zP, zW, WOp, evOp, evBin, binI, binSh, binS, evNil, keyIs, keyEq, mkv, AV.cells, AV.sc, optv, bnd, env, put, Env.get, Env.set, Env.del, Env.dels, Env.init, res1, resL, resV, fillP, splice, newRow, Nat.reduceEqDiff, Nat.reduceLT, Nat.reduceLeDiff, Nat.reduceAdd, Nat.reduceMul, Nat.reduceSub, Nat.reduceBEq, reduceCtorEq, ↓zR, zQ, Tr, StA, StT, hg1]
    refine c_sureLine hc 6 (by omega) (by omega) (by omega) ?_
    intro w g2 hw1 hw6 _ hc2 _
    simp (maxSteps := 1000000) (disch := first | omega | rfl | (simp only [zL, two63, room] <;> omega) | fail) only [↓reduceIte, ↓zP, zW, WOp, evOp, evBin, binI, binSh, binS, evNil, keyIs, keyEq, mkv, AV.cells, AV.sc, optv, bnd, env, put, Env.get, Env.set, Env.del, Env.dels, Env.init, res1, resL, resV, fillP, splice, newRow, Nat.reduceEqDiff, Nat.reduceLT, Nat.reduceLeDiff, Nat.reduceAdd, Nat.reduceMul, Nat.reduceSub, Nat.reduceBEq, reduceCtorEq, ↓zR, zQ, Tr, StA, StT]
    refine c_pick hc2 (by omega) 10000 (by omega) ?_
    intro x g3 _ hc3 _
    simp (maxSteps := 1000000) (disch := first | omega | rfl | (simp only [zL, two63, room] <;> omega) | fail) only [↓reduceIte, ↓zP, zW, WOp, evOp, evBin, binI, binSh, binS, evNil, keyIs, keyEq, mkv, AV.cells, AV.sc, optv, bnd, env, put, Env.get, Env.set, Env.del, Env.dels, Env.init, res1, resL, resV, fillP, splice, newRow, Nat.reduceEqDiff, Nat.reduceLT, Nat.reduceLeDiff, Nat.reduceAdd, Nat.reduceMul, Nat.reduceSub, Nat.reduceBEq, reduceCtorEq, ↓zR, zQ, Tr, StA, StT]
    refine c_sMakePuzzle w (by omega) 1 x ?_
    intro v g4 o4 p4
    have w1 := (sl_cells o4.slc).1
    have w2 := (sl_cells o4.slc).2
    simp only [AV.cells] at w1
    unfold AV.sc at w2
    have P5 := Pre.push g4 (AO.row [.int .i64 (mpN w 1 x), v] 0 0 false)
    obtain ⟨m5, -, m5v⟩ := rowP g4 (mpN w 1 x) v
    have s5 := o4.slc.pre P5
    have hc5 := hc3.pre (p4.trans P5)
    generalize hk : g4 ++ [AO.row [.int .i64 (mpN w 1 x), v] 0 0 false] = g5 at *
    simp (maxSteps := 1000000) (disch := first | omega | rfl | (simp only [zL, two63, room] <;> omega) | fail) only [↓reduceIte, ↓zP, zW, WOp, evOp, evBin, binI, binSh, binS, evNil, keyIs, keyEq, mkv, AV.cells, AV.sc, optv, bnd, env, put, Env.get, Env.set, Env.del, Env.dels, Env.init, res1, resL, resV, fillP, splice, newRow, Nat.reduceEqDiff, Nat.reduceLT, Nat.reduceLeDiff, Nat.reduceAdd, Nat.reduceMul, Nat.reduceSub, Nat.reduceBEq, reduceCtorEq, ↓zR, zQ, Tr, StA, StT, w1, w2, hk]
    cases e : mpB w 1 x
    · simp (maxSteps := 1000000) (disch := first | omega | rfl | (simp only [zL, two63, room] <;> omega) | fail) only [↓reduceIte, ↓zP, zW, WOp, evOp, evBin, binI, binSh, binS, evNil, keyIs, keyEq, mkv, AV.cells, AV.sc, optv, bnd, env, put, Env.get, Env.set, Env.del, Env.dels, Env.init, res1, resL, resV, fillP, splice, newRow, Nat.reduceEqDiff, Nat.reduceLT, Nat.reduceLeDiff, Nat.reduceAdd, Nat.reduceMul, Nat.reduceSub, Nat.reduceBEq, reduceCtorEq, ↓zR, zQ, Tr, StA, StT, e]
      refine c_clue hc5 (by omega) ?_
      intro c g6 hc6 _
      obtain ⟨a1, a2, a3⟩ := fin c g6 hc6.done
      simp (maxSteps := 1000000) (disch := first | omega | rfl | (simp only [zL, two63, room] <;> omega) | fail) only [↓reduceIte, ↓zP, zW, WOp, evOp, evBin, binI, binSh, binS, evNil, keyIs, keyEq, mkv, AV.cells, AV.sc, optv, bnd, env, put, Env.get, Env.set, Env.del, Env.dels, Env.init, res1, resL, resV, fillP, splice, newRow, Nat.reduceEqDiff, Nat.reduceLT, Nat.reduceLeDiff, Nat.reduceAdd, Nat.reduceMul, Nat.reduceSub, Nat.reduceBEq, reduceCtorEq, ↓zR, zQ, Tr, StA, StT, a1, a2]
      exact hp c w _ (by omega) a3
    · simp (maxSteps := 1000000) (disch := first | omega | rfl | (simp only [zL, two63, room] <;> omega) | fail) only [↓reduceIte, ↓zP, zW, WOp, evOp, evBin, binI, binSh, binS, evNil, keyIs, keyEq, mkv, AV.cells, AV.sc, optv, bnd, env, put, Env.get, Env.set, Env.del, Env.dels, Env.init, res1, resL, resV, fillP, splice, newRow, Nat.reduceEqDiff, Nat.reduceLT, Nat.reduceLeDiff, Nat.reduceAdd, Nat.reduceMul, Nat.reduceSub, Nat.reduceBEq, reduceCtorEq, ↓zR, zQ, Tr, StA, StT, e]
      refine c_one hc5 (by omega) 3 (by omega) ?_
      intro o g6 hc6 p6
      cases o
      · simp (maxSteps := 1000000) (disch := first | omega | rfl | (simp only [zL, two63, room] <;> omega) | fail) only [↓reduceIte, ↓zP, zW, WOp, evOp, evBin, binI, binSh, binS, evNil, keyIs, keyEq, mkv, AV.cells, AV.sc, optv, bnd, env, put, Env.get, Env.set, Env.del, Env.dels, Env.init, res1, resL, resV, fillP, splice, newRow, Nat.reduceEqDiff, Nat.reduceLT, Nat.reduceLeDiff, Nat.reduceAdd, Nat.reduceMul, Nat.reduceSub, Nat.reduceBEq, reduceCtorEq, ↓zR, zQ, Tr, StA, StT]
        refine c_clue hc6 (by omega) ?_
        intro c g7 hc7 _
        obtain ⟨a1, a2, a3⟩ := fin c g7 hc7.done
        simp (maxSteps := 1000000) (disch := first | omega | rfl | (simp only [zL, two63, room] <;> omega) | fail) only [↓reduceIte, ↓zP, zW, WOp, evOp, evBin, binI, binSh, binS, evNil, keyIs, keyEq, mkv, AV.cells, AV.sc, optv, bnd, env, put, Env.get, Env.set, Env.del, Env.dels, Env.init, res1, resL, resV, fillP, splice, newRow, Nat.reduceEqDiff, Nat.reduceLT, Nat.reduceLeDiff, Nat.reduceAdd, Nat.reduceMul, Nat.reduceSub, Nat.reduceBEq, reduceCtorEq, ↓zR, zQ, Tr, StA, StT, a1, a2]
        exact hp c w _ (by omega) a3
      · obtain ⟨-, -, hl, -, -⟩ := mp_all e
        obtain ⟨c0, hL⟩ : ∃ c0, mpC w 1 x = [c0] := by
          match hm : mpC w 1 x, hl with
          | [c0], _ => exact ⟨c0, rfl⟩
          | [], hl => simp at hl
          | a :: b :: l, hl => simp at hl; omega
        rw [hL] at s5 o4
        obtain ⟨d1, k1, o1, hve, hq⟩ := Slc.at (pre := []) hlC s5
        have lb := hc3.lt
        have lg5 : g4.length < g5.length := by rw [← hk]; simp
        have nv : d1 ≠ g1.length := by have := own_ge o4 (by rw [hve]; rfl); omega
        have hq6 : rdRow g6 d1 k1 (o1 + Int.toNat 0 * 3) 3 = some [.int .i64 c0.1, .int .i64 c0.2.1, .int .i64 c0.2.2] := rdRow_prex p6 nv hq
        have p4l := p4.1
        have m6v := rdRow_prex p6 (by omega : g4.length ≠ g1.length) m5v
        subst hve
        obtain ⟨a1, a2, a3⟩ := fin c0 g6 hc6.done
        simp (maxSteps := 1000000) (disch := first | omega | rfl | (simp only [zL, two63, room] <;> omega) | fail) only [↓reduceIte, ↓zP, zW, WOp, evOp, evBin, binI, binSh, binS, evNil, keyIs, keyEq, mkv, AV.cells, AV.sc, optv, bnd, env, put, Env.get, Env.set, Env.del, Env.dels, Env.init, res1, resL, resV, fillP, splice, newRow, Nat.reduceEqDiff, Nat.reduceLT, Nat.reduceLeDiff, Nat.reduceAdd, Nat.reduceMul, Nat.reduceSub, Nat.reduceBEq, reduceCtorEq, ↓zR, zQ, Tr, StA, StT, m6v, hq6, a1, a2]
        exact hp c0 w _ (by omega) a3
theorem PzI.iter {b g0 gb h' : AH} {K r2 r3 ci p q : Nat} {n : Int} {v : AV} {L : List Clu} {s : List UInt8} (hi : PzI b cv bs K g0 gb r2 r3 n v L h') (hit : h'[ci]? = some (.iter s p)) (h1 : b.length < ci) (h2 : g0.length ≤ ci) (h3 : gb.length ≤ ci) : PzI b cv bs K g0 gb r2 r3 n v L (h'.set ci (.iter s q)) ∧ (h'.set ci (.iter s q))[ci]? = some (.iter s q) := by
  obtain ⟨i1, i2, i3, i4, i5, i6, ⟨i7, i8, i9, iA, iC, iD⟩, iB⟩ := hi
  have l := (List.getElem?_eq_some_iff.1 hit).1
  have n2 : ci ≠ r2 := by omega
  have n3 : ci ≠ r3 := by rintro rfl; rw [i4] at hit; cases hit
  exact ⟨⟨i1.set h1, i2.setN h2, by rw [List.getElem?_set, if_neg n2]; exact i3, by rw [List.getElem?_set, if_neg n3]; exact i4, own_iter i5 hit, by simpa using i6, ⟨i7, i8, i9, iA, iC, iD⟩, iB⟩, by rw [List.getElem?_set, if_pos rfl, if_pos l]⟩
theorem lp_dhp (w : List UInt8) (hg : w.all isSign = true) (hw : w.length ≤ 12) {b g0 gb : AH} {K r2 r3 ci : Nat} {n : Int} (hb1 : b.length < ci) (hb2 : g0.length ≤ ci) (hb3 : gb.length ≤ ci) {R : X → Env → AH → Prop} : ∀ (rest pre : List UInt8) (v : AV) (L : List Clu) (h : AH), w = pre ++ rest → PzI b cv bs K g0 gb r2 r3 n v L h → h[ci]? = some (.iter w pre.length) → L.length + rest.length < 100 →
    (∀ v' L' h', L'.length = L.length + rest.length → PzI b cv bs K g0 gb r2 r3 n v' L' h' → R (.exit 0) [(2, .ptr r2 0 0 2), (5, .ptr r3 0 0 2)] h') →
    Cx (.loop lp563_0) [(2, .ptr r2 0 0 2), (4, .str w), (5, .ptr r3 0 0 2), (27, .iter ci)] h R k k
  | [], pre, v, L, h, hpre, hi, hit, hL, hR => by
    have hlt : ¬ pre.length < w.length := by rw [hpre]; simp
    rw [w_loopb (c := lp563_0) (d := lb563_0) rfl]; unfold lb563_0
    simp (maxSteps := 1000000) (disch := first | omega | rfl | (simp only [zL, two63, room] <;> omega) | fail) only [↓reduceIte, ↓zP, zW, WOp, evOp, evBin, binI, binSh, binS, evNil, keyIs, keyEq, mkv, AV.cells, AV.sc, optv, bnd, env, put, Env.get, Env.set, Env.del, Env.dels, Env.init, res1, resL, resV, fillP, splice, newRow, Nat.reduceEqDiff, Nat.reduceLT, Nat.reduceLeDiff, Nat.reduceAdd, Nat.reduceMul, Nat.reduceSub, Nat.reduceBEq, reduceCtorEq, ↓zR, zQ, Tr, StA, StT, hit, hlt]
    exact hR v L h rfl hi
  | x :: rest, pre, v, L, h, hpre, hi, hit, hL, hR => by
    have ih := lp_dhp w hg hw (K := K) (r2 := r2) (r3 := r3) (n := n) hb1 hb2 hb3 (R := R) rest (pre ++ [x])
    have hlt : pre.length < w.length := by rw [hpre]; simp
    have hlow : (w.getD pre.length 0).toNat < 128 := sign_low (sign_at hg hlt)
    have hdec := dec_low hlt hlow
    have hd1 : (dec w pre.length).1 = ((w.getD pre.length 0).toNat : Int) := by rw [hdec]
    have hd2 : (dec w pre.length).2 = 1 := by rw [hdec]
    obtain ⟨hi1, hit1⟩ := hi.iter (q := pre.length + 1) hit hb1 hb2 hb3
    have q1 := (row2f hi1.2.2.2.1).2.1
    rw [w_loopb (c := lp563_0) (d := lb563_0) rfl]; unfold lb563_0
    simp (maxSteps := 1000000) (disch := first | omega | rfl | (simp only [zL, two63, room] <;> omega) | fail) only [↓reduceIte, ↓zP, zW, WOp, evOp, evBin, binI, binSh, binS, evNil, keyIs, keyEq, mkv, AV.cells, AV.sc, optv, bnd, env, put, Env.get, Env.set, Env.del, Env.dels, Env.init, res1, resL, resV, fillP, splice, newRow, Nat.reduceEqDiff, Nat.reduceLT, Nat.reduceLeDiff, Nat.reduceAdd, Nat.reduceMul, Nat.reduceSub, Nat.reduceBEq, reduceCtorEq, ↓zR, zQ, Tr, StA, StT, hit, hlt, hd1, hd2]
    generalize h.set ci (AO.iter w (pre.length + 1)) = h1 at *
    refine w_drw ?_
    simp (maxSteps := 1000000) (disch := first | omega | rfl | (simp only [zL, two63, room] <;> omega) | fail) only [↓reduceIte, ↓zP, zW, WOp, evOp, evBin, binI, binSh, binS, evNil, keyIs, keyEq, mkv, AV.cells, AV.sc, optv, bnd, env, put, Env.get, Env.set, Env.del, Env.dels, Env.init, res1, resL, resV, fillP, splice, newRow, Nat.reduceEqDiff, Nat.reduceLT, Nat.reduceLeDiff, Nat.reduceAdd, Nat.reduceMul, Nat.reduceSub, Nat.reduceBEq, reduceCtorEq, ↓zR, zQ, Tr, StA, StT, q1]
    refine c_pzOf 0 _ w hg hw (by omega) (fun _ => by omega) ?_
    intro h2 p2
    have hi2 := hi1.step (hi1.1.pre p2) (p2.x _)
    have hit2 : h2[ci]? = some (.iter w (pre.length + 1)) := by rw [p2.2 _ (List.getElem?_eq_some_iff.1 hit1).1]; exact hit1
    have q2 := rdRow_pre p2 q1
    have l2 := rd_lt q2
    obtain ⟨v3, h3, a1, a2, w1, w2, hi3, hfr⟩ := hi2.add (clueB 0 ((pre.length : Nat) : Int) w) (by simp at hL; omega)
    have q3 := (row2f a2).2.1
    simp only [AV.cells] at w1
    unfold AV.sc at w2
    have hit3 := hfr ci (List.getElem?_eq_some_iff.1 hit2).1 (own_ne_iter hi2.2.2.2.2.1 hit2) (by rintro rfl; rw [hi2.2.2.2.1] at hit2; cases hit2)
    simp (maxSteps := 1000000) (disch := first | omega | rfl | (simp only [zL, two63, room] <;> omega) | fail) only [↓reduceIte, ↓zP, zW, WOp, evOp, evBin, binI, binSh, binS, evNil, keyIs, keyEq, mkv, AV.cells, AV.sc, optv, bnd, env, put, Env.get, Env.set, Env.del, Env.dels, Env.init, res1, resL, resV, fillP, splice, newRow, Nat.reduceEqDiff, Nat.reduceLT, Nat.reduceLeDiff, Nat.reduceAdd, Nat.reduceMul, Nat.reduceSub, Nat.reduceBEq, reduceCtorEq, ↓zR, zQ, Tr, StA, StT, q1, q2, q3, a1, wr_of a2, w1, w2]
    rw [w_loopn (c := lp563_0) rfl]
    simp (maxSteps := 1000000) (disch := first | omega | rfl | (simp only [zL, two63, room] <;> omega) | fail) only [↓reduceIte, ↓zP, zW, WOp, evOp, evBin, binI, binSh, binS, evNil, keyIs, keyEq, mkv, AV.cells, AV.sc, optv, bnd, env, put, Env.get, Env.set, Env.del, Env.dels, Env.init, res1, resL, resV, fillP, splice, newRow, Nat.reduceEqDiff, Nat.reduceLT, Nat.reduceLeDiff, Nat.reduceAdd, Nat.reduceMul, Nat.reduceSub, Nat.reduceBEq, reduceCtorEq, ↓zR, zQ, Tr, StA, StT]
    exact ih v3 _ _ (by rw [hpre]; simp) hi3 (by rw [hit3]; simpa using hit2) (by simp at hL ⊢; omega) (fun v' L' h' hl hi' => hR v' L' h' (by simp at hl ⊢; omega) hi')
theorem PzI.of {b g0 gb h' : AH} {K r2 r3 : Nat} {n : Int} {v : AV} {L : List Clu} (i1 : Cur b cv bs K h') (i2 : PreX b.length g0 h') (i3 : h'[r2]? = some (.row [.int .i64 0, .nilS] 0 0 false)) (i4 : h'[r3]? = some (.row [.int .i64 n, v] 0 0 false)) (i5 : OwL 3 encC gb h' v L) (i6 : gb.length ≤ h'.length) (i7 : b.length < gb.length ∧ g0.length ≤ r2 ∧ r2 < r3 ∧ r2 < gb.length ∧ r2 ≠ b.length ∧ b.length < r3) (i8 : rowOf v ≠ some r3) : PzI b cv bs K g0 gb r2 r3 n v L h' := ⟨i1, i2, i3, i4, i5, i6, i7, i8⟩
theorem c_DrawHarderPuzzle (hs : Slc 1 encU h cv bs) (hb : bs.length < 2 ^ 40) (hp : ∀ (n : Int) v (L : List Clu) h', L.length ≤ 20 → Slc 3 encC h' v L → Pre h h' → post (pzV n v) h') : S 563 [cv] h post k := by
  have P1 := Pre.push h (AO.row [.int .i64 0, .nilS] 0 0 false)
  have z1 := zrow h (AO.row [.int .i64 0, .nilS] 0 0 false)
  have l1 : h.length < (h ++ [AO.row [.int .i64 0, .nilS] 0 0 false]).length := by simp
  have lh1 : (h ++ [AO.row [.int .i64 0, .nilS] 0 0 false]).length = h.length + 1 := by simp
  generalize hg1 : h ++ [AO.row [.int .i64 0, .nilS] 0 0 false] = g1 at *
  have hs2 := hs.pre P1
  have hc := Cur.new hs2 hb
  have P2 := Pre.push g1 (AO.row [cv, .int .i64 0, .int .u64 0] 0 0 false)
  refine S_of rfl T563 ?_; unfold fi563
  rcases hs.cases with ⟨rfl, _⟩ | ⟨rfl, _⟩ | ⟨c, kk, off, rfl⟩
  all_goals
    clear hs hs2
    simp (maxSteps := 1000000) (disch := first | omega | rfl | (simp only [zL, two63, room] <;> omega) | fail) only [↓reduceIte, ↓zP, zW, WOp, evOp, evBin, binI, binSh, binS, evNil, keyIs, keyEq, mkv, AV.cells, AV.sc, optv, bnd, env, put, Env.get, Env.set, Env.del, Env.dels, Env.init, res1, resL, resV, fillP, splice, newRow, Nat.reduceEqDiff, Nat.reduceLT, Nat.reduceLeDiff, Nat.reduceAdd, Nat.reduceMul, Nat.reduceSub, Nat.reduceBEq, reduceCtorEq, ↓zR, zQ, Tr, StA, StT, hg1]
    refine c_one hc (by omega) 4 (by omega) ?_
    intro o g2 hc2 x2
    cases o
    · simp (maxSteps := 1000000) (disch := first | omega | rfl | (simp only [zL, two63, room] <;> omega) | fail) only [↓reduceIte, ↓zP, zW, WOp, evOp, evBin, binI, binSh, binS, evNil, keyIs, keyEq, mkv, AV.cells, AV.sc, optv, bnd, env, put, Env.get, Env.set, Env.del, Env.dels, Env.init, res1, resL, resV, fillP, splice, newRow, Nat.reduceEqDiff, Nat.reduceLT, Nat.reduceLeDiff, Nat.reduceAdd, Nat.reduceMul, Nat.reduceSub, Nat.reduceBEq, reduceCtorEq, ↓zR, zQ, Tr, StA, StT]
      refine c_sureLine hc2 3 (by omega) (by omega) (by omega) ?_
      intro w g3 hw1 hw3 hsg hc3 _
      simp (maxSteps := 1000000) (disch := first | omega | rfl | (simp only [zL, two63, room] <;> omega) | fail) only [↓reduceIte, ↓zP, zW, WOp, evOp, evBin, binI, binSh, binS, evNil, keyIs, keyEq, mkv, AV.cells, AV.sc, optv, bnd, env, put, Env.get, Env.set, Env.del, Env.dels, Env.init, res1, resL, resV, fillP, splice, newRow, Nat.reduceEqDiff, Nat.reduceLT, Nat.reduceLeDiff, Nat.reduceAdd, Nat.reduceMul, Nat.reduceSub, Nat.reduceBEq, reduceCtorEq, ↓zR, zQ, Tr, StA, StT]
      refine c_pick hc3 (by omega) 4 (by omega) ?_
      intro x g4 _ hc4 _
      simp (maxSteps := 1000000) (disch := first | omega | rfl | (simp only [zL, two63, room] <;> omega) | fail) only [↓reduceIte, ↓zP, zW, WOp, evOp, evBin, binI, binSh, binS, evNil, keyIs, keyEq, mkv, AV.cells, AV.sc, optv, bnd, env, put, Env.get, Env.set, Env.del, Env.dels, Env.init, res1, resL, resV, fillP, splice, newRow, Nat.reduceEqDiff, Nat.reduceLT, Nat.reduceLeDiff, Nat.reduceAdd, Nat.reduceMul, Nat.reduceSub, Nat.reduceBEq, reduceCtorEq, ↓zR, zQ, Tr, StA, StT]
      refine c_pick hc4 (by omega) 10000 (by omega) ?_
      intro y g5 _ hc5 _
      simp (maxSteps := 1000000) (disch := first | omega | rfl | (simp only [zL, two63, room] <;> omega) | fail) only [↓reduceIte, ↓zP, zW, WOp, evOp, evBin, binI, binSh, binS, evNil, keyIs, keyEq, mkv, AV.cells, AV.sc, optv, bnd, env, put, Env.get, Env.set, Env.del, Env.dels, Env.init, res1, resL, resV, fillP, splice, newRow, Nat.reduceEqDiff, Nat.reduceLT, Nat.reduceLeDiff, Nat.reduceAdd, Nat.reduceMul, Nat.reduceSub, Nat.reduceBEq, reduceCtorEq, ↓zR, zQ, Tr, StA, StT]
      refine c_sMakePuzzle w (by omega) x y ?_
      intro v h5 o5 p5
      have w1 := (sl_cells o5.slc).1
      have w2 := (sl_cells o5.slc).2
      simp only [AV.cells] at w1
      unfold AV.sc at w2
      have P5 := hc5.done
      have lb := hc5.lt
      have P6 := Pre.push h5 (AO.row [.int .i64 (mpN w x y), v] 0 0 false)
      have z6 := zrow h5 (AO.row [.int .i64 (mpN w x y), v] 0 0 false)
      have lg5 := p5.1
      have hlt : ∀ r, rowOf v = some r → r < h5.length := fun r hr => own_lt o5 hr
      have hc6 := hc5.pre (p5.trans P6)
      have y6 : (h5 ++ [AO.row [.int .i64 (mpN w x y), v] 0 0 false])[h.length]? = some (AO.row [.int .i64 0, .nilS] 0 0 false) := by
        rw [P6.2 _ (by omega), p5.2 _ (by omega), P5.2 _ l1]; exact z1
      have hi6 := PzI.of (g0 := h) (gb := g5) hc6 (((P1.trans P5).trans (p5.trans P6)).x _) y6 z6 (Own.pre P6 o5) (by have := P6.1; omega) ⟨lb, Nat.le_refl _, by omega, by omega, by omega, by omega⟩ (fun e => by have := hlt _ e; omega)
      generalize hk : h5 ++ [AO.row [.int .i64 (mpN w x y), v] 0 0 false] = g6 at *
      have P7 := Pre.push g6 (AO.iter w 0)
      have z7 := zrow g6 (AO.iter w 0)
      have hi7 := hi6.step (hi6.1.pre P7) (P7.x _)
      have l6 := P6.1
      simp (maxSteps := 1000000) (disch := first | omega | rfl | (simp only [zL, two63, room] <;> omega) | fail) only [↓reduceIte, ↓zP, zW, WOp, evOp, evBin, binI, binSh, binS, evNil, keyIs, keyEq, mkv, AV.cells, AV.sc, optv, bnd, env, put, Env.get, Env.set, Env.del, Env.dels, Env.init, res1, resL, resV, fillP, splice, newRow, Nat.reduceEqDiff, Nat.reduceLT, Nat.reduceLeDiff, Nat.reduceAdd, Nat.reduceMul, Nat.reduceSub, Nat.reduceBEq, reduceCtorEq, ↓zR, zQ, Tr, StA, StT, w1, w2, hk]
      refine lp_dhp w hsg (by omega) (by omega) (by omega) (by omega) w [] v _ _ rfl hi7 z7 (by have := mpC_few w x y; omega) ?_
      intro v' L' h' hl' hi'
      obtain ⟨i1, i2, i3, i4, i5, i6, ⟨i7, i8, i9, iA, iC, iD⟩, iB⟩ := hi'
      have y1 := (sl_cells i5.slc).1
      have y2 := (sl_cells i5.slc).2
      obtain ⟨a1, a2⟩ := wr_pz (n := mpN w x y) i3 y2
      have f1 := (row2f i4).2.2
      simp only [AV.cells] at y1
      unfold AV.sc at y2
      simp (maxSteps := 1000000) (disch := first | omega | rfl | (simp only [zL, two63, room] <;> omega) | fail) only [↓reduceIte, ↓zP, zW, WOp, evOp, evBin, binI, binSh, binS, evNil, keyIs, keyEq, mkv, AV.cells, AV.sc, optv, bnd, env, put, Env.get, Env.set, Env.del, Env.dels, Env.init, res1, resL, resV, fillP, splice, newRow, Nat.reduceEqDiff, Nat.reduceLT, Nat.reduceLeDiff, Nat.reduceAdd, Nat.reduceMul, Nat.reduceSub, Nat.reduceBEq, reduceCtorEq, ↓zR, zQ, Tr, StA, StT, f1, y1, y2, a1, a2]
      have := mpC_few w x y
      exact hp _ v' L' _ (by omega) (OwL.slc (own_set i5 iA)) ((i2.pre (by omega)).set (Nat.le_refl _))
    · simp (maxSteps := 1000000) (disch := first | omega | rfl | (simp only [zL, two63, room] <;> omega) | fail) only [↓reduceIte, ↓zP, zW, WOp, evOp, evBin, binI, binSh, binS, evNil, keyIs, keyEq, mkv, AV.cells, AV.sc, optv, bnd, env, put, Env.get, Env.set, Env.del, Env.dels, Env.init, res1, resL, resV, fillP, splice, newRow, Nat.reduceEqDiff, Nat.reduceLT, Nat.reduceLeDiff, Nat.reduceAdd, Nat.reduceMul, Nat.reduceSub, Nat.reduceBEq, reduceCtorEq, ↓zR, zQ, Tr, StA, StT]
      refine c_puzzle hc2 (by omega) ?_
      intro n v L g3 hL o3 hc3 _
      have P24 := hc3.done
      have lb := hc2.lt
      have y4 : g3[h.length]? = some (AO.row [.int .i64 0, .nilS] 0 0 false) := by rw [P24.2 _ l1]; exact z1
      have w1 := (sl_cells o3.slc).1
      have w2 := (sl_cells o3.slc).2
      obtain ⟨a1, a2⟩ := wr_pz (n := n) y4 w2
      simp only [AV.cells] at w1
      unfold AV.sc at w2
      simp (maxSteps := 1000000) (disch := first | omega | rfl | (simp only [zL, two63, room] <;> omega) | fail) only [↓reduceIte, ↓zP, zW, WOp, evOp, evBin, binI, binSh, binS, evNil, keyIs, keyEq, mkv, AV.cells, AV.sc, optv, bnd, env, put, Env.get, Env.set, Env.del, Env.dels, Env.init, res1, resL, resV, fillP, splice, newRow, Nat.reduceEqDiff, Nat.reduceLT, Nat.reduceLeDiff, Nat.reduceAdd, Nat.reduceMul, Nat.reduceSub, Nat.reduceBEq, reduceCtorEq, ↓zR, zQ, Tr, StA, StT, w1, w2, a1, a2]
      exact hp n v L _ (by omega) (OwL.slc (own_set o3 (by omega))) ((P1.trans P24).set (Nat.le_refl _))
end
end Go.Proofs.YtnamhjdfegohbaaGreatDoor.Ab

/- THE LAW OF HIDDEN LINES, whatever is given. -/
namespace Go.Proofs.YtnamhjdfegohbaaGreatDoor.Ab
open Go
set_option maxRecDepth 100000
set_option maxHeartbeats 16000000

/-- Two ways that meet again: what follows is shown once. -/
theorem fork {b : Bool} {a g : AH} {P : AH → Prop} (ha : Pre a g) (G : AH → Prop) (hf : ∀ h, Pre g h → (∀ H, Pre a H → G H) → b = false → P h) (ht : ∀ h, Pre g h → (∀ H, Pre a H → G H) → b = true → P h) (hG : ∀ H, Pre a H → G H) : ∀ h, Pre g h → P h := by
  intro h hp
  cases b
  · exact hf h hp hG rfl
  · exact ht h hp hG rfl
section
variable {w x : List UInt8} {c0 s0 nq nr ns kx n : Int} {vq vr vs : AV} {Lq Lr Ls : List Clu} {c d e : Clu} {h : AH}
end
end Go.Proofs.YtnamhjdfegohbaaGreatDoor.Ab

/- THE LAW OF HIDDEN LINES: for all bytes. -/
namespace Go.Proofs.YtnamhjdfegohbaaGreatDoor.Ab
open Go
set_option maxRecDepth 100000
set_option maxHeartbeats 16000000

theorem law_LinesHidden_of {cv mv : AV} {cs ms : List UInt8} {h : AH} (hs0 : Slc 1 encU h cv cs) (ht0 : Slc 1 encU h mv ms) {post : AV → AH → Prop} (hp : ∀ h', post (.bool true) h') : S 561 [cv, mv] h post k := by
  refine S_of rfl T561 ?_; unfold fi561
  simp (maxSteps := 1000000) (disch := first | omega | rfl | (simp only [zL, two63, room] <;> omega) | fail) only [↓reduceIte, ↓zP, zW, WOp, evOp, evBin, binI, binSh, binS, evNil, keyIs, keyEq, mkv, AV.cells, AV.sc, optv, bnd, env, put, Env.get, Env.set, Env.del, Env.dels, Env.init, res1, resL, resV, fillP, splice, newRow, Nat.reduceEqDiff, Nat.reduceLT, Nat.reduceLeDiff, Nat.reduceAdd, Nat.reduceMul, Nat.reduceSub, Nat.reduceBEq, reduceCtorEq, ↓zR, zQ, Tr, StA, StT]
  refine c_big hs0 ht0 ?_
  intro bg hbg
  cases bg
  case true =>
    simp (maxSteps := 1000000) (disch := first | omega | rfl | (simp only [zL, two63, room] <;> omega) | fail) only [↓reduceIte, ↓zP, zW, WOp, evOp, evBin, binI, binSh, binS, evNil, keyIs, keyEq, mkv, AV.cells, AV.sc, optv, bnd, env, put, Env.get, Env.set, Env.del, Env.dels, Env.init, res1, resL, resV, fillP, splice, newRow, Nat.reduceEqDiff, Nat.reduceLT, Nat.reduceLeDiff, Nat.reduceAdd, Nat.reduceMul, Nat.reduceSub, Nat.reduceBEq, reduceCtorEq, ↓zR, zQ, Tr, StA, StT]
    exact hp h
  obtain ⟨hl1, hl2⟩ := hbg rfl
  clear hbg
  simp (maxSteps := 1000000) (disch := first | omega | rfl | (simp only [zL, two63, room] <;> omega) | fail) only [↓reduceIte, ↓zP, zW, WOp, evOp, evBin, binI, binSh, binS, evNil, keyIs, keyEq, mkv, AV.cells, AV.sc, optv, bnd, env, put, Env.get, Env.set, Env.del, Env.dels, Env.init, res1, resL, resV, fillP, splice, newRow, Nat.reduceEqDiff, Nat.reduceLT, Nat.reduceLeDiff, Nat.reduceAdd, Nat.reduceMul, Nat.reduceSub, Nat.reduceBEq, reduceCtorEq, ↓zR, zQ, Tr, StA, StT]
  refine c_DrawMakePuzzle hs0 (by omega) ?_
  intro w c0 s0 h0 hw q0
  simp (maxSteps := 1000000) (disch := first | omega | rfl | (simp only [zL, two63, room] <;> omega) | fail) only [↓reduceIte, ↓zP, zW, WOp, evOp, evBin, binI, binSh, binS, evNil, keyIs, keyEq, mkv, AV.cells, AV.sc, optv, bnd, env, put, Env.get, Env.set, Env.del, Env.dels, Env.init, res1, resL, resV, fillP, splice, newRow, Nat.reduceEqDiff, Nat.reduceLT, Nat.reduceLeDiff, Nat.reduceAdd, Nat.reduceMul, Nat.reduceSub, Nat.reduceBEq, reduceCtorEq, ↓zR, zQ, Tr, StA, StT]
  refine c_MakePuzzle w (by omega) c0 s0 ?_
  intro v1 h1 o1 p1
  have w1a := (sl_cells (o1.slc)).1
  have w1b := (sl_cells (o1.slc)).2
  simp only [AV.cells] at w1a
  unfold AV.sc at w1b
  have x1 := Pre.push h1 (AO.row [.int .i64 (mpN w c0 s0), v1] 0 0 false)
  obtain ⟨m1, m1n, m1v⟩ := rowP h1 (mpN w c0 s0) v1
  generalize hk1 : h1 ++ [AO.row [.int .i64 (mpN w c0 s0), v1] 0 0 false] = k1 at *
  simp (maxSteps := 1000000) (disch := first | omega | rfl | (simp only [zL, two63, room] <;> omega) | fail) only [↓reduceIte, ↓zP, zW, WOp, evOp, evBin, binI, binSh, binS, evNil, keyIs, keyEq, mkv, AV.cells, AV.sc, optv, bnd, env, put, Env.get, Env.set, Env.del, Env.dels, Env.init, res1, resL, resV, fillP, splice, newRow, Nat.reduceEqDiff, Nat.reduceLT, Nat.reduceLeDiff, Nat.reduceAdd, Nat.reduceMul, Nat.reduceSub, Nat.reduceBEq, reduceCtorEq, ↓zR, zQ, Tr, StA, StT, w1a, w1b, hk1]
  refine c_sMakePuzzle w (by omega) c0 s0 ?_
  intro v2 h2 o2 p2
  have w2a := (sl_cells (o2.slc)).1
  have w2b := (sl_cells (o2.slc)).2
  simp only [AV.cells] at w2a
  unfold AV.sc at w2b
  have x2 := Pre.push h2 (AO.row [.int .i64 (mpN w c0 s0), v2] 0 0 false)
  obtain ⟨m2, m2n, m2v⟩ := rowP h2 (mpN w c0 s0) v2
  generalize hk2 : h2 ++ [AO.row [.int .i64 (mpN w c0 s0), v2] 0 0 false] = k2 at *
  have M1 := rdRow_pre (p2.trans x2) m1
  have M1v := rdRow_pre (p2.trans x2) m1v
  have M1n := rdRow_pre (p2.trans x2) m1n
  simp (maxSteps := 1000000) (disch := first | omega | rfl | (simp only [zL, two63, room] <;> omega) | fail) only [↓reduceIte, ↓zP, zW, WOp, evOp, evBin, binI, binSh, binS, evNil, keyIs, keyEq, mkv, AV.cells, AV.sc, optv, bnd, env, put, Env.get, Env.set, Env.del, Env.dels, Env.init, res1, resL, resV, fillP, splice, newRow, Nat.reduceEqDiff, Nat.reduceLT, Nat.reduceLeDiff, Nat.reduceAdd, Nat.reduceMul, Nat.reduceSub, Nat.reduceBEq, reduceCtorEq, ↓zR, zQ, Tr, StA, StT, w2a, w2b, hk2, M1, m2]
  have hml : (mpC w c0 s0).length < 2 ^ 30 := by
    cases e : mpB w c0 s0
    · unfold mpC; rw [e]; simp
    · obtain ⟨-, -, h3, h4, -⟩ := mp_all e; have := good_few h4; omega
  have s1 := o1.slc.pre (x1.trans (p2.trans x2))
  refine c_nPuzzle (mpN w c0 s0) hml s1 (o2.slc.pre x2) ?_
  have Ak := q0.trans (p1.trans (x1.trans (p2.trans x2)))
  clear hk1 hk2 w1a w1b w2a w2b m1 m1v m2 m2v o1 o2 p2 x1 x2 p1
  refine' fork (b := mpB w c0 s0) Ak _ ?hf ?ht ?hG
  case hf =>
    intro h3 p3 hG e
    have A3 := Ak.trans p3
    simp (maxSteps := 1000000) (disch := first | omega | rfl | (simp only [zL, two63, room] <;> omega) | fail) only [↓reduceIte, ↓zP, zW, WOp, evOp, evBin, binI, binSh, binS, evNil, keyIs, keyEq, mkv, AV.cells, AV.sc, optv, bnd, env, put, Env.get, Env.set, Env.del, Env.dels, Env.init, res1, resL, resV, fillP, splice, newRow, Nat.reduceEqDiff, Nat.reduceLT, Nat.reduceLeDiff, Nat.reduceAdd, Nat.reduceMul, Nat.reduceSub, Nat.reduceBEq, reduceCtorEq, ↓zR, zQ, Tr, StA, StT, e]
    exact hG h3 A3
  case ht =>
    intro h3 p3 hG e
    have A3 := Ak.trans p3
    have M3 := rdRow_pre p3 M1
    have M3v := rdRow_pre p3 M1v
    have M31 := rdRow_pre p3 M1n
    replace s1 := s1.pre p3
    obtain ⟨f1, f2, f3, f4, f5⟩ := mp_all e
    have hgd := h5_line f1
    obtain ⟨d1, d2⟩ := df_pairs f1
    obtain ⟨d3, d4⟩ := df_moves f1
    have hw60 : w.length < 2 ^ 60 := by omega
    simp (maxSteps := 1000000) (disch := first | omega | rfl | (simp only [zL, two63, room] <;> omega) | fail) only [↓reduceIte, ↓zP, zW, WOp, evOp, evBin, binI, binSh, binS, evNil, keyIs, keyEq, mkv, AV.cells, AV.sc, optv, bnd, env, put, Env.get, Env.set, Env.del, Env.dels, Env.init, res1, resL, resV, fillP, splice, newRow, Nat.reduceEqDiff, Nat.reduceLT, Nat.reduceLeDiff, Nat.reduceAdd, Nat.reduceMul, Nat.reduceSub, Nat.reduceBEq, reduceCtorEq, ↓zR, zQ, Tr, StA, StT, e, M3, f2]
    refine c_Solutions (w.length : Nat) hml s1 ?_
    intro v5 h5 o5 p5
    rw [if_pos f4] at o5
    rw [f4]
    simp (maxSteps := 1000000) (disch := first | omega | rfl | (simp only [zL, two63, room] <;> omega) | fail) only [↓reduceIte, ↓zP, zW, WOp, evOp, evBin, binI, binSh, binS, evNil, keyIs, keyEq, mkv, AV.cells, AV.sc, optv, bnd, env, put, Env.get, Env.set, Env.del, Env.dels, Env.init, res1, resL, resV, fillP, splice, newRow, Nat.reduceEqDiff, Nat.reduceLT, Nat.reduceLeDiff, Nat.reduceAdd, Nat.reduceMul, Nat.reduceSub, Nat.reduceBEq, reduceCtorEq, ↓zR, zQ, Tr, StA, StT, e_PairsToPass w hw60, hgd]
    refine c_DoesFitA (4, pairsG w, 0) w hw60 ?_
    intro h6 p6
    rw [d1, d2]
    simp (maxSteps := 1000000) (disch := first | omega | rfl | (simp only [zL, two63, room] <;> omega) | fail) only [↓reduceIte, ↓zP, zW, WOp, evOp, evBin, binI, binSh, binS, evNil, keyIs, keyEq, mkv, AV.cells, AV.sc, optv, bnd, env, put, Env.get, Env.set, Env.del, Env.dels, Env.init, res1, resL, resV, fillP, splice, newRow, Nat.reduceEqDiff, Nat.reduceLT, Nat.reduceLeDiff, Nat.reduceAdd, Nat.reduceMul, Nat.reduceSub, Nat.reduceBEq, reduceCtorEq, ↓zR, zQ, Tr, StA, StT]
    refine c_MovesOf w hw60 ?_
    intro v7 h7 o7 p7
    rw [hgd]
    have s7 := o7.slc
    have hv7 := fun g => Slc.lenV (s7) (g := g) (ρ := fun _ => _) (x := .t 0) rfl; simp only [evOp] at hv7
    simp (maxSteps := 1000000) (disch := first | omega | rfl | (simp only [zL, two63, room] <;> omega) | fail) only [↓reduceIte, ↓zP, zW, WOp, evOp, evBin, binI, binSh, binS, evNil, keyIs, keyEq, mkv, AV.cells, AV.sc, optv, bnd, env, put, Env.get, Env.set, Env.del, Env.dels, Env.init, res1, resL, resV, fillP, splice, newRow, Nat.reduceEqDiff, Nat.reduceLT, Nat.reduceLeDiff, Nat.reduceAdd, Nat.reduceMul, Nat.reduceSub, Nat.reduceBEq, reduceCtorEq, ↓zR, zQ, Tr, StA, StT, hv7]
    refine c_DoesFitA (3, ((mvG [84, 70] w).length : Int), 0) w hw60 ?_
    intro h8 p8
    rw [d3, d4]
    have q8 := p5.trans (p6.trans (p7.trans p8))
    have M8 := rdRow_pre q8 M3
    have s8 := s1.pre q8
    simp (maxSteps := 1000000) (disch := first | omega | rfl | (simp only [zL, two63, room] <;> omega) | fail) only [↓reduceIte, ↓zP, zW, WOp, evOp, evBin, binI, binSh, binS, evNil, keyIs, keyEq, mkv, AV.cells, AV.sc, optv, bnd, env, put, Env.get, Env.set, Env.del, Env.dels, Env.init, res1, resL, resV, fillP, splice, newRow, Nat.reduceEqDiff, Nat.reduceLT, Nat.reduceLeDiff, Nat.reduceAdd, Nat.reduceMul, Nat.reduceSub, Nat.reduceBEq, reduceCtorEq, ↓zR, zQ, Tr, StA, StT, M8, f2]
    refine c_IsPuzzle (w.length : Nat) hml s8 ?_
    intro h9 p9
    rw [f4]
    have M9v := rdRow_pre (q8.trans p9) M3v
    have M91 := rdRow_pre (q8.trans p9) M31
    have s9 := s8.pre p9
    have hv9 := fun g => Slc.lenV (s9) (g := g) (ρ := fun _ => _) (x := .t 0) rfl; simp only [evOp] at hv9
    have s5 := (o5.slc hlS).pre (p6.trans (p7.trans (p8.trans p9)))
    have hl5 : (solN (w.length : Nat) (mpC w c0 s0)).length < 2 ^ 30 := by
      have := sol_few f4
      omega
    simp (maxSteps := 1000000) (disch := first | omega | rfl | (simp only [zL, two63, room] <;> omega) | fail) only [↓reduceIte, ↓zP, zW, WOp, evOp, evBin, binI, binSh, binS, evNil, keyIs, keyEq, mkv, AV.cells, AV.sc, optv, bnd, env, put, Env.get, Env.set, Env.del, Env.dels, Env.init, res1, resL, resV, fillP, splice, newRow, Nat.reduceEqDiff, Nat.reduceLT, Nat.reduceLeDiff, Nat.reduceAdd, Nat.reduceMul, Nat.reduceSub, Nat.reduceBEq, reduceCtorEq, ↓zR, zQ, Tr, StA, StT, M9v, M91, hv9, f2, f3, bne_self_eq_false]
    refine c_nText hl5 f5 s5 ?_
    have A9 := A3.trans (q8.trans p9)
    simp (maxSteps := 1000000) (disch := first | omega | rfl | (simp only [zL, two63, room] <;> omega) | fail) only [↓reduceIte, ↓zP, zW, WOp, evOp, evBin, binI, binSh, binS, evNil, keyIs, keyEq, mkv, AV.cells, AV.sc, optv, bnd, env, put, Env.get, Env.set, Env.del, Env.dels, Env.init, res1, resL, resV, fillP, splice, newRow, Nat.reduceEqDiff, Nat.reduceLT, Nat.reduceLeDiff, Nat.reduceAdd, Nat.reduceMul, Nat.reduceSub, Nat.reduceBEq, reduceCtorEq, ↓zR, zQ, Tr, StA, StT]
    exact hG h9 A9
  case hG =>
    clear s1 M1 M1v M1n Ak hml
    intro h4 A4
    refine c_DrawHarderPuzzle (ht0.pre A4) (by omega) ?_
    intro nq vq Lq hq0 hLq sq0 pq0
    have wqa := (sl_cells sq0).1
    have wqb := (sl_cells sq0).2
    simp only [AV.cells] at wqa
    unfold AV.sc at wqb
    have xq := Pre.push hq0 (AO.row [.int .i64 nq, vq] 0 0 false)
    obtain ⟨bq, bq1, bqv⟩ := rowP hq0 nq vq
    have sq := sq0.pre xq
    have Aq := A4.trans (pq0.trans xq)
    generalize hkq : hq0 ++ [AO.row [.int .i64 nq, vq] 0 0 false] = B at *
    have hq : Lq.length < 2 ^ 63 := by omega
    simp (maxSteps := 1000000) (disch := first | omega | rfl | (simp only [zL, two63, room] <;> omega) | fail) only [↓reduceIte, ↓zP, zW, WOp, evOp, evBin, binI, binSh, binS, evNil, keyIs, keyEq, mkv, AV.cells, AV.sc, optv, bnd, env, put, Env.get, Env.set, Env.del, Env.dels, Env.init, res1, resL, resV, fillP, splice, newRow, Nat.reduceEqDiff, Nat.reduceLT, Nat.reduceLeDiff, Nat.reduceAdd, Nat.reduceMul, Nat.reduceSub, Nat.reduceBEq, reduceCtorEq, ↓zR, zQ, Tr, StA, StT, wqa, wqb, hkq, bq]
    refine c_HarderA nq hq sq ?_
    intro v11 h11 o11 p11
    have w11a := (sl_cells (o11.slc hlC)).1
    have w11b := (sl_cells (o11.slc hlC)).2
    simp only [AV.cells] at w11a
    unfold AV.sc at w11b
    have x11 := Pre.push h11 (AO.row [.int .i64 (hardN nq Lq), v11] 0 0 false)
    obtain ⟨m11, m11n, m11v⟩ := rowP h11 (hardN nq Lq) v11
    generalize hk11 : h11 ++ [AO.row [.int .i64 (hardN nq Lq), v11] 0 0 false] = k11 at *
    have B11 := p11.trans x11
    simp (maxSteps := 1000000) (disch := first | omega | rfl | (simp only [zL, two63, room] <;> omega) | fail) only [↓reduceIte, ↓zP, zW, WOp, evOp, evBin, binI, binSh, binS, evNil, keyIs, keyEq, mkv, AV.cells, AV.sc, optv, bnd, env, put, Env.get, Env.set, Env.del, Env.dels, Env.init, res1, resL, resV, fillP, splice, newRow, Nat.reduceEqDiff, Nat.reduceLT, Nat.reduceLeDiff, Nat.reduceAdd, Nat.reduceMul, Nat.reduceSub, Nat.reduceBEq, reduceCtorEq, ↓zR, zQ, Tr, StA, StT, w11a, w11b, hk11, rdRow_pre B11 bq]
    refine c_sHarderA nq hq (sq.pre B11) ?_
    intro v12 h12 o12 p12
    have w12a := (sl_cells (o12.slc hlC)).1
    have w12b := (sl_cells (o12.slc hlC)).2
    simp only [AV.cells] at w12a
    unfold AV.sc at w12b
    have x12 := Pre.push h12 (AO.row [.int .i64 (hardN nq Lq), v12] 0 0 false)
    obtain ⟨m12, m12n, m12v⟩ := rowP h12 (hardN nq Lq) v12
    generalize hk12 : h12 ++ [AO.row [.int .i64 (hardN nq Lq), v12] 0 0 false] = k12 at *
    have B12 := B11.trans (p12.trans x12)
    simp (maxSteps := 1000000) (disch := first | omega | rfl | (simp only [zL, two63, room] <;> omega) | fail) only [↓reduceIte, ↓zP, zW, WOp, evOp, evBin, binI, binSh, binS, evNil, keyIs, keyEq, mkv, AV.cells, AV.sc, optv, bnd, env, put, Env.get, Env.set, Env.del, Env.dels, Env.init, res1, resL, resV, fillP, splice, newRow, Nat.reduceEqDiff, Nat.reduceLT, Nat.reduceLeDiff, Nat.reduceAdd, Nat.reduceMul, Nat.reduceSub, Nat.reduceBEq, reduceCtorEq, ↓zR, zQ, Tr, StA, StT, w12a, w12b, hk12, rdRow_pre B12 bq]
    refine c_IsSolvedA nq hq (sq.pre B12) ?_
    intro h13 p13
    have M13 := rdRow_pre (p12.trans (x12.trans p13)) m11
    have M13v := rdRow_pre (p12.trans (x12.trans p13)) m11v
    have M13u := rdRow_pre p13 m12
    have s11 := (o11.slc hlC).pre (x11.trans (p12.trans (x12.trans p13)))
    have hhl : (hardC nq Lq).length < 2 ^ 30 := by
      by_cases e : (countP nq Lq == 1) = true
      · have := good_few (one_good e); have := hardC_len nq Lq; omega
      · unfold hardC; rw [if_neg e]; simp
    simp (maxSteps := 1000000) (disch := first | omega | rfl | (simp only [zL, two63, room] <;> omega) | fail) only [↓reduceIte, ↓zP, zW, WOp, evOp, evBin, binI, binSh, binS, evNil, keyIs, keyEq, mkv, AV.cells, AV.sc, optv, bnd, env, put, Env.get, Env.set, Env.del, Env.dels, Env.init, res1, resL, resV, fillP, splice, newRow, Nat.reduceEqDiff, Nat.reduceLT, Nat.reduceLeDiff, Nat.reduceAdd, Nat.reduceMul, Nat.reduceSub, Nat.reduceBEq, reduceCtorEq, ↓zR, zQ, Tr, StA, StT, M13, M13u]
    refine c_nPuzzle (hardN nq Lq) hhl s11 ((o12.slc hlC).pre (x12.trans p13)) ?_
    have Bk := B12.trans p13
    refine' fork (a := h) (b := countP nq Lq == 1) (Aq.trans Bk) _ ?hf2 ?ht2 ?hG2
    case hf2 =>
      intro h14 p14 hG e
      have A14 := Aq.trans (Bk.trans p14)
      cases e6 : goodP nq Lq
      · simp (maxSteps := 1000000) (disch := first | omega | rfl | (simp only [zL, two63, room] <;> omega) | fail) only [↓reduceIte, ↓zP, zW, WOp, evOp, evBin, binI, binSh, binS, evNil, keyIs, keyEq, mkv, AV.cells, AV.sc, optv, bnd, env, put, Env.get, Env.set, Env.del, Env.dels, Env.init, res1, resL, resV, fillP, splice, newRow, Nat.reduceEqDiff, Nat.reduceLT, Nat.reduceLeDiff, Nat.reduceAdd, Nat.reduceMul, Nat.reduceSub, Nat.reduceBEq, reduceCtorEq, ↓zR, zQ, Tr, StA, StT, e, e6]
        exact hG h14 A14
      · simp (maxSteps := 1000000) (disch := first | omega | rfl | (simp only [zL, two63, room] <;> omega) | fail) only [↓reduceIte, ↓zP, zW, WOp, evOp, evBin, binI, binSh, binS, evNil, keyIs, keyEq, mkv, AV.cells, AV.sc, optv, bnd, env, put, Env.get, Env.set, Env.del, Env.dels, Env.init, res1, resL, resV, fillP, splice, newRow, Nat.reduceEqDiff, Nat.reduceLT, Nat.reduceLeDiff, Nat.reduceAdd, Nat.reduceMul, Nat.reduceSub, Nat.reduceBEq, reduceCtorEq, ↓zR, zQ, Tr, StA, StT, e, e6]
        exact hG h14 A14
    case ht2 =>
      intro h14 p14 hG e
      have A14 := Bk.trans p14
      obtain ⟨f1, f2, f3, f4, f5⟩ := hard_all e
      have hql : Lq.length < 2 ^ 30 := by have := good_few f5; omega
      rw [f1] at M13
      simp (maxSteps := 1000000) (disch := first | omega | rfl | (simp only [zL, two63, room] <;> omega) | fail) only [↓reduceIte, ↓zP, zW, WOp, evOp, evBin, binI, binSh, binS, evNil, keyIs, keyEq, mkv, AV.cells, AV.sc, optv, bnd, env, put, Env.get, Env.set, Env.del, Env.dels, Env.init, res1, resL, resV, fillP, splice, newRow, Nat.reduceEqDiff, Nat.reduceLT, Nat.reduceLeDiff, Nat.reduceAdd, Nat.reduceMul, Nat.reduceSub, Nat.reduceBEq, reduceCtorEq, ↓zR, zQ, Tr, StA, StT, e, f5, rdRow_pre A14 bq]
      refine c_Solutions nq hql (sq.pre A14) ?_
      intro v15 h15 o15 p15
      rw [if_pos f5] at o15
      rw [f5]
      have M15 := rdRow_pre (p14.trans p15) M13
      have s15 := s11.pre (p14.trans p15)
      simp (maxSteps := 1000000) (disch := first | omega | rfl | (simp only [zL, two63, room] <;> omega) | fail) only [↓reduceIte, ↓zP, zW, WOp, evOp, evBin, binI, binSh, binS, evNil, keyIs, keyEq, mkv, AV.cells, AV.sc, optv, bnd, env, put, Env.get, Env.set, Env.del, Env.dels, Env.init, res1, resL, resV, fillP, splice, newRow, Nat.reduceEqDiff, Nat.reduceLT, Nat.reduceLeDiff, Nat.reduceAdd, Nat.reduceMul, Nat.reduceSub, Nat.reduceBEq, reduceCtorEq, ↓zR, zQ, Tr, StA, StT, M15]
      refine c_Solutions nq hhl s15 ?_
      intro v16 h16 o16 p16
      rw [if_pos f2, f3] at o16
      rw [f2]
      have M16 := rdRow_pre p16 M15
      have s16 := s15.pre p16
      simp (maxSteps := 1000000) (disch := first | omega | rfl | (simp only [zL, two63, room] <;> omega) | fail) only [↓reduceIte, ↓zP, zW, WOp, evOp, evBin, binI, binSh, binS, evNil, keyIs, keyEq, mkv, AV.cells, AV.sc, optv, bnd, env, put, Env.get, Env.set, Env.del, Env.dels, Env.init, res1, resL, resV, fillP, splice, newRow, Nat.reduceEqDiff, Nat.reduceLT, Nat.reduceLeDiff, Nat.reduceAdd, Nat.reduceMul, Nat.reduceSub, Nat.reduceBEq, reduceCtorEq, ↓zR, zQ, Tr, StA, StT, M16]
      refine c_NeedlessClues woSpec nq hhl s16 ?_
      intro v17 h17 o17 p17
      rw [f4] at o17
      rw [f2]
      have s17 := s16.pre p17
      have sa := (o15.slc hlS).pre (p16.trans p17)
      have sb := (o16.slc hlS).pre p17
      have sn := o17.slc
      have A17 := A14.trans (p15.trans (p16.trans p17))
      have hsol : (solN nq Lq).length < 2 ^ 30 := by have := sol_few f5; omega
      have sq17 := sq.pre A17
      have hcl := hardC_len nq Lq
      simp (maxSteps := 1000000) (disch := first | omega | rfl | (simp only [zL, two63, room] <;> omega) | fail) only [↓reduceIte, ↓zP, zW, WOp, evOp, evBin, binI, binSh, binS, evNil, keyIs, keyEq, mkv, AV.cells, AV.sc, optv, bnd, env, put, Env.get, Env.set, Env.del, Env.dels, Env.init, res1, resL, resV, fillP, splice, newRow, Nat.reduceEqDiff, Nat.reduceLT, Nat.reduceLeDiff, Nat.reduceAdd, Nat.reduceMul, Nat.reduceSub, Nat.reduceBEq, reduceCtorEq, ↓zR, zQ, Tr, StA, StT]
      refine c_nTexts hsol sa sb ?_
      have la := fun g => Slc.lenV (s17) (g := g) (ρ := fun _ => _) (x := .t 0) rfl; simp only [evOp] at la
      have lb := fun g => Slc.lenV (sq17) (g := g) (ρ := fun _ => _) (x := .t 0) rfl; simp only [evOp] at lb
      have lc := fun g => Slc.lenV (sn) (g := g) (ρ := fun _ => _) (x := .t 0) rfl; simp only [evOp] at lc
      have n1 : ¬ (((hardC nq Lq).length : Int) > (Lq.length : Int)) := by omega
      have M17v := rdRow_pre (p14.trans (p15.trans (p16.trans p17))) M13v
      simp (maxSteps := 1000000) (disch := first | omega | rfl | (simp only [zL, two63, room] <;> omega) | fail) only [↓reduceIte, ↓zP, zW, WOp, evOp, evBin, binI, binSh, binS, evNil, keyIs, keyEq, mkv, AV.cells, AV.sc, optv, bnd, env, put, Env.get, Env.set, Env.del, Env.dels, Env.init, res1, resL, resV, fillP, splice, newRow, Nat.reduceEqDiff, Nat.reduceLT, Nat.reduceLeDiff, Nat.reduceAdd, Nat.reduceMul, Nat.reduceSub, Nat.reduceBEq, reduceCtorEq, ↓zR, zQ, Tr, StA, StT, la, lb, lc, n1, M17v, rdRow_pre A17 bqv, bne_self_eq_false]
      exact hG h17 (Aq.trans A17)
    case hG2 =>
      intro h20 A20
      refine c_DrawAddClue (ht0.pre A20) (by omega) ?_
      intro nr vr Lr c gr hLr sr0 pr0
      have wra := (sl_cells sr0).1
      have wrb := (sl_cells sr0).2
      simp only [AV.cells] at wra
      unfold AV.sc at wrb
      have xr := Pre.push gr (AO.row [.int .i64 nr, vr] 0 0 false)
      obtain ⟨br, br1, brv⟩ := rowP gr nr vr
      have hlen0 : (gr ++ [AO.row [.int .i64 0, .nilS] 0 0 false]).length = (gr ++ [AO.row [.int .i64 nr, vr] 0 0 false]).length := by simp
      generalize hkr : gr ++ [AO.row [.int .i64 nr, vr] 0 0 false] = kr at *
      have xc := Pre.push kr (AO.row (encC c) 0 0 false)
      have bc := rowC kr c
      generalize hkc : kr ++ [AO.row (encC c) 0 0 false] = kc at *
      replace br := rdRow_pre xc br
      replace brv := rdRow_pre xc brv
      have sr := sr0.pre (xr.trans xc)
      have Ac := A20.trans (pr0.trans (xr.trans xc))
      have hr : Lr.length < 2 ^ 63 := by omega
      simp (maxSteps := 1000000) (disch := first | omega | rfl | (simp only [zL, two63, room] <;> omega) | fail) only [↓reduceIte, ↓zP, zW, WOp, evOp, evBin, binI, binSh, binS, evNil, keyIs, keyEq, mkv, AV.cells, AV.sc, optv, bnd, env, put, Env.get, Env.set, Env.del, Env.dels, Env.init, res1, resL, resV, fillP, splice, newRow, Nat.reduceEqDiff, Nat.reduceLT, Nat.reduceLeDiff, Nat.reduceAdd, Nat.reduceMul, Nat.reduceSub, Nat.reduceBEq, reduceCtorEq, ↓zR, zQ, Tr, StA, StT, wra, wrb, hlen0, hkr, hkc, br, bc]
      refine c_AddClue nr c hr sr ?_
      intro v21 h21 o21 p21
      have w21a := (sl_cells (o21.slc)).1
      have w21b := (sl_cells (o21.slc)).2
      simp only [AV.cells] at w21a
      unfold AV.sc at w21b
      have x21 := Pre.push h21 (AO.row [.int .i64 (adN nr Lr c), v21] 0 0 false)
      obtain ⟨m21, m21n, m21v⟩ := rowP h21 (adN nr Lr c) v21
      generalize hk21 : h21 ++ [AO.row [.int .i64 (adN nr Lr c), v21] 0 0 false] = k21 at *
      have B21 := p21.trans x21
      simp (maxSteps := 1000000) (disch := first | omega | rfl | (simp only [zL, two63, room] <;> omega) | fail) only [↓reduceIte, ↓zP, zW, WOp, evOp, evBin, binI, binSh, binS, evNil, keyIs, keyEq, mkv, AV.cells, AV.sc, optv, bnd, env, put, Env.get, Env.set, Env.del, Env.dels, Env.init, res1, resL, resV, fillP, splice, newRow, Nat.reduceEqDiff, Nat.reduceLT, Nat.reduceLeDiff, Nat.reduceAdd, Nat.reduceMul, Nat.reduceSub, Nat.reduceBEq, reduceCtorEq, ↓zR, zQ, Tr, StA, StT, w21a, w21b, hk21, rdRow_pre B21 br, rdRow_pre B21 bc]
      refine c_sAddClue nr c hr (sr.pre B21) ?_
      intro v22 h22 o22 p22
      have w22a := (sl_cells (o22.slc)).1
      have w22b := (sl_cells (o22.slc)).2
      simp only [AV.cells] at w22a
      unfold AV.sc at w22b
      have x22 := Pre.push h22 (AO.row [.int .i64 (adN nr Lr c), v22] 0 0 false)
      obtain ⟨m22, m22n, m22v⟩ := rowP h22 (adN nr Lr c) v22
      generalize hk22 : h22 ++ [AO.row [.int .i64 (adN nr Lr c), v22] 0 0 false] = k22 at *
      have B22 := B21.trans (p22.trans x22)
      simp (maxSteps := 1000000) (disch := first | omega | rfl | (simp only [zL, two63, room] <;> omega) | fail) only [↓reduceIte, ↓zP, zW, WOp, evOp, evBin, binI, binSh, binS, evNil, keyIs, keyEq, mkv, AV.cells, AV.sc, optv, bnd, env, put, Env.get, Env.set, Env.del, Env.dels, Env.init, res1, resL, resV, fillP, splice, newRow, Nat.reduceEqDiff, Nat.reduceLT, Nat.reduceLeDiff, Nat.reduceAdd, Nat.reduceMul, Nat.reduceSub, Nat.reduceBEq, reduceCtorEq, ↓zR, zQ, Tr, StA, StT, w22a, w22b, hk22]
      refine c_DrawDropClue (ht0.pre (Ac.trans B22)) (by omega) ?_
      intro ns vs Ls kx gs hLs ss0 ps0
      have wsa := (sl_cells ss0).1
      have wsb := (sl_cells ss0).2
      simp only [AV.cells] at wsa
      unfold AV.sc at wsb
      have xs := Pre.push gs (AO.row [.int .i64 ns, vs] 0 0 false)
      obtain ⟨bs, bs1, bsv⟩ := rowP gs ns vs
      have ss := ss0.pre xs
      generalize hks : gs ++ [AO.row [.int .i64 ns, vs] 0 0 false] = ks at *
      have hs : Ls.length < 2 ^ 63 := by omega
      have B22s := B22.trans (ps0.trans xs)
      simp (maxSteps := 1000000) (disch := first | omega | rfl | (simp only [zL, two63, room] <;> omega) | fail) only [↓reduceIte, ↓zP, zW, WOp, evOp, evBin, binI, binSh, binS, evNil, keyIs, keyEq, mkv, AV.cells, AV.sc, optv, bnd, env, put, Env.get, Env.set, Env.del, Env.dels, Env.init, res1, resL, resV, fillP, splice, newRow, Nat.reduceEqDiff, Nat.reduceLT, Nat.reduceLeDiff, Nat.reduceAdd, Nat.reduceMul, Nat.reduceSub, Nat.reduceBEq, reduceCtorEq, ↓zR, zQ, Tr, StA, StT, wsa, wsb, hks, bs]
      refine c_DropClue ns kx hs ss ?_
      intro v23 h23 o23 p23
      have w23a := (sl_cells (o23.slc hlC)).1
      have w23b := (sl_cells (o23.slc hlC)).2
      simp only [AV.cells] at w23a
      unfold AV.sc at w23b
      have x23 := Pre.push h23 (AO.row [.int .i64 (drN ns Ls kx), v23] 0 0 false)
      obtain ⟨m23, m23n, m23v⟩ := rowP h23 (drN ns Ls kx) v23
      generalize hk23 : h23 ++ [AO.row [.int .i64 (drN ns Ls kx), v23] 0 0 false] = k23 at *
      have C23 := p23.trans x23
      simp (maxSteps := 1000000) (disch := first | omega | rfl | (simp only [zL, two63, room] <;> omega) | fail) only [↓reduceIte, ↓zP, zW, WOp, evOp, evBin, binI, binSh, binS, evNil, keyIs, keyEq, mkv, AV.cells, AV.sc, optv, bnd, env, put, Env.get, Env.set, Env.del, Env.dels, Env.init, res1, resL, resV, fillP, splice, newRow, Nat.reduceEqDiff, Nat.reduceLT, Nat.reduceLeDiff, Nat.reduceAdd, Nat.reduceMul, Nat.reduceSub, Nat.reduceBEq, reduceCtorEq, ↓zR, zQ, Tr, StA, StT, w23a, w23b, hk23, rdRow_pre C23 bs]
      refine c_sDropClue ns kx hs (ss.pre C23) ?_
      intro v24 h24 o24 p24
      have w24a := (sl_cells (o24.slc hlC)).1
      have w24b := (sl_cells (o24.slc hlC)).2
      simp only [AV.cells] at w24a
      unfold AV.sc at w24b
      have x24 := Pre.push h24 (AO.row [.int .i64 (drN ns Ls kx), v24] 0 0 false)
      obtain ⟨m24, m24n, m24v⟩ := rowP h24 (drN ns Ls kx) v24
      generalize hk24 : h24 ++ [AO.row [.int .i64 (drN ns Ls kx), v24] 0 0 false] = k24 at *
      have C24 := C23.trans (p24.trans x24)
      have B24 := B22s.trans C24
      simp (maxSteps := 1000000) (disch := first | omega | rfl | (simp only [zL, two63, room] <;> omega) | fail) only [↓reduceIte, ↓zP, zW, WOp, evOp, evBin, binI, binSh, binS, evNil, keyIs, keyEq, mkv, AV.cells, AV.sc, optv, bnd, env, put, Env.get, Env.set, Env.del, Env.dels, Env.init, res1, resL, resV, fillP, splice, newRow, Nat.reduceEqDiff, Nat.reduceLT, Nat.reduceLeDiff, Nat.reduceAdd, Nat.reduceMul, Nat.reduceSub, Nat.reduceBEq, reduceCtorEq, ↓zR, zQ, Tr, StA, StT, w24a, w24b, hk24]
      refine c_DrawDoesFit (ht0.pre (Ac.trans B24)) (by omega) ?_
      intro d x gd hx0 pd0
      have xd := Pre.push gd (AO.row (encC d) 0 0 false)
      have bd := rowC gd d
      generalize hkd : gd ++ [AO.row (encC d) 0 0 false] = kd at *
      simp (maxSteps := 1000000) (disch := first | omega | rfl | (simp only [zL, two63, room] <;> omega) | fail) only [↓reduceIte, ↓zP, zW, WOp, evOp, evBin, binI, binSh, binS, evNil, keyIs, keyEq, mkv, AV.cells, AV.sc, optv, bnd, env, put, Env.get, Env.set, Env.del, Env.dels, Env.init, res1, resL, resV, fillP, splice, newRow, Nat.reduceEqDiff, Nat.reduceLT, Nat.reduceLeDiff, Nat.reduceAdd, Nat.reduceMul, Nat.reduceSub, Nat.reduceBEq, reduceCtorEq, ↓zR, zQ, Tr, StA, StT, hkd, bd]
      refine c_DoesFitA d x (by omega) ?_
      intro h25 p25
      have bd25 := rdRow_pre p25 bd
      simp (maxSteps := 1000000) (disch := first | omega | rfl | (simp only [zL, two63, room] <;> omega) | fail) only [↓reduceIte, ↓zP, zW, WOp, evOp, evBin, binI, binSh, binS, evNil, keyIs, keyEq, mkv, AV.cells, AV.sc, optv, bnd, env, put, Env.get, Env.set, Env.del, Env.dels, Env.init, res1, resL, resV, fillP, splice, newRow, Nat.reduceEqDiff, Nat.reduceLT, Nat.reduceLeDiff, Nat.reduceAdd, Nat.reduceMul, Nat.reduceSub, Nat.reduceBEq, reduceCtorEq, ↓zR, zQ, Tr, StA, StT, bd25]
      refine c_sDoesFit d x (by omega) ?_
      intro h25b p25b
      have D25 := p25.trans p25b
      have B25 := B24.trans (pd0.trans (xd.trans D25))
      simp (maxSteps := 1000000) (disch := first | omega | rfl | (simp only [zL, two63, room] <;> omega) | fail) only [↓reduceIte, ↓zP, zW, WOp, evOp, evBin, binI, binSh, binS, evNil, keyIs, keyEq, mkv, AV.cells, AV.sc, optv, bnd, env, put, Env.get, Env.set, Env.del, Env.dels, Env.init, res1, resL, resV, fillP, splice, newRow, Nat.reduceEqDiff, Nat.reduceLT, Nat.reduceLeDiff, Nat.reduceAdd, Nat.reduceMul, Nat.reduceSub, Nat.reduceBEq, reduceCtorEq, ↓zR, zQ, Tr, StA, StT]
      refine c_DrawIsClue (ht0.pre (Ac.trans B25)) (by omega) ?_
      intro n e ge pe0
      have xe := Pre.push ge (AO.row (encC e) 0 0 false)
      have be := rowC ge e
      generalize hke : ge ++ [AO.row (encC e) 0 0 false] = h26 at *
      have E26 := pe0.trans xe
      have D26 := D25.trans E26
      have qd := pd0.trans (xd.trans D26)
      replace bd := rdRow_pre D26 bd
      have qs := C24.trans qd
      replace bs := rdRow_pre qs bs
      replace bsv := rdRow_pre qs bsv
      replace ss := ss.pre qs
      have qr := B22s.trans qs
      replace br := rdRow_pre qr br
      replace brv := rdRow_pre qr brv
      replace bc := rdRow_pre qr bc
      replace sr := sr.pre qr
      have q24 := qd
      have M24 := rdRow_pre q24 m24
      have s24 := (o24.slc hlC).pre (x24.trans q24)
      have q23 := p24.trans (x24.trans q24)
      have M23 := rdRow_pre q23 m23
      have s23 := (o23.slc hlC).pre (x23.trans q23)
      have q22 := (ps0.trans xs).trans (p23.trans (x23.trans q23))
      have M22 := rdRow_pre q22 m22
      have s22 := o22.slc.pre (x22.trans q22)
      have q21 := p22.trans (x22.trans q22)
      have M21 := rdRow_pre q21 m21
      have M21v := rdRow_pre q21 m21v
      have s21 := o21.slc.pre (x21.trans q21)
      have B26 := Pre.refl h26
      clear q21 q22 q23 q24 qr qs qd D26 E26 B25 D25 B24 C24 C23 B22s B22 B21 p21 p22 p23 p24 p25 p25b x21 x22 x23 x24 w21a w22a w23a w24a w21b w22b w23b w24b o21 o22 o23 o24 hk21 hk22 hk23 hk24 m21 m22 m23 m24 m21v m22v m23v m24v sr0 ss0 hkr hkc hks hkd hlen0
      simp (maxSteps := 1000000) (disch := first | omega | rfl | (simp only [zL, two63, room] <;> omega) | fail) only [↓reduceIte, ↓zP, zW, WOp, evOp, evBin, binI, binSh, binS, evNil, keyIs, keyEq, mkv, AV.cells, AV.sc, optv, bnd, env, put, Env.get, Env.set, Env.del, Env.dels, Env.init, res1, resL, resV, fillP, splice, newRow, Nat.reduceEqDiff, Nat.reduceLT, Nat.reduceLeDiff, Nat.reduceAdd, Nat.reduceMul, Nat.reduceSub, Nat.reduceBEq, reduceCtorEq, ↓zR, zQ, Tr, StA, StT, hke]
      have hal : (adC nr Lr c).length < 2 ^ 30 := by
        unfold adC; split
        · rename_i e1; have := ad_good e1; simp; omega
        · simp
      have hdl : (drC ns Ls kx).length < 2 ^ 30 := by
        unfold drC; split
        · rename_i e1
          unfold drB at e1
          rw [Bool.and_eq_true] at e1
          have := good_few e1.1; have := wo_len Ls kx.toNat; omega
        · simp
      refine w_drw ?_
      simp (maxSteps := 1000000) (disch := first | omega | rfl | (simp only [zL, two63, room] <;> omega) | fail) only [↓reduceIte, ↓zP, zW, WOp, evOp, evBin, binI, binSh, binS, evNil, keyIs, keyEq, mkv, AV.cells, AV.sc, optv, bnd, env, put, Env.get, Env.set, Env.del, Env.dels, Env.init, res1, resL, resV, fillP, splice, newRow, Nat.reduceEqDiff, Nat.reduceLT, Nat.reduceLeDiff, Nat.reduceAdd, Nat.reduceMul, Nat.reduceSub, Nat.reduceBEq, reduceCtorEq, ↓zR, zQ, Tr, StA, StT, M21, M22, M23, M24]
      refine c_nPuzzle (adN nr Lr c) hal s21 s22 ?_
      intro h27 p27
      simp (maxSteps := 1000000) (disch := first | omega | rfl | (simp only [zL, two63, room] <;> omega) | fail) only [↓reduceIte, ↓zP, zW, WOp, evOp, evBin, binI, binSh, binS, evNil, keyIs, keyEq, mkv, AV.cells, AV.sc, optv, bnd, env, put, Env.get, Env.set, Env.del, Env.dels, Env.init, res1, resL, resV, fillP, splice, newRow, Nat.reduceEqDiff, Nat.reduceLT, Nat.reduceLeDiff, Nat.reduceAdd, Nat.reduceMul, Nat.reduceSub, Nat.reduceBEq, reduceCtorEq, ↓zR, zQ, Tr, StA, StT, rdRow_pre p27 M23, rdRow_pre p27 M24]
      refine c_nPuzzle (drN ns Ls kx) hdl (s23.pre p27) (s24.pre p27) ?_
      intro h28 p28
      have q28 := p27.trans p28
      have e28 := rdRow_pre (B26.trans q28) be
      simp (maxSteps := 1000000) (disch := first | omega | rfl | (simp only [zL, two63, room] <;> omega) | fail) only [↓reduceIte, ↓zP, zW, WOp, evOp, evBin, binI, binSh, binS, evNil, keyIs, keyEq, mkv, AV.cells, AV.sc, optv, bnd, env, put, Env.get, Env.set, Env.del, Env.dels, Env.init, res1, resL, resV, fillP, splice, newRow, Nat.reduceEqDiff, Nat.reduceLT, Nat.reduceLeDiff, Nat.reduceAdd, Nat.reduceMul, Nat.reduceSub, Nat.reduceBEq, reduceCtorEq, ↓zR, zQ, Tr, StA, StT, e28]
      refine c_IsClueA n e ?_
      intro h29 p29
      have e29 := rdRow_pre p29 e28
      simp (maxSteps := 1000000) (disch := first | omega | rfl | (simp only [zL, two63, room] <;> omega) | fail) only [↓reduceIte, ↓zP, zW, WOp, evOp, evBin, binI, binSh, binS, evNil, keyIs, keyEq, mkv, AV.cells, AV.sc, optv, bnd, env, put, Env.get, Env.set, Env.del, Env.dels, Env.init, res1, resL, resV, fillP, splice, newRow, Nat.reduceEqDiff, Nat.reduceLT, Nat.reduceLeDiff, Nat.reduceAdd, Nat.reduceMul, Nat.reduceSub, Nat.reduceBEq, reduceCtorEq, ↓zR, zQ, Tr, StA, StT, e28, e29]
      refine c_sIsClue n e ?_
      refine' fork (a := h26) (b := dfOk d x) (q28.trans p29) _ ?hf3 ?ht3 ?hG3
      case hf3 =>
        intro h30 p30 hG e3
        have e30 := rdRow_pre p30 e29
        have q30 := (q28.trans p29).trans p30
        simp (maxSteps := 1000000) (disch := first | omega | rfl | (simp only [zL, two63, room] <;> omega) | fail) only [↓reduceIte, ↓zP, zW, WOp, evOp, evBin, binI, binSh, binS, evNil, keyIs, keyEq, mkv, AV.cells, AV.sc, optv, bnd, env, put, Env.get, Env.set, Env.del, Env.dels, Env.init, res1, resL, resV, fillP, splice, newRow, Nat.reduceEqDiff, Nat.reduceLT, Nat.reduceLeDiff, Nat.reduceAdd, Nat.reduceMul, Nat.reduceSub, Nat.reduceBEq, reduceCtorEq, ↓zR, zQ, Tr, StA, StT, e28, e29, e30, e3]
        exact hG h30 q30
      case ht3 =>
        intro h30 p30 hG e3
        have e30 := rdRow_pre p30 e29
        have q30 := (q28.trans p29).trans p30
        have d30 := rdRow_pre (B26.trans q30) bd
        have hdx := df_is e3
        simp (maxSteps := 1000000) (disch := first | omega | rfl | (simp only [zL, two63, room] <;> omega) | fail) only [↓reduceIte, ↓zP, zW, WOp, evOp, evBin, binI, binSh, binS, evNil, keyIs, keyEq, mkv, AV.cells, AV.sc, optv, bnd, env, put, Env.get, Env.set, Env.del, Env.dels, Env.init, res1, resL, resV, fillP, splice, newRow, Nat.reduceEqDiff, Nat.reduceLT, Nat.reduceLeDiff, Nat.reduceAdd, Nat.reduceMul, Nat.reduceSub, Nat.reduceBEq, reduceCtorEq, ↓zR, zQ, Tr, StA, StT, e28, e29, e30, e3, d30]
        refine c_IsClueA x.length d ?_
        intro h31 p31
        rw [hdx]
        have e31 := rdRow_pre p31 e30
        simp (maxSteps := 1000000) (disch := first | omega | rfl | (simp only [zL, two63, room] <;> omega) | fail) only [↓reduceIte, ↓zP, zW, WOp, evOp, evBin, binI, binSh, binS, evNil, keyIs, keyEq, mkv, AV.cells, AV.sc, optv, bnd, env, put, Env.get, Env.set, Env.del, Env.dels, Env.init, res1, resL, resV, fillP, splice, newRow, Nat.reduceEqDiff, Nat.reduceLT, Nat.reduceLeDiff, Nat.reduceAdd, Nat.reduceMul, Nat.reduceSub, Nat.reduceBEq, reduceCtorEq, ↓zR, zQ, Tr, StA, StT, e28, e29, e30, e31, d30]
        exact hG h31 (q30.trans p31)
      case hG3 =>
      refine' fork (a := h26) (b := adB nr Lr c) (Pre.refl h26) _ ?hf4 ?ht4 ?hG4
      case hf4 =>
        intro h32 p32 hG e4
        simp (maxSteps := 1000000) (disch := first | omega | rfl | (simp only [zL, two63, room] <;> omega) | fail) only [↓reduceIte, ↓zP, zW, WOp, evOp, evBin, binI, binSh, binS, evNil, keyIs, keyEq, mkv, AV.cells, AV.sc, optv, bnd, env, put, Env.get, Env.set, Env.del, Env.dels, Env.init, res1, resL, resV, fillP, splice, newRow, Nat.reduceEqDiff, Nat.reduceLT, Nat.reduceLeDiff, Nat.reduceAdd, Nat.reduceMul, Nat.reduceSub, Nat.reduceBEq, reduceCtorEq, ↓zR, zQ, Tr, StA, StT, e4]
        exact hG h32 p32
      case ht4 =>
        intro h32 p32 hG e4
        obtain ⟨f1, f2, f3⟩ := ad_back e4
        obtain ⟨f4, f5, f6⟩ := ad_good e4
        have eC : adC nr Lr c = Lr ++ [c] := by unfold adC; rw [e4]; rfl
        have eN : adN nr Lr c = nr := by unfold adN; rw [e4]; rfl
        rw [eC] at s21
        rw [eN] at M21
        have B32 := B26.trans p32
        have sr32 := sr.pre B32
        have br32 := rdRow_pre B32 br
        have brv32 := rdRow_pre B32 brv
        have bc32 := rdRow_pre B32 bc
        have M32 := rdRow_pre p32 M21
        have M32v := rdRow_pre p32 M21v
        have s32 := s21.pre p32
        have lr := fun g => Slc.lenV (sr32) (g := g) (ρ := fun _ => _) (x := .t 0) rfl; simp only [evOp] at lr
        simp (maxSteps := 1000000) (disch := first | omega | rfl | (simp only [zL, two63, room] <;> omega) | fail) only [↓reduceIte, ↓zP, zW, WOp, evOp, evBin, binI, binSh, binS, evNil, keyIs, keyEq, mkv, AV.cells, AV.sc, optv, bnd, env, put, Env.get, Env.set, Env.del, Env.dels, Env.init, res1, resL, resV, fillP, splice, newRow, Nat.reduceEqDiff, Nat.reduceLT, Nat.reduceLeDiff, Nat.reduceAdd, Nat.reduceMul, Nat.reduceSub, Nat.reduceBEq, reduceCtorEq, ↓zR, zQ, Tr, StA, StT, e4, M32, brv32, lr]
        refine c_DropClue nr (Lr.length : Nat) (by simp; omega) s32 ?_
        intro v33 h33 o33 p33
        rw [f1, f3]
        rw [f2] at o33
        have w33a := (sl_cells (o33.slc hlC)).1
        have w33b := (sl_cells (o33.slc hlC)).2
        simp only [AV.cells] at w33a
        unfold AV.sc at w33b
        have x33 := Pre.push h33 (AO.row [.int .i64 (nr), v33] 0 0 false)
        obtain ⟨m33, m33n, m33v⟩ := rowP h33 (nr) v33
        generalize hk33 : h33 ++ [AO.row [.int .i64 (nr), v33] 0 0 false] = k33 at *
        have q33 := p33.trans x33
        have br33 := rdRow_pre q33 br32
        simp (maxSteps := 1000000) (disch := first | omega | rfl | (simp only [zL, two63, room] <;> omega) | fail) only [↓reduceIte, ↓zP, zW, WOp, evOp, evBin, binI, binSh, binS, evNil, keyIs, keyEq, mkv, AV.cells, AV.sc, optv, bnd, env, put, Env.get, Env.set, Env.del, Env.dels, Env.init, res1, resL, resV, fillP, splice, newRow, Nat.reduceEqDiff, Nat.reduceLT, Nat.reduceLeDiff, Nat.reduceAdd, Nat.reduceMul, Nat.reduceSub, Nat.reduceBEq, reduceCtorEq, ↓zR, zQ, Tr, StA, StT, w33a, w33b, hk33, m33, br33]
        refine c_nPuzzle nr (by omega) ((o33.slc hlC).pre x33) (sr32.pre q33) ?_
        intro h34 p34
        have q34 := q33.trans p34
        have s34 := s32.pre q34
        have M34v := rdRow_pre q34 M32v
        have brv34 := rdRow_pre q34 brv32
        have bc34 := rdRow_pre q34 bc32
        obtain ⟨d1, k1, o1, hve, hq1⟩ := s34.at hlC
        have hlt : (Lr.length : Int) < ((Lr ++ [c]).length : Int) := by simp; omega
        have hq1' : rdRow h34 d1 k1 (o1 + Lr.length * 3) 3 = some [.int .i64 c.1, .int .i64 c.2.1, .int .i64 c.2.2] := hq1
        have bc34' : rdRow h34 kr.length 0 0 3 = some [.int .i64 c.1, .int .i64 c.2.1, .int .i64 c.2.2] := bc34
        subst hve
        simp (maxSteps := 1000000) (disch := first | omega | rfl | (simp only [zL, two63, room] <;> omega) | fail) only [↓reduceIte, ↓zP, zW, WOp, evOp, evBin, binI, binSh, binS, evNil, keyIs, keyEq, mkv, AV.cells, AV.sc, optv, bnd, env, put, Env.get, Env.set, Env.del, Env.dels, Env.init, res1, resL, resV, fillP, splice, newRow, Nat.reduceEqDiff, Nat.reduceLT, Nat.reduceLeDiff, Nat.reduceAdd, Nat.reduceMul, Nat.reduceSub, Nat.reduceBEq, reduceCtorEq, ↓zR, zQ, Tr, StA, StT, M34v, brv34, bc34', lr, hlt, hq1', seqCx]
        exact hG h34 (p32.trans q34)
      case hG4 =>
        intro h36 p36
        have B36 := B26.trans p36
        have bsv36 := rdRow_pre B36 bsv
        have ss36 := ss.pre B36
        have ls := fun g => Slc.lenV (ss36) (g := g) (ρ := fun _ => _) (x := .t 0) rfl; simp only [evOp] at ls
        have hw1 : IntKind.i64.wrap ((Ls.length : Int) - 1) = (Ls.length : Int) - 1 := wrap_i (by omega)
        cases e6 : drB ns Ls kx
        · simp (maxSteps := 1000000) (disch := first | omega | rfl | (simp only [zL, two63, room] <;> omega) | fail) only [↓reduceIte, ↓zP, zW, WOp, evOp, evBin, binI, binSh, binS, evNil, keyIs, keyEq, mkv, AV.cells, AV.sc, optv, bnd, env, put, Env.get, Env.set, Env.del, Env.dels, Env.init, res1, resL, resV, fillP, splice, newRow, Nat.reduceEqDiff, Nat.reduceLT, Nat.reduceLeDiff, Nat.reduceAdd, Nat.reduceMul, Nat.reduceSub, Nat.reduceBEq, reduceCtorEq, ↓zR, zQ, Tr, StA, StT, e6]
          exact hp _
        by_cases hk : kx = (Ls.length : Int) - 1
        · obtain ⟨pre, c', rfl, rfl, f1, f2, f3, f4⟩ := dr_again e6 hk
          have eC : adC ns pre c' = pre ++ [c'] := by unfold adC; rw [f3]; rfl
          have eN : adN ns pre c' = ns := by unfold adN; rw [f3]; rfl
          rw [f1] at s23
          rw [f2] at M23
          have hkb : ((pre.length : Int) == ((pre ++ [c']).length : Int) - 1) = true := beq_t hk
          have M36 := rdRow_pre p36 M23
          have s36 := s23.pre p36
          have bs36 := rdRow_pre B36 bs
          obtain ⟨d1, k1, o1, hve, hq1⟩ := ss36.at hlC
          have hlt : (pre.length : Int) < ((pre ++ [c']).length : Int) := by simp; omega
          have hq1' : rdRow h36 d1 k1 (o1 + pre.length * 3) 3 = some [.int .i64 c'.1, .int .i64 c'.2.1, .int .i64 c'.2.2] := hq1
          subst hve
          simp (maxSteps := 1000000) (disch := first | omega | rfl | (simp only [zL, two63, room] <;> omega) | fail) only [↓reduceIte, ↓zP, zW, WOp, evOp, evBin, binI, binSh, binS, evNil, keyIs, keyEq, mkv, AV.cells, AV.sc, optv, bnd, env, put, Env.get, Env.set, Env.del, Env.dels, Env.init, res1, resL, resV, fillP, splice, newRow, Nat.reduceEqDiff, Nat.reduceLT, Nat.reduceLeDiff, Nat.reduceAdd, Nat.reduceMul, Nat.reduceSub, Nat.reduceBEq, reduceCtorEq, ↓zR, zQ, Tr, StA, StT, e6, bsv36, hw1, hkb]
          refine w_drw ?_
          simp (maxSteps := 1000000) (disch := first | omega | rfl | (simp only [zL, two63, room] <;> omega) | fail) only [↓reduceIte, ↓zP, zW, WOp, evOp, evBin, binI, binSh, binS, evNil, keyIs, keyEq, mkv, AV.cells, AV.sc, optv, bnd, env, put, Env.get, Env.set, Env.del, Env.dels, Env.init, res1, resL, resV, fillP, splice, newRow, Nat.reduceEqDiff, Nat.reduceLT, Nat.reduceLeDiff, Nat.reduceAdd, Nat.reduceMul, Nat.reduceSub, Nat.reduceBEq, reduceCtorEq, ↓zR, zQ, Tr, StA, StT, M36, bsv36, hlt, hq1']
          refine c_AddClue ns c' (by simp at f4; omega) s36 ?_
          intro v37 h37 o37 p37
          rw [f3, eN]
          rw [eC] at o37
          have w37a := (sl_cells (o37.slc)).1
          have w37b := (sl_cells (o37.slc)).2
          simp only [AV.cells] at w37a
          unfold AV.sc at w37b
          have x37 := Pre.push h37 (AO.row [.int .i64 (ns), v37] 0 0 false)
          obtain ⟨m37, m37n, m37v⟩ := rowP h37 (ns) v37
          generalize hk37 : h37 ++ [AO.row [.int .i64 (ns), v37] 0 0 false] = k37 at *
          have M37 := rdRow_pre p37 M36
          have bsv37 := rdRow_pre p37 bsv36
          have hq37 := rdRow_pre p37 hq1'
          have l1 := rd_lt M37
          have l2 := rd_lt bsv37
          have l3 := rd_lt hq37
          have bs37 := rdRow_pre (p37.trans x37) bs36
          simp (maxSteps := 1000000) (disch := first | omega | rfl | (simp only [zL, two63, room] <;> omega) | fail) only [↓reduceIte, ↓zP, zW, WOp, evOp, evBin, binI, binSh, binS, evNil, keyIs, keyEq, mkv, AV.cells, AV.sc, optv, bnd, env, put, Env.get, Env.set, Env.del, Env.dels, Env.init, res1, resL, resV, fillP, splice, newRow, Nat.reduceEqDiff, Nat.reduceLT, Nat.reduceLeDiff, Nat.reduceAdd, Nat.reduceMul, Nat.reduceSub, Nat.reduceBEq, reduceCtorEq, ↓zR, zQ, Tr, StA, StT, w37a, w37b, hk37, m37, M36, bsv36, hq1', M37, bsv37, hq37, hlt, bs37]
          refine c_nPuzzle ns (by simp at f4 ⊢; omega) (o37.slc.pre x37) (ss36.pre (p37.trans x37)) ?_
          intro h38 p38
          simp (maxSteps := 1000000) (disch := first | omega | rfl | (simp only [zL, two63, room] <;> omega) | fail) only [↓reduceIte, ↓zP, zW, WOp, evOp, evBin, binI, binSh, binS, evNil, keyIs, keyEq, mkv, AV.cells, AV.sc, optv, bnd, env, put, Env.get, Env.set, Env.del, Env.dels, Env.init, res1, resL, resV, fillP, splice, newRow, Nat.reduceEqDiff, Nat.reduceLT, Nat.reduceLeDiff, Nat.reduceAdd, Nat.reduceMul, Nat.reduceSub, Nat.reduceBEq, reduceCtorEq, ↓zR, zQ, Tr, StA, StT]
          exact hp _
        · have hkb : (kx == (Ls.length : Int) - 1) = false := beq_f hk
          simp (maxSteps := 1000000) (disch := first | omega | rfl | (simp only [zL, two63, room] <;> omega) | fail) only [↓reduceIte, ↓zP, zW, WOp, evOp, evBin, binI, binSh, binS, evNil, keyIs, keyEq, mkv, AV.cells, AV.sc, optv, bnd, env, put, Env.get, Env.set, Env.del, Env.dels, Env.init, res1, resL, resV, fillP, splice, newRow, Nat.reduceEqDiff, Nat.reduceLT, Nat.reduceLeDiff, Nat.reduceAdd, Nat.reduceMul, Nat.reduceSub, Nat.reduceBEq, reduceCtorEq, ↓zR, zQ, Tr, StA, StT, e6, bsv36, ls, hw1, hkb]
          exact hp _
theorem law_LinesHidden {cv mv : AV} {cs ms : List UInt8} {h : AH} (hs : Slc 1 encU h cv cs) (ht : Slc 1 encU h mv ms) : S 561 [cv, mv] h (fun r _ => r = .bool true) k := law_LinesHidden_of hs ht fun _ => rfl
end Go.Proofs.YtnamhjdfegohbaaGreatDoor.Ab

/- The law FnLinesHidden of the given program returns true, whatever the input: its tied card. Condition: what the row lists of package-level tables is laid as the program's text lays it. -/
namespace Go.Proofs.YtnamhjdfegohbaaGreatDoor.fnLinesHidden
open Go Go.ChangeShapes Go.WideShapes Go.ChangeAt Go.RowKit
set_option maxRecDepth 1000000

theorem own : ownKnob Tryz.prog.godebug = none := by kernel_rfl
theorem laidOut : laidOutB Tryz.prog = true := by kernel_rfl
theorem readable : ∀ t ∈ Tryz.f5.params.toList, Tryz.prog.readableRec t = true ∧ t < Tryz.prog.types.size := by
  rw [Tryz.params5]
  intro t ht
  simp only [List.mem_cons, List.not_mem_nil, or_false] at ht
  rcases ht with rfl | rfl
  · exact ⟨by kernel_rfl, of_decide_eq_true (by kernel_rfl)⟩
  · exact ⟨by kernel_rfl, of_decide_eq_true (by kernel_rfl)⟩
theorem contract (H : Type) (enc : TypeId × Value → H) (W : World) (base : Nat) (args : Array Value) (ds gs : List (DataW H)) (before : List MemPlace)
    (hval : ∀ (j : Nat) t v, Tryz.f5.params[j]? = some t → args[j]? = some v → Value.okWide Tryz.prog W .any base t v)
    (hW : DataW.Whole enc Tryz.prog Tryz.f5.params.toList Rows.fnLinesHiddenSpec.vars false W args.toList ds gs before) :
    Calls Tryz.prog 5 args W fun e W' => ∃ v, e = .returned v ∧ Rows.fnLinesHiddenSpec.post enc Tryz.prog Tryz.f5 false true false false W args v W' := by
  have hW' := hW
  obtain ⟨p, q, hA0, hV, rfl, hfz, hnd⟩ := hW
  obtain ⟨rfl, rfl⟩ := trodVars_none hV
  have hA : DataW.TrodAll enc Tryz.prog W 0 (fun _ => true) true Tryz.f5.params.toList args.toList ds p := hA0
  rw [Tryz.params5] at hA hval
  obtain ⟨v0, vs0, d0, ds0, p0, q0, hargs0, rfl, rfl, h0, r0⟩ := trodAll_cons hA
  obtain ⟨v1, vs1, d1, ds1, p1, q1, hargs1, rfl, rfl, h1, r1⟩ := trodAll_cons r0
  obtain ⟨rfl, rfl, rfl⟩ := trodAll_nil r1
  obtain rfl : args = #[v0, v1] := by cases args; simp_all
  obtain ⟨s0, m0, g0, a0, _, _, sl0, hv0, rel0⟩ := Ab.open_bytes (F := Ab.F) (Ab.rel_nothing Ab.F W) Tryz.underlying65 Tryz.underlying5 (by kernel_rfl) (hval 0 65 v0 rfl rfl) h0
  obtain ⟨s1, m, g, a1, le1, pre1, sl1, hv1, hrel⟩ := Ab.open_bytes (F := Ab.F) rel0 Tryz.underlying65 Tryz.underlying5 (by kernel_rfl) (hval 1 65 v1 rfl rfl) h1
  have hlaw := Ab.law_LinesHidden (sl0.pre pre1) sl1
  have hargs : Ab.RelL Ab.F m [a0, a1] (#[v0, v1] : Array Value).toList := by
    simp only [Ab.RelL]
    exact ⟨v0, [v1], rfl, Ab.RelV.mono le1 _ _ hv0, v1, [], rfl, hv1, rfl⟩
  have hres : (Rows.fnLinesHiddenSpec.fn H ([d0, d1] ++ [])).results = [.lit (.bool true)] := rfl
  have hback : (Rows.fnLinesHiddenSpec.fn H ([d0, d1] ++ [])).args = [d0, d1] := rfl
  refine (Ab.law_calls (P := Tryz.prog) (F := Ab.F) Ab.all_sound (f := 561) (h := g) hlaw hrel hargs).mono ?_
  rintro e W' ⟨rfl, hb⟩
  refine ⟨_, rfl, Ab.post_below (pa := p0 ++ (p1 ++ [])) (pv := []) hW' (fun _ _ _ => ?_) (fun sp hsp => ?_) (fun _ _ => rfl) (by simp) hb (ok_one (by kernel_rfl) rfl (okWide_bool_mk Tryz.underlying4 _))⟩
  · rw [hres]
    exact trodAll_cons_mk (shut_bool Tryz.underlying4 _) trodAll_mk0
  · rw [hback]
    exact Ab.trodAll_stays laidOut hb readable hA0 (fun x hx => hW'.lt x (by simpa using hx)) (fun x hx => hsp x (by simpa using hx))

/-- A WORLD FOR THE WITNESS: the settled one, the tables holding what is laid. -/
def lits : List (DataW Unit) → List Value
  | [] => []
  | .lit (.int kd n) :: l => .int kd n :: lits l
  | _ :: l => lits l
def cellsT : DataW Unit → List Value
  | .agg l => l.flatMap fun
    | .lit (.int kd n) => [.int kd n]
    | .agg l' => lits l'
    | _ => []
  | _ => []
def setCells (cs : List Value) : Obj → Obj
  | .cells _ t frozen => .cells cs.toArray t frozen
  | o => o
noncomputable def laidWorld (os : Os) : World :=
  { World.holding Tryz.prog os ⟨#[], #[], []⟩ with heap := ((World.holding Tryz.prog os ⟨#[], #[], []⟩).heap.modify 1 (setCells (cellsT Rows.laid_unicode_utf8_first))).modify 2 (setCells (cellsT Rows.laid_unicode_utf8_acceptRanges)) }
theorem laid_met (os : Os) : laidMet Tryz.prog Rows.fnLinesHiddenRow.laid ((laidWorld os).forCall (fun _ _ => 0) ⟨#[], #[.slice none 0 0, .slice none 0 0], []⟩).memory :=
  laidMet_of_run' 8 (by kernel_rfl) (by kernel_rfl)
theorem reads (os : Os) {H : Type} (enc : TypeId × Value → H) : ∃ places, DataW.whole enc Tryz.prog ((laidWorld os).forCall (fun _ _ => 0) ⟨#[], #[.slice none 0 0, .slice none 0 0], []⟩).memory Tryz.f5.params.toList Rows.fnLinesHiddenSpec.vars false (#[.slice none 0 0, .slice none 0 0] : Array Value).toList 8 = some ([.nil, .nil], [], places) :=
  ⟨[], by kernel_rfl⟩

theorem lifted (os : Os) (started : os.Started) (H : Type) (enc : TypeId × Value → H) (F : Stop.Interp) :
    ReturnsInHanded {} Tryz.checked os 5 .any ((OpenSpec.ofChange Rows.fnLinesHiddenSpec).preRow enc Tryz.prog Tryz.f5 Rows.fnLinesHiddenRow.domain false Rows.fnLinesHiddenRow.laid) (((OpenSpec.ofChange Rows.fnLinesHiddenSpec).at F).post enc Tryz.prog Tryz.f5 false true false false) := by
  obtain ⟨places, hx⟩ := reads os enc
  refine returnsInHanded_of_row (C := Tryz.checked) (s := OpenSpec.ofChange Rows.fnLinesHiddenSpec) own started (by kernel_rfl) Tryz.func5
    (witness_row_at (enc := enc) (C := Tryz.checked) false (laidWorld os) #[.slice none 0 0, .slice none 0 0] rfl (by kernel_rfl) (by kernel_rfl) (by kernel_rfl)
      (OpenSpec.preRow_of_cond 8 hx (by kernel_rfl) (fun k hk => by cases hk) (by kernel_rfl) (laid_met os))) ?_
  intro W base args ds gs before hval hW _ _ _ _ _ _
  exact contract H enc W base args ds gs before hval hW

theorem said : Rows.FnLinesHiddenSaid :=
  OpenClaim.holds_of_cond 5 Tryz.f5 rfl rfl rfl rfl rfl rfl rfl ⟨rfl, rfl, rfl, rfl, rfl⟩ rfl rfl rfl rfl rfl (by kernel_rfl) Tryz.func5 (by kernel_rfl)
    (of_decide_eq_true (by kernel_rfl)) (by unfold Func.isWrapper; first | (rw [if_pos (by decide +kernel)]; kernel_rfl) | (rw [if_neg (by decide +kernel)]; exact ⟨rfl, rfl⟩))
    (fun os started H enc _ F => by rw [OpenClaim.pre_eq_preRow]; exact lifted os started H enc F)

/-- No parameter wants a stand-in; the program's own looks are off: what the card asks. -/
theorem plain (f : FuncId) (fn : Func) (hf : Tryz.pinned.checked.prog.funcNamed "loop.example/g01271/laws.FnLinesHidden" = some f) (hfn : Tryz.pinned.checked.prog.funcs[f]? = some fn) :
    false = Tryz.pinned.checked.prog.looks [] ∧ ∀ (j : Nat) t, fn.params[j]? = some t → Tryz.pinned.checked.prog.wantsStandIn t = false := by
  obtain rfl : f = 5 := Option.some.inj ((show Tryz.prog.funcNamed "loop.example/g01271/laws.FnLinesHidden" = some 5 by kernel_rfl).symm.trans hf) |>.symm
  obtain rfl : fn = Tryz.f5 := (Option.some.inj (Tryz.func5.symm.trans hfn)).symm
  refine ⟨by kernel_rfl, fun j t ht => ?_⟩
  rw [Tryz.params5] at ht
  have hm : t ∈ ([65, 65] : List Nat) := by
    have := Array.mem_of_getElem? ht
    simpa using this
  simp only [List.mem_cons, List.not_mem_nil, or_false] at hm
  rcases hm with rfl | rfl
  · exact (show Tryz.prog.wantsStandIn 65 = false by kernel_rfl)
  · exact (show Tryz.prog.wantsStandIn 65 = false by kernel_rfl)
theorem card : Rows.FnLinesHiddenCardSaid :=
  Claim7.holds_tied_plain_at .later [] _ _ _ _ said (fun _ h => by cases h) (by kernel_rfl) (fun _ h => by cases h) fnLinesHidden_row_tie rfl ⟨rfl, rfl⟩ (by kernel_rfl) rfl plain (by kernel_rfl)
end Go.Proofs.YtnamhjdfegohbaaGreatDoor.fnLinesHidden
