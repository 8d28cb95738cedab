/- Part 6 of the proof of a law of the given program: the rules that it leans on, and what the functions that it reaches answer; the conditions stand with each theorem. -/
import Derived.Test.YtejhhdpfndiliaaDoorQ4
set_option linter.unusedSimpArgs false
set_option linter.unusedVariables false
/- RULES: the program's list of moves, what can be made, what is made. -/
namespace Go.Proofs.YtejhhdpfndiliaaDoor.Ab
open Go
set_option maxRecDepth 100000
set_option maxHeartbeats 4000000

theorem lsI_two {w : List UInt8} {r : Ru} {i : Nat} (hi : i < w.length) (hs : isSign (w.getD i 0) = true) : lsI w r i false ++ lsI w r i true = mvRi w r i := by
  rcases sign3' hs with h | h | h
  case inr.inl => unfold lsI; rw [if_pos h, if_pos h, mvRi_no h]; rfl
  all_goals
    have hn : ¬ w.getD i 0 = 46 := by rw [h]; decide
    unfold lsI
    rw [if_neg hn, if_neg hn, mvRi_eq hi (by first | exact .inl h | exact .inr h)]
    rfl
theorem lsI_len (w : List UInt8) (r : Ru) (i : Nat) (b : Bool) : (lsI w r i b).length ≤ 1 := by
  unfold lsI
  split
  · simp
  · exact lsD_len w r i b
theorem lp_movesBy {w : List UInt8} (hw : w.length < 2 ^ 28) (hs : ∀ i, i < w.length → isSign (w.getD i 0) = true) (r : Ru) {p3 : Nat} {B : AH} (hpB : p3 < B.length) (hb3 : B[p3]? = some (.row (encR r) 0 0 false)) {R : X → Env → AH → Prop} : ∀ (d i : Nat) (v : AV) (out : List (Int × Int)) (h : AH), i + d = w.length → out.length ≤ 2 * i → OwL 2 encM B h v out → Pre B h →
    (∀ v' h', OwL 2 encM B h' v' (out ++ (List.range' i d).flatMap (mvRi w r)) → Pre B h' → R (.exit 0) [(5, v')] h') →
    Cx (.loop lp55_0) [(0, .str w), (3, .ptr p3 0 0 3), (5, v), (14, .int .i64 w.length), (15, .int .i64 i)] h R k k
  | 0, i, v, out, h, hd, hl, ho, hp, hR => by
    have hn : w.length = i := by omega
    rw [hn]
    rw [w_loopb (c := lp55_0) (d := lb55_0) rfl]; unfold lb55_0
    simp (maxSteps := 1000000) (disch := first | omega | rfl | (simp only [zL, two63, room] <;> omega) | fail) only [↓reduceIte, ↓zP, zW, WOp, evOp, evBin, binI, binSh, binS, evNil, keyIs, keyEq, mkv, AV.cells, AV.sc, optv, bnd, env, put, Env.get, Env.set, Env.del, Env.dels, Env.init, res1, resL, resV, fillP, splice, newRow, Nat.reduceEqDiff, Nat.reduceLT, Nat.reduceLeDiff, Nat.reduceAdd, Nat.reduceMul, Nat.reduceSub, Nat.reduceBEq, reduceCtorEq, ↓zR, zQ, Tr, StA, StT]
    have := hR v h (by simpa using ho) hp
    exact this
  | d + 1, i, v, out, h, hd, hl, ho, hp, hR => by
    have hi : i < w.length := by omega
    have hlt : (i : Int) < (w.length : Int) := by omega
    have hw1 : IntKind.i64.wrap ((i : Int) + 1) = ((i + 1 : Nat) : Int) := by rw [IntKind.wrap_i64]; omega
    have hsg := hs i hi
    have hrow : ∀ r0, rowOf v = some r0 → r0 < h.length := fun r0 hr => own_lt ho hr
    rw [w_loopb (c := lp55_0) (d := lb55_0) rfl]; unfold lb55_0
    simp (maxSteps := 1000000) (disch := first | omega | rfl | (simp only [zL, two63, room] <;> omega) | fail) only [↓reduceIte, ↓zP, zW, WOp, evOp, evBin, binI, binSh, binS, evNil, keyIs, keyEq, mkv, AV.cells, AV.sc, optv, bnd, env, put, Env.get, Env.set, Env.del, Env.dels, Env.init, res1, resL, resV, fillP, splice, newRow, Nat.reduceEqDiff, Nat.reduceLT, Nat.reduceLeDiff, Nat.reduceAdd, Nat.reduceMul, Nat.reduceSub, Nat.reduceBEq, reduceCtorEq, ↓zR, zQ, Tr, StA, StT, hlt]
    generalize hA : h ++ [AO.row [.int .i64 (-1), .int .i64 1] 0 0 false] = hA'
    have pA : Pre h hA' := hA ▸ Pre.push _ _
    have lA : hA'.length = h.length + 1 := by rw [← hA]; simp
    have hq : hA'[h.length]? = some (.row [.int .i64 (-1), .int .i64 1] 0 0 false) := by rw [← hA]; simp
    have hpl := hp.1
    have hqv : rowOf v ≠ some h.length := fun e => by have := hrow _ e; omega
    have hp3 : hA'[p3]? = some (.row (encR r) 0 0 false) := by rw [pA.2 _ (by omega), hp.2 _ hpB, hb3]
    have hq0 : rdRow hA' h.length 0 (0 * 1) 1 = some [.int .i64 (dirI false)] := by rw [← hA, rd_last]; simp [dirI]
    refine mb_turn (B := B) (v := v) (out := out) (by omega) hi hsg r false 0 (by omega) hpB hp3 hq hq0 _ _ (ho.pre pA) (by omega) hqv (by omega) ?_
    intro v1 h1 ho1 ag1 e1 n1
    have hq1 := hq; rw [← e1] at hq1
    have hp3' : h1[p3]? = some (.row (encR r) 0 0 false) := by rw [ag1.2 _ hpB, hp3]
    have hq2 : rdRow h1 h.length 0 (1 * 1) 1 = some [.int .i64 (dirI true)] := by rw [rdRow, hq1]; simp [dirI]
    have l1 := lsI_len w r i false
    have l2 := lsI_len w r i true
    have lb1 := ag1.1
    refine mb_turn (B := B) (v := v1) (out := out ++ lsI w r i false) (by omega) hi hsg r true 1 (by omega) hpB hp3' hq1 hq2 _ _ ho1 (by omega) n1 (by rw [List.length_append]; omega) ?_
    intro v2 h2 ho2 ag2 e2 n2
    rw [List.append_assoc, lsI_two hi hsg] at ho2
    rw [show ((1 : Nat) : Int) + 1 = 2 from rfl]
    rw [w_loopb (c := lp55_1) (d := lb55_1) rfl]; unfold lb55_1
    simp (maxSteps := 1000000) (disch := first | omega | rfl | (simp only [zL, two63, room] <;> omega) | fail) only [↓reduceIte, ↓zP, zW, WOp, evOp, evBin, binI, binSh, binS, evNil, keyIs, keyEq, mkv, AV.cells, AV.sc, optv, bnd, env, put, Env.get, Env.set, Env.del, Env.dels, Env.init, res1, resL, resV, fillP, splice, newRow, Nat.reduceEqDiff, Nat.reduceLT, Nat.reduceLeDiff, Nat.reduceAdd, Nat.reduceMul, Nat.reduceSub, Nat.reduceBEq, reduceCtorEq, ↓zR, zQ, Tr, StA, StT, hw1]
    rw [w_loopn (c := lp55_0) rfl]
    simp (maxSteps := 1000000) (disch := first | omega | rfl | (simp only [zL, two63, room] <;> omega) | fail) only [↓reduceIte, ↓zP, zW, WOp, evOp, evBin, binI, binSh, binS, evNil, keyIs, keyEq, mkv, AV.cells, AV.sc, optv, bnd, env, put, Env.get, Env.set, Env.del, Env.dels, Env.init, res1, resL, resV, fillP, splice, newRow, Nat.reduceEqDiff, Nat.reduceLT, Nat.reduceLeDiff, Nat.reduceAdd, Nat.reduceMul, Nat.reduceSub, Nat.reduceBEq, reduceCtorEq, ↓zR, zQ, Tr, StA, StT]
    refine lp_movesBy hw hs r hpB hb3 d (i + 1) v2 (out ++ mvRi w r i) h2 (by omega) ?_ ho2 ((hp.trans pA).trans' (ag1.trans ag2)) ?_
    · rw [← lsI_two hi hsg, List.length_append, List.length_append]; omega
    · intro v' h' ho' hp'
      refine hR v' h' ?_ hp'
      rw [List.range'_succ, List.flatMap_cons, ← List.append_assoc]
      exact ho'
theorem c_movesBy {w : List UInt8} (hw : w.length < 2 ^ 28) (hs : ∀ i, i < w.length → isSign (w.getD i 0) = true) (r : Ru) {h : AH} {post : AV → AH → Prop} (hp : ∀ v h', OwL 2 encM h h' v (mvR w r) → Pre h h' → post v h') : S 55 [.str w, .agg (encR r)] h post k := by
  refine S_of rfl T55 ?_; unfold fi55
  simp (maxSteps := 1000000) (disch := first | omega | rfl | (simp only [zL, two63, room] <;> omega) | fail) only [↓reduceIte, ↓zP, zW, WOp, evOp, evBin, binI, binSh, binS, evNil, keyIs, keyEq, mkv, AV.cells, AV.sc, optv, bnd, env, put, Env.get, Env.set, Env.del, Env.dels, Env.init, res1, resL, resV, fillP, splice, newRow, Nat.reduceEqDiff, Nat.reduceLT, Nat.reduceLeDiff, Nat.reduceAdd, Nat.reduceMul, Nat.reduceSub, Nat.reduceBEq, reduceCtorEq, ↓zR, zQ, Tr, StA, StT]
  have p1 := Pre.push h (AO.row (encR r) 0 0 false)
  have h7 : (h ++ [AO.row (encR r) 0 0 false])[h.length]? = some (.row (encR r) 0 0 false) := by simp
  refine lp_movesBy hw hs r (B := h ++ [AO.row (encR r) 0 0 false]) (by simp) h7 w.length 0 .empS [] _ (by omega) (by simp) OwL.emp (Pre.refl _) ?_
  intro v h' ho hp'
  simp (maxSteps := 1000000) (disch := first | omega | rfl | (simp only [zL, two63, room] <;> omega) | fail) only [↓reduceIte, ↓zP, zW, WOp, evOp, evBin, binI, binSh, binS, evNil, keyIs, keyEq, mkv, AV.cells, AV.sc, optv, bnd, env, put, Env.get, Env.set, Env.del, Env.dels, Env.init, res1, resL, resV, fillP, splice, newRow, Nat.reduceEqDiff, Nat.reduceLT, Nat.reduceLeDiff, Nat.reduceAdd, Nat.reduceMul, Nat.reduceSub, Nat.reduceBEq, reduceCtorEq, ↓zR, zQ, Tr, StA, StT]
  refine hp v h' ?_ (p1.trans hp')
  rw [List.nil_append, ← List.range_eq_range'] at ho
  exact ho.old p1.1
theorem lp_IndexR {v : AV} {L : List (Int × Int)} (hL : L.length < 2 ^ 30) (m : Int × Int) {g : AH} {c0 : Nat} (hc0 : rdRow g c0 0 0 2 = some (encM m)) (hs : Slc 2 encM g v L) {R : X → Env → AH → Prop} : ∀ (rest pre : List (Int × Int)), L = pre ++ rest →
    (∀ i : Nat, m ∈ rest → R .ret [(4, .int .i64 (i : Int))] g) → (m ∉ rest → R (.exit 0) [] g) →
    Cx (.loop lp133_0) [(0, v), (3, .ptr c0 0 0 2), (7, .int .i64 L.length), (8, .int .i64 pre.length)] g R k k
  | [], pre, hpre, h1, h2 => by
    rw [w_loopb (c := lp133_0) (d := lb133_0) rfl]; unfold lb133_0
    have hl : L.length = pre.length := by rw [hpre]; simp
    rw [hl]
    simp (maxSteps := 1000000) (disch := first | omega | rfl | (simp only [zL, two63, room] <;> omega) | fail) only [↓reduceIte, ↓zP, zW, WOp, evOp, evBin, binI, binSh, binS, evNil, keyIs, keyEq, mkv, AV.cells, AV.sc, optv, bnd, env, put, Env.get, Env.set, Env.del, Env.dels, Env.init, res1, resL, resV, fillP, splice, newRow, Nat.reduceEqDiff, Nat.reduceLT, Nat.reduceLeDiff, Nat.reduceAdd, Nat.reduceMul, Nat.reduceSub, Nat.reduceBEq, reduceCtorEq, ↓zR, zQ, Tr, StA, StT]
    exact h2 (by simp)
  | x :: rest, pre, hpre, h1, h2 => by
    have ih := lp_IndexR hL m hc0 hs (R := R) rest (pre ++ [x]) (by rw [hpre]; simp)
    have hl : L.length = pre.length + 1 + rest.length := by rw [hpre]; simp; omega
    have hs' := hs
    rw [hpre] at hs'
    obtain ⟨c, kk, off, hv, hr⟩ := hs'.at hlM
    rw [← hpre, hl] at hv
    subst hv
    rw [hl] at ih ⊢
    have hlt : (pre.length : Int) < ((pre.length + 1 + rest.length : Nat) : Int) := by omega
    have hw1 : (pre.length : Int) + 1 = ((pre ++ [x]).length : Int) := by simp
    obtain ⟨m1, m2⟩ := m
    obtain ⟨x1, x2⟩ := x
    rw [w_loopb (c := lp133_0) (d := lb133_0) rfl]; unfold lb133_0
    by_cases e : ((m1, m2) : Int × Int) = (x1, x2)
    · cases e
      simp (maxSteps := 1000000) (disch := first | omega | rfl | (simp only [zL, two63, room] <;> omega) | fail) only [↓reduceIte, ↓zP, zW, WOp, evOp, evBin, binI, binSh, binS, evNil, keyIs, keyEq, mkv, AV.cells, AV.sc, optv, bnd, env, put, Env.get, Env.set, Env.del, Env.dels, Env.init, res1, resL, resV, fillP, splice, newRow, Nat.reduceEqDiff, Nat.reduceLT, Nat.reduceLeDiff, Nat.reduceAdd, Nat.reduceMul, Nat.reduceSub, Nat.reduceBEq, reduceCtorEq, ↓zR, zQ, Tr, StA, StT, hlt, hr, hc0, seqL]
      exact h1 pre.length (by simp)
    · have hb : (m1 == x1 && m2 == x2) = false := by
        cases hbe : (m1 == x1 && m2 == x2)
        · rfl
        · rw [Bool.and_eq_true, beq_iff_eq, beq_iff_eq] at hbe
          exact absurd (by rw [hbe.1, hbe.2]) e
      simp (maxSteps := 1000000) (disch := first | omega | rfl | (simp only [zL, two63, room] <;> omega) | fail) only [↓reduceIte, ↓zP, zW, WOp, evOp, evBin, binI, binSh, binS, evNil, keyIs, keyEq, mkv, AV.cells, AV.sc, optv, bnd, env, put, Env.get, Env.set, Env.del, Env.dels, Env.init, res1, resL, resV, fillP, splice, newRow, Nat.reduceEqDiff, Nat.reduceLT, Nat.reduceLeDiff, Nat.reduceAdd, Nat.reduceMul, Nat.reduceSub, Nat.reduceBEq, reduceCtorEq, ↓zR, zQ, Tr, StA, StT, hlt, hr, hc0, seqL, hb, hw1]
      rw [w_loopn (c := lp133_0) rfl]
      simp (maxSteps := 1000000) (disch := first | omega | rfl | (simp only [zL, two63, room] <;> omega) | fail) only [↓reduceIte, ↓zP, zW, WOp, evOp, evBin, binI, binSh, binS, evNil, keyIs, keyEq, mkv, AV.cells, AV.sc, optv, bnd, env, put, Env.get, Env.set, Env.del, Env.dels, Env.init, res1, resL, resV, fillP, splice, newRow, Nat.reduceEqDiff, Nat.reduceLT, Nat.reduceLeDiff, Nat.reduceAdd, Nat.reduceMul, Nat.reduceSub, Nat.reduceBEq, reduceCtorEq, ↓zR, zQ, Tr, StA, StT]
      refine ih (fun i hi => h1 i (by simp [hi])) (fun hn => h2 ?_)
      rw [List.mem_cons, not_or]
      exact ⟨e, hn⟩
theorem c_ContainsR {v : AV} {L : List (Int × Int)} (hL : L.length < 2 ^ 30) (m : Int × Int) {g : AH} (hs : Slc 2 encM g v L) {post : AV → AH → Prop} (hp : ∀ g', Pre g g' → post (.bool (decide (m ∈ L))) g') : S 60 [v, .agg (encM m)] g post k := by
  have pA := Pre.push g (AO.row (encM m) 0 0 false)
  have rA : rdRow (g ++ [AO.row (encM m) 0 0 false]) g.length 0 0 2 = some (encM m) := by simp (maxSteps := 1000000) (disch := first | omega | rfl | (simp only [zL, two63, room] <;> omega) | fail) only [↓reduceIte, ↓zP, zW, WOp, evOp, evBin, binI, binSh, binS, evNil, keyIs, keyEq, mkv, AV.cells, AV.sc, optv, bnd, env, put, Env.get, Env.set, Env.del, Env.dels, Env.init, res1, resL, resV, fillP, splice, newRow, Nat.reduceEqDiff, Nat.reduceLT, Nat.reduceLeDiff, Nat.reduceAdd, Nat.reduceMul, Nat.reduceSub, Nat.reduceBEq, reduceCtorEq, ↓zR, zQ, Tr, StA, StT]
  generalize hgA : g ++ [AO.row (encM m) 0 0 false] = gA at pA rA
  have pB := Pre.push gA (AO.row (encM m) 0 0 false)
  have rB : rdRow (gA ++ [AO.row (encM m) 0 0 false]) gA.length 0 0 2 = some (encM m) := by simp (maxSteps := 1000000) (disch := first | omega | rfl | (simp only [zL, two63, room] <;> omega) | fail) only [↓reduceIte, ↓zP, zW, WOp, evOp, evBin, binI, binSh, binS, evNil, keyIs, keyEq, mkv, AV.cells, AV.sc, optv, bnd, env, put, Env.get, Env.set, Env.del, Env.dels, Env.init, res1, resL, resV, fillP, splice, newRow, Nat.reduceEqDiff, Nat.reduceLT, Nat.reduceLeDiff, Nat.reduceAdd, Nat.reduceMul, Nat.reduceSub, Nat.reduceBEq, reduceCtorEq, ↓zR, zQ, Tr, StA, StT]
  generalize hgB : gA ++ [AO.row (encM m) 0 0 false] = gB at pB rB
  have hsB := (hs.pre pA).pre pB
  have hq := hp gB (pA.trans pB)
  have hI : ∀ post2 : AV → AH → Prop, (m ∈ L → ∀ i : Nat, post2 (.int .i64 (i : Int)) gB) → (m ∉ L → post2 (.int .i64 (-1)) gB) → S 133 [v, .agg (encM m)] gA post2 k := by
    intro post2 h1 h2
    refine S_of rfl T133 ?_; unfold fi133
    have hv := fun g => Slc.lenV (hsB) (g := g) (ρ := fun _ => _) (x := .t 0) rfl; simp only [evOp] at hv
    simp (maxSteps := 1000000) (disch := first | omega | rfl | (simp only [zL, two63, room] <;> omega) | fail) only [↓reduceIte, ↓zP, zW, WOp, evOp, evBin, binI, binSh, binS, evNil, keyIs, keyEq, mkv, AV.cells, AV.sc, optv, bnd, env, put, Env.get, Env.set, Env.del, Env.dels, Env.init, res1, resL, resV, fillP, splice, newRow, Nat.reduceEqDiff, Nat.reduceLT, Nat.reduceLeDiff, Nat.reduceAdd, Nat.reduceMul, Nat.reduceSub, Nat.reduceBEq, reduceCtorEq, ↓zR, zQ, Tr, StA, StT, hgB, hv]
    refine lp_IndexR hL m rB hsB L [] rfl ?_ ?_
    · intro i hi
      simp (maxSteps := 1000000) (disch := first | omega | rfl | (simp only [zL, two63, room] <;> omega) | fail) only [↓reduceIte, ↓zP, zW, WOp, evOp, evBin, binI, binSh, binS, evNil, keyIs, keyEq, mkv, AV.cells, AV.sc, optv, bnd, env, put, Env.get, Env.set, Env.del, Env.dels, Env.init, res1, resL, resV, fillP, splice, newRow, Nat.reduceEqDiff, Nat.reduceLT, Nat.reduceLeDiff, Nat.reduceAdd, Nat.reduceMul, Nat.reduceSub, Nat.reduceBEq, reduceCtorEq, ↓zR, zQ, Tr, StA, StT]
      exact h1 hi i
    · intro hn
      simp (maxSteps := 1000000) (disch := first | omega | rfl | (simp only [zL, two63, room] <;> omega) | fail) only [↓reduceIte, ↓zP, zW, WOp, evOp, evBin, binI, binSh, binS, evNil, keyIs, keyEq, mkv, AV.cells, AV.sc, optv, bnd, env, put, Env.get, Env.set, Env.del, Env.dels, Env.init, res1, resL, resV, fillP, splice, newRow, Nat.reduceEqDiff, Nat.reduceLT, Nat.reduceLeDiff, Nat.reduceAdd, Nat.reduceMul, Nat.reduceSub, Nat.reduceBEq, reduceCtorEq, ↓zR, zQ, Tr, StA, StT]
      exact h2 hn
  refine S_of rfl T60 ?_; unfold fi60
  simp (maxSteps := 1000000) (disch := first | omega | rfl | (simp only [zL, two63, room] <;> omega) | fail) only [↓reduceIte, ↓zP, zW, WOp, evOp, evBin, binI, binSh, binS, evNil, keyIs, keyEq, mkv, AV.cells, AV.sc, optv, bnd, env, put, Env.get, Env.set, Env.del, Env.dels, Env.init, res1, resL, resV, fillP, splice, newRow, Nat.reduceEqDiff, Nat.reduceLT, Nat.reduceLeDiff, Nat.reduceAdd, Nat.reduceMul, Nat.reduceSub, Nat.reduceBEq, reduceCtorEq, ↓zR, zQ, Tr, StA, StT, hgA, rA]
  refine hI _ ?_ ?_
  · intro hm i
    have hge : (i : Int) ≥ 0 := by omega
    rw [decide_eq_true hm] at hq
    simp (maxSteps := 1000000) (disch := first | omega | rfl | (simp only [zL, two63, room] <;> omega) | fail) only [↓reduceIte, ↓zP, zW, WOp, evOp, evBin, binI, binSh, binS, evNil, keyIs, keyEq, mkv, AV.cells, AV.sc, optv, bnd, env, put, Env.get, Env.set, Env.del, Env.dels, Env.init, res1, resL, resV, fillP, splice, newRow, Nat.reduceEqDiff, Nat.reduceLT, Nat.reduceLeDiff, Nat.reduceAdd, Nat.reduceMul, Nat.reduceSub, Nat.reduceBEq, reduceCtorEq, ↓zR, zQ, Tr, StA, StT, hge]
    exact hq
  · intro hm
    rw [decide_eq_false hm] at hq
    simp (maxSteps := 1000000) (disch := first | omega | rfl | (simp only [zL, two63, room] <;> omega) | fail) only [↓reduceIte, ↓zP, zW, WOp, evOp, evBin, binI, binSh, binS, evNil, keyIs, keyEq, mkv, AV.cells, AV.sc, optv, bnd, env, put, Env.get, Env.set, Env.del, Env.dels, Env.init, res1, resL, resV, fillP, splice, newRow, Nat.reduceEqDiff, Nat.reduceLT, Nat.reduceLeDiff, Nat.reduceAdd, Nat.reduceMul, Nat.reduceSub, Nat.reduceBEq, reduceCtorEq, ↓zR, zQ, Tr, StA, StT]
    exact hq


end Go.Proofs.YtejhhdpfndiliaaDoor.Ab

/- RULES: the program's functions of moves by rules. -/
namespace Go.Proofs.YtejhhdpfndiliaaDoor.Ab
open Go
set_option maxRecDepth 100000
set_option maxHeartbeats 4000000

def rmL (w : List UInt8) (r : Ru) : List (Int × Int) := if plG10 w then mvR w r else []
def rcG (w : List UInt8) (r : Ru) (m : Int × Int) : Bool := plG10 w && rcB w r m
def mkR (w : List UInt8) (r : Ru) (m : Int × Int) : List UInt8 := if rcG w r m then madeB w m.1.toNat m.2.toNat else []
/-- The line behind the moves that can be made by a rule, and how many. -/
def plR (r : Ru) : List UInt8 → List (Int × Int) → List UInt8 × Nat
  | w, [] => (w, 0)
  | w, m :: ms => if rcB w r m then ((plR r (madeB w m.1.toNat m.2.toNat) ms).1, (plR r (madeB w m.1.toNat m.2.toNat) ms).2 + 1) else (w, 0)
theorem plR_le (r : Ru) : ∀ (ms : List (Int × Int)) (w : List UInt8), (plR r w ms).2 ≤ ms.length
  | [], w => Nat.le_refl _
  | m :: ms, w => by
    unfold plR
    split
    · have := plR_le r ms (madeB w m.1.toNat m.2.toNat)
      simp only [List.length_cons]; omega
    · simp
def pbOk (r : Ru) (w : List UInt8) (L : List (Int × Int)) : Bool := plG10 w && decide (L.length ≤ 100) && decide ((plR r w L).2 = L.length)
def pbG (r : Ru) (w : List UInt8) (L : List (Int × Int)) : List UInt8 := if pbOk r w L then (plR r w L).1 else []
theorem mvR_len (w : List UInt8) (r : Ru) : (mvR w r).length ≤ w.length * w.length := by
  have h1 : ∀ l : List Nat, (l.flatMap (mvRi w r)).length ≤ l.length * w.length := by
    intro l
    induction l with
    | nil => simp
    | cons a l ih =>
      have : (mvRi w r a).length ≤ w.length := by
        unfold mvRi
        rw [List.length_map]
        exact Nat.le_trans (List.length_filter_le _ _) (by simp)
      rw [List.flatMap_cons, List.length_append, List.length_cons, Nat.succ_mul]; omega
  have := h1 (List.range w.length)
  rwa [List.length_range] at this
theorem signs_sg {w : List UInt8} (h : signs w) : ∀ i, i < w.length → isSign (w.getD i 0) = true := fun i hi => sign_at h hi
theorem signs_madeR {w : List UInt8} {i t : Nat} (hg : signs w) (hi : i < w.length) : signs (madeB w i t) := by
  have hs := sign_at hg hi
  unfold signs madeB at *
  rw [List.all_eq_true] at *
  intro x hx
  rcases List.mem_or_eq_of_mem_set hx with h | h
  · rcases List.mem_or_eq_of_mem_set h with h | h
    · exact hg x h
    · rw [h]; exact hs
  · rw [h]; rfl
theorem rcB_mv {w : List UInt8} {r : Ru} {i t : Int} (h : rcB w r (i, t) = true) : ∃ i' t' : Nat, i = i' ∧ t = t' ∧ RcP w r i' t' := by
  unfold rcB at h
  obtain ⟨h1, h2, h3⟩ := of_decide_eq_true h
  exact ⟨i.toNat, t.toNat, by simp only at h1; omega, by simp only at h2; omega, h3⟩
theorem RcP.ne {w : List UInt8} {r : Ru} {i t : Nat} (h : RcP w r i t) : i ≠ t := by
  rintro rfl
  exact h.2.2.1 h.2.2.2.1
theorem mem_rcB (w : List UInt8) (r : Ru) (m : Int × Int) : decide (m ∈ mvR w r) = rcB w r m := by
  rw [← has_mvR, Bool.eq_iff_iff, List.contains_iff_mem, decide_eq_true_iff]
theorem c_RuleMoves (w : List UInt8) (hw : w.length < 2 ^ 60) (r : Ru) {h : AH} {post : AV → AH → Prop} (hp : ∀ v h', OwL 2 encM h h' v (rmL w r) → Pre h h' → post (.tup [v, .bool (plG10 w)]) h') : S 18 [.str w, .agg (encR r)] h post k := by
  unfold rmL at hp
  have p1 := Pre.push h (AO.row (encR r) 0 0 false)
  refine S_of rfl T18 ?_; unfold fi18
  cases hg : plG10 w <;> rw [hg] at hp
  · simp (maxSteps := 1000000) (disch := first | omega | rfl | (simp only [zL, two63, room] <;> omega) | fail) only [↓reduceIte, ↓zP, zW, WOp, evOp, evBin, binI, binSh, binS, evNil, keyIs, keyEq, mkv, AV.cells, AV.sc, optv, bnd, env, put, Env.get, Env.set, Env.del, Env.dels, Env.init, res1, resL, resV, fillP, splice, newRow, Nat.reduceEqDiff, Nat.reduceLT, Nat.reduceLeDiff, Nat.reduceAdd, Nat.reduceMul, Nat.reduceSub, Nat.reduceBEq, reduceCtorEq, ↓zR, zQ, Tr, StA, StT, e_isReachG w hw, hg]
    exact hp .nilS _ OwL.nil p1
  · obtain ⟨l1, l2, l3⟩ := pl10 hg
    simp (maxSteps := 1000000) (disch := first | omega | rfl | (simp only [zL, two63, room] <;> omega) | fail) only [↓reduceIte, ↓zP, zW, WOp, evOp, evBin, binI, binSh, binS, evNil, keyIs, keyEq, mkv, AV.cells, AV.sc, optv, bnd, env, put, Env.get, Env.set, Env.del, Env.dels, Env.init, res1, resL, resV, fillP, splice, newRow, Nat.reduceEqDiff, Nat.reduceLT, Nat.reduceLeDiff, Nat.reduceAdd, Nat.reduceMul, Nat.reduceSub, Nat.reduceBEq, reduceCtorEq, ↓zR, zQ, Tr, StA, StT, e_isReachG w hw, hg]
    refine c_movesBy (by omega) (signs_sg l3) r ?_
    intro v h' ho hp'
    simp (maxSteps := 1000000) (disch := first | omega | rfl | (simp only [zL, two63, room] <;> omega) | fail) only [↓reduceIte, ↓zP, zW, WOp, evOp, evBin, binI, binSh, binS, evNil, keyIs, keyEq, mkv, AV.cells, AV.sc, optv, bnd, env, put, Env.get, Env.set, Env.del, Env.dels, Env.init, res1, resL, resV, fillP, splice, newRow, Nat.reduceEqDiff, Nat.reduceLT, Nat.reduceLeDiff, Nat.reduceAdd, Nat.reduceMul, Nat.reduceSub, Nat.reduceBEq, reduceCtorEq, ↓zR, zQ, Tr, StA, StT]
    exact hp v h' (ho.old p1.1) (p1.trans hp')
theorem c_CanByRule (w : List UInt8) (hw : w.length < 2 ^ 60) (r : Ru) (i t : Int) {h : AH} {post : AV → AH → Prop} (hp : ∀ h', Pre h h' → post (.tup [.bool (rcG w r (i, t)), .bool (plG10 w)]) h') : S 13 [.str w, mvV i t, .agg (encR r)] h post k := by
  unfold rcG at hp
  have p1 := Pre.push h (AO.row [AV.int .i64 i, AV.int .i64 t] 0 0 false)
  have p2 := Pre.push (h ++ [AO.row [AV.int .i64 i, AV.int .i64 t] 0 0 false]) (AO.row (encR r) 0 0 false)
  have q := rdRow_pre p2 (mvRow h i t).1
  refine S_of rfl T13 ?_; unfold fi13
  cases hg : plG10 w <;> rw [hg] at hp
  · simp (maxSteps := 1000000) (disch := first | omega | rfl | (simp only [zL, two63, room] <;> omega) | fail) only [↓reduceIte, ↓zP, zW, WOp, evOp, evBin, binI, binSh, binS, evNil, keyIs, keyEq, mkv, AV.cells, AV.sc, optv, bnd, env, put, Env.get, Env.set, Env.del, Env.dels, Env.init, res1, resL, resV, fillP, splice, newRow, Nat.reduceEqDiff, Nat.reduceLT, Nat.reduceLeDiff, Nat.reduceAdd, Nat.reduceMul, Nat.reduceSub, Nat.reduceBEq, reduceCtorEq, ↓zR, zQ, Tr, StA, StT, e_isReachG w hw, hg]
    exact hp _ (p1.trans p2)
  · obtain ⟨l1, l2, l3⟩ := pl10 hg
    have hL : (mvR w r).length < 2 ^ 30 := by
      have := mvR_len w r
      have h2 : w.length * w.length ≤ 10 * 10 := Nat.mul_le_mul l2 l2
      omega
    simp (maxSteps := 1000000) (disch := first | omega | rfl | (simp only [zL, two63, room] <;> omega) | fail) only [↓reduceIte, ↓zP, zW, WOp, evOp, evBin, binI, binSh, binS, evNil, keyIs, keyEq, mkv, AV.cells, AV.sc, optv, bnd, env, put, Env.get, Env.set, Env.del, Env.dels, Env.init, res1, resL, resV, fillP, splice, newRow, Nat.reduceEqDiff, Nat.reduceLT, Nat.reduceLeDiff, Nat.reduceAdd, Nat.reduceMul, Nat.reduceSub, Nat.reduceBEq, reduceCtorEq, ↓zR, zQ, Tr, StA, StT, e_isReachG w hw, hg]
    try refine w_drw ?_
    simp (maxSteps := 1000000) (disch := first | omega | rfl | (simp only [zL, two63, room] <;> omega) | fail) only [↓reduceIte, ↓zP, zW, WOp, evOp, evBin, binI, binSh, binS, evNil, keyIs, keyEq, mkv, AV.cells, AV.sc, optv, bnd, env, put, Env.get, Env.set, Env.del, Env.dels, Env.init, res1, resL, resV, fillP, splice, newRow, Nat.reduceEqDiff, Nat.reduceLT, Nat.reduceLeDiff, Nat.reduceAdd, Nat.reduceMul, Nat.reduceSub, Nat.reduceBEq, reduceCtorEq, ↓zR, zQ, Tr, StA, StT]
    refine c_movesBy (by omega) (signs_sg l3) r ?_
    intro v h1 ho hp1
    have q' := rdRow_pre hp1 q
    simp (maxSteps := 1000000) (disch := first | omega | rfl | (simp only [zL, two63, room] <;> omega) | fail) only [↓reduceIte, ↓zP, zW, WOp, evOp, evBin, binI, binSh, binS, evNil, keyIs, keyEq, mkv, AV.cells, AV.sc, optv, bnd, env, put, Env.get, Env.set, Env.del, Env.dels, Env.init, res1, resL, resV, fillP, splice, newRow, Nat.reduceEqDiff, Nat.reduceLT, Nat.reduceLeDiff, Nat.reduceAdd, Nat.reduceMul, Nat.reduceSub, Nat.reduceBEq, reduceCtorEq, ↓zR, zQ, Tr, StA, StT, q']
    refine c_ContainsR hL (i, t) ho.slc ?_
    intro h2 hp2
    rw [mem_rcB]
    simp (maxSteps := 1000000) (disch := first | omega | rfl | (simp only [zL, two63, room] <;> omega) | fail) only [↓reduceIte, ↓zP, zW, WOp, evOp, evBin, binI, binSh, binS, evNil, keyIs, keyEq, mkv, AV.cells, AV.sc, optv, bnd, env, put, Env.get, Env.set, Env.del, Env.dels, Env.init, res1, resL, resV, fillP, splice, newRow, Nat.reduceEqDiff, Nat.reduceLT, Nat.reduceLeDiff, Nat.reduceAdd, Nat.reduceMul, Nat.reduceSub, Nat.reduceBEq, reduceCtorEq, ↓zR, zQ, Tr, StA, StT, q']
    exact hp h2 (p1.trans (p2.trans (hp1.trans hp2)))
theorem c_MakeByRule (w : List UInt8) (hw : w.length < 2 ^ 60) (r : Ru) (i t : Int) {h : AH} {post : AV → AH → Prop} (hp : ∀ h', Pre h h' → post (.tup [.str (mkR w r (i, t)), .bool (rcG w r (i, t))]) h') : S 1 [.str w, mvV i t, .agg (encR r)] h post k := by
  unfold mkR at hp
  have p1 := Pre.push h (AO.row [AV.int .i64 i, AV.int .i64 t] 0 0 false)
  have p2 := Pre.push (h ++ [AO.row [AV.int .i64 i, AV.int .i64 t] 0 0 false]) (AO.row (encR r) 0 0 false)
  have q := rdRow_pre p2 (mvRow h i t).1
  refine S_of rfl T1 ?_; unfold fi1
  simp (maxSteps := 1000000) (disch := first | omega | rfl | (simp only [zL, two63, room] <;> omega) | fail) only [↓reduceIte, ↓zP, zW, WOp, evOp, evBin, binI, binSh, binS, evNil, keyIs, keyEq, mkv, AV.cells, AV.sc, optv, bnd, env, put, Env.get, Env.set, Env.del, Env.dels, Env.init, res1, resL, resV, fillP, splice, newRow, Nat.reduceEqDiff, Nat.reduceLT, Nat.reduceLeDiff, Nat.reduceAdd, Nat.reduceMul, Nat.reduceSub, Nat.reduceBEq, reduceCtorEq, ↓zR, zQ, Tr, StA, StT, q]
  refine c_CanByRule w hw r i t ?_
  intro h1 hp1
  have q' := rdRow_pre hp1 q
  cases hg : rcG w r (i, t) <;> rw [hg] at hp
  · cases hg1 : plG10 w
    · simp (maxSteps := 1000000) (disch := first | omega | rfl | (simp only [zL, two63, room] <;> omega) | fail) only [↓reduceIte, ↓zP, zW, WOp, evOp, evBin, binI, binSh, binS, evNil, keyIs, keyEq, mkv, AV.cells, AV.sc, optv, bnd, env, put, Env.get, Env.set, Env.del, Env.dels, Env.init, res1, resL, resV, fillP, splice, newRow, Nat.reduceEqDiff, Nat.reduceLT, Nat.reduceLeDiff, Nat.reduceAdd, Nat.reduceMul, Nat.reduceSub, Nat.reduceBEq, reduceCtorEq, ↓zR, zQ, Tr, StA, StT]
      exact hp _ (p1.trans (p2.trans hp1))
    · simp (maxSteps := 1000000) (disch := first | omega | rfl | (simp only [zL, two63, room] <;> omega) | fail) only [↓reduceIte, ↓zP, zW, WOp, evOp, evBin, binI, binSh, binS, evNil, keyIs, keyEq, mkv, AV.cells, AV.sc, optv, bnd, env, put, Env.get, Env.set, Env.del, Env.dels, Env.init, res1, resL, resV, fillP, splice, newRow, Nat.reduceEqDiff, Nat.reduceLT, Nat.reduceLeDiff, Nat.reduceAdd, Nat.reduceMul, Nat.reduceSub, Nat.reduceBEq, reduceCtorEq, ↓zR, zQ, Tr, StA, StT]
      exact hp _ (p1.trans (p2.trans hp1))
  · have hg' := hg
    unfold rcG at hg'
    rw [Bool.and_eq_true] at hg'
    obtain ⟨l1, l2, l3⟩ := pl10 hg'.1
    obtain ⟨i, t, rfl, rfl, hm⟩ := rcB_mv hg'.2
    simp (maxSteps := 1000000) (disch := first | omega | rfl | (simp only [zL, two63, room] <;> omega) | fail) only [↓reduceIte, ↓zP, zW, WOp, evOp, evBin, binI, binSh, binS, evNil, keyIs, keyEq, mkv, AV.cells, AV.sc, optv, bnd, env, put, Env.get, Env.set, Env.del, Env.dels, Env.init, res1, resL, resV, fillP, splice, newRow, Nat.reduceEqDiff, Nat.reduceLT, Nat.reduceLeDiff, Nat.reduceAdd, Nat.reduceMul, Nat.reduceSub, Nat.reduceBEq, reduceCtorEq, ↓zR, zQ, Tr, StA, StT, hg'.1, q']
    refine c_made w i t hm.1 hm.2.1 (by omega) ?_
    intro h2 hp2
    have := hp h2 (p1.trans (p2.trans (hp1.trans hp2)))
    simp (maxSteps := 1000000) (disch := first | omega | rfl | (simp only [zL, two63, room] <;> omega) | fail) only [↓reduceIte, ↓zP, zW, WOp, evOp, evBin, binI, binSh, binS, evNil, keyIs, keyEq, mkv, AV.cells, AV.sc, optv, bnd, env, put, Env.get, Env.set, Env.del, Env.dels, Env.init, res1, resL, resV, fillP, splice, newRow, Nat.reduceEqDiff, Nat.reduceLT, Nat.reduceLeDiff, Nat.reduceAdd, Nat.reduceMul, Nat.reduceSub, Nat.reduceBEq, reduceCtorEq, ↓zR, zQ, Tr, StA, StT]
    simpa using this
theorem c_PlayByRule1 (w : List UInt8) (hw : w.length ≤ 2 ^ 10) (hs : signs w) (r : Ru) (i t : Int) {c : Nat} {h : AH} (hc : rdRow h c 0 0 3 = some (encR r)) {post : AV → AH → Prop} (hp : ∀ h', Pre h h' → post (.bool (rcB w r (i, t))) h') : S 67 [.str w, mvV i t, .ptr c 0 0 3] h post k := by
  have p1 := Pre.push h (AO.row [AV.int .i64 i, AV.int .i64 t] 0 0 false)
  have q := (mvRow h i t).1
  have hc' := rdRow_pre p1 hc
  have hL : (mvR w r).length < 2 ^ 30 := by
    have := mvR_len w r
    have h2 : w.length * w.length ≤ 2 ^ 10 * 2 ^ 10 := Nat.mul_le_mul hw hw
    omega
  refine S_of rfl T67 ?_; unfold fi67
  try (simp (maxSteps := 1000000) (disch := first | omega | rfl | (simp only [zL, two63, room] <;> omega) | fail) only [↓reduceIte, ↓zP, zW, WOp, evOp, evBin, binI, binSh, binS, evNil, keyIs, keyEq, mkv, AV.cells, AV.sc, optv, bnd, env, put, Env.get, Env.set, Env.del, Env.dels, Env.init, res1, resL, resV, fillP, splice, newRow, Nat.reduceEqDiff, Nat.reduceLT, Nat.reduceLeDiff, Nat.reduceAdd, Nat.reduceMul, Nat.reduceSub, Nat.reduceBEq, reduceCtorEq, ↓zR, zQ, Tr, StA, StT, hc'])
  try refine w_drw ?_
  simp (maxSteps := 1000000) (disch := first | omega | rfl | (simp only [zL, two63, room] <;> omega) | fail) only [↓reduceIte, ↓zP, zW, WOp, evOp, evBin, binI, binSh, binS, evNil, keyIs, keyEq, mkv, AV.cells, AV.sc, optv, bnd, env, put, Env.get, Env.set, Env.del, Env.dels, Env.init, res1, resL, resV, fillP, splice, newRow, Nat.reduceEqDiff, Nat.reduceLT, Nat.reduceLeDiff, Nat.reduceAdd, Nat.reduceMul, Nat.reduceSub, Nat.reduceBEq, reduceCtorEq, ↓zR, zQ, Tr, StA, StT, hc']
  refine c_movesBy (by omega) (signs_sg hs) r ?_
  intro v h1 ho hp1
  have q' := rdRow_pre hp1 q
  simp (maxSteps := 1000000) (disch := first | omega | rfl | (simp only [zL, two63, room] <;> omega) | fail) only [↓reduceIte, ↓zP, zW, WOp, evOp, evBin, binI, binSh, binS, evNil, keyIs, keyEq, mkv, AV.cells, AV.sc, optv, bnd, env, put, Env.get, Env.set, Env.del, Env.dels, Env.init, res1, resL, resV, fillP, splice, newRow, Nat.reduceEqDiff, Nat.reduceLT, Nat.reduceLeDiff, Nat.reduceAdd, Nat.reduceMul, Nat.reduceSub, Nat.reduceBEq, reduceCtorEq, ↓zR, zQ, Tr, StA, StT, q']
  refine c_ContainsR hL (i, t) ho.slc ?_
  intro h2 hp2
  rw [mem_rcB]
  simp (maxSteps := 1000000) (disch := first | omega | rfl | (simp only [zL, two63, room] <;> omega) | fail) only [↓reduceIte, ↓zP, zW, WOp, evOp, evBin, binI, binSh, binS, evNil, keyIs, keyEq, mkv, AV.cells, AV.sc, optv, bnd, env, put, Env.get, Env.set, Env.del, Env.dels, Env.init, res1, resL, resV, fillP, splice, newRow, Nat.reduceEqDiff, Nat.reduceLT, Nat.reduceLeDiff, Nat.reduceAdd, Nat.reduceMul, Nat.reduceSub, Nat.reduceBEq, reduceCtorEq, ↓zR, zQ, Tr, StA, StT, q']
  exact hp h2 (p1.trans (hp1.trans hp2))
theorem lp_playedR (r : Ru) {c : Nat} {v : AV} {L : List (Int × Int)} (hL : L.length < 2 ^ 30) {b : AH} (hb : rdRow b c 0 0 3 = some (encR r)) (hs : Slc 2 encM b v L) {R : X → Env → AH → Prop} : ∀ (rest pre : List (Int × Int)) (w : List UInt8) (h : AH), L = pre ++ rest → w.length ≤ 2 ^ 10 → signs w → Pre b h →
    ((plR r w rest).2 = rest.length → ∀ h', Pre b h' → R (.exit 0) [(0, .str (plR r w rest).1), (1, v)] h') →
    ((plR r w rest).2 < rest.length → ∀ h', Pre b h' → R .ret [(6, .str []), (7, .int .i64 ((pre.length + (plR r w rest).2 : Nat) : Int))] h') →
    Cx (.loop lp68_0) [(0, .str w), (1, v), (2, .fn 67 [.ptr c 0 0 3]), (10, v), (11, .int .i64 L.length), (12, .int .i64 pre.length)] h R k k := by
  intro rest
  induction rest with
  | nil =>
    intro pre w h hpre hw hsg hp h1 h2
    have hl : L.length = pre.length := by rw [hpre]; simp
    rw [hl]
    rw [w_loopb (c := lp68_0) (d := lb68_0) rfl]; unfold lb68_0
    simp (maxSteps := 1000000) (disch := first | omega | rfl | (simp only [zL, two63, room] <;> omega) | fail) only [↓reduceIte, ↓zP, zW, WOp, evOp, evBin, binI, binSh, binS, evNil, keyIs, keyEq, mkv, AV.cells, AV.sc, optv, bnd, env, put, Env.get, Env.set, Env.del, Env.dels, Env.init, res1, resL, resV, fillP, splice, newRow, Nat.reduceEqDiff, Nat.reduceLT, Nat.reduceLeDiff, Nat.reduceAdd, Nat.reduceMul, Nat.reduceSub, Nat.reduceBEq, reduceCtorEq, ↓zR, zQ, Tr, StA, StT]
    exact h1 rfl h hp
  | cons m rest ih =>
    intro pre w h hpre hw hsg hp h1 h2
    obtain ⟨i, t⟩ := m
    have hl : L.length = pre.length + 1 + rest.length := by rw [hpre]; simp; omega
    have hs' := hs.pre hp
    rw [hpre] at hs'
    obtain ⟨r1, k1, o1, hve, hr⟩ := hs'.at hlM
    rw [← hpre, hl] at hve
    subst hve
    rw [hl] at ih ⊢
    have hr' : rdRow h r1 k1 (o1 + pre.length * 2) 2 = some [.int .i64 i, .int .i64 t] := hr
    have hlt : (pre.length : Int) < ((pre.length + 1 + rest.length : Nat) : Int) := by omega
    have hw1 : (pre.length : Int) + 1 = ((pre ++ [((i, t) : Int × Int)]).length : Int) := by simp
    have hw2 : IntKind.i64.wrap ((pre ++ [((i, t) : Int × Int)]).length : Int) = ((pre ++ [((i, t) : Int × Int)]).length : Int) := wrap_i (by simp; omega)
    obtain ⟨q, -, -⟩ := mvRow h i t
    have hpR : Pre b (h ++ [AO.row [AV.int .i64 i, AV.int .i64 t] 0 0 false]) := hp.trans (Pre.push _ _)
    have hcR := rdRow_pre hpR hb
    rw [w_loopb (c := lp68_0) (d := lb68_0) rfl]; unfold lb68_0
    simp (maxSteps := 1000000) (disch := first | omega | rfl | (simp only [zL, two63, room] <;> omega) | fail) only [↓reduceIte, ↓zP, zW, WOp, evOp, evBin, binI, binSh, binS, evNil, keyIs, keyEq, mkv, AV.cells, AV.sc, optv, bnd, env, put, Env.get, Env.set, Env.del, Env.dels, Env.init, res1, resL, resV, fillP, splice, newRow, Nat.reduceEqDiff, Nat.reduceLT, Nat.reduceLeDiff, Nat.reduceAdd, Nat.reduceMul, Nat.reduceSub, Nat.reduceBEq, reduceCtorEq, ↓zR, zQ, Tr, StA, StT, hlt, hr']
    refine c_PlayByRule1 w hw hsg r i t hcR ?_
    intro h3 hp3
    have q3 := rdRow_pre hp3 q
    cases hc : rcB w r (i, t)
    · have e : plR r w ((i, t) :: rest) = (w, 0) := by simp only [plR, hc, Bool.false_eq_true, if_false]
      rw [e] at h2
      simp (maxSteps := 1000000) (disch := first | omega | rfl | (simp only [zL, two63, room] <;> omega) | fail) only [↓reduceIte, ↓zP, zW, WOp, evOp, evBin, binI, binSh, binS, evNil, keyIs, keyEq, mkv, AV.cells, AV.sc, optv, bnd, env, put, Env.get, Env.set, Env.del, Env.dels, Env.init, res1, resL, resV, fillP, splice, newRow, Nat.reduceEqDiff, Nat.reduceLT, Nat.reduceLeDiff, Nat.reduceAdd, Nat.reduceMul, Nat.reduceSub, Nat.reduceBEq, reduceCtorEq, ↓zR, zQ, Tr, StA, StT]
      exact h2 (by simp) h3 (hpR.trans hp3)
    · obtain ⟨i, t, rfl, rfl, hm⟩ := rcB_mv hc
      have e : plR r w (((i : Int), (t : Int)) :: rest) = ((plR r (madeB w i t) rest).1, (plR r (madeB w i t) rest).2 + 1) := by simp only [plR, hc, if_true, Int.toNat_natCast]
      rw [e] at h1 h2
      simp (maxSteps := 1000000) (disch := first | omega | rfl | (simp only [zL, two63, room] <;> omega) | fail) only [↓reduceIte, ↓zP, zW, WOp, evOp, evBin, binI, binSh, binS, evNil, keyIs, keyEq, mkv, AV.cells, AV.sc, optv, bnd, env, put, Env.get, Env.set, Env.del, Env.dels, Env.init, res1, resL, resV, fillP, splice, newRow, Nat.reduceEqDiff, Nat.reduceLT, Nat.reduceLeDiff, Nat.reduceAdd, Nat.reduceMul, Nat.reduceSub, Nat.reduceBEq, reduceCtorEq, ↓zR, zQ, Tr, StA, StT, q3]
      refine c_made w i t hm.1 hm.2.1 (by omega) ?_
      intro h4 hp4
      simp (maxSteps := 1000000) (disch := first | omega | rfl | (simp only [zL, two63, room] <;> omega) | fail) only [↓reduceIte, ↓zP, zW, WOp, evOp, evBin, binI, binSh, binS, evNil, keyIs, keyEq, mkv, AV.cells, AV.sc, optv, bnd, env, put, Env.get, Env.set, Env.del, Env.dels, Env.init, res1, resL, resV, fillP, splice, newRow, Nat.reduceEqDiff, Nat.reduceLT, Nat.reduceLeDiff, Nat.reduceAdd, Nat.reduceMul, Nat.reduceSub, Nat.reduceBEq, reduceCtorEq, ↓zR, zQ, Tr, StA, StT, hw1, hw2]
      rw [w_loopn (c := lp68_0) rfl]
      simp (maxSteps := 1000000) (disch := first | omega | rfl | (simp only [zL, two63, room] <;> omega) | fail) only [↓reduceIte, ↓zP, zW, WOp, evOp, evBin, binI, binSh, binS, evNil, keyIs, keyEq, mkv, AV.cells, AV.sc, optv, bnd, env, put, Env.get, Env.set, Env.del, Env.dels, Env.init, res1, resL, resV, fillP, splice, newRow, Nat.reduceEqDiff, Nat.reduceLT, Nat.reduceLeDiff, Nat.reduceAdd, Nat.reduceMul, Nat.reduceSub, Nat.reduceBEq, reduceCtorEq, ↓zR, zQ, Tr, StA, StT]
      refine ih (pre ++ [((i : Int), (t : Int))]) (madeB w i t) h4 (by rw [hpre]; simp) (by rw [madeB_length]; exact hw) (signs_madeR hsg hm.1) (hpR.trans (hp3.trans hp4)) (fun a => h1 (by simp only [List.length_cons]; omega)) (fun a h' q1 => ?_)
      have := h2 (by simp only [List.length_cons]; omega) h' q1
      rwa [show pre.length + ((plR r (madeB w i t) rest).2 + 1) = (pre ++ [((i : Int), (t : Int))]).length + (plR r (madeB w i t) rest).2 by simp; omega] at this
theorem c_PlayByRule {v : AV} {L : List (Int × Int)} (hL : L.length < 2 ^ 30) (w : List UInt8) (hw : w.length < 2 ^ 60) (r : Ru) {h : AH} (hs : Slc 2 encM h v L) {post : AV → AH → Prop} (hp : ∀ h', Pre h h' → post (.tup [.str (pbG r w L), .bool (pbOk r w L)]) h') : S 9 [.str w, v, .agg (encR r)] h post k := by
  unfold pbG pbOk at hp
  have p1 := Pre.push h (AO.row (encR r) 0 0 false)
  have hc : rdRow (h ++ [AO.row (encR r) 0 0 false]) h.length 0 0 3 = some (encR r) := (row3 (c := h.length) (by simp)).2.2.2
  have hs1 := hs.pre p1
  refine S_of rfl T9 ?_; unfold fi9
  have hv := fun g => Slc.lenV (hs1) (g := g) (ρ := fun _ => _) (x := .t 0) rfl; simp only [evOp] at hv
  cases hg : plG10 w <;> rw [hg] at hp
  · simp (maxSteps := 1000000) (disch := first | omega | rfl | (simp only [zL, two63, room] <;> omega) | fail) only [↓reduceIte, ↓zP, zW, WOp, evOp, evBin, binI, binSh, binS, evNil, keyIs, keyEq, mkv, AV.cells, AV.sc, optv, bnd, env, put, Env.get, Env.set, Env.del, Env.dels, Env.init, res1, resL, resV, fillP, splice, newRow, Nat.reduceEqDiff, Nat.reduceLT, Nat.reduceLeDiff, Nat.reduceAdd, Nat.reduceMul, Nat.reduceSub, Nat.reduceBEq, reduceCtorEq, ↓zR, zQ, Tr, StA, StT, e_isReachG w hw, hg]
    exact hp _ p1
  · obtain ⟨l1, l2, l3⟩ := pl10 hg
    by_cases hl : L.length ≤ 100
    · have n1 : ¬ ((L.length : Int) > 100) := by omega
      simp only [hl, decide_true, Bool.true_and] at hp
      simp (maxSteps := 1000000) (disch := first | omega | rfl | (simp only [zL, two63, room] <;> omega) | fail) only [↓reduceIte, ↓zP, zW, WOp, evOp, evBin, binI, binSh, binS, evNil, keyIs, keyEq, mkv, AV.cells, AV.sc, optv, bnd, env, put, Env.get, Env.set, Env.del, Env.dels, Env.init, res1, resL, resV, fillP, splice, newRow, Nat.reduceEqDiff, Nat.reduceLT, Nat.reduceLeDiff, Nat.reduceAdd, Nat.reduceMul, Nat.reduceSub, Nat.reduceBEq, reduceCtorEq, ↓zR, zQ, Tr, StA, StT, e_isReachG w hw, hg, hv, n1]
      refine S_of rfl T68 ?_; unfold fi68
      simp (maxSteps := 1000000) (disch := first | omega | rfl | (simp only [zL, two63, room] <;> omega) | fail) only [↓reduceIte, ↓zP, zW, WOp, evOp, evBin, binI, binSh, binS, evNil, keyIs, keyEq, mkv, AV.cells, AV.sc, optv, bnd, env, put, Env.get, Env.set, Env.del, Env.dels, Env.init, res1, resL, resV, fillP, splice, newRow, Nat.reduceEqDiff, Nat.reduceLT, Nat.reduceLeDiff, Nat.reduceAdd, Nat.reduceMul, Nat.reduceSub, Nat.reduceBEq, reduceCtorEq, ↓zR, zQ, Tr, StA, StT, hv]
      refine lp_playedR r hL hc hs1 L [] w _ rfl (by omega) l3 (Pre.refl _) ?_ ?_
      · intro e h' hp'
        have := hp h' (p1.trans hp')
        rw [e] at this
        simp (maxSteps := 1000000) (disch := first | omega | rfl | (simp only [zL, two63, room] <;> omega) | fail) only [↓reduceIte, ↓zP, zW, WOp, evOp, evBin, binI, binSh, binS, evNil, keyIs, keyEq, mkv, AV.cells, AV.sc, optv, bnd, env, put, Env.get, Env.set, Env.del, Env.dels, Env.init, res1, resL, resV, fillP, splice, newRow, Nat.reduceEqDiff, Nat.reduceLT, Nat.reduceLeDiff, Nat.reduceAdd, Nat.reduceMul, Nat.reduceSub, Nat.reduceBEq, reduceCtorEq, ↓zR, zQ, Tr, StA, StT, hv]
        simpa using this
      · intro e h' hp'
        have hle := hp h' (p1.trans hp')
        have n2 : ¬ ((plR r w L).2 = L.length) := by omega
        have n3 : ¬ (((plR r w L).2 : Int) = (L.length : Int)) := by omega
        simp only [n2, decide_false, Bool.false_eq_true, if_false] at hle
        simp (maxSteps := 1000000) (disch := first | omega | rfl | (simp only [zL, two63, room] <;> omega) | fail) only [↓reduceIte, ↓zP, zW, WOp, evOp, evBin, binI, binSh, binS, evNil, keyIs, keyEq, mkv, AV.cells, AV.sc, optv, bnd, env, put, Env.get, Env.set, Env.del, Env.dels, Env.init, res1, resL, resV, fillP, splice, newRow, Nat.reduceEqDiff, Nat.reduceLT, Nat.reduceLeDiff, Nat.reduceAdd, Nat.reduceMul, Nat.reduceSub, Nat.reduceBEq, reduceCtorEq, ↓zR, zQ, Tr, StA, StT, hv, List.length_nil, Nat.zero_add, n3]
        simpa [n3] using hle
    · have n1 : ((L.length : Int) > 100) := by omega
      simp only [hl, decide_false, Bool.true_and, Bool.false_and, Bool.false_eq_true, if_false] at hp
      simp (maxSteps := 1000000) (disch := first | omega | rfl | (simp only [zL, two63, room] <;> omega) | fail) only [↓reduceIte, ↓zP, zW, WOp, evOp, evBin, binI, binSh, binS, evNil, keyIs, keyEq, mkv, AV.cells, AV.sc, optv, bnd, env, put, Env.get, Env.set, Env.del, Env.dels, Env.init, res1, resL, resV, fillP, splice, newRow, Nat.reduceEqDiff, Nat.reduceLT, Nat.reduceLeDiff, Nat.reduceAdd, Nat.reduceMul, Nat.reduceSub, Nat.reduceBEq, reduceCtorEq, ↓zR, zQ, Tr, StA, StT, e_isReachG w hw, hg, hv, n1]
      exact hp _ p1
end Go.Proofs.YtejhhdpfndiliaaDoor.Ab

/- RULES: the reference's test of a move. -/
namespace Go.Proofs.YtejhhdpfndiliaaDoor.Ab
open Go
set_option maxRecDepth 100000
set_option maxHeartbeats 4000000

theorem pass_eq {b c : UInt8} (hb : isAn b) (hc : isSign c = true) (own : Bool) : passB b c own = (!(c == 46) && !((c == b) && !own)) := by
  rcases sign3' hc with rfl | rfl | rfl <;> rcases hb with rfl | rfl <;> cases own <;> rfl
theorem lp_ruCan {w : List UInt8} (hsg : signs w) (hw : w.length < 2 ^ 28) {i n : Nat} (hi : i < w.length) (hb : isAn (w.getD i 0)) (r : Ru) {d : Int} {g : Nat → Nat} (hg : ∀ x, x < n → (i : Int) + x * d = (g x : Int) ∧ g x < w.length) (hd : d = 1 ∨ d = -1) (hn : n ≤ w.length) {c4 c5 : Nat} {h : AH} (m0 : rdRow h c4 0 0 1 = some [.int .i64 i]) (r0 : rdRow h c5 0 0 1 = some [.bool r.1]) {R : X → Env → AH → Prop} : ∀ (f x : Nat), x + f = n →
    ((∀ y, x ≤ y → y < n → passB (w.getD i 0) (w.getD (g y) 0) r.1 = true) → R (.exit 0) [] h) →
    ((¬ ∀ y, x ≤ y → y < n → passB (w.getD i 0) (w.getD (g y) 0) r.1 = true) → R .ret [(6, .bool false)] h) →
    Cx (.loop lp65_0) [(0, .str w), (4, .ptr c4 0 0 2), (5, .ptr c5 0 0 3), (7, .int .i64 d), (8, .int .i64 n), (9, .int .i64 x)] h R k k
  | 0, x, hx, h1, h2 => by
    have hxn : x = n := by omega
    subst hxn
    rw [w_loopb (c := lp65_0) (d := lb65_0) rfl]; unfold lb65_0
    simp (maxSteps := 1000000) (disch := first | omega | rfl | (simp only [zL, two63, room] <;> omega) | fail) only [↓reduceIte, ↓zP, zW, WOp, evOp, evBin, binI, binSh, binS, evNil, keyIs, keyEq, mkv, AV.cells, AV.sc, optv, bnd, env, put, Env.get, Env.set, Env.del, Env.dels, Env.init, res1, resL, resV, fillP, splice, newRow, Nat.reduceEqDiff, Nat.reduceLT, Nat.reduceLeDiff, Nat.reduceAdd, Nat.reduceMul, Nat.reduceSub, Nat.reduceBEq, reduceCtorEq, ↓zR, zQ, Tr, StA, StT]
    exact h1 (fun y a b => by omega)
  | f + 1, x, hx, h1, h2 => by
    obtain ⟨g1, g2⟩ := hg x (by omega)
    have hxn : (x : Int) < (n : Int) := by omega
    have hxd : (x : Int) * d = (g x : Int) - i := by omega
    have hm : IntKind.i64.wrap ((x : Int) * d) = (g x : Int) - i := by rw [hxd]; exact wrap_i (by omega)
    have ha : IntKind.i64.wrap ((i : Int) + ((g x : Int) - i)) = (g x : Int) := by rw [show (i : Int) + ((g x : Int) - i) = (g x : Int) by omega]; exact wrap_i (by omega)
    have hw1 : IntKind.i64.wrap ((x : Int) + 1) = ((x + 1 : Nat) : Int) := by rw [IntKind.wrap_i64]; omega
    have hgl : (g x : Int) < (w.length : Int) := by omega
    have hil : (i : Int) < (w.length : Int) := by omega
    have hp := pass_eq hb (sign_at hsg g2) r.1
    have no : passB (w.getD i 0) (w.getD (g x) 0) r.1 = false → R .ret [(6, .bool false)] h := fun e => h2 fun hh => by have := hh x (Nat.le_refl _) (by omega); rw [e] at this; cases this
    have yes : passB (w.getD i 0) (w.getD (g x) 0) r.1 = true → Cx (.loop lp65_0) [(0, .str w), (4, .ptr c4 0 0 2), (5, .ptr c5 0 0 3), (7, .int .i64 d), (8, .int .i64 n), (9, .int .i64 ((x + 1 : Nat) : Int))] h R k k := fun e => by
      refine lp_ruCan hsg hw hi hb r hg hd hn m0 r0 f (x + 1) (by omega) (fun hh => h1 fun y y1 y2 => ?_) (fun hh => h2 fun h3 => hh fun y y1 y2 => h3 y (by omega) y2)
      by_cases e2 : y = x
      · rw [e2]; exact e
      · exact hh y (by omega) y2
    rw [w_loopb (c := lp65_0) (d := lb65_0) rfl]; unfold lb65_0
    cases e1 : (w.getD (g x) 0 == 46)
    · cases e2 : (w.getD (g x) 0 == w.getD i 0)
      · rw [e1, e2] at hp
        simp (maxSteps := 1000000) (disch := first | omega | rfl | (simp only [zL, two63, room] <;> omega) | fail) only [↓reduceIte, ↓zP, zW, WOp, evOp, evBin, binI, binSh, binS, evNil, keyIs, keyEq, mkv, AV.cells, AV.sc, optv, bnd, env, put, Env.get, Env.set, Env.del, Env.dels, Env.init, res1, resL, resV, fillP, splice, newRow, Nat.reduceEqDiff, Nat.reduceLT, Nat.reduceLeDiff, Nat.reduceAdd, Nat.reduceMul, Nat.reduceSub, Nat.reduceBEq, reduceCtorEq, ↓zR, zQ, Tr, StA, StT, hxn, m0, hm, ha, hgl, hil, e1, e2, hw1]
        rw [w_loopn (c := lp65_0) rfl]
        simp (maxSteps := 1000000) (disch := first | omega | rfl | (simp only [zL, two63, room] <;> omega) | fail) only [↓reduceIte, ↓zP, zW, WOp, evOp, evBin, binI, binSh, binS, evNil, keyIs, keyEq, mkv, AV.cells, AV.sc, optv, bnd, env, put, Env.get, Env.set, Env.del, Env.dels, Env.init, res1, resL, resV, fillP, splice, newRow, Nat.reduceEqDiff, Nat.reduceLT, Nat.reduceLeDiff, Nat.reduceAdd, Nat.reduceMul, Nat.reduceSub, Nat.reduceBEq, reduceCtorEq, ↓zR, zQ, Tr, StA, StT]
        exact yes hp
      · cases e3 : r.1
        · rw [e3] at r0
          rw [e1, e2, e3] at hp
          rw [e3] at no
          simp (maxSteps := 1000000) (disch := first | omega | rfl | (simp only [zL, two63, room] <;> omega) | fail) only [↓reduceIte, ↓zP, zW, WOp, evOp, evBin, binI, binSh, binS, evNil, keyIs, keyEq, mkv, AV.cells, AV.sc, optv, bnd, env, put, Env.get, Env.set, Env.del, Env.dels, Env.init, res1, resL, resV, fillP, splice, newRow, Nat.reduceEqDiff, Nat.reduceLT, Nat.reduceLeDiff, Nat.reduceAdd, Nat.reduceMul, Nat.reduceSub, Nat.reduceBEq, reduceCtorEq, ↓zR, zQ, Tr, StA, StT, hxn, m0, r0, hm, ha, hgl, hil, e1, e2]
          exact no hp
        · rw [e3] at r0
          rw [e1, e2, e3] at hp
          rw [e3] at yes
          simp (maxSteps := 1000000) (disch := first | omega | rfl | (simp only [zL, two63, room] <;> omega) | fail) only [↓reduceIte, ↓zP, zW, WOp, evOp, evBin, binI, binSh, binS, evNil, keyIs, keyEq, mkv, AV.cells, AV.sc, optv, bnd, env, put, Env.get, Env.set, Env.del, Env.dels, Env.init, res1, resL, resV, fillP, splice, newRow, Nat.reduceEqDiff, Nat.reduceLT, Nat.reduceLeDiff, Nat.reduceAdd, Nat.reduceMul, Nat.reduceSub, Nat.reduceBEq, reduceCtorEq, ↓zR, zQ, Tr, StA, StT, hxn, m0, r0, hm, ha, hgl, hil, e1, e2, hw1]
          rw [w_loopn (c := lp65_0) rfl]
          simp (maxSteps := 1000000) (disch := first | omega | rfl | (simp only [zL, two63, room] <;> omega) | fail) only [↓reduceIte, ↓zP, zW, WOp, evOp, evBin, binI, binSh, binS, evNil, keyIs, keyEq, mkv, AV.cells, AV.sc, optv, bnd, env, put, Env.get, Env.set, Env.del, Env.dels, Env.init, res1, resL, resV, fillP, splice, newRow, Nat.reduceEqDiff, Nat.reduceLT, Nat.reduceLeDiff, Nat.reduceAdd, Nat.reduceMul, Nat.reduceSub, Nat.reduceBEq, reduceCtorEq, ↓zR, zQ, Tr, StA, StT]
          exact yes hp
    · rw [e1] at hp
      simp (maxSteps := 1000000) (disch := first | omega | rfl | (simp only [zL, two63, room] <;> omega) | fail) only [↓reduceIte, ↓zP, zW, WOp, evOp, evBin, binI, binSh, binS, evNil, keyIs, keyEq, mkv, AV.cells, AV.sc, optv, bnd, env, put, Env.get, Env.set, Env.del, Env.dels, Env.init, res1, resL, resV, fillP, splice, newRow, Nat.reduceEqDiff, Nat.reduceLT, Nat.reduceLeDiff, Nat.reduceAdd, Nat.reduceMul, Nat.reduceSub, Nat.reduceBEq, reduceCtorEq, ↓zR, zQ, Tr, StA, StT, hxn, m0, hm, ha, hgl, hil, e1]
      exact no hp
theorem c_ruCan (w : List UInt8) (hsg : signs w) (hw : w.length < 2 ^ 28) (r : Ru) (i t : Int) {h : AH} {post : AV → AH → Prop} (hp : ∀ h', Pre h h' → post (.bool (rcB w r (i, t))) h') : S 65 [.str w, mvV i t, .agg (encR r)] h post k := by
  have pA := Pre.push h (AO.row [AV.int .i64 i, AV.int .i64 t] 0 0 false)
  obtain ⟨-, m0, m1⟩ := mvRow h i t
  generalize hgA : h ++ [AO.row [AV.int .i64 i, AV.int .i64 t] 0 0 false] = gA at pA m0 m1
  have pB := Pre.push gA (AO.row (encR r) 0 0 false)
  have h7 : (gA ++ [AO.row (encR r) 0 0 false])[gA.length]? = some (.row (encR r) 0 0 false) := by simp
  generalize hgB : gA ++ [AO.row (encR r) 0 0 false] = gB at pB h7
  obtain ⟨q0, q1, q2, q3⟩ := row3 h7
  replace m0 := rdRow_pre pB m0
  replace m1 := rdRow_pre pB m1
  have hq : ∀ b, rcB w r (i, t) = b → post (.bool b) gB := fun b hb => by rw [← hb]; exact hp _ (pA.trans pB)
  refine S_of rfl T65 ?_; unfold fi65
  by_cases hi : 0 ≤ i ∧ i < w.length
  case neg =>
    have h1 : (0 ≤ i ∧ i ≤ (w.length : Int) - 1) = False := eq_false (by omega)
    simp (maxSteps := 1000000) (disch := first | omega | rfl | (simp only [zL, two63, room] <;> omega) | fail) only [↓reduceIte, ↓zP, zW, WOp, evOp, evBin, binI, binSh, binS, evNil, keyIs, keyEq, mkv, AV.cells, AV.sc, optv, bnd, env, put, Env.get, Env.set, Env.del, Env.dels, Env.init, res1, resL, resV, fillP, splice, newRow, Nat.reduceEqDiff, Nat.reduceLT, Nat.reduceLeDiff, Nat.reduceAdd, Nat.reduceMul, Nat.reduceSub, Nat.reduceBEq, reduceCtorEq, ↓zR, zQ, Tr, StA, StT, e_l1In, h1, hgA, hgB, m0]
    exact hq _ (decide_eq_false (by rintro ⟨x1, x2, x3, _⟩; simp only at x1 x2 x3; omega))
  have h1 : (0 ≤ i ∧ i ≤ (w.length : Int) - 1) = True := eq_true (by omega)
  by_cases ht : 0 ≤ t ∧ t < w.length
  case neg =>
    have h2 : (0 ≤ t ∧ t ≤ (w.length : Int) - 1) = False := eq_false (by omega)
    simp (maxSteps := 1000000) (disch := first | omega | rfl | (simp only [zL, two63, room] <;> omega) | fail) only [↓reduceIte, ↓zP, zW, WOp, evOp, evBin, binI, binSh, binS, evNil, keyIs, keyEq, mkv, AV.cells, AV.sc, optv, bnd, env, put, Env.get, Env.set, Env.del, Env.dels, Env.init, res1, resL, resV, fillP, splice, newRow, Nat.reduceEqDiff, Nat.reduceLT, Nat.reduceLeDiff, Nat.reduceAdd, Nat.reduceMul, Nat.reduceSub, Nat.reduceBEq, reduceCtorEq, ↓zR, zQ, Tr, StA, StT, e_l1In, h1, h2, hgA, hgB, m0, m1]
    exact hq _ (decide_eq_false (by rintro ⟨x1, x2, x3, x4, _⟩; simp only at x1 x2 x3 x4; omega))
  have h2 : (0 ≤ t ∧ t ≤ (w.length : Int) - 1) = True := eq_true (by omega)
  obtain ⟨i, rfl⟩ := Int.eq_ofNat_of_zero_le hi.1
  obtain ⟨t, rfl⟩ := Int.eq_ofNat_of_zero_le ht.1
  have hi' : i < w.length := by omega
  have ht' : t < w.length := by omega
  have hil : (i : Int) < (w.length : Int) := by omega
  have htl : (t : Int) < (w.length : Int) := by omega
  cases e0 : (w.getD i 0 == 46)
  case true =>
    simp (maxSteps := 1000000) (disch := first | omega | rfl | (simp only [zL, two63, room] <;> omega) | fail) only [↓reduceIte, ↓zP, zW, WOp, evOp, evBin, binI, binSh, binS, evNil, keyIs, keyEq, mkv, AV.cells, AV.sc, optv, bnd, env, put, Env.get, Env.set, Env.del, Env.dels, Env.init, res1, resL, resV, fillP, splice, newRow, Nat.reduceEqDiff, Nat.reduceLT, Nat.reduceLeDiff, Nat.reduceAdd, Nat.reduceMul, Nat.reduceSub, Nat.reduceBEq, reduceCtorEq, ↓zR, zQ, Tr, StA, StT, e_l1In, h1, h2, hgA, hgB, m0, m1, hil, htl, e0]
    refine hq _ (decide_eq_false ?_)
    rintro ⟨x1, x2, x3, x4, x5, _⟩
    simp only [Int.toNat_natCast] at x5
    exact x5 (by simpa using e0)
  cases e1 : (w.getD t 0 == 46)
  · simp (maxSteps := 1000000) (disch := first | omega | rfl | (simp only [zL, two63, room] <;> omega) | fail) only [↓reduceIte, ↓zP, zW, WOp, evOp, evBin, binI, binSh, binS, evNil, keyIs, keyEq, mkv, AV.cells, AV.sc, optv, bnd, env, put, Env.get, Env.set, Env.del, Env.dels, Env.init, res1, resL, resV, fillP, splice, newRow, Nat.reduceEqDiff, Nat.reduceLT, Nat.reduceLeDiff, Nat.reduceAdd, Nat.reduceMul, Nat.reduceSub, Nat.reduceBEq, reduceCtorEq, ↓zR, zQ, Tr, StA, StT, e_l1In, h1, h2, hgA, hgB, m0, m1, hil, htl, e0, e1]
    refine hq _ (decide_eq_false ?_)
    rintro ⟨x1, x2, x3, x4, x5, x6, _⟩
    simp only [Int.toNat_natCast] at x6
    rw [x6] at e1; cases e1
  have ne1 : w.getD i 0 ≠ 46 := by simpa using e0
  have k0 : w.getD t 0 = 46 := by simpa using e1
  have han : isAn (w.getD i 0) := by
    rcases sign3' (sign_at hsg hi') with hh | hh | hh
    · exact .inl hh
    · exact absurd hh ne1
    · exact .inr hh
  rcases Nat.lt_trichotomy i t with hlt | hlt | hlt
  case inr.inl => subst hlt; exact absurd k0 ne1
  · have nlt : ¬ ((t : Int) < (i : Int)) := by omega
    have wA : IntKind.i64.wrap ((t : Int) - i) = (t : Int) - i := wrap_i (by omega)
    generalize hn : t - i = n
    have wB : IntKind.i64.wrap (((t : Int) - i) * 1) = (n : Int) := by rw [show ((t : Int) - i) * 1 = (n : Int) by omega]; exact wrap_i (by omega)
    have hgf : ∀ x, x < n → (i : Int) + x * 1 = ((i + x : Nat) : Int) ∧ i + x < w.length := fun x hx => ⟨by omega, by omega⟩
    have hdd : (1 : Int) = 1 ∨ (1 : Int) = -1 := .inl rfl
    have hnl : n ≤ w.length := by omega
    have hall : (∀ y, 1 ≤ y → y < n → passB (w.getD i 0) (w.getD (i + y) 0) r.1 = true) → ∀ x, x < w.length → (i < x ∧ x < t ∨ t < x ∧ x < i) → passB (w.getD i 0) (w.getD x 0) r.1 = true := fun hh x _ hx => by
      have := hh (x - i) (by omega) (by omega)
      rwa [show i + (x - i) = x by omega] at this
    have hsome : (∀ x, x < w.length → (i < x ∧ x < t ∨ t < x ∧ x < i) → passB (w.getD i 0) (w.getD x 0) r.1 = true) → (∀ y, 1 ≤ y → y < n → passB (w.getD i 0) (w.getD (i + y) 0) r.1 = true) := fun hh y y1 y2 => hh (i + y) (by omega) (.inl ⟨by omega, by omega⟩)
    cases e3 : (w.getD i 0 == 84)
    · cases e5 : r.2.1
      · rw [e5] at q1
        simp (maxSteps := 1000000) (disch := first | omega | rfl | (simp only [zL, two63, room] <;> omega) | fail) only [↓reduceIte, ↓zP, zW, WOp, evOp, evBin, binI, binSh, binS, evNil, keyIs, keyEq, mkv, AV.cells, AV.sc, optv, bnd, env, put, Env.get, Env.set, Env.del, Env.dels, Env.init, res1, resL, resV, fillP, splice, newRow, Nat.reduceEqDiff, Nat.reduceLT, Nat.reduceLeDiff, Nat.reduceAdd, Nat.reduceMul, Nat.reduceSub, Nat.reduceBEq, reduceCtorEq, ↓zR, zQ, Tr, StA, StT, e_l1In, h1, h2, hgA, hgB, m0, m1, q1, hil, htl, nlt, e0, e1, e3]
        refine hq _ (decide_eq_false ?_)
        rintro ⟨x1, x2, x3, x4, x5, x6, x7, x8⟩
        simp only [Int.toNat_natCast] at x7
        rcases x7 with x7 | x7
        · rw [x7.2 hlt] at e3; cases e3
        · rw [e5] at x7; cases x7
      · rw [e5] at q1
        have hdir : (w.getD i 0 = 84 ↔ i < t) ∨ r.2.1 = true := .inr e5
        cases e4 : r.2.2
        · rw [e4] at q2
          by_cases hn2 : n > 2
          · have n2 : (n : Int) > 2 := by omega
            simp (maxSteps := 1000000) (disch := first | omega | rfl | (simp only [zL, two63, room] <;> omega) | fail) only [↓reduceIte, ↓zP, zW, WOp, evOp, evBin, binI, binSh, binS, evNil, keyIs, keyEq, mkv, AV.cells, AV.sc, optv, bnd, env, put, Env.get, Env.set, Env.del, Env.dels, Env.init, res1, resL, resV, fillP, splice, newRow, Nat.reduceEqDiff, Nat.reduceLT, Nat.reduceLeDiff, Nat.reduceAdd, Nat.reduceMul, Nat.reduceSub, Nat.reduceBEq, reduceCtorEq, ↓zR, zQ, Tr, StA, StT, e_l1In, h1, h2, hgA, hgB, m0, m1, q1, q2, hil, htl, nlt, e0, e1, e3, e5, wA, wB, n2]
            refine hq false (decide_eq_false ?_)
            rintro ⟨x1, x2, x3, x4, x5, x6, x7, x8, x9⟩
            simp only [Int.toNat_natCast] at x8
            rcases x8 with x8 | x8
            · omega
            · rw [e4] at x8; cases x8
          · have n2 : ¬ ((n : Int) > 2) := by omega
            simp (maxSteps := 1000000) (disch := first | omega | rfl | (simp only [zL, two63, room] <;> omega) | fail) only [↓reduceIte, ↓zP, zW, WOp, evOp, evBin, binI, binSh, binS, evNil, keyIs, keyEq, mkv, AV.cells, AV.sc, optv, bnd, env, put, Env.get, Env.set, Env.del, Env.dels, Env.init, res1, resL, resV, fillP, splice, newRow, Nat.reduceEqDiff, Nat.reduceLT, Nat.reduceLeDiff, Nat.reduceAdd, Nat.reduceMul, Nat.reduceSub, Nat.reduceBEq, reduceCtorEq, ↓zR, zQ, Tr, StA, StT, e_l1In, h1, h2, hgA, hgB, m0, m1, q1, q2, hil, htl, nlt, e0, e1, e3, e5, wA, wB, n2]
            refine lp_ruCan hsg hw hi' han r hgf hdd hnl m0 q0 (n - 1) 1 (by omega) (fun hh => ?_) (fun hh => ?_)
            · simp (maxSteps := 1000000) (disch := first | omega | rfl | (simp only [zL, two63, room] <;> omega) | fail) only [↓reduceIte, ↓zP, zW, WOp, evOp, evBin, binI, binSh, binS, evNil, keyIs, keyEq, mkv, AV.cells, AV.sc, optv, bnd, env, put, Env.get, Env.set, Env.del, Env.dels, Env.init, res1, resL, resV, fillP, splice, newRow, Nat.reduceEqDiff, Nat.reduceLT, Nat.reduceLeDiff, Nat.reduceAdd, Nat.reduceMul, Nat.reduceSub, Nat.reduceBEq, reduceCtorEq, ↓zR, zQ, Tr, StA, StT]
              refine hq true (decide_eq_true ⟨by omega, by omega, ?_⟩)
              simp only [Int.toNat_natCast]
              exact ⟨hi', ht', ne1, k0, hdir, .inl (by omega), hall hh⟩
            · simp (maxSteps := 1000000) (disch := first | omega | rfl | (simp only [zL, two63, room] <;> omega) | fail) only [↓reduceIte, ↓zP, zW, WOp, evOp, evBin, binI, binSh, binS, evNil, keyIs, keyEq, mkv, AV.cells, AV.sc, optv, bnd, env, put, Env.get, Env.set, Env.del, Env.dels, Env.init, res1, resL, resV, fillP, splice, newRow, Nat.reduceEqDiff, Nat.reduceLT, Nat.reduceLeDiff, Nat.reduceAdd, Nat.reduceMul, Nat.reduceSub, Nat.reduceBEq, reduceCtorEq, ↓zR, zQ, Tr, StA, StT]
              refine hq false (decide_eq_false ?_)
              rintro ⟨x1, x2, x3, x4, x5, x6, x7, x8, x9⟩
              simp only [Int.toNat_natCast] at x9
              exact hh (hsome x9)
        · rw [e4] at q2
          have fin : Cx (.loop lp65_0) [(0, .str w), (4, .ptr h.length 0 0 2), (5, .ptr gA.length 0 0 3), (7, .int .i64 (1)), (8, .int .i64 n), (9, .int .i64 ((1 : Nat) : Int))] gB (fun x e' h' => h' = gB ∧ ((x = .exit 0 ∧ e' = [] ∧ rcB w r ((i : Int), (t : Int)) = true) ∨ (x = .ret ∧ e' = [(6, .bool false)] ∧ rcB w r ((i : Int), (t : Int)) = false))) k k := by
            refine lp_ruCan hsg hw hi' han r hgf hdd hnl m0 q0 (n - 1) 1 (by omega) (fun hh => ?_) (fun hh => ?_)
            · refine ⟨rfl, .inl ⟨rfl, rfl, decide_eq_true ⟨by omega, by omega, ?_⟩⟩⟩
              simp only [Int.toNat_natCast]
              exact ⟨hi', ht', ne1, k0, hdir, .inr e4, hall hh⟩
            · refine ⟨rfl, .inr ⟨rfl, rfl, decide_eq_false ?_⟩⟩
              rintro ⟨x1, x2, x3, x4, x5, x6, x7, x8, x9⟩
              simp only [Int.toNat_natCast] at x9
              exact hh (hsome x9)
          by_cases hn2 : n > 2
          · have n2 : (n : Int) > 2 := by omega
            simp (maxSteps := 1000000) (disch := first | omega | rfl | (simp only [zL, two63, room] <;> omega) | fail) only [↓reduceIte, ↓zP, zW, WOp, evOp, evBin, binI, binSh, binS, evNil, keyIs, keyEq, mkv, AV.cells, AV.sc, optv, bnd, env, put, Env.get, Env.set, Env.del, Env.dels, Env.init, res1, resL, resV, fillP, splice, newRow, Nat.reduceEqDiff, Nat.reduceLT, Nat.reduceLeDiff, Nat.reduceAdd, Nat.reduceMul, Nat.reduceSub, Nat.reduceBEq, reduceCtorEq, ↓zR, zQ, Tr, StA, StT, e_l1In, h1, h2, hgA, hgB, m0, m1, q1, q2, hil, htl, nlt, e0, e1, e3, e5, wA, wB, n2]
            refine Cx_mono fin ?_
            rintro x e' h' ⟨rfl, ⟨rfl, rfl, hr⟩ | ⟨rfl, rfl, hr⟩⟩
            · simp (maxSteps := 1000000) (disch := first | omega | rfl | (simp only [zL, two63, room] <;> omega) | fail) only [↓reduceIte, ↓zP, zW, WOp, evOp, evBin, binI, binSh, binS, evNil, keyIs, keyEq, mkv, AV.cells, AV.sc, optv, bnd, env, put, Env.get, Env.set, Env.del, Env.dels, Env.init, res1, resL, resV, fillP, splice, newRow, Nat.reduceEqDiff, Nat.reduceLT, Nat.reduceLeDiff, Nat.reduceAdd, Nat.reduceMul, Nat.reduceSub, Nat.reduceBEq, reduceCtorEq, ↓zR, zQ, Tr, StA, StT]
              exact hq true hr
            · simp (maxSteps := 1000000) (disch := first | omega | rfl | (simp only [zL, two63, room] <;> omega) | fail) only [↓reduceIte, ↓zP, zW, WOp, evOp, evBin, binI, binSh, binS, evNil, keyIs, keyEq, mkv, AV.cells, AV.sc, optv, bnd, env, put, Env.get, Env.set, Env.del, Env.dels, Env.init, res1, resL, resV, fillP, splice, newRow, Nat.reduceEqDiff, Nat.reduceLT, Nat.reduceLeDiff, Nat.reduceAdd, Nat.reduceMul, Nat.reduceSub, Nat.reduceBEq, reduceCtorEq, ↓zR, zQ, Tr, StA, StT]
              exact hq false hr
          · have n2 : ¬ ((n : Int) > 2) := by omega
            simp (maxSteps := 1000000) (disch := first | omega | rfl | (simp only [zL, two63, room] <;> omega) | fail) only [↓reduceIte, ↓zP, zW, WOp, evOp, evBin, binI, binSh, binS, evNil, keyIs, keyEq, mkv, AV.cells, AV.sc, optv, bnd, env, put, Env.get, Env.set, Env.del, Env.dels, Env.init, res1, resL, resV, fillP, splice, newRow, Nat.reduceEqDiff, Nat.reduceLT, Nat.reduceLeDiff, Nat.reduceAdd, Nat.reduceMul, Nat.reduceSub, Nat.reduceBEq, reduceCtorEq, ↓zR, zQ, Tr, StA, StT, e_l1In, h1, h2, hgA, hgB, m0, m1, q1, q2, hil, htl, nlt, e0, e1, e3, e5, wA, wB, n2]
            refine Cx_mono fin ?_
            rintro x e' h' ⟨rfl, ⟨rfl, rfl, hr⟩ | ⟨rfl, rfl, hr⟩⟩
            · simp (maxSteps := 1000000) (disch := first | omega | rfl | (simp only [zL, two63, room] <;> omega) | fail) only [↓reduceIte, ↓zP, zW, WOp, evOp, evBin, binI, binSh, binS, evNil, keyIs, keyEq, mkv, AV.cells, AV.sc, optv, bnd, env, put, Env.get, Env.set, Env.del, Env.dels, Env.init, res1, resL, resV, fillP, splice, newRow, Nat.reduceEqDiff, Nat.reduceLT, Nat.reduceLeDiff, Nat.reduceAdd, Nat.reduceMul, Nat.reduceSub, Nat.reduceBEq, reduceCtorEq, ↓zR, zQ, Tr, StA, StT]
              exact hq true hr
            · simp (maxSteps := 1000000) (disch := first | omega | rfl | (simp only [zL, two63, room] <;> omega) | fail) only [↓reduceIte, ↓zP, zW, WOp, evOp, evBin, binI, binSh, binS, evNil, keyIs, keyEq, mkv, AV.cells, AV.sc, optv, bnd, env, put, Env.get, Env.set, Env.del, Env.dels, Env.init, res1, resL, resV, fillP, splice, newRow, Nat.reduceEqDiff, Nat.reduceLT, Nat.reduceLeDiff, Nat.reduceAdd, Nat.reduceMul, Nat.reduceSub, Nat.reduceBEq, reduceCtorEq, ↓zR, zQ, Tr, StA, StT]
              exact hq false hr
    · have hdir : (w.getD i 0 = 84 ↔ i < t) ∨ r.2.1 = true := .inl ⟨fun _ => hlt, fun _ => by simpa using e3⟩
      have e5 := hdir
      cases e4 : r.2.2
      · rw [e4] at q2
        by_cases hn2 : n > 2
        · have n2 : (n : Int) > 2 := by omega
          simp (maxSteps := 1000000) (disch := first | omega | rfl | (simp only [zL, two63, room] <;> omega) | fail) only [↓reduceIte, ↓zP, zW, WOp, evOp, evBin, binI, binSh, binS, evNil, keyIs, keyEq, mkv, AV.cells, AV.sc, optv, bnd, env, put, Env.get, Env.set, Env.del, Env.dels, Env.init, res1, resL, resV, fillP, splice, newRow, Nat.reduceEqDiff, Nat.reduceLT, Nat.reduceLeDiff, Nat.reduceAdd, Nat.reduceMul, Nat.reduceSub, Nat.reduceBEq, reduceCtorEq, ↓zR, zQ, Tr, StA, StT, e_l1In, h1, h2, hgA, hgB, m0, m1, q1, q2, hil, htl, nlt, e0, e1, e3, e5, wA, wB, n2]
          refine hq false (decide_eq_false ?_)
          rintro ⟨x1, x2, x3, x4, x5, x6, x7, x8, x9⟩
          simp only [Int.toNat_natCast] at x8
          rcases x8 with x8 | x8
          · omega
          · rw [e4] at x8; cases x8
        · have n2 : ¬ ((n : Int) > 2) := by omega
          simp (maxSteps := 1000000) (disch := first | omega | rfl | (simp only [zL, two63, room] <;> omega) | fail) only [↓reduceIte, ↓zP, zW, WOp, evOp, evBin, binI, binSh, binS, evNil, keyIs, keyEq, mkv, AV.cells, AV.sc, optv, bnd, env, put, Env.get, Env.set, Env.del, Env.dels, Env.init, res1, resL, resV, fillP, splice, newRow, Nat.reduceEqDiff, Nat.reduceLT, Nat.reduceLeDiff, Nat.reduceAdd, Nat.reduceMul, Nat.reduceSub, Nat.reduceBEq, reduceCtorEq, ↓zR, zQ, Tr, StA, StT, e_l1In, h1, h2, hgA, hgB, m0, m1, q1, q2, hil, htl, nlt, e0, e1, e3, e5, wA, wB, n2]
          refine lp_ruCan hsg hw hi' han r hgf hdd hnl m0 q0 (n - 1) 1 (by omega) (fun hh => ?_) (fun hh => ?_)
          · simp (maxSteps := 1000000) (disch := first | omega | rfl | (simp only [zL, two63, room] <;> omega) | fail) only [↓reduceIte, ↓zP, zW, WOp, evOp, evBin, binI, binSh, binS, evNil, keyIs, keyEq, mkv, AV.cells, AV.sc, optv, bnd, env, put, Env.get, Env.set, Env.del, Env.dels, Env.init, res1, resL, resV, fillP, splice, newRow, Nat.reduceEqDiff, Nat.reduceLT, Nat.reduceLeDiff, Nat.reduceAdd, Nat.reduceMul, Nat.reduceSub, Nat.reduceBEq, reduceCtorEq, ↓zR, zQ, Tr, StA, StT]
            refine hq true (decide_eq_true ⟨by omega, by omega, ?_⟩)
            simp only [Int.toNat_natCast]
            exact ⟨hi', ht', ne1, k0, hdir, .inl (by omega), hall hh⟩
          · simp (maxSteps := 1000000) (disch := first | omega | rfl | (simp only [zL, two63, room] <;> omega) | fail) only [↓reduceIte, ↓zP, zW, WOp, evOp, evBin, binI, binSh, binS, evNil, keyIs, keyEq, mkv, AV.cells, AV.sc, optv, bnd, env, put, Env.get, Env.set, Env.del, Env.dels, Env.init, res1, resL, resV, fillP, splice, newRow, Nat.reduceEqDiff, Nat.reduceLT, Nat.reduceLeDiff, Nat.reduceAdd, Nat.reduceMul, Nat.reduceSub, Nat.reduceBEq, reduceCtorEq, ↓zR, zQ, Tr, StA, StT]
            refine hq false (decide_eq_false ?_)
            rintro ⟨x1, x2, x3, x4, x5, x6, x7, x8, x9⟩
            simp only [Int.toNat_natCast] at x9
            exact hh (hsome x9)
      · rw [e4] at q2
        have fin : Cx (.loop lp65_0) [(0, .str w), (4, .ptr h.length 0 0 2), (5, .ptr gA.length 0 0 3), (7, .int .i64 (1)), (8, .int .i64 n), (9, .int .i64 ((1 : Nat) : Int))] gB (fun x e' h' => h' = gB ∧ ((x = .exit 0 ∧ e' = [] ∧ rcB w r ((i : Int), (t : Int)) = true) ∨ (x = .ret ∧ e' = [(6, .bool false)] ∧ rcB w r ((i : Int), (t : Int)) = false))) k k := by
          refine lp_ruCan hsg hw hi' han r hgf hdd hnl m0 q0 (n - 1) 1 (by omega) (fun hh => ?_) (fun hh => ?_)
          · refine ⟨rfl, .inl ⟨rfl, rfl, decide_eq_true ⟨by omega, by omega, ?_⟩⟩⟩
            simp only [Int.toNat_natCast]
            exact ⟨hi', ht', ne1, k0, hdir, .inr e4, hall hh⟩
          · refine ⟨rfl, .inr ⟨rfl, rfl, decide_eq_false ?_⟩⟩
            rintro ⟨x1, x2, x3, x4, x5, x6, x7, x8, x9⟩
            simp only [Int.toNat_natCast] at x9
            exact hh (hsome x9)
        by_cases hn2 : n > 2
        · have n2 : (n : Int) > 2 := by omega
          simp (maxSteps := 1000000) (disch := first | omega | rfl | (simp only [zL, two63, room] <;> omega) | fail) only [↓reduceIte, ↓zP, zW, WOp, evOp, evBin, binI, binSh, binS, evNil, keyIs, keyEq, mkv, AV.cells, AV.sc, optv, bnd, env, put, Env.get, Env.set, Env.del, Env.dels, Env.init, res1, resL, resV, fillP, splice, newRow, Nat.reduceEqDiff, Nat.reduceLT, Nat.reduceLeDiff, Nat.reduceAdd, Nat.reduceMul, Nat.reduceSub, Nat.reduceBEq, reduceCtorEq, ↓zR, zQ, Tr, StA, StT, e_l1In, h1, h2, hgA, hgB, m0, m1, q1, q2, hil, htl, nlt, e0, e1, e3, e5, wA, wB, n2]
          refine Cx_mono fin ?_
          rintro x e' h' ⟨rfl, ⟨rfl, rfl, hr⟩ | ⟨rfl, rfl, hr⟩⟩
          · simp (maxSteps := 1000000) (disch := first | omega | rfl | (simp only [zL, two63, room] <;> omega) | fail) only [↓reduceIte, ↓zP, zW, WOp, evOp, evBin, binI, binSh, binS, evNil, keyIs, keyEq, mkv, AV.cells, AV.sc, optv, bnd, env, put, Env.get, Env.set, Env.del, Env.dels, Env.init, res1, resL, resV, fillP, splice, newRow, Nat.reduceEqDiff, Nat.reduceLT, Nat.reduceLeDiff, Nat.reduceAdd, Nat.reduceMul, Nat.reduceSub, Nat.reduceBEq, reduceCtorEq, ↓zR, zQ, Tr, StA, StT]
            exact hq true hr
          · simp (maxSteps := 1000000) (disch := first | omega | rfl | (simp only [zL, two63, room] <;> omega) | fail) only [↓reduceIte, ↓zP, zW, WOp, evOp, evBin, binI, binSh, binS, evNil, keyIs, keyEq, mkv, AV.cells, AV.sc, optv, bnd, env, put, Env.get, Env.set, Env.del, Env.dels, Env.init, res1, resL, resV, fillP, splice, newRow, Nat.reduceEqDiff, Nat.reduceLT, Nat.reduceLeDiff, Nat.reduceAdd, Nat.reduceMul, Nat.reduceSub, Nat.reduceBEq, reduceCtorEq, ↓zR, zQ, Tr, StA, StT]
            exact hq false hr
        · have n2 : ¬ ((n : Int) > 2) := by omega
          simp (maxSteps := 1000000) (disch := first | omega | rfl | (simp only [zL, two63, room] <;> omega) | fail) only [↓reduceIte, ↓zP, zW, WOp, evOp, evBin, binI, binSh, binS, evNil, keyIs, keyEq, mkv, AV.cells, AV.sc, optv, bnd, env, put, Env.get, Env.set, Env.del, Env.dels, Env.init, res1, resL, resV, fillP, splice, newRow, Nat.reduceEqDiff, Nat.reduceLT, Nat.reduceLeDiff, Nat.reduceAdd, Nat.reduceMul, Nat.reduceSub, Nat.reduceBEq, reduceCtorEq, ↓zR, zQ, Tr, StA, StT, e_l1In, h1, h2, hgA, hgB, m0, m1, q1, q2, hil, htl, nlt, e0, e1, e3, e5, wA, wB, n2]
          refine Cx_mono fin ?_
          rintro x e' h' ⟨rfl, ⟨rfl, rfl, hr⟩ | ⟨rfl, rfl, hr⟩⟩
          · simp (maxSteps := 1000000) (disch := first | omega | rfl | (simp only [zL, two63, room] <;> omega) | fail) only [↓reduceIte, ↓zP, zW, WOp, evOp, evBin, binI, binSh, binS, evNil, keyIs, keyEq, mkv, AV.cells, AV.sc, optv, bnd, env, put, Env.get, Env.set, Env.del, Env.dels, Env.init, res1, resL, resV, fillP, splice, newRow, Nat.reduceEqDiff, Nat.reduceLT, Nat.reduceLeDiff, Nat.reduceAdd, Nat.reduceMul, Nat.reduceSub, Nat.reduceBEq, reduceCtorEq, ↓zR, zQ, Tr, StA, StT]
            exact hq true hr
          · simp (maxSteps := 1000000) (disch := first | omega | rfl | (simp only [zL, two63, room] <;> omega) | fail) only [↓reduceIte, ↓zP, zW, WOp, evOp, evBin, binI, binSh, binS, evNil, keyIs, keyEq, mkv, AV.cells, AV.sc, optv, bnd, env, put, Env.get, Env.set, Env.del, Env.dels, Env.init, res1, resL, resV, fillP, splice, newRow, Nat.reduceEqDiff, Nat.reduceLT, Nat.reduceLeDiff, Nat.reduceAdd, Nat.reduceMul, Nat.reduceSub, Nat.reduceBEq, reduceCtorEq, ↓zR, zQ, Tr, StA, StT]
            exact hq false hr
  · have nlt : ((t : Int) < (i : Int)) := by omega
    have wA : IntKind.i64.wrap ((t : Int) - i) = (t : Int) - i := wrap_i (by omega)
    generalize hn : i - t = n
    have wB : IntKind.i64.wrap (((t : Int) - i) * -1) = (n : Int) := by rw [show ((t : Int) - i) * -1 = (n : Int) by omega]; exact wrap_i (by omega)
    have hgf : ∀ x, x < n → (i : Int) + x * -1 = ((i - x : Nat) : Int) ∧ i - x < w.length := fun x hx => ⟨by omega, by omega⟩
    have hdd : (-1 : Int) = 1 ∨ (-1 : Int) = -1 := .inr rfl
    have hnl : n ≤ w.length := by omega
    have hall : (∀ y, 1 ≤ y → y < n → passB (w.getD i 0) (w.getD (i - y) 0) r.1 = true) → ∀ x, x < w.length → (i < x ∧ x < t ∨ t < x ∧ x < i) → passB (w.getD i 0) (w.getD x 0) r.1 = true := fun hh x _ hx => by
      have := hh (i - x) (by omega) (by omega)
      rwa [show i - (i - x) = x by omega] at this
    have hsome : (∀ x, x < w.length → (i < x ∧ x < t ∨ t < x ∧ x < i) → passB (w.getD i 0) (w.getD x 0) r.1 = true) → (∀ y, 1 ≤ y → y < n → passB (w.getD i 0) (w.getD (i - y) 0) r.1 = true) := fun hh y y1 y2 => hh (i - y) (by omega) (.inr ⟨by omega, by omega⟩)
    have nit : ¬ i < t := by omega
    cases e3 : (w.getD i 0 == 84)
    · have hdir : (w.getD i 0 = 84 ↔ i < t) ∨ r.2.1 = true := .inl ⟨fun hh => (by rw [hh] at e3; cases e3), fun hh => absurd hh nit⟩
      have e5 := hdir
      cases e4 : r.2.2
      · rw [e4] at q2
        by_cases hn2 : n > 2
        · have n2 : (n : Int) > 2 := by omega
          simp (maxSteps := 1000000) (disch := first | omega | rfl | (simp only [zL, two63, room] <;> omega) | fail) only [↓reduceIte, ↓zP, zW, WOp, evOp, evBin, binI, binSh, binS, evNil, keyIs, keyEq, mkv, AV.cells, AV.sc, optv, bnd, env, put, Env.get, Env.set, Env.del, Env.dels, Env.init, res1, resL, resV, fillP, splice, newRow, Nat.reduceEqDiff, Nat.reduceLT, Nat.reduceLeDiff, Nat.reduceAdd, Nat.reduceMul, Nat.reduceSub, Nat.reduceBEq, reduceCtorEq, ↓zR, zQ, Tr, StA, StT, e_l1In, h1, h2, hgA, hgB, m0, m1, q1, q2, hil, htl, nlt, e0, e1, e3, e5, wA, wB, n2]
          refine hq false (decide_eq_false ?_)
          rintro ⟨x1, x2, x3, x4, x5, x6, x7, x8, x9⟩
          simp only [Int.toNat_natCast] at x8
          rcases x8 with x8 | x8
          · omega
          · rw [e4] at x8; cases x8
        · have n2 : ¬ ((n : Int) > 2) := by omega
          simp (maxSteps := 1000000) (disch := first | omega | rfl | (simp only [zL, two63, room] <;> omega) | fail) only [↓reduceIte, ↓zP, zW, WOp, evOp, evBin, binI, binSh, binS, evNil, keyIs, keyEq, mkv, AV.cells, AV.sc, optv, bnd, env, put, Env.get, Env.set, Env.del, Env.dels, Env.init, res1, resL, resV, fillP, splice, newRow, Nat.reduceEqDiff, Nat.reduceLT, Nat.reduceLeDiff, Nat.reduceAdd, Nat.reduceMul, Nat.reduceSub, Nat.reduceBEq, reduceCtorEq, ↓zR, zQ, Tr, StA, StT, e_l1In, h1, h2, hgA, hgB, m0, m1, q1, q2, hil, htl, nlt, e0, e1, e3, e5, wA, wB, n2]
          refine lp_ruCan hsg hw hi' han r hgf hdd hnl m0 q0 (n - 1) 1 (by omega) (fun hh => ?_) (fun hh => ?_)
          · simp (maxSteps := 1000000) (disch := first | omega | rfl | (simp only [zL, two63, room] <;> omega) | fail) only [↓reduceIte, ↓zP, zW, WOp, evOp, evBin, binI, binSh, binS, evNil, keyIs, keyEq, mkv, AV.cells, AV.sc, optv, bnd, env, put, Env.get, Env.set, Env.del, Env.dels, Env.init, res1, resL, resV, fillP, splice, newRow, Nat.reduceEqDiff, Nat.reduceLT, Nat.reduceLeDiff, Nat.reduceAdd, Nat.reduceMul, Nat.reduceSub, Nat.reduceBEq, reduceCtorEq, ↓zR, zQ, Tr, StA, StT]
            refine hq true (decide_eq_true ⟨by omega, by omega, ?_⟩)
            simp only [Int.toNat_natCast]
            exact ⟨hi', ht', ne1, k0, hdir, .inl (by omega), hall hh⟩
          · simp (maxSteps := 1000000) (disch := first | omega | rfl | (simp only [zL, two63, room] <;> omega) | fail) only [↓reduceIte, ↓zP, zW, WOp, evOp, evBin, binI, binSh, binS, evNil, keyIs, keyEq, mkv, AV.cells, AV.sc, optv, bnd, env, put, Env.get, Env.set, Env.del, Env.dels, Env.init, res1, resL, resV, fillP, splice, newRow, Nat.reduceEqDiff, Nat.reduceLT, Nat.reduceLeDiff, Nat.reduceAdd, Nat.reduceMul, Nat.reduceSub, Nat.reduceBEq, reduceCtorEq, ↓zR, zQ, Tr, StA, StT]
            refine hq false (decide_eq_false ?_)
            rintro ⟨x1, x2, x3, x4, x5, x6, x7, x8, x9⟩
            simp only [Int.toNat_natCast] at x9
            exact hh (hsome x9)
      · rw [e4] at q2
        have fin : Cx (.loop lp65_0) [(0, .str w), (4, .ptr h.length 0 0 2), (5, .ptr gA.length 0 0 3), (7, .int .i64 (-1)), (8, .int .i64 n), (9, .int .i64 ((1 : Nat) : Int))] gB (fun x e' h' => h' = gB ∧ ((x = .exit 0 ∧ e' = [] ∧ rcB w r ((i : Int), (t : Int)) = true) ∨ (x = .ret ∧ e' = [(6, .bool false)] ∧ rcB w r ((i : Int), (t : Int)) = false))) k k := by
          refine lp_ruCan hsg hw hi' han r hgf hdd hnl m0 q0 (n - 1) 1 (by omega) (fun hh => ?_) (fun hh => ?_)
          · refine ⟨rfl, .inl ⟨rfl, rfl, decide_eq_true ⟨by omega, by omega, ?_⟩⟩⟩
            simp only [Int.toNat_natCast]
            exact ⟨hi', ht', ne1, k0, hdir, .inr e4, hall hh⟩
          · refine ⟨rfl, .inr ⟨rfl, rfl, decide_eq_false ?_⟩⟩
            rintro ⟨x1, x2, x3, x4, x5, x6, x7, x8, x9⟩
            simp only [Int.toNat_natCast] at x9
            exact hh (hsome x9)
        by_cases hn2 : n > 2
        · have n2 : (n : Int) > 2 := by omega
          simp (maxSteps := 1000000) (disch := first | omega | rfl | (simp only [zL, two63, room] <;> omega) | fail) only [↓reduceIte, ↓zP, zW, WOp, evOp, evBin, binI, binSh, binS, evNil, keyIs, keyEq, mkv, AV.cells, AV.sc, optv, bnd, env, put, Env.get, Env.set, Env.del, Env.dels, Env.init, res1, resL, resV, fillP, splice, newRow, Nat.reduceEqDiff, Nat.reduceLT, Nat.reduceLeDiff, Nat.reduceAdd, Nat.reduceMul, Nat.reduceSub, Nat.reduceBEq, reduceCtorEq, ↓zR, zQ, Tr, StA, StT, e_l1In, h1, h2, hgA, hgB, m0, m1, q1, q2, hil, htl, nlt, e0, e1, e3, e5, wA, wB, n2]
          refine Cx_mono fin ?_
          rintro x e' h' ⟨rfl, ⟨rfl, rfl, hr⟩ | ⟨rfl, rfl, hr⟩⟩
          · simp (maxSteps := 1000000) (disch := first | omega | rfl | (simp only [zL, two63, room] <;> omega) | fail) only [↓reduceIte, ↓zP, zW, WOp, evOp, evBin, binI, binSh, binS, evNil, keyIs, keyEq, mkv, AV.cells, AV.sc, optv, bnd, env, put, Env.get, Env.set, Env.del, Env.dels, Env.init, res1, resL, resV, fillP, splice, newRow, Nat.reduceEqDiff, Nat.reduceLT, Nat.reduceLeDiff, Nat.reduceAdd, Nat.reduceMul, Nat.reduceSub, Nat.reduceBEq, reduceCtorEq, ↓zR, zQ, Tr, StA, StT]
            exact hq true hr
          · simp (maxSteps := 1000000) (disch := first | omega | rfl | (simp only [zL, two63, room] <;> omega) | fail) only [↓reduceIte, ↓zP, zW, WOp, evOp, evBin, binI, binSh, binS, evNil, keyIs, keyEq, mkv, AV.cells, AV.sc, optv, bnd, env, put, Env.get, Env.set, Env.del, Env.dels, Env.init, res1, resL, resV, fillP, splice, newRow, Nat.reduceEqDiff, Nat.reduceLT, Nat.reduceLeDiff, Nat.reduceAdd, Nat.reduceMul, Nat.reduceSub, Nat.reduceBEq, reduceCtorEq, ↓zR, zQ, Tr, StA, StT]
            exact hq false hr
        · have n2 : ¬ ((n : Int) > 2) := by omega
          simp (maxSteps := 1000000) (disch := first | omega | rfl | (simp only [zL, two63, room] <;> omega) | fail) only [↓reduceIte, ↓zP, zW, WOp, evOp, evBin, binI, binSh, binS, evNil, keyIs, keyEq, mkv, AV.cells, AV.sc, optv, bnd, env, put, Env.get, Env.set, Env.del, Env.dels, Env.init, res1, resL, resV, fillP, splice, newRow, Nat.reduceEqDiff, Nat.reduceLT, Nat.reduceLeDiff, Nat.reduceAdd, Nat.reduceMul, Nat.reduceSub, Nat.reduceBEq, reduceCtorEq, ↓zR, zQ, Tr, StA, StT, e_l1In, h1, h2, hgA, hgB, m0, m1, q1, q2, hil, htl, nlt, e0, e1, e3, e5, wA, wB, n2]
          refine Cx_mono fin ?_
          rintro x e' h' ⟨rfl, ⟨rfl, rfl, hr⟩ | ⟨rfl, rfl, hr⟩⟩
          · simp (maxSteps := 1000000) (disch := first | omega | rfl | (simp only [zL, two63, room] <;> omega) | fail) only [↓reduceIte, ↓zP, zW, WOp, evOp, evBin, binI, binSh, binS, evNil, keyIs, keyEq, mkv, AV.cells, AV.sc, optv, bnd, env, put, Env.get, Env.set, Env.del, Env.dels, Env.init, res1, resL, resV, fillP, splice, newRow, Nat.reduceEqDiff, Nat.reduceLT, Nat.reduceLeDiff, Nat.reduceAdd, Nat.reduceMul, Nat.reduceSub, Nat.reduceBEq, reduceCtorEq, ↓zR, zQ, Tr, StA, StT]
            exact hq true hr
          · simp (maxSteps := 1000000) (disch := first | omega | rfl | (simp only [zL, two63, room] <;> omega) | fail) only [↓reduceIte, ↓zP, zW, WOp, evOp, evBin, binI, binSh, binS, evNil, keyIs, keyEq, mkv, AV.cells, AV.sc, optv, bnd, env, put, Env.get, Env.set, Env.del, Env.dels, Env.init, res1, resL, resV, fillP, splice, newRow, Nat.reduceEqDiff, Nat.reduceLT, Nat.reduceLeDiff, Nat.reduceAdd, Nat.reduceMul, Nat.reduceSub, Nat.reduceBEq, reduceCtorEq, ↓zR, zQ, Tr, StA, StT]
            exact hq false hr
    · cases e5 : r.2.1
      · rw [e5] at q1
        simp (maxSteps := 1000000) (disch := first | omega | rfl | (simp only [zL, two63, room] <;> omega) | fail) only [↓reduceIte, ↓zP, zW, WOp, evOp, evBin, binI, binSh, binS, evNil, keyIs, keyEq, mkv, AV.cells, AV.sc, optv, bnd, env, put, Env.get, Env.set, Env.del, Env.dels, Env.init, res1, resL, resV, fillP, splice, newRow, Nat.reduceEqDiff, Nat.reduceLT, Nat.reduceLeDiff, Nat.reduceAdd, Nat.reduceMul, Nat.reduceSub, Nat.reduceBEq, reduceCtorEq, ↓zR, zQ, Tr, StA, StT, e_l1In, h1, h2, hgA, hgB, m0, m1, q1, hil, htl, nlt, e0, e1, e3]
        refine hq _ (decide_eq_false ?_)
        rintro ⟨x1, x2, x3, x4, x5, x6, x7, x8⟩
        simp only [Int.toNat_natCast] at x7
        rcases x7 with x7 | x7
        · exact nit (x7.1 (by simpa using e3))
        · rw [e5] at x7; cases x7
      · rw [e5] at q1
        have hdir : (w.getD i 0 = 84 ↔ i < t) ∨ r.2.1 = true := .inr e5
        cases e4 : r.2.2
        · rw [e4] at q2
          by_cases hn2 : n > 2
          · have n2 : (n : Int) > 2 := by omega
            simp (maxSteps := 1000000) (disch := first | omega | rfl | (simp only [zL, two63, room] <;> omega) | fail) only [↓reduceIte, ↓zP, zW, WOp, evOp, evBin, binI, binSh, binS, evNil, keyIs, keyEq, mkv, AV.cells, AV.sc, optv, bnd, env, put, Env.get, Env.set, Env.del, Env.dels, Env.init, res1, resL, resV, fillP, splice, newRow, Nat.reduceEqDiff, Nat.reduceLT, Nat.reduceLeDiff, Nat.reduceAdd, Nat.reduceMul, Nat.reduceSub, Nat.reduceBEq, reduceCtorEq, ↓zR, zQ, Tr, StA, StT, e_l1In, h1, h2, hgA, hgB, m0, m1, q1, q2, hil, htl, nlt, e0, e1, e3, e5, wA, wB, n2]
            refine hq false (decide_eq_false ?_)
            rintro ⟨x1, x2, x3, x4, x5, x6, x7, x8, x9⟩
            simp only [Int.toNat_natCast] at x8
            rcases x8 with x8 | x8
            · omega
            · rw [e4] at x8; cases x8
          · have n2 : ¬ ((n : Int) > 2) := by omega
            simp (maxSteps := 1000000) (disch := first | omega | rfl | (simp only [zL, two63, room] <;> omega) | fail) only [↓reduceIte, ↓zP, zW, WOp, evOp, evBin, binI, binSh, binS, evNil, keyIs, keyEq, mkv, AV.cells, AV.sc, optv, bnd, env, put, Env.get, Env.set, Env.del, Env.dels, Env.init, res1, resL, resV, fillP, splice, newRow, Nat.reduceEqDiff, Nat.reduceLT, Nat.reduceLeDiff, Nat.reduceAdd, Nat.reduceMul, Nat.reduceSub, Nat.reduceBEq, reduceCtorEq, ↓zR, zQ, Tr, StA, StT, e_l1In, h1, h2, hgA, hgB, m0, m1, q1, q2, hil, htl, nlt, e0, e1, e3, e5, wA, wB, n2]
            refine lp_ruCan hsg hw hi' han r hgf hdd hnl m0 q0 (n - 1) 1 (by omega) (fun hh => ?_) (fun hh => ?_)
            · simp (maxSteps := 1000000) (disch := first | omega | rfl | (simp only [zL, two63, room] <;> omega) | fail) only [↓reduceIte, ↓zP, zW, WOp, evOp, evBin, binI, binSh, binS, evNil, keyIs, keyEq, mkv, AV.cells, AV.sc, optv, bnd, env, put, Env.get, Env.set, Env.del, Env.dels, Env.init, res1, resL, resV, fillP, splice, newRow, Nat.reduceEqDiff, Nat.reduceLT, Nat.reduceLeDiff, Nat.reduceAdd, Nat.reduceMul, Nat.reduceSub, Nat.reduceBEq, reduceCtorEq, ↓zR, zQ, Tr, StA, StT]
              refine hq true (decide_eq_true ⟨by omega, by omega, ?_⟩)
              simp only [Int.toNat_natCast]
              exact ⟨hi', ht', ne1, k0, hdir, .inl (by omega), hall hh⟩
            · simp (maxSteps := 1000000) (disch := first | omega | rfl | (simp only [zL, two63, room] <;> omega) | fail) only [↓reduceIte, ↓zP, zW, WOp, evOp, evBin, binI, binSh, binS, evNil, keyIs, keyEq, mkv, AV.cells, AV.sc, optv, bnd, env, put, Env.get, Env.set, Env.del, Env.dels, Env.init, res1, resL, resV, fillP, splice, newRow, Nat.reduceEqDiff, Nat.reduceLT, Nat.reduceLeDiff, Nat.reduceAdd, Nat.reduceMul, Nat.reduceSub, Nat.reduceBEq, reduceCtorEq, ↓zR, zQ, Tr, StA, StT]
              refine hq false (decide_eq_false ?_)
              rintro ⟨x1, x2, x3, x4, x5, x6, x7, x8, x9⟩
              simp only [Int.toNat_natCast] at x9
              exact hh (hsome x9)
        · rw [e4] at q2
          have fin : Cx (.loop lp65_0) [(0, .str w), (4, .ptr h.length 0 0 2), (5, .ptr gA.length 0 0 3), (7, .int .i64 (-1)), (8, .int .i64 n), (9, .int .i64 ((1 : Nat) : Int))] gB (fun x e' h' => h' = gB ∧ ((x = .exit 0 ∧ e' = [] ∧ rcB w r ((i : Int), (t : Int)) = true) ∨ (x = .ret ∧ e' = [(6, .bool false)] ∧ rcB w r ((i : Int), (t : Int)) = false))) k k := by
            refine lp_ruCan hsg hw hi' han r hgf hdd hnl m0 q0 (n - 1) 1 (by omega) (fun hh => ?_) (fun hh => ?_)
            · refine ⟨rfl, .inl ⟨rfl, rfl, decide_eq_true ⟨by omega, by omega, ?_⟩⟩⟩
              simp only [Int.toNat_natCast]
              exact ⟨hi', ht', ne1, k0, hdir, .inr e4, hall hh⟩
            · refine ⟨rfl, .inr ⟨rfl, rfl, decide_eq_false ?_⟩⟩
              rintro ⟨x1, x2, x3, x4, x5, x6, x7, x8, x9⟩
              simp only [Int.toNat_natCast] at x9
              exact hh (hsome x9)
          by_cases hn2 : n > 2
          · have n2 : (n : Int) > 2 := by omega
            simp (maxSteps := 1000000) (disch := first | omega | rfl | (simp only [zL, two63, room] <;> omega) | fail) only [↓reduceIte, ↓zP, zW, WOp, evOp, evBin, binI, binSh, binS, evNil, keyIs, keyEq, mkv, AV.cells, AV.sc, optv, bnd, env, put, Env.get, Env.set, Env.del, Env.dels, Env.init, res1, resL, resV, fillP, splice, newRow, Nat.reduceEqDiff, Nat.reduceLT, Nat.reduceLeDiff, Nat.reduceAdd, Nat.reduceMul, Nat.reduceSub, Nat.reduceBEq, reduceCtorEq, ↓zR, zQ, Tr, StA, StT, e_l1In, h1, h2, hgA, hgB, m0, m1, q1, q2, hil, htl, nlt, e0, e1, e3, e5, wA, wB, n2]
            refine Cx_mono fin ?_
            rintro x e' h' ⟨rfl, ⟨rfl, rfl, hr⟩ | ⟨rfl, rfl, hr⟩⟩
            · simp (maxSteps := 1000000) (disch := first | omega | rfl | (simp only [zL, two63, room] <;> omega) | fail) only [↓reduceIte, ↓zP, zW, WOp, evOp, evBin, binI, binSh, binS, evNil, keyIs, keyEq, mkv, AV.cells, AV.sc, optv, bnd, env, put, Env.get, Env.set, Env.del, Env.dels, Env.init, res1, resL, resV, fillP, splice, newRow, Nat.reduceEqDiff, Nat.reduceLT, Nat.reduceLeDiff, Nat.reduceAdd, Nat.reduceMul, Nat.reduceSub, Nat.reduceBEq, reduceCtorEq, ↓zR, zQ, Tr, StA, StT]
              exact hq true hr
            · simp (maxSteps := 1000000) (disch := first | omega | rfl | (simp only [zL, two63, room] <;> omega) | fail) only [↓reduceIte, ↓zP, zW, WOp, evOp, evBin, binI, binSh, binS, evNil, keyIs, keyEq, mkv, AV.cells, AV.sc, optv, bnd, env, put, Env.get, Env.set, Env.del, Env.dels, Env.init, res1, resL, resV, fillP, splice, newRow, Nat.reduceEqDiff, Nat.reduceLT, Nat.reduceLeDiff, Nat.reduceAdd, Nat.reduceMul, Nat.reduceSub, Nat.reduceBEq, reduceCtorEq, ↓zR, zQ, Tr, StA, StT]
              exact hq false hr
          · have n2 : ¬ ((n : Int) > 2) := by omega
            simp (maxSteps := 1000000) (disch := first | omega | rfl | (simp only [zL, two63, room] <;> omega) | fail) only [↓reduceIte, ↓zP, zW, WOp, evOp, evBin, binI, binSh, binS, evNil, keyIs, keyEq, mkv, AV.cells, AV.sc, optv, bnd, env, put, Env.get, Env.set, Env.del, Env.dels, Env.init, res1, resL, resV, fillP, splice, newRow, Nat.reduceEqDiff, Nat.reduceLT, Nat.reduceLeDiff, Nat.reduceAdd, Nat.reduceMul, Nat.reduceSub, Nat.reduceBEq, reduceCtorEq, ↓zR, zQ, Tr, StA, StT, e_l1In, h1, h2, hgA, hgB, m0, m1, q1, q2, hil, htl, nlt, e0, e1, e3, e5, wA, wB, n2]
            refine Cx_mono fin ?_
            rintro x e' h' ⟨rfl, ⟨rfl, rfl, hr⟩ | ⟨rfl, rfl, hr⟩⟩
            · simp (maxSteps := 1000000) (disch := first | omega | rfl | (simp only [zL, two63, room] <;> omega) | fail) only [↓reduceIte, ↓zP, zW, WOp, evOp, evBin, binI, binSh, binS, evNil, keyIs, keyEq, mkv, AV.cells, AV.sc, optv, bnd, env, put, Env.get, Env.set, Env.del, Env.dels, Env.init, res1, resL, resV, fillP, splice, newRow, Nat.reduceEqDiff, Nat.reduceLT, Nat.reduceLeDiff, Nat.reduceAdd, Nat.reduceMul, Nat.reduceSub, Nat.reduceBEq, reduceCtorEq, ↓zR, zQ, Tr, StA, StT]
              exact hq true hr
            · simp (maxSteps := 1000000) (disch := first | omega | rfl | (simp only [zL, two63, room] <;> omega) | fail) only [↓reduceIte, ↓zP, zW, WOp, evOp, evBin, binI, binSh, binS, evNil, keyIs, keyEq, mkv, AV.cells, AV.sc, optv, bnd, env, put, Env.get, Env.set, Env.del, Env.dels, Env.init, res1, resL, resV, fillP, splice, newRow, Nat.reduceEqDiff, Nat.reduceLT, Nat.reduceLeDiff, Nat.reduceAdd, Nat.reduceMul, Nat.reduceSub, Nat.reduceBEq, reduceCtorEq, ↓zR, zQ, Tr, StA, StT]
              exact hq false hr
end Go.Proofs.YtejhhdpfndiliaaDoor.Ab

/- RULES: the reference's list of moves and its other functions. -/
namespace Go.Proofs.YtejhhdpfndiliaaDoor.Ab
open Go
set_option maxRecDepth 100000
set_option maxHeartbeats 4000000

def mvRin (w : List UInt8) (r : Ru) (i t d : Nat) : List (Int × Int) := ((List.range' t d).filter fun t => decide (RcP w r i t)).map fun t : Nat => ((i : Int), (t : Int))
theorem rcB_nat (w : List UInt8) (r : Ru) (i t : Nat) : rcB w r ((i : Int), (t : Int)) = decide (RcP w r i t) := by
  unfold rcB
  rw [decide_eq_decide]
  constructor
  · rintro ⟨_, _, hh⟩; simpa using hh
  · intro hh; exact ⟨by simp, by simp, by simpa using hh⟩
theorem lp_ruMoves1 {w : List UInt8} (hsg : signs w) (hw : w.length < 2 ^ 20) (r : Ru) (i : Nat) {p3 c0 c1 : Nat} {B A : AH} (hpB : p3 < B.length) (hb3 : A[p3]? = some (.row (encR r) 0 0 false)) (hc1 : B.length ≤ c1) {R : X → Env → AH → Prop} : ∀ (d t : Nat) (v : AV) (out : List (Int × Int)) (h : AH), t + d = w.length → OwL 2 encM B h v out → B.length ≤ h.length → (∀ x, x < B.length → h[x]? = A[x]?) → h[c1]? = some (.iter w t) → out.length + d ≤ 2 ^ 39 + 2 ^ 38 →
    (∀ v' h', OwL 2 encM B h' v' (out ++ mvRin w r i t d) → B.length ≤ h'.length → (∀ x, x < B.length → h'[x]? = A[x]?) → R (.exit 2) [(0, .str w), (3, .ptr p3 0 0 3), (5, v'), (10, .iter c0)] h') →
    Cx (.loop lp57_1) [(0, .str w), (3, .ptr p3 0 0 3), (5, v), (6, .int .i64 i), (10, .iter c0), (15, .iter c1)] h R k k
  | 0, t, v, out, h, hd, ho, hb, ha, hc, hl, hR => by
    have hlt : ¬ t < w.length := by omega
    rw [w_loopb (c := lp57_1) (d := lb57_1) rfl]; unfold lb57_1
    simp (maxSteps := 1000000) (disch := first | omega | rfl | (simp only [zL, two63, room] <;> omega) | fail) only [↓reduceIte, ↓zP, zW, WOp, evOp, evBin, binI, binSh, binS, evNil, keyIs, keyEq, mkv, AV.cells, AV.sc, optv, bnd, env, put, Env.get, Env.set, Env.del, Env.dels, Env.init, res1, resL, resV, fillP, splice, newRow, Nat.reduceEqDiff, Nat.reduceLT, Nat.reduceLeDiff, Nat.reduceAdd, Nat.reduceMul, Nat.reduceSub, Nat.reduceBEq, reduceCtorEq, ↓zR, zQ, Tr, StA, StT, hc, hlt]
    exact hR v h (by simpa [mvRin] using ho) hb ha
  | d + 1, t, v, out, h, hd, ho, hb, ha, hc, hl, hR => by
    have hlt : t < w.length := by omega
    have hdec := dec_low hlt (sign_low (sign_at hsg hlt))
    have hd1 : (dec w t).1 = ((w.getD t 0).toNat : Int) := by rw [hdec]
    have hd2 : (dec w t).2 = 1 := by rw [hdec]
    have hc1l := (List.getElem?_eq_some_iff.1 hc).1
    have ho0 : OwL 2 encM B (h.set c1 (.iter w (t + 1))) v out := own_iter ho hc
    have hc' : (h.set c1 (.iter w (t + 1)))[c1]? = some (.iter w (t + 1)) := by rw [List.getElem?_set, if_pos rfl, if_pos hc1l]
    have hb' : B.length ≤ (h.set c1 (.iter w (t + 1))).length := by simpa using hb
    have ha' : ∀ x, x < B.length → (h.set c1 (.iter w (t + 1)))[x]? = A[x]? := fun x hx => by rw [List.getElem?_set, if_neg (by omega)]; exact ha x hx
    have qh := (row3 (show h[p3]? = some (.row (encR r) 0 0 false) by rw [ha _ hpB, hb3])).2.2.2
    rw [w_loopb (c := lp57_1) (d := lb57_1) rfl]; unfold lb57_1
    simp (maxSteps := 1000000) (disch := first | omega | rfl | (simp only [zL, two63, room] <;> omega) | fail) only [↓reduceIte, ↓zP, zW, WOp, evOp, evBin, binI, binSh, binS, evNil, keyIs, keyEq, mkv, AV.cells, AV.sc, optv, bnd, env, put, Env.get, Env.set, Env.del, Env.dels, Env.init, res1, resL, resV, fillP, splice, newRow, Nat.reduceEqDiff, Nat.reduceLT, Nat.reduceLeDiff, Nat.reduceAdd, Nat.reduceMul, Nat.reduceSub, Nat.reduceBEq, reduceCtorEq, ↓zR, zQ, Tr, StA, StT, hc, hlt, hd1, hd2, qh]
    generalize hG : h.set c1 (AO.iter w (t + 1)) = g at ho0 hc' hb' ha'
    try (simp (maxSteps := 1000000) (disch := first | omega | rfl | (simp only [zL, two63, room] <;> omega) | fail) only [↓reduceIte, ↓zP, zW, WOp, evOp, evBin, binI, binSh, binS, evNil, keyIs, keyEq, mkv, AV.cells, AV.sc, optv, bnd, env, put, Env.get, Env.set, Env.del, Env.dels, Env.init, res1, resL, resV, fillP, splice, newRow, Nat.reduceEqDiff, Nat.reduceLT, Nat.reduceLeDiff, Nat.reduceAdd, Nat.reduceMul, Nat.reduceSub, Nat.reduceBEq, reduceCtorEq, ↓zR, zQ, Tr, StA, StT, hG])
    have p1 := Pre.push g (AO.row [AV.int .i64 i, AV.int .i64 t] 0 0 false)
    obtain ⟨m, -, -⟩ := mvRow g i t
    have q := (row3 (show g[p3]? = some (.row (encR r) 0 0 false) by rw [ha' _ hpB, hb3])).2.2.2
    have q' := rdRow_pre p1 q
    try (simp (maxSteps := 1000000) (disch := first | omega | rfl | (simp only [zL, two63, room] <;> omega) | fail) only [↓reduceIte, ↓zP, zW, WOp, evOp, evBin, binI, binSh, binS, evNil, keyIs, keyEq, mkv, AV.cells, AV.sc, optv, bnd, env, put, Env.get, Env.set, Env.del, Env.dels, Env.init, res1, resL, resV, fillP, splice, newRow, Nat.reduceEqDiff, Nat.reduceLT, Nat.reduceLeDiff, Nat.reduceAdd, Nat.reduceMul, Nat.reduceSub, Nat.reduceBEq, reduceCtorEq, ↓zR, zQ, Tr, StA, StT, m, q'])
    refine c_ruCan w hsg (by omega) r i t ?_
    intro h2 hp2
    have m2 := rdRow_pre hp2 m
    have hp12 := p1.trans hp2
    rw [rcB_nat]
    by_cases e : RcP w r i t
    · have he : mvRin w r i t (d + 1) = ((i : Int), (t : Int)) :: mvRin w r i (t + 1) d := by
        unfold mvRin
        rw [List.range'_succ, List.filter_cons, if_pos (decide_eq_true e), List.map_cons]
      have hd2' : decide (RcP w r i t) = true := decide_eq_true e
      have p3' := Pre.push h2 (AO.row [.int .i64 i, .int .i64 t] 0 0 false)
      obtain ⟨o2, h3, hap, ho3, hag⟩ := apA hlM scM ((ho0.pre hp12).pre p3') (Nat.le_trans hb' (Nat.le_trans hp12.1 p3'.1)) ((i : Int), (t : Int)) (by omega)
      obtain ⟨f1, f2, f3⟩ := apRow_fr hap
      simp (maxSteps := 1000000) (disch := first | omega | rfl | (simp only [zL, two63, room] <;> omega) | fail) only [↓reduceIte, ↓zP, zW, WOp, evOp, evBin, binI, binSh, binS, evNil, keyIs, keyEq, mkv, AV.cells, AV.sc, optv, bnd, env, put, Env.get, Env.set, Env.del, Env.dels, Env.init, res1, resL, resV, fillP, splice, newRow, Nat.reduceEqDiff, Nat.reduceLT, Nat.reduceLeDiff, Nat.reduceAdd, Nat.reduceMul, Nat.reduceSub, Nat.reduceBEq, reduceCtorEq, ↓zR, zQ, Tr, StA, StT, hd2', m2, hap]
      rw [w_loopn (c := lp57_1) rfl]
      simp (maxSteps := 1000000) (disch := first | omega | rfl | (simp only [zL, two63, room] <;> omega) | fail) only [↓reduceIte, ↓zP, zW, WOp, evOp, evBin, binI, binSh, binS, evNil, keyIs, keyEq, mkv, AV.cells, AV.sc, optv, bnd, env, put, Env.get, Env.set, Env.del, Env.dels, Env.init, res1, resL, resV, fillP, splice, newRow, Nat.reduceEqDiff, Nat.reduceLT, Nat.reduceLeDiff, Nat.reduceAdd, Nat.reduceMul, Nat.reduceSub, Nat.reduceBEq, reduceCtorEq, ↓zR, zQ, Tr, StA, StT]
      have hcg : c1 < g.length := (List.getElem?_eq_some_iff.1 hc').1
      have l2 := hp12.1
      refine lp_ruMoves1 hsg hw r i hpB hb3 hc1 d (t + 1) o2 (out ++ [((i : Int), (t : Int))]) h3 (by omega) ho3 (Nat.le_trans hb' (Nat.le_trans hp12.1 (Nat.le_trans p3'.1 f2))) (fun x hx => ?_) ?_ (by simp; omega) (fun v' h' o1 o2' o3 => hR v' h' (by rw [he, ← List.singleton_append, ← List.append_assoc]; exact o1) o2' o3)
      · rw [hag.2 x hx, p3'.2 x (by omega), hp12.2 x (by omega), ha' x hx]
      · rw [f1 c1 (by simp; omega) (own_ne_iter ho0 hc'), p3'.2 c1 (by omega), hp12.2 c1 (by omega), hc']
    · have he : mvRin w r i t (d + 1) = mvRin w r i (t + 1) d := by
        unfold mvRin
        rw [List.range'_succ, List.filter_cons, if_neg (by simpa using e)]
      have hd2' : decide (RcP w r i t) = false := decide_eq_false e
      simp (maxSteps := 1000000) (disch := first | omega | rfl | (simp only [zL, two63, room] <;> omega) | fail) only [↓reduceIte, ↓zP, zW, WOp, evOp, evBin, binI, binSh, binS, evNil, keyIs, keyEq, mkv, AV.cells, AV.sc, optv, bnd, env, put, Env.get, Env.set, Env.del, Env.dels, Env.init, res1, resL, resV, fillP, splice, newRow, Nat.reduceEqDiff, Nat.reduceLT, Nat.reduceLeDiff, Nat.reduceAdd, Nat.reduceMul, Nat.reduceSub, Nat.reduceBEq, reduceCtorEq, ↓zR, zQ, Tr, StA, StT, hd2']
      rw [w_loopn (c := lp57_1) rfl]
      simp (maxSteps := 1000000) (disch := first | omega | rfl | (simp only [zL, two63, room] <;> omega) | fail) only [↓reduceIte, ↓zP, zW, WOp, evOp, evBin, binI, binSh, binS, evNil, keyIs, keyEq, mkv, AV.cells, AV.sc, optv, bnd, env, put, Env.get, Env.set, Env.del, Env.dels, Env.init, res1, resL, resV, fillP, splice, newRow, Nat.reduceEqDiff, Nat.reduceLT, Nat.reduceLeDiff, Nat.reduceAdd, Nat.reduceMul, Nat.reduceSub, Nat.reduceBEq, reduceCtorEq, ↓zR, zQ, Tr, StA, StT]
      have hcg : c1 < g.length := (List.getElem?_eq_some_iff.1 hc').1
      refine lp_ruMoves1 hsg hw r i hpB hb3 hc1 d (t + 1) v out h2 (by omega) (ho0.pre hp12) (Nat.le_trans hb' hp12.1) (fun x hx => ?_) ?_ (by omega) (fun v' h' o1 o2' o3 => hR v' h' (by rw [he]; exact o1) o2' o3)
      · rw [hp12.2 x (by omega), ha' x hx]
      · rw [hp12.2 c1 hcg, hc']
theorem mvRin_all (w : List UInt8) (r : Ru) (i : Nat) : mvRin w r i 0 w.length = mvRi w r i := by
  unfold mvRin mvRi
  rw [List.range_eq_range']
theorem mvRi_len (w : List UInt8) (r : Ru) (i : Nat) : (mvRi w r i).length ≤ w.length := by
  unfold mvRi
  rw [List.length_map]
  exact Nat.le_trans (List.length_filter_le _ _) (by simp)
theorem lp_ruMoves0 {w : List UInt8} (hsg : signs w) (hw : w.length ≤ 2 ^ 10) (r : Ru) {p3 c0 : Nat} {B : AH} (hpB : p3 < B.length) (hb3 : B[p3]? = some (.row (encR r) 0 0 false)) (hcB : c0 < B.length) (hne : p3 ≠ c0) {R : X → Env → AH → Prop} : ∀ (d i : Nat) (v : AV) (out : List (Int × Int)) (h : AH), i + d = w.length → OwL 2 encM B h v out → B.length ≤ h.length → (∀ x, x < B.length → x ≠ c0 → h[x]? = B[x]?) → h[c0]? = some (.iter w i) → out.length + d * w.length ≤ 2 ^ 30 →
    (∀ v' h', OwL 2 encM B h' v' (out ++ (List.range' i d).flatMap (mvRi w r)) → B.length ≤ h'.length → (∀ x, x < B.length → x ≠ c0 → h'[x]? = B[x]?) → R (.exit 0) [(5, v')] h') →
    Cx (.loop lp57_0) [(0, .str w), (3, .ptr p3 0 0 3), (5, v), (10, .iter c0)] h R k k
  | 0, i, v, out, h, hd, ho, hb, ha, hc, hl, hR => by
    have hlt : ¬ i < w.length := by omega
    rw [w_loopb (c := lp57_0) (d := lb57_0) rfl]; unfold lb57_0
    simp (maxSteps := 1000000) (disch := first | omega | rfl | (simp only [zL, two63, room] <;> omega) | fail) only [↓reduceIte, ↓zP, zW, WOp, evOp, evBin, binI, binSh, binS, evNil, keyIs, keyEq, mkv, AV.cells, AV.sc, optv, bnd, env, put, Env.get, Env.set, Env.del, Env.dels, Env.init, res1, resL, resV, fillP, splice, newRow, Nat.reduceEqDiff, Nat.reduceLT, Nat.reduceLeDiff, Nat.reduceAdd, Nat.reduceMul, Nat.reduceSub, Nat.reduceBEq, reduceCtorEq, ↓zR, zQ, Tr, StA, StT, hc, hlt]
    exact hR v h (by simpa using ho) hb ha
  | d + 1, i, v, out, h, hd, ho, hb, ha, hc, hl, hR => by
    have hlt : i < w.length := by omega
    have hdec := dec_low hlt (sign_low (sign_at hsg hlt))
    have hd1 : (dec w i).1 = ((w.getD i 0).toNat : Int) := by rw [hdec]
    have hd2 : (dec w i).2 = 1 := by rw [hdec]
    have hcl : c0 < h.length := by omega
    have ho0 : OwL 2 encM B (h.set c0 (.iter w (i + 1))) v out := own_iter ho hc
    have hc' : (h.set c0 (.iter w (i + 1)))[c0]? = some (.iter w (i + 1)) := by rw [List.getElem?_set, if_pos rfl, if_pos hcl]
    have hb' : B.length ≤ (h.set c0 (.iter w (i + 1))).length := by simpa using hb
    have ha' : ∀ x, x < B.length → x ≠ c0 → (h.set c0 (.iter w (i + 1)))[x]? = B[x]? := fun x hx hn => by rw [List.getElem?_set, if_neg (Ne.symm hn)]; exact ha x hx hn
    rw [Nat.succ_mul] at hl
    have hll := mvRi_len w r i
    rw [w_loopb (c := lp57_0) (d := lb57_0) rfl]; unfold lb57_0
    simp (maxSteps := 1000000) (disch := first | omega | rfl | (simp only [zL, two63, room] <;> omega) | fail) only [↓reduceIte, ↓zP, zW, WOp, evOp, evBin, binI, binSh, binS, evNil, keyIs, keyEq, mkv, AV.cells, AV.sc, optv, bnd, env, put, Env.get, Env.set, Env.del, Env.dels, Env.init, res1, resL, resV, fillP, splice, newRow, Nat.reduceEqDiff, Nat.reduceLT, Nat.reduceLeDiff, Nat.reduceAdd, Nat.reduceMul, Nat.reduceSub, Nat.reduceBEq, reduceCtorEq, ↓zR, zQ, Tr, StA, StT, hc, hlt, hd1, hd2]
    generalize hG : h.set c0 (AO.iter w (i + 1)) = g at ho0 hc' hb' ha'
    try (simp (maxSteps := 1000000) (disch := first | omega | rfl | (simp only [zL, two63, room] <;> omega) | fail) only [↓reduceIte, ↓zP, zW, WOp, evOp, evBin, binI, binSh, binS, evNil, keyIs, keyEq, mkv, AV.cells, AV.sc, optv, bnd, env, put, Env.get, Env.set, Env.del, Env.dels, Env.init, res1, resL, resV, fillP, splice, newRow, Nat.reduceEqDiff, Nat.reduceLT, Nat.reduceLeDiff, Nat.reduceAdd, Nat.reduceMul, Nat.reduceSub, Nat.reduceBEq, reduceCtorEq, ↓zR, zQ, Tr, StA, StT, hG])
    have p1 := Pre.push g (AO.iter w 0)
    have hA3 : (g ++ [AO.iter w 0])[p3]? = some (.row (encR r) 0 0 false) := by rw [p1.2 p3 (by omega), ha' _ hpB hne, hb3]
    have l1 := p1.1
    try (rw [show h.length = g.length by rw [← hG]; simp])
    refine lp_ruMoves1 hsg (by omega) r i (B := B) (A := g ++ [AO.iter w 0]) hpB hA3 (c1 := g.length) hb' w.length 0 v out _ (by omega) (ho0.pre p1) (by omega) (fun x hx => rfl) (by simp) (by omega) ?_
    intro v1 h1 ho1 hb1 ha1
    rw [mvRin_all] at ho1
    try simp (maxSteps := 1000000) (disch := first | omega | rfl | (simp only [zL, two63, room] <;> omega) | fail) only [↓reduceIte, ↓zP, zW, WOp, evOp, evBin, binI, binSh, binS, evNil, keyIs, keyEq, mkv, AV.cells, AV.sc, optv, bnd, env, put, Env.get, Env.set, Env.del, Env.dels, Env.init, res1, resL, resV, fillP, splice, newRow, Nat.reduceEqDiff, Nat.reduceLT, Nat.reduceLeDiff, Nat.reduceAdd, Nat.reduceMul, Nat.reduceSub, Nat.reduceBEq, reduceCtorEq, ↓zR, zQ, Tr, StA, StT]
    refine lp_ruMoves0 hsg hw r hpB hb3 hcB hne d (i + 1) v1 (out ++ mvRi w r i) h1 (by omega) ho1 hb1 (fun x hx hn => ?_) ?_ (by rw [List.length_append]; omega) (fun v' h' o1 o2 o3 => hR v' h' ?_ o2 o3)
    · rw [ha1 x hx, p1.2 x (by omega), ha' x hx hn]
    · rw [ha1 c0 hcB, p1.2 c0 (by omega), hc']
    · rw [List.range'_succ, List.flatMap_cons, ← List.append_assoc]
      exact o1
theorem c_ruMoves {w : List UInt8} (hsg : signs w) (hw : w.length ≤ 2 ^ 10) (r : Ru) {h : AH} {post : AV → AH → Prop} (hp : ∀ v h', OwL 2 encM h h' v (mvR w r) → Pre h h' → post v h') : S 57 [.str w, .agg (encR r)] h post k := by
  have pA := Pre.push h (AO.row (encR r) 0 0 false)
  have h7 : (h ++ [AO.row (encR r) 0 0 false])[h.length]? = some (.row (encR r) 0 0 false) := by simp
  have lA : (h ++ [AO.row (encR r) 0 0 false]).length = h.length + 1 := by simp
  generalize hgA : h ++ [AO.row (encR r) 0 0 false] = gA at pA h7 lA
  have pB := Pre.push gA (AO.iter w 0)
  have lB : (gA ++ [AO.iter w 0]).length = gA.length + 1 := by simp
  refine S_of rfl T57 ?_; unfold fi57
  simp (maxSteps := 1000000) (disch := first | omega | rfl | (simp only [zL, two63, room] <;> omega) | fail) only [↓reduceIte, ↓zP, zW, WOp, evOp, evBin, binI, binSh, binS, evNil, keyIs, keyEq, mkv, AV.cells, AV.sc, optv, bnd, env, put, Env.get, Env.set, Env.del, Env.dels, Env.init, res1, resL, resV, fillP, splice, newRow, Nat.reduceEqDiff, Nat.reduceLT, Nat.reduceLeDiff, Nat.reduceAdd, Nat.reduceMul, Nat.reduceSub, Nat.reduceBEq, reduceCtorEq, ↓zR, zQ, Tr, StA, StT, hgA]
  refine lp_ruMoves0 hsg hw r (B := gA ++ [AO.iter w 0]) (p3 := h.length) (c0 := gA.length) (by omega) (by rw [pB.2 _ (by omega), h7]) (by omega) (by omega) w.length 0 .nilS [] _ (by omega) OwL.nil (Nat.le_refl _) (fun _ _ _ => rfl) (by simp) ?_ ?_
  · have h2 : w.length * w.length ≤ 2 ^ 10 * 2 ^ 10 := Nat.mul_le_mul hw hw
    simp only [List.length_nil]; omega
  intro v h' ho hb ha
  simp (maxSteps := 1000000) (disch := first | omega | rfl | (simp only [zL, two63, room] <;> omega) | fail) only [↓reduceIte, ↓zP, zW, WOp, evOp, evBin, binI, binSh, binS, evNil, keyIs, keyEq, mkv, AV.cells, AV.sc, optv, bnd, env, put, Env.get, Env.set, Env.del, Env.dels, Env.init, res1, resL, resV, fillP, splice, newRow, Nat.reduceEqDiff, Nat.reduceLT, Nat.reduceLeDiff, Nat.reduceAdd, Nat.reduceMul, Nat.reduceSub, Nat.reduceBEq, reduceCtorEq, ↓zR, zQ, Tr, StA, StT]
  rw [List.nil_append, ← List.range_eq_range'] at ho
  have lpA := pA.1
  refine hp v h' (ho.old (by omega)) ⟨by omega, fun x hx => ?_⟩
  rw [ha x (by omega) (by omega), pB.2 x (by omega), pA.2 x hx]
theorem c_sRuleMoves (w : List UInt8) (hw : w.length < 2 ^ 60) (r : Ru) {h : AH} {post : AV → AH → Prop} (hp : ∀ v h', OwL 2 encM h h' v (rmL w r) → Pre h h' → post (.tup [v, .bool (plG10 w)]) h') : S 20 [.str w, .agg (encR r)] h post k := by
  unfold rmL at hp
  have p1 := Pre.push h (AO.row (encR r) 0 0 false)
  refine S_of rfl T20 ?_; unfold fi20
  cases hg : plG10 w <;> rw [hg] at hp
  · simp (maxSteps := 1000000) (disch := first | omega | rfl | (simp only [zL, two63, room] <;> omega) | fail) only [↓reduceIte, ↓zP, zW, WOp, evOp, evBin, binI, binSh, binS, evNil, keyIs, keyEq, mkv, AV.cells, AV.sc, optv, bnd, env, put, Env.get, Env.set, Env.del, Env.dels, Env.init, res1, resL, resV, fillP, splice, newRow, Nat.reduceEqDiff, Nat.reduceLT, Nat.reduceLeDiff, Nat.reduceAdd, Nat.reduceMul, Nat.reduceSub, Nat.reduceBEq, reduceCtorEq, ↓zR, zQ, Tr, StA, StT, e_reFewG w hw, hg]
    exact hp .nilS _ OwL.nil p1
  · obtain ⟨l1, l2, l3⟩ := pl10 hg
    simp (maxSteps := 1000000) (disch := first | omega | rfl | (simp only [zL, two63, room] <;> omega) | fail) only [↓reduceIte, ↓zP, zW, WOp, evOp, evBin, binI, binSh, binS, evNil, keyIs, keyEq, mkv, AV.cells, AV.sc, optv, bnd, env, put, Env.get, Env.set, Env.del, Env.dels, Env.init, res1, resL, resV, fillP, splice, newRow, Nat.reduceEqDiff, Nat.reduceLT, Nat.reduceLeDiff, Nat.reduceAdd, Nat.reduceMul, Nat.reduceSub, Nat.reduceBEq, reduceCtorEq, ↓zR, zQ, Tr, StA, StT, e_reFewG w hw, hg]
    refine c_ruMoves l3 (by omega) r ?_
    intro v h' ho hp'
    simp (maxSteps := 1000000) (disch := first | omega | rfl | (simp only [zL, two63, room] <;> omega) | fail) only [↓reduceIte, ↓zP, zW, WOp, evOp, evBin, binI, binSh, binS, evNil, keyIs, keyEq, mkv, AV.cells, AV.sc, optv, bnd, env, put, Env.get, Env.set, Env.del, Env.dels, Env.init, res1, resL, resV, fillP, splice, newRow, Nat.reduceEqDiff, Nat.reduceLT, Nat.reduceLeDiff, Nat.reduceAdd, Nat.reduceMul, Nat.reduceSub, Nat.reduceBEq, reduceCtorEq, ↓zR, zQ, Tr, StA, StT]
    exact hp v h' (ho.old p1.1) (p1.trans hp')
theorem c_sCanByRule (w : List UInt8) (hw : w.length < 2 ^ 60) (r : Ru) (i t : Int) {h : AH} {post : AV → AH → Prop} (hp : ∀ h', Pre h h' → post (.tup [.bool (rcG w r (i, t)), .bool (plG10 w)]) h') : S 12 [.str w, mvV i t, .agg (encR r)] h post k := by
  unfold rcG at hp
  have p1 := Pre.push h (AO.row [AV.int .i64 i, AV.int .i64 t] 0 0 false)
  have p2 := Pre.push (h ++ [AO.row [AV.int .i64 i, AV.int .i64 t] 0 0 false]) (AO.row (encR r) 0 0 false)
  have q := rdRow_pre p2 (mvRow h i t).1
  refine S_of rfl T12 ?_; unfold fi12
  cases hg : plG10 w <;> rw [hg] at hp
  · simp (maxSteps := 1000000) (disch := first | omega | rfl | (simp only [zL, two63, room] <;> omega) | fail) only [↓reduceIte, ↓zP, zW, WOp, evOp, evBin, binI, binSh, binS, evNil, keyIs, keyEq, mkv, AV.cells, AV.sc, optv, bnd, env, put, Env.get, Env.set, Env.del, Env.dels, Env.init, res1, resL, resV, fillP, splice, newRow, Nat.reduceEqDiff, Nat.reduceLT, Nat.reduceLeDiff, Nat.reduceAdd, Nat.reduceMul, Nat.reduceSub, Nat.reduceBEq, reduceCtorEq, ↓zR, zQ, Tr, StA, StT, e_reFewG w hw, hg]
    exact hp _ (p1.trans p2)
  · obtain ⟨l1, l2, l3⟩ := pl10 hg
    simp (maxSteps := 1000000) (disch := first | omega | rfl | (simp only [zL, two63, room] <;> omega) | fail) only [↓reduceIte, ↓zP, zW, WOp, evOp, evBin, binI, binSh, binS, evNil, keyIs, keyEq, mkv, AV.cells, AV.sc, optv, bnd, env, put, Env.get, Env.set, Env.del, Env.dels, Env.init, res1, resL, resV, fillP, splice, newRow, Nat.reduceEqDiff, Nat.reduceLT, Nat.reduceLeDiff, Nat.reduceAdd, Nat.reduceMul, Nat.reduceSub, Nat.reduceBEq, reduceCtorEq, ↓zR, zQ, Tr, StA, StT, e_reFewG w hw, hg, q]
    refine c_ruCan w l3 (by omega) r i t ?_
    intro h1 hp1
    simp (maxSteps := 1000000) (disch := first | omega | rfl | (simp only [zL, two63, room] <;> omega) | fail) only [↓reduceIte, ↓zP, zW, WOp, evOp, evBin, binI, binSh, binS, evNil, keyIs, keyEq, mkv, AV.cells, AV.sc, optv, bnd, env, put, Env.get, Env.set, Env.del, Env.dels, Env.init, res1, resL, resV, fillP, splice, newRow, Nat.reduceEqDiff, Nat.reduceLT, Nat.reduceLeDiff, Nat.reduceAdd, Nat.reduceMul, Nat.reduceSub, Nat.reduceBEq, reduceCtorEq, ↓zR, zQ, Tr, StA, StT]
    exact hp h1 (p1.trans (p2.trans hp1))
theorem c_sMakeByRule (w : List UInt8) (hw : w.length < 2 ^ 60) (r : Ru) (i t : Int) {h : AH} {post : AV → AH → Prop} (hp : ∀ h', Pre h h' → post (.tup [.str (mkR w r (i, t)), .bool (rcG w r (i, t))]) h') : S 11 [.str w, mvV i t, .agg (encR r)] h post k := by
  unfold mkR rcG at hp
  have p1 := Pre.push h (AO.row [AV.int .i64 i, AV.int .i64 t] 0 0 false)
  have p2 := Pre.push (h ++ [AO.row [AV.int .i64 i, AV.int .i64 t] 0 0 false]) (AO.row (encR r) 0 0 false)
  have q := rdRow_pre p2 (mvRow h i t).1
  refine S_of rfl T11 ?_; unfold fi11
  cases hg : plG10 w <;> rw [hg] at hp
  · simp (maxSteps := 1000000) (disch := first | omega | rfl | (simp only [zL, two63, room] <;> omega) | fail) only [↓reduceIte, ↓zP, zW, WOp, evOp, evBin, binI, binSh, binS, evNil, keyIs, keyEq, mkv, AV.cells, AV.sc, optv, bnd, env, put, Env.get, Env.set, Env.del, Env.dels, Env.init, res1, resL, resV, fillP, splice, newRow, Nat.reduceEqDiff, Nat.reduceLT, Nat.reduceLeDiff, Nat.reduceAdd, Nat.reduceMul, Nat.reduceSub, Nat.reduceBEq, reduceCtorEq, ↓zR, zQ, Tr, StA, StT, e_reFewG w hw, hg]
    exact hp _ (p1.trans p2)
  · obtain ⟨l1, l2, l3⟩ := pl10 hg
    simp (maxSteps := 1000000) (disch := first | omega | rfl | (simp only [zL, two63, room] <;> omega) | fail) only [↓reduceIte, ↓zP, zW, WOp, evOp, evBin, binI, binSh, binS, evNil, keyIs, keyEq, mkv, AV.cells, AV.sc, optv, bnd, env, put, Env.get, Env.set, Env.del, Env.dels, Env.init, res1, resL, resV, fillP, splice, newRow, Nat.reduceEqDiff, Nat.reduceLT, Nat.reduceLeDiff, Nat.reduceAdd, Nat.reduceMul, Nat.reduceSub, Nat.reduceBEq, reduceCtorEq, ↓zR, zQ, Tr, StA, StT, e_reFewG w hw, hg, q]
    refine c_ruCan w l3 (by omega) r i t ?_
    intro h1 hp1
    have q' := rdRow_pre hp1 q
    cases hc : rcB w r (i, t) <;> rw [hc] at hp
    · simp (maxSteps := 1000000) (disch := first | omega | rfl | (simp only [zL, two63, room] <;> omega) | fail) only [↓reduceIte, ↓zP, zW, WOp, evOp, evBin, binI, binSh, binS, evNil, keyIs, keyEq, mkv, AV.cells, AV.sc, optv, bnd, env, put, Env.get, Env.set, Env.del, Env.dels, Env.init, res1, resL, resV, fillP, splice, newRow, Nat.reduceEqDiff, Nat.reduceLT, Nat.reduceLeDiff, Nat.reduceAdd, Nat.reduceMul, Nat.reduceSub, Nat.reduceBEq, reduceCtorEq, ↓zR, zQ, Tr, StA, StT]
      exact hp _ (p1.trans (p2.trans hp1))
    · obtain ⟨i, t, rfl, rfl, hm⟩ := rcB_mv hc
      simp (maxSteps := 1000000) (disch := first | omega | rfl | (simp only [zL, two63, room] <;> omega) | fail) only [↓reduceIte, ↓zP, zW, WOp, evOp, evBin, binI, binSh, binS, evNil, keyIs, keyEq, mkv, AV.cells, AV.sc, optv, bnd, env, put, Env.get, Env.set, Env.del, Env.dels, Env.init, res1, resL, resV, fillP, splice, newRow, Nat.reduceEqDiff, Nat.reduceLT, Nat.reduceLeDiff, Nat.reduceAdd, Nat.reduceMul, Nat.reduceSub, Nat.reduceBEq, reduceCtorEq, ↓zR, zQ, Tr, StA, StT, q']
      refine c_liMake w i t hm.1 hm.2.1 hm.ne (by omega) ?_
      intro h2 hp2
      have := hp h2 (p1.trans (p2.trans (hp1.trans hp2)))
      simp (maxSteps := 1000000) (disch := first | omega | rfl | (simp only [zL, two63, room] <;> omega) | fail) only [↓reduceIte, ↓zP, zW, WOp, evOp, evBin, binI, binSh, binS, evNil, keyIs, keyEq, mkv, AV.cells, AV.sc, optv, bnd, env, put, Env.get, Env.set, Env.del, Env.dels, Env.init, res1, resL, resV, fillP, splice, newRow, Nat.reduceEqDiff, Nat.reduceLT, Nat.reduceLeDiff, Nat.reduceAdd, Nat.reduceMul, Nat.reduceSub, Nat.reduceBEq, reduceCtorEq, ↓zR, zQ, Tr, StA, StT]
      simpa using this
theorem lp_sPlayByRule (r : Ru) {c : Nat} {v : AV} {L : List (Int × Int)} (hL : L.length < 2 ^ 30) {b : AH} (hb : rdRow b c 0 0 3 = some (encR r)) (hs : Slc 2 encM b v L) {R : X → Env → AH → Prop} : ∀ (rest pre : List (Int × Int)) (w : List UInt8) (h : AH), L = pre ++ rest → w.length ≤ 2 ^ 10 → signs w → Pre b h →
    ((plR r w rest).2 = rest.length → ∀ h', Pre b h' → R (.exit 0) [(0, .str (plR r w rest).1)] h') →
    ((plR r w rest).2 < rest.length → ∀ h', Pre b h' → R .ret [(6, .str []), (7, .bool false)] h') →
    Cx (.loop lp8_0) [(0, .str w), (5, .ptr c 0 0 3), (18, v), (19, .int .i64 L.length), (20, .int .i64 pre.length)] h R k k := by
  intro rest
  induction rest with
  | nil =>
    intro pre w h hpre hw hsg hp h1 h2
    have hl : L.length = pre.length := by rw [hpre]; simp
    rw [hl]
    rw [w_loopb (c := lp8_0) (d := lb8_0) rfl]; unfold lb8_0
    simp (maxSteps := 1000000) (disch := first | omega | rfl | (simp only [zL, two63, room] <;> omega) | fail) only [↓reduceIte, ↓zP, zW, WOp, evOp, evBin, binI, binSh, binS, evNil, keyIs, keyEq, mkv, AV.cells, AV.sc, optv, bnd, env, put, Env.get, Env.set, Env.del, Env.dels, Env.init, res1, resL, resV, fillP, splice, newRow, Nat.reduceEqDiff, Nat.reduceLT, Nat.reduceLeDiff, Nat.reduceAdd, Nat.reduceMul, Nat.reduceSub, Nat.reduceBEq, reduceCtorEq, ↓zR, zQ, Tr, StA, StT]
    exact h1 rfl h hp
  | cons m rest ih =>
    intro pre w h hpre hw hsg hp h1 h2
    obtain ⟨i, t⟩ := m
    have hl : L.length = pre.length + 1 + rest.length := by rw [hpre]; simp; omega
    have hs' := hs.pre hp
    rw [hpre] at hs'
    obtain ⟨r1, k1, o1, hve, hr⟩ := hs'.at hlM
    rw [← hpre, hl] at hve
    subst hve
    rw [hl] at ih ⊢
    have hr' : rdRow h r1 k1 (o1 + pre.length * 2) 2 = some [.int .i64 i, .int .i64 t] := hr
    have hlt : (pre.length : Int) < ((pre.length + 1 + rest.length : Nat) : Int) := by omega
    have hw1 : (pre.length : Int) + 1 = ((pre ++ [((i, t) : Int × Int)]).length : Int) := by simp
    have hw2 : IntKind.i64.wrap ((pre ++ [((i, t) : Int × Int)]).length : Int) = ((pre ++ [((i, t) : Int × Int)]).length : Int) := wrap_i (by simp; omega)
    obtain ⟨q, -, -⟩ := mvRow h i t
    have hpR : Pre b (h ++ [AO.row [AV.int .i64 i, AV.int .i64 t] 0 0 false]) := hp.trans (Pre.push _ _)
    have hcR := rdRow_pre hpR hb
    have hcH := rdRow_pre hp hb
    rw [w_loopb (c := lp8_0) (d := lb8_0) rfl]; unfold lb8_0
    simp (maxSteps := 1000000) (disch := first | omega | rfl | (simp only [zL, two63, room] <;> omega) | fail) only [↓reduceIte, ↓zP, zW, WOp, evOp, evBin, binI, binSh, binS, evNil, keyIs, keyEq, mkv, AV.cells, AV.sc, optv, bnd, env, put, Env.get, Env.set, Env.del, Env.dels, Env.init, res1, resL, resV, fillP, splice, newRow, Nat.reduceEqDiff, Nat.reduceLT, Nat.reduceLeDiff, Nat.reduceAdd, Nat.reduceMul, Nat.reduceSub, Nat.reduceBEq, reduceCtorEq, ↓zR, zQ, Tr, StA, StT, hlt, hr', hcR, hcH]
    refine c_ruCan w hsg (by omega) r i t ?_
    intro h3 hp3
    have q3 := rdRow_pre hp3 q
    cases hc : rcB w r (i, t)
    · have e : plR r w ((i, t) :: rest) = (w, 0) := by simp only [plR, hc, Bool.false_eq_true, if_false]
      rw [e] at h2
      simp (maxSteps := 1000000) (disch := first | omega | rfl | (simp only [zL, two63, room] <;> omega) | fail) only [↓reduceIte, ↓zP, zW, WOp, evOp, evBin, binI, binSh, binS, evNil, keyIs, keyEq, mkv, AV.cells, AV.sc, optv, bnd, env, put, Env.get, Env.set, Env.del, Env.dels, Env.init, res1, resL, resV, fillP, splice, newRow, Nat.reduceEqDiff, Nat.reduceLT, Nat.reduceLeDiff, Nat.reduceAdd, Nat.reduceMul, Nat.reduceSub, Nat.reduceBEq, reduceCtorEq, ↓zR, zQ, Tr, StA, StT]
      exact h2 (by simp) h3 (hpR.trans hp3)
    · obtain ⟨i, t, rfl, rfl, hm⟩ := rcB_mv hc
      have e : plR r w (((i : Int), (t : Int)) :: rest) = ((plR r (madeB w i t) rest).1, (plR r (madeB w i t) rest).2 + 1) := by simp only [plR, hc, if_true, Int.toNat_natCast]
      rw [e] at h1 h2
      simp (maxSteps := 1000000) (disch := first | omega | rfl | (simp only [zL, two63, room] <;> omega) | fail) only [↓reduceIte, ↓zP, zW, WOp, evOp, evBin, binI, binSh, binS, evNil, keyIs, keyEq, mkv, AV.cells, AV.sc, optv, bnd, env, put, Env.get, Env.set, Env.del, Env.dels, Env.init, res1, resL, resV, fillP, splice, newRow, Nat.reduceEqDiff, Nat.reduceLT, Nat.reduceLeDiff, Nat.reduceAdd, Nat.reduceMul, Nat.reduceSub, Nat.reduceBEq, reduceCtorEq, ↓zR, zQ, Tr, StA, StT, q3]
      refine c_liMake w i t hm.1 hm.2.1 hm.ne (by omega) ?_
      intro h4 hp4
      simp (maxSteps := 1000000) (disch := first | omega | rfl | (simp only [zL, two63, room] <;> omega) | fail) only [↓reduceIte, ↓zP, zW, WOp, evOp, evBin, binI, binSh, binS, evNil, keyIs, keyEq, mkv, AV.cells, AV.sc, optv, bnd, env, put, Env.get, Env.set, Env.del, Env.dels, Env.init, res1, resL, resV, fillP, splice, newRow, Nat.reduceEqDiff, Nat.reduceLT, Nat.reduceLeDiff, Nat.reduceAdd, Nat.reduceMul, Nat.reduceSub, Nat.reduceBEq, reduceCtorEq, ↓zR, zQ, Tr, StA, StT, hw1, hw2]
      rw [w_loopn (c := lp8_0) rfl]
      simp (maxSteps := 1000000) (disch := first | omega | rfl | (simp only [zL, two63, room] <;> omega) | fail) only [↓reduceIte, ↓zP, zW, WOp, evOp, evBin, binI, binSh, binS, evNil, keyIs, keyEq, mkv, AV.cells, AV.sc, optv, bnd, env, put, Env.get, Env.set, Env.del, Env.dels, Env.init, res1, resL, resV, fillP, splice, newRow, Nat.reduceEqDiff, Nat.reduceLT, Nat.reduceLeDiff, Nat.reduceAdd, Nat.reduceMul, Nat.reduceSub, Nat.reduceBEq, reduceCtorEq, ↓zR, zQ, Tr, StA, StT]
      exact ih (pre ++ [((i : Int), (t : Int))]) (madeB w i t) h4 (by rw [hpre]; simp) (by rw [madeB_length]; exact hw) (signs_madeR hsg hm.1) (hpR.trans (hp3.trans hp4)) (fun a => h1 (by simp only [List.length_cons]; omega)) (fun a h' q1 => h2 (by simp only [List.length_cons]; omega) h' q1)
theorem c_sPlayByRule {v : AV} {L : List (Int × Int)} (hL : L.length < 2 ^ 30) (w : List UInt8) (hw : w.length < 2 ^ 60) (r : Ru) {h : AH} (hs : Slc 2 encM h v L) {post : AV → AH → Prop} (hp : ∀ h', Pre h h' → post (.tup [.str (pbG r w L), .bool (pbOk r w L)]) h') : S 8 [.str w, v, .agg (encR r)] h post k := by
  unfold pbG pbOk at hp
  have p1 := Pre.push h (AO.row (encR r) 0 0 false)
  have hc : rdRow (h ++ [AO.row (encR r) 0 0 false]) h.length 0 0 3 = some (encR r) := (row3 (c := h.length) (by simp)).2.2.2
  have hs1 := hs.pre p1
  refine S_of rfl T8 ?_; unfold fi8
  have hv := fun g => Slc.lenV (hs1) (g := g) (ρ := fun _ => _) (x := .t 0) rfl; simp only [evOp] at hv
  cases hg : plG10 w <;> rw [hg] at hp
  · simp (maxSteps := 1000000) (disch := first | omega | rfl | (simp only [zL, two63, room] <;> omega) | fail) only [↓reduceIte, ↓zP, zW, WOp, evOp, evBin, binI, binSh, binS, evNil, keyIs, keyEq, mkv, AV.cells, AV.sc, optv, bnd, env, put, Env.get, Env.set, Env.del, Env.dels, Env.init, res1, resL, resV, fillP, splice, newRow, Nat.reduceEqDiff, Nat.reduceLT, Nat.reduceLeDiff, Nat.reduceAdd, Nat.reduceMul, Nat.reduceSub, Nat.reduceBEq, reduceCtorEq, ↓zR, zQ, Tr, StA, StT, e_reFewG w hw, hg]
    exact hp _ p1
  · obtain ⟨l1, l2, l3⟩ := pl10 hg
    by_cases hl : L.length ≤ 100
    · have n1 : ¬ ((L.length : Int) > 100) := by omega
      simp only [hl, decide_true, Bool.true_and] at hp
      simp (maxSteps := 1000000) (disch := first | omega | rfl | (simp only [zL, two63, room] <;> omega) | fail) only [↓reduceIte, ↓zP, zW, WOp, evOp, evBin, binI, binSh, binS, evNil, keyIs, keyEq, mkv, AV.cells, AV.sc, optv, bnd, env, put, Env.get, Env.set, Env.del, Env.dels, Env.init, res1, resL, resV, fillP, splice, newRow, Nat.reduceEqDiff, Nat.reduceLT, Nat.reduceLeDiff, Nat.reduceAdd, Nat.reduceMul, Nat.reduceSub, Nat.reduceBEq, reduceCtorEq, ↓zR, zQ, Tr, StA, StT, e_reFewG w hw, hg, hv, n1]
      refine lp_sPlayByRule r hL hc hs1 L [] w _ rfl (by omega) l3 (Pre.refl _) ?_ ?_
      · intro e h' hp'
        have := hp h' (p1.trans hp')
        rw [e] at this
        simp (maxSteps := 1000000) (disch := first | omega | rfl | (simp only [zL, two63, room] <;> omega) | fail) only [↓reduceIte, ↓zP, zW, WOp, evOp, evBin, binI, binSh, binS, evNil, keyIs, keyEq, mkv, AV.cells, AV.sc, optv, bnd, env, put, Env.get, Env.set, Env.del, Env.dels, Env.init, res1, resL, resV, fillP, splice, newRow, Nat.reduceEqDiff, Nat.reduceLT, Nat.reduceLeDiff, Nat.reduceAdd, Nat.reduceMul, Nat.reduceSub, Nat.reduceBEq, reduceCtorEq, ↓zR, zQ, Tr, StA, StT]
        simpa using this
      · intro e h' hp'
        have hle := hp h' (p1.trans hp')
        have n2 : ¬ ((plR r w L).2 = L.length) := by omega
        simp only [n2, decide_false, Bool.false_eq_true, if_false] at hle
        simp (maxSteps := 1000000) (disch := first | omega | rfl | (simp only [zL, two63, room] <;> omega) | fail) only [↓reduceIte, ↓zP, zW, WOp, evOp, evBin, binI, binSh, binS, evNil, keyIs, keyEq, mkv, AV.cells, AV.sc, optv, bnd, env, put, Env.get, Env.set, Env.del, Env.dels, Env.init, res1, resL, resV, fillP, splice, newRow, Nat.reduceEqDiff, Nat.reduceLT, Nat.reduceLeDiff, Nat.reduceAdd, Nat.reduceMul, Nat.reduceSub, Nat.reduceBEq, reduceCtorEq, ↓zR, zQ, Tr, StA, StT]
        exact hle
    · have n1 : ((L.length : Int) > 100) := by omega
      simp only [hl, decide_false, Bool.true_and, Bool.false_and, Bool.false_eq_true, if_false] at hp
      simp (maxSteps := 1000000) (disch := first | omega | rfl | (simp only [zL, two63, room] <;> omega) | fail) only [↓reduceIte, ↓zP, zW, WOp, evOp, evBin, binI, binSh, binS, evNil, keyIs, keyEq, mkv, AV.cells, AV.sc, optv, bnd, env, put, Env.get, Env.set, Env.del, Env.dels, Env.init, res1, resL, resV, fillP, splice, newRow, Nat.reduceEqDiff, Nat.reduceLT, Nat.reduceLeDiff, Nat.reduceAdd, Nat.reduceMul, Nat.reduceSub, Nat.reduceBEq, reduceCtorEq, ↓zR, zQ, Tr, StA, StT, e_reFewG w hw, hg, hv, n1]
      exact hp _ p1
end Go.Proofs.YtejhhdpfndiliaaDoor.Ab

/- RULES: what they are called, and what a name stands for. -/
namespace Go.Proofs.YtejhhdpfndiliaaDoor.Ab
open Go
set_option maxRecDepth 100000
set_option maxHeartbeats 4000000

def ruT0 (r : Ru) : List UInt8 := (if r.1 then [111] else []) ++ (if r.2.1 then [98] else []) ++ (if r.2.2 then [108] else [])
def ruT (r : Ru) : List UInt8 := if ruT0 r = [] then [45] else ruT0 r
def ruAll : List Ru := [(false, false, false), (true, false, false), (false, true, false), (true, true, false), (false, false, true), (true, false, true), (false, true, true), (true, true, true)]
def ruF (s : List UInt8) : Option Ru := ruAll.find? fun r => ruT r == s
theorem ruF_text (r : Ru) : ruF (ruT r) = some r := by
  obtain ⟨a, b, c⟩ := r
  cases a <;> cases b <;> cases c <;> decide
theorem ruF_some {s : List UInt8} {r : Ru} (h : ruF s = some r) : ruT r = s := by
  have := List.find?_some h
  simpa using this
theorem z_cons (x : UInt8) (l : List UInt8) : ((x :: l) == ([] : List UInt8)) = false := rfl
theorem c_sruText (r : Ru) {h : AH} {post : AV → AH → Prop} (hp : ∀ h', Pre h h' → post (.str (ruT r)) h') : S 70 [.agg (encR r)] h post k := by
  have p1 := Pre.push h (AO.row (encR r) 0 0 false)
  have hq := hp _ p1
  obtain ⟨q0, q1, q2, q3⟩ := row3 (x := .bool r.1) (y := .bool r.2.1) (z := .bool r.2.2) (h := h ++ [AO.row (encR r) 0 0 false]) (c := h.length) (by simp)
  obtain ⟨a, b, c⟩ := r
  generalize hgA : h ++ [AO.row (encR (a, b, c)) 0 0 false] = gA at *
  refine S_of rfl T70 ?_; unfold fi70
  cases a <;> cases b <;> cases c <;> simp (maxSteps := 1000000) (disch := first | omega | rfl | (simp only [zL, two63, room] <;> omega) | fail) only [↓reduceIte, ↓zP, zW, WOp, evOp, evBin, binI, binSh, binS, evNil, keyIs, keyEq, mkv, AV.cells, AV.sc, optv, bnd, env, put, Env.get, Env.set, Env.del, Env.dels, Env.init, res1, resL, resV, fillP, splice, newRow, Nat.reduceEqDiff, Nat.reduceLT, Nat.reduceLeDiff, Nat.reduceAdd, Nat.reduceMul, Nat.reduceSub, Nat.reduceBEq, reduceCtorEq, ↓zR, zQ, Tr, StA, StT, hgA, q0, q1, q2, z_cons, List.cons_append, List.nil_append] <;> exact hq
theorem u0 : Int.toNat 0 * 1 = 0 := rfl
theorem u1 : Int.toNat 1 * 1 = 1 := rfl
theorem u2 : Int.toNat 2 * 1 = 2 := rfl
theorem i1 : (0 : Int) + 1 = 1 := rfl
theorem i2 : (1 : Int) + 1 = 2 := rfl
theorem i3 : (2 : Int) + 1 = 3 := rfl
theorem sb0 : List.take (Int.toNat 1 - Int.toNat 0) (List.drop (Int.toNat 0) ([111, 98, 108] : List UInt8)) = [111] := rfl
theorem sb1 : List.take (Int.toNat 2 - Int.toNat 1) (List.drop (Int.toNat 1) ([111, 98, 108] : List UInt8)) = [98] := rfl
theorem sb2 : List.drop (Int.toNat 2) ([111, 98, 108] : List UInt8) = [108] := rfl
theorem sb3 : List.take (Int.toNat 1) ([111, 98, 108] : List UInt8) = [111] := rfl
theorem c_text (r : Ru) {h : AH} {post : AV → AH → Prop} (hp : ∀ h', Pre h h' → post (.str (ruT r)) h') : S 69 [.agg (encR r)] h post k := by
  have p1 := Pre.push h (AO.row (encR r) 0 0 false)
  obtain ⟨q0, q1, q2, q3⟩ := row3 (x := .bool r.1) (y := .bool r.2.1) (z := .bool r.2.2) (h := h ++ [AO.row (encR r) 0 0 false]) (c := h.length) (by simp)
  have p2 := Pre.push (h ++ [AO.row (encR r) 0 0 false]) (AO.row (encR r) 0 0 false)
  obtain ⟨t0, t1, t2, t3⟩ := row3 (x := .bool r.1) (y := .bool r.2.1) (z := .bool r.2.2) (h := (h ++ [AO.row (encR r) 0 0 false]) ++ [AO.row (encR r) 0 0 false]) (c := (h ++ [AO.row (encR r) 0 0 false]).length) (by simp)
  have hq := hp _ (p1.trans p2)
  obtain ⟨a, b, c⟩ := r
  generalize hgA : h ++ [AO.row (encR (a, b, c)) 0 0 false] = gA at *
  generalize hgB : gA ++ [AO.row (encR (a, b, c)) 0 0 false] = gB at *
  refine S_of rfl T69 ?_; unfold fi69
  cases a <;> cases b <;> cases c <;> simp (maxSteps := 1000000) (disch := first | omega | rfl | (simp only [zL, two63, room] <;> omega) | fail) only [↓reduceIte, ↓zP, zW, WOp, evOp, evBin, binI, binSh, binS, evNil, keyIs, keyEq, mkv, AV.cells, AV.sc, optv, bnd, env, put, Env.get, Env.set, Env.del, Env.dels, Env.init, res1, resL, resV, fillP, splice, newRow, Nat.reduceEqDiff, Nat.reduceLT, Nat.reduceLeDiff, Nat.reduceAdd, Nat.reduceMul, Nat.reduceSub, Nat.reduceBEq, reduceCtorEq, ↓zR, zQ, Tr, StA, StT, hgA, q0, q1, q2, hgB]
  all_goals
    rw [w_loopb (c := lp69_0) (d := lb69_0) rfl]; unfold lb69_0
    simp (maxSteps := 1000000) (disch := first | omega | rfl | (simp only [zL, two63, room] <;> omega) | fail) only [↓reduceIte, ↓zP, zW, WOp, evOp, evBin, binI, binSh, binS, evNil, keyIs, keyEq, mkv, AV.cells, AV.sc, optv, bnd, env, put, Env.get, Env.set, Env.del, Env.dels, Env.init, res1, resL, resV, fillP, splice, newRow, Nat.reduceEqDiff, Nat.reduceLT, Nat.reduceLeDiff, Nat.reduceAdd, Nat.reduceMul, Nat.reduceSub, Nat.reduceBEq, reduceCtorEq, ↓zR, zQ, Tr, StA, StT, u0, u1, u2, i1, i2, i3, t0, t1, t2, sb0, sb1, sb2, sb3, List.cons_append, List.nil_append]
    rw [w_loopn (c := lp69_0) rfl]
    simp (maxSteps := 1000000) (disch := first | omega | rfl | (simp only [zL, two63, room] <;> omega) | fail) only [↓reduceIte, ↓zP, zW, WOp, evOp, evBin, binI, binSh, binS, evNil, keyIs, keyEq, mkv, AV.cells, AV.sc, optv, bnd, env, put, Env.get, Env.set, Env.del, Env.dels, Env.init, res1, resL, resV, fillP, splice, newRow, Nat.reduceEqDiff, Nat.reduceLT, Nat.reduceLeDiff, Nat.reduceAdd, Nat.reduceMul, Nat.reduceSub, Nat.reduceBEq, reduceCtorEq, ↓zR, zQ, Tr, StA, StT, i1, i2, i3]
    rw [w_loopb (c := lp69_0) (d := lb69_0) rfl]; unfold lb69_0
    simp (maxSteps := 1000000) (disch := first | omega | rfl | (simp only [zL, two63, room] <;> omega) | fail) only [↓reduceIte, ↓zP, zW, WOp, evOp, evBin, binI, binSh, binS, evNil, keyIs, keyEq, mkv, AV.cells, AV.sc, optv, bnd, env, put, Env.get, Env.set, Env.del, Env.dels, Env.init, res1, resL, resV, fillP, splice, newRow, Nat.reduceEqDiff, Nat.reduceLT, Nat.reduceLeDiff, Nat.reduceAdd, Nat.reduceMul, Nat.reduceSub, Nat.reduceBEq, reduceCtorEq, ↓zR, zQ, Tr, StA, StT, u0, u1, u2, i1, i2, i3, t0, t1, t2, sb0, sb1, sb2, sb3, List.cons_append, List.nil_append]
    rw [w_loopn (c := lp69_0) rfl]
    simp (maxSteps := 1000000) (disch := first | omega | rfl | (simp only [zL, two63, room] <;> omega) | fail) only [↓reduceIte, ↓zP, zW, WOp, evOp, evBin, binI, binSh, binS, evNil, keyIs, keyEq, mkv, AV.cells, AV.sc, optv, bnd, env, put, Env.get, Env.set, Env.del, Env.dels, Env.init, res1, resL, resV, fillP, splice, newRow, Nat.reduceEqDiff, Nat.reduceLT, Nat.reduceLeDiff, Nat.reduceAdd, Nat.reduceMul, Nat.reduceSub, Nat.reduceBEq, reduceCtorEq, ↓zR, zQ, Tr, StA, StT, i1, i2, i3]
    rw [w_loopb (c := lp69_0) (d := lb69_0) rfl]; unfold lb69_0
    simp (maxSteps := 1000000) (disch := first | omega | rfl | (simp only [zL, two63, room] <;> omega) | fail) only [↓reduceIte, ↓zP, zW, WOp, evOp, evBin, binI, binSh, binS, evNil, keyIs, keyEq, mkv, AV.cells, AV.sc, optv, bnd, env, put, Env.get, Env.set, Env.del, Env.dels, Env.init, res1, resL, resV, fillP, splice, newRow, Nat.reduceEqDiff, Nat.reduceLT, Nat.reduceLeDiff, Nat.reduceAdd, Nat.reduceMul, Nat.reduceSub, Nat.reduceBEq, reduceCtorEq, ↓zR, zQ, Tr, StA, StT, u0, u1, u2, i1, i2, i3, t0, t1, t2, sb0, sb1, sb2, sb3, List.cons_append, List.nil_append]
    rw [w_loopn (c := lp69_0) rfl]
    simp (maxSteps := 1000000) (disch := first | omega | rfl | (simp only [zL, two63, room] <;> omega) | fail) only [↓reduceIte, ↓zP, zW, WOp, evOp, evBin, binI, binSh, binS, evNil, keyIs, keyEq, mkv, AV.cells, AV.sc, optv, bnd, env, put, Env.get, Env.set, Env.del, Env.dels, Env.init, res1, resL, resV, fillP, splice, newRow, Nat.reduceEqDiff, Nat.reduceLT, Nat.reduceLeDiff, Nat.reduceAdd, Nat.reduceMul, Nat.reduceSub, Nat.reduceBEq, reduceCtorEq, ↓zR, zQ, Tr, StA, StT, i1, i2, i3]
    rw [w_loopb (c := lp69_0) (d := lb69_0) rfl]; unfold lb69_0
    simp (maxSteps := 1000000) (disch := first | omega | rfl | (simp only [zL, two63, room] <;> omega) | fail) only [↓reduceIte, ↓zP, zW, WOp, evOp, evBin, binI, binSh, binS, evNil, keyIs, keyEq, mkv, AV.cells, AV.sc, optv, bnd, env, put, Env.get, Env.set, Env.del, Env.dels, Env.init, res1, resL, resV, fillP, splice, newRow, Nat.reduceEqDiff, Nat.reduceLT, Nat.reduceLeDiff, Nat.reduceAdd, Nat.reduceMul, Nat.reduceSub, Nat.reduceBEq, reduceCtorEq, ↓zR, zQ, Tr, StA, StT, z_cons, List.cons_append, List.nil_append]
    exact hq
end Go.Proofs.YtejhhdpfndiliaaDoor.Ab

/- RULES: a name read, both sides'. -/
namespace Go.Proofs.YtejhhdpfndiliaaDoor.Ab
open Go
set_option maxRecDepth 100000
set_option maxHeartbeats 4000000

theorem c_RuleText (r : Ru) {h : AH} {post : AV → AH → Prop} (hp : ∀ h', Pre h h' → post (.tup [.str (ruT r), .bool true]) h') : S 2 [.agg (encR r)] h post k := by
  have p1 := Pre.push h (AO.row (encR r) 0 0 false)
  refine S_of rfl T2 ?_; unfold fi2
  simp (maxSteps := 1000000) (disch := first | omega | rfl | (simp only [zL, two63, room] <;> omega) | fail) only [↓reduceIte, ↓zP, zW, WOp, evOp, evBin, binI, binSh, binS, evNil, keyIs, keyEq, mkv, AV.cells, AV.sc, optv, bnd, env, put, Env.get, Env.set, Env.del, Env.dels, Env.init, res1, resL, resV, fillP, splice, newRow, Nat.reduceEqDiff, Nat.reduceLT, Nat.reduceLeDiff, Nat.reduceAdd, Nat.reduceMul, Nat.reduceSub, Nat.reduceBEq, reduceCtorEq, ↓zR, zQ, Tr, StA, StT]
  refine c_text r ?_
  intro h' hp'
  simp (maxSteps := 1000000) (disch := first | omega | rfl | (simp only [zL, two63, room] <;> omega) | fail) only [↓reduceIte, ↓zP, zW, WOp, evOp, evBin, binI, binSh, binS, evNil, keyIs, keyEq, mkv, AV.cells, AV.sc, optv, bnd, env, put, Env.get, Env.set, Env.del, Env.dels, Env.init, res1, resL, resV, fillP, splice, newRow, Nat.reduceEqDiff, Nat.reduceLT, Nat.reduceLeDiff, Nat.reduceAdd, Nat.reduceMul, Nat.reduceSub, Nat.reduceBEq, reduceCtorEq, ↓zR, zQ, Tr, StA, StT]
  exact hp h' (p1.trans hp')
theorem c_sRuleText (r : Ru) {h : AH} {post : AV → AH → Prop} (hp : ∀ h', Pre h h' → post (.tup [.str (ruT r), .bool true]) h') : S 6 [.agg (encR r)] h post k := by
  have p1 := Pre.push h (AO.row (encR r) 0 0 false)
  refine S_of rfl T6 ?_; unfold fi6
  simp (maxSteps := 1000000) (disch := first | omega | rfl | (simp only [zL, two63, room] <;> omega) | fail) only [↓reduceIte, ↓zP, zW, WOp, evOp, evBin, binI, binSh, binS, evNil, keyIs, keyEq, mkv, AV.cells, AV.sc, optv, bnd, env, put, Env.get, Env.set, Env.del, Env.dels, Env.init, res1, resL, resV, fillP, splice, newRow, Nat.reduceEqDiff, Nat.reduceLT, Nat.reduceLeDiff, Nat.reduceAdd, Nat.reduceMul, Nat.reduceSub, Nat.reduceBEq, reduceCtorEq, ↓zR, zQ, Tr, StA, StT]
  refine c_sruText r ?_
  intro h' hp'
  simp (maxSteps := 1000000) (disch := first | omega | rfl | (simp only [zL, two63, room] <;> omega) | fail) only [↓reduceIte, ↓zP, zW, WOp, evOp, evBin, binI, binSh, binS, evNil, keyIs, keyEq, mkv, AV.cells, AV.sc, optv, bnd, env, put, Env.get, Env.set, Env.del, Env.dels, Env.init, res1, resL, resV, fillP, splice, newRow, Nat.reduceEqDiff, Nat.reduceLT, Nat.reduceLeDiff, Nat.reduceAdd, Nat.reduceMul, Nat.reduceSub, Nat.reduceBEq, reduceCtorEq, ↓zR, zQ, Tr, StA, StT]
  exact hp h' (p1.trans hp')
theorem wr_resR {h g : AH} (hp : Pre (h ++ [AO.row (encR (false, false, false)) 0 0 false]) g) (r : Ru) : wrRow g h.length 0 0 (encR r) = some (g.set h.length (.row (encR r) 0 0 false)) ∧
    rdRow (g.set h.length (.row (encR r) 0 0 false)) h.length 0 0 3 = some (encR r) ∧ Pre h (g.set h.length (.row (encR r) 0 0 false)) := by
  have hl : h.length < g.length := by have := hp.1; simp at this; omega
  have hr : g[h.length]? = some (.row (encR (false, false, false)) 0 0 false) := by rw [hp.2 _ (by simp)]; simp
  refine ⟨by simp [wrRow, hr, splice, AV.sc], ?_, ((Pre.push h _).trans hp).set (Nat.le_refl _)⟩
  unfold rdRow
  rw [List.getElem?_set, if_pos rfl, if_pos hl]
  simp
def ruN (j : Int) : Ru := ruAll.getD j.toNat (false, false, false)
theorem ru_bits (j : Int) (hj : j = 0 ∨ j = 1 ∨ j = 2 ∨ j = 3 ∨ j = 4 ∨ j = 5 ∨ j = 6 ∨ j = 7) : decide (bits BinOp.and IntKind.i64 j 1 > 0) = (ruN j).1 ∧ decide (bits BinOp.and IntKind.i64 j 2 > 0) = (ruN j).2.1 ∧ decide (bits BinOp.and IntKind.i64 j 4 > 0) = (ruN j).2.2 := by
  rcases hj with rfl | rfl | rfl | rfl | rfl | rfl | rfl | rfl <;> decide +kernel
def ruP (s : List UInt8) : Ru × Bool := match ruF s with | some r => (r, true) | none => ((false, false, false), false)
theorem lp_ruParse1 (s : List UInt8) {h0 h : AH} (hp : Pre (h0 ++ [AO.row (encR (false, false, false)) 0 0 false]) h) (j : Int) (hj : j = 0 ∨ j = 1 ∨ j = 2 ∨ j = 3 ∨ j = 4 ∨ j = 5 ∨ j = 6 ∨ j = 7) {R : X → Env → AH → Prop}
    (h1 : ruT (ruN j) = s → ∀ h', rdRow h' h0.length 0 0 3 = some (encR (ruN j)) → Pre h0 h' → R .ret [(2, .ptr h0.length 0 0 3), (3, .bool true)] h')
    (h2 : ruT (ruN j) ≠ s → ∀ h', Pre (h0 ++ [AO.row (encR (false, false, false)) 0 0 false]) h' → Cx (.loop lp72_0) [(0, .str s), (2, .ptr h0.length 0 0 3), (4, .int .i64 (j + 1))] h' R k k) :
    Cx (.loop lp72_0) [(0, .str s), (2, .ptr h0.length 0 0 3), (4, .int .i64 j)] h R k k := by
  obtain ⟨b1, b2, b3⟩ := ru_bits j hj
  have hj8 : j < 8 := by omega
  have hjw : IntKind.i64.wrap (j + 1) = j + 1 := wrap_i (by omega)
  have pA := Pre.push h (AO.row (encR (ruN j)) 0 0 false)
  have q := (row3 (x := .bool (ruN j).1) (y := .bool (ruN j).2.1) (z := .bool (ruN j).2.2) (h := h ++ [AO.row (encR (ruN j)) 0 0 false]) (c := h.length) (by simp)).2.2.2
  rw [w_loopb (c := lp72_0) (d := lb72_0) rfl]; unfold lb72_0
  simp (maxSteps := 1000000) (disch := first | omega | rfl | (simp only [zL, two63, room] <;> omega) | fail) only [↓reduceIte, ↓zP, zW, WOp, evOp, evBin, binI, binSh, binS, evNil, keyIs, keyEq, mkv, AV.cells, AV.sc, optv, bnd, env, put, Env.get, Env.set, Env.del, Env.dels, Env.init, res1, resL, resV, fillP, splice, newRow, Nat.reduceEqDiff, Nat.reduceLT, Nat.reduceLeDiff, Nat.reduceAdd, Nat.reduceMul, Nat.reduceSub, Nat.reduceBEq, reduceCtorEq, ↓zR, zQ, Tr, StA, StT, hj8, b1, b2, b3]
  refine c_sruText (ruN j) ?_
  intro h' hp'
  have q' := rdRow_pre hp' q
  obtain ⟨r1, r2, r3⟩ := wr_resR (hp.trans (pA.trans hp')) (ruN j)
  cases e : (ruT (ruN j) == s)
  · simp (maxSteps := 1000000) (disch := first | omega | rfl | (simp only [zL, two63, room] <;> omega) | fail) only [↓reduceIte, ↓zP, zW, WOp, evOp, evBin, binI, binSh, binS, evNil, keyIs, keyEq, mkv, AV.cells, AV.sc, optv, bnd, env, put, Env.get, Env.set, Env.del, Env.dels, Env.init, res1, resL, resV, fillP, splice, newRow, Nat.reduceEqDiff, Nat.reduceLT, Nat.reduceLeDiff, Nat.reduceAdd, Nat.reduceMul, Nat.reduceSub, Nat.reduceBEq, reduceCtorEq, ↓zR, zQ, Tr, StA, StT, e, hjw]
    rw [w_loopn (c := lp72_0) rfl]
    simp (maxSteps := 1000000) (disch := first | omega | rfl | (simp only [zL, two63, room] <;> omega) | fail) only [↓reduceIte, ↓zP, zW, WOp, evOp, evBin, binI, binSh, binS, evNil, keyIs, keyEq, mkv, AV.cells, AV.sc, optv, bnd, env, put, Env.get, Env.set, Env.del, Env.dels, Env.init, res1, resL, resV, fillP, splice, newRow, Nat.reduceEqDiff, Nat.reduceLT, Nat.reduceLeDiff, Nat.reduceAdd, Nat.reduceMul, Nat.reduceSub, Nat.reduceBEq, reduceCtorEq, ↓zR, zQ, Tr, StA, StT]
    exact h2 (by intro e2; rw [e2] at e; simp at e) h' (hp.trans (pA.trans hp'))
  · simp (maxSteps := 1000000) (disch := first | omega | rfl | (simp only [zL, two63, room] <;> omega) | fail) only [↓reduceIte, ↓zP, zW, WOp, evOp, evBin, binI, binSh, binS, evNil, keyIs, keyEq, mkv, AV.cells, AV.sc, optv, bnd, env, put, Env.get, Env.set, Env.del, Env.dels, Env.init, res1, resL, resV, fillP, splice, newRow, Nat.reduceEqDiff, Nat.reduceLT, Nat.reduceLeDiff, Nat.reduceAdd, Nat.reduceMul, Nat.reduceSub, Nat.reduceBEq, reduceCtorEq, ↓zR, zQ, Tr, StA, StT, e, q', r1]
    exact h1 (by simpa using e) _ r2 r3
theorem lp_ruParse (s : List UInt8) {h0 : AH} {R : X → Env → AH → Prop} (h1 : ∀ r, ruF s = some r → ∀ h', rdRow h' h0.length 0 0 3 = some (encR r) → Pre h0 h' → R .ret [(2, .ptr h0.length 0 0 3), (3, .bool true)] h')
    (h2 : ruF s = none → ∀ h', Pre (h0 ++ [AO.row (encR (false, false, false)) 0 0 false]) h' → R (.exit 0) [(2, .ptr h0.length 0 0 3)] h') : ∀ (d j : Nat) (h : AH), j + d = 8 → Pre (h0 ++ [AO.row (encR (false, false, false)) 0 0 false]) h → ((ruAll.drop j).find? fun r => ruT r == s) = ruF s →
    Cx (.loop lp72_0) [(0, .str s), (2, .ptr h0.length 0 0 3), (4, .int .i64 (j : Int))] h R k k
  | 0, j, h, hj, hp, hf => by
    have : j = 8 := by omega
    subst this
    rw [w_loopb (c := lp72_0) (d := lb72_0) rfl]; unfold lb72_0
    simp (maxSteps := 1000000) (disch := first | omega | rfl | (simp only [zL, two63, room] <;> omega) | fail) only [↓reduceIte, ↓zP, zW, WOp, evOp, evBin, binI, binSh, binS, evNil, keyIs, keyEq, mkv, AV.cells, AV.sc, optv, bnd, env, put, Env.get, Env.set, Env.del, Env.dels, Env.init, res1, resL, resV, fillP, splice, newRow, Nat.reduceEqDiff, Nat.reduceLT, Nat.reduceLeDiff, Nat.reduceAdd, Nat.reduceMul, Nat.reduceSub, Nat.reduceBEq, reduceCtorEq, ↓zR, zQ, Tr, StA, StT]
    exact h2 hf.symm h hp
  | d + 1, j, h, hj, hp, hf => by
    have hl : j < ruAll.length := by show j < 8; omega
    have hN : ruAll[j] = ruN (j : Int) := by
      unfold ruN
      rw [Int.toNat_natCast, List.getD_eq_getElem?_getD, List.getElem?_eq_getElem hl]
      rfl
    rw [List.drop_eq_getElem_cons hl, List.find?_cons, hN] at hf
    refine lp_ruParse1 s hp (j : Int) (by omega) (fun e h' q p => ?_) (fun e h' p => ?_)
    · rw [show (ruT (ruN (j : Int)) == s) = true by rw [e]; simp] at hf
      exact h1 _ hf.symm h' q p
    · rw [show (ruT (ruN (j : Int)) == s) = false by simpa using e] at hf
      have := lp_ruParse s (h0 := h0) h1 h2 d (j + 1) h' (by omega) p hf
      rwa [show ((j + 1 : Nat) : Int) = (j : Int) + 1 by omega] at this
theorem c_ruParse (s : List UInt8) {h : AH} {post : AV → AH → Prop} (hp : ∀ h', Pre h h' → post (.tup [.agg (encR (ruP s).1), .bool (ruP s).2]) h') : S 72 [.str s] h post k := by
  unfold ruP at hp
  refine S_of rfl T72 ?_; unfold fi72
  simp (maxSteps := 1000000) (disch := first | omega | rfl | (simp only [zL, two63, room] <;> omega) | fail) only [↓reduceIte, ↓zP, zW, WOp, evOp, evBin, binI, binSh, binS, evNil, keyIs, keyEq, mkv, AV.cells, AV.sc, optv, bnd, env, put, Env.get, Env.set, Env.del, Env.dels, Env.init, res1, resL, resV, fillP, splice, newRow, Nat.reduceEqDiff, Nat.reduceLT, Nat.reduceLeDiff, Nat.reduceAdd, Nat.reduceMul, Nat.reduceSub, Nat.reduceBEq, reduceCtorEq, ↓zR, zQ, Tr, StA, StT]
  refine lp_ruParse s (h0 := h) ?_ ?_ 8 0 _ (by omega) (Pre.refl _) rfl
  · intro r hr h' q p
    rw [hr] at hp
    simp (maxSteps := 1000000) (disch := first | omega | rfl | (simp only [zL, two63, room] <;> omega) | fail) only [↓reduceIte, ↓zP, zW, WOp, evOp, evBin, binI, binSh, binS, evNil, keyIs, keyEq, mkv, AV.cells, AV.sc, optv, bnd, env, put, Env.get, Env.set, Env.del, Env.dels, Env.init, res1, resL, resV, fillP, splice, newRow, Nat.reduceEqDiff, Nat.reduceLT, Nat.reduceLeDiff, Nat.reduceAdd, Nat.reduceMul, Nat.reduceSub, Nat.reduceBEq, reduceCtorEq, ↓zR, zQ, Tr, StA, StT, q]
    exact hp h' p
  · intro hr h' p
    rw [hr] at hp
    obtain ⟨r1, r2, r3⟩ := wr_resR p (false, false, false)
    simp (maxSteps := 1000000) (disch := first | omega | rfl | (simp only [zL, two63, room] <;> omega) | fail) only [↓reduceIte, ↓zP, zW, WOp, evOp, evBin, binI, binSh, binS, evNil, keyIs, keyEq, mkv, AV.cells, AV.sc, optv, bnd, env, put, Env.get, Env.set, Env.del, Env.dels, Env.init, res1, resL, resV, fillP, splice, newRow, Nat.reduceEqDiff, Nat.reduceLT, Nat.reduceLeDiff, Nat.reduceAdd, Nat.reduceMul, Nat.reduceSub, Nat.reduceBEq, reduceCtorEq, ↓zR, zQ, Tr, StA, StT, r1, r2]
    exact hp _ r3
theorem lp_ParseRule1 (s : List UInt8) {h0 h : AH} (hp : Pre (h0 ++ [AO.row (encR (false, false, false)) 0 0 false]) h) (j : Int) (hj : j = 0 ∨ j = 1 ∨ j = 2 ∨ j = 3 ∨ j = 4 ∨ j = 5 ∨ j = 6 ∨ j = 7) {R : X → Env → AH → Prop}
    (h1 : ruT (ruN j) = s → ∀ h', rdRow h' h0.length 0 0 3 = some (encR (ruN j)) → Pre h0 h' → R .ret [(2, .ptr h0.length 0 0 3), (3, .bool true)] h')
    (h2 : ruT (ruN j) ≠ s → ∀ h', Pre (h0 ++ [AO.row (encR (false, false, false)) 0 0 false]) h' → Cx (.loop lp3_0) [(0, .str s), (2, .ptr h0.length 0 0 3), (6, .int .i64 (j + 1))] h' R k k) :
    Cx (.loop lp3_0) [(0, .str s), (2, .ptr h0.length 0 0 3), (6, .int .i64 j)] h R k k := by
  obtain ⟨b1, b2, b3⟩ := ru_bits j hj
  have hj8 : j < 8 := by omega
  have hjw : IntKind.i64.wrap (j + 1) = j + 1 := wrap_i (by omega)
  have pA := Pre.push h (AO.row (encR (ruN j)) 0 0 false)
  have q := (row3 (x := .bool (ruN j).1) (y := .bool (ruN j).2.1) (z := .bool (ruN j).2.2) (h := h ++ [AO.row (encR (ruN j)) 0 0 false]) (c := h.length) (by simp)).2.2.2
  rw [w_loopb (c := lp3_0) (d := lb3_0) rfl]; unfold lb3_0
  simp (maxSteps := 1000000) (disch := first | omega | rfl | (simp only [zL, two63, room] <;> omega) | fail) only [↓reduceIte, ↓zP, zW, WOp, evOp, evBin, binI, binSh, binS, evNil, keyIs, keyEq, mkv, AV.cells, AV.sc, optv, bnd, env, put, Env.get, Env.set, Env.del, Env.dels, Env.init, res1, resL, resV, fillP, splice, newRow, Nat.reduceEqDiff, Nat.reduceLT, Nat.reduceLeDiff, Nat.reduceAdd, Nat.reduceMul, Nat.reduceSub, Nat.reduceBEq, reduceCtorEq, ↓zR, zQ, Tr, StA, StT, hj8, b1, b2, b3]
  refine c_text (ruN j) ?_
  intro h' hp'
  have q' := rdRow_pre hp' q
  obtain ⟨r1, r2, r3⟩ := wr_resR (hp.trans (pA.trans hp')) (ruN j)
  cases e : (ruT (ruN j) == s)
  · simp (maxSteps := 1000000) (disch := first | omega | rfl | (simp only [zL, two63, room] <;> omega) | fail) only [↓reduceIte, ↓zP, zW, WOp, evOp, evBin, binI, binSh, binS, evNil, keyIs, keyEq, mkv, AV.cells, AV.sc, optv, bnd, env, put, Env.get, Env.set, Env.del, Env.dels, Env.init, res1, resL, resV, fillP, splice, newRow, Nat.reduceEqDiff, Nat.reduceLT, Nat.reduceLeDiff, Nat.reduceAdd, Nat.reduceMul, Nat.reduceSub, Nat.reduceBEq, reduceCtorEq, ↓zR, zQ, Tr, StA, StT, e, hjw]
    rw [w_loopn (c := lp3_0) rfl]
    simp (maxSteps := 1000000) (disch := first | omega | rfl | (simp only [zL, two63, room] <;> omega) | fail) only [↓reduceIte, ↓zP, zW, WOp, evOp, evBin, binI, binSh, binS, evNil, keyIs, keyEq, mkv, AV.cells, AV.sc, optv, bnd, env, put, Env.get, Env.set, Env.del, Env.dels, Env.init, res1, resL, resV, fillP, splice, newRow, Nat.reduceEqDiff, Nat.reduceLT, Nat.reduceLeDiff, Nat.reduceAdd, Nat.reduceMul, Nat.reduceSub, Nat.reduceBEq, reduceCtorEq, ↓zR, zQ, Tr, StA, StT]
    exact h2 (by intro e2; rw [e2] at e; simp at e) h' (hp.trans (pA.trans hp'))
  · simp (maxSteps := 1000000) (disch := first | omega | rfl | (simp only [zL, two63, room] <;> omega) | fail) only [↓reduceIte, ↓zP, zW, WOp, evOp, evBin, binI, binSh, binS, evNil, keyIs, keyEq, mkv, AV.cells, AV.sc, optv, bnd, env, put, Env.get, Env.set, Env.del, Env.dels, Env.init, res1, resL, resV, fillP, splice, newRow, Nat.reduceEqDiff, Nat.reduceLT, Nat.reduceLeDiff, Nat.reduceAdd, Nat.reduceMul, Nat.reduceSub, Nat.reduceBEq, reduceCtorEq, ↓zR, zQ, Tr, StA, StT, e, q', r1]
    exact h1 (by simpa using e) _ r2 r3
theorem lp_ParseRule (s : List UInt8) {h0 : AH} {R : X → Env → AH → Prop} (h1 : ∀ r, ruF s = some r → ∀ h', rdRow h' h0.length 0 0 3 = some (encR r) → Pre h0 h' → R .ret [(2, .ptr h0.length 0 0 3), (3, .bool true)] h')
    (h2 : ruF s = none → ∀ h', Pre (h0 ++ [AO.row (encR (false, false, false)) 0 0 false]) h' → R (.exit 0) [(2, .ptr h0.length 0 0 3)] h') : ∀ (d j : Nat) (h : AH), j + d = 8 → Pre (h0 ++ [AO.row (encR (false, false, false)) 0 0 false]) h → ((ruAll.drop j).find? fun r => ruT r == s) = ruF s →
    Cx (.loop lp3_0) [(0, .str s), (2, .ptr h0.length 0 0 3), (6, .int .i64 (j : Int))] h R k k
  | 0, j, h, hj, hp, hf => by
    have : j = 8 := by omega
    subst this
    rw [w_loopb (c := lp3_0) (d := lb3_0) rfl]; unfold lb3_0
    simp (maxSteps := 1000000) (disch := first | omega | rfl | (simp only [zL, two63, room] <;> omega) | fail) only [↓reduceIte, ↓zP, zW, WOp, evOp, evBin, binI, binSh, binS, evNil, keyIs, keyEq, mkv, AV.cells, AV.sc, optv, bnd, env, put, Env.get, Env.set, Env.del, Env.dels, Env.init, res1, resL, resV, fillP, splice, newRow, Nat.reduceEqDiff, Nat.reduceLT, Nat.reduceLeDiff, Nat.reduceAdd, Nat.reduceMul, Nat.reduceSub, Nat.reduceBEq, reduceCtorEq, ↓zR, zQ, Tr, StA, StT]
    exact h2 hf.symm h hp
  | d + 1, j, h, hj, hp, hf => by
    have hl : j < ruAll.length := by show j < 8; omega
    have hN : ruAll[j] = ruN (j : Int) := by
      unfold ruN
      rw [Int.toNat_natCast, List.getD_eq_getElem?_getD, List.getElem?_eq_getElem hl]
      rfl
    rw [List.drop_eq_getElem_cons hl, List.find?_cons, hN] at hf
    refine lp_ParseRule1 s hp (j : Int) (by omega) (fun e h' q p => ?_) (fun e h' p => ?_)
    · rw [show (ruT (ruN (j : Int)) == s) = true by rw [e]; simp] at hf
      exact h1 _ hf.symm h' q p
    · rw [show (ruT (ruN (j : Int)) == s) = false by simpa using e] at hf
      have := lp_ParseRule s (h0 := h0) h1 h2 d (j + 1) h' (by omega) p hf
      rwa [show ((j + 1 : Nat) : Int) = (j : Int) + 1 by omega] at this
theorem c_ParseRule (s : List UInt8) {h : AH} {post : AV → AH → Prop} (hp : ∀ h', Pre h h' → post (.tup [.agg (encR (ruP s).1), .bool (ruP s).2]) h') : S 3 [.str s] h post k := by
  unfold ruP at hp
  refine S_of rfl T3 ?_; unfold fi3
  simp (maxSteps := 1000000) (disch := first | omega | rfl | (simp only [zL, two63, room] <;> omega) | fail) only [↓reduceIte, ↓zP, zW, WOp, evOp, evBin, binI, binSh, binS, evNil, keyIs, keyEq, mkv, AV.cells, AV.sc, optv, bnd, env, put, Env.get, Env.set, Env.del, Env.dels, Env.init, res1, resL, resV, fillP, splice, newRow, Nat.reduceEqDiff, Nat.reduceLT, Nat.reduceLeDiff, Nat.reduceAdd, Nat.reduceMul, Nat.reduceSub, Nat.reduceBEq, reduceCtorEq, ↓zR, zQ, Tr, StA, StT]
  refine lp_ParseRule s (h0 := h) ?_ ?_ 8 0 _ (by omega) (Pre.refl _) rfl
  · intro r hr h' q p
    rw [hr] at hp
    simp (maxSteps := 1000000) (disch := first | omega | rfl | (simp only [zL, two63, room] <;> omega) | fail) only [↓reduceIte, ↓zP, zW, WOp, evOp, evBin, binI, binSh, binS, evNil, keyIs, keyEq, mkv, AV.cells, AV.sc, optv, bnd, env, put, Env.get, Env.set, Env.del, Env.dels, Env.init, res1, resL, resV, fillP, splice, newRow, Nat.reduceEqDiff, Nat.reduceLT, Nat.reduceLeDiff, Nat.reduceAdd, Nat.reduceMul, Nat.reduceSub, Nat.reduceBEq, reduceCtorEq, ↓zR, zQ, Tr, StA, StT, q]
    exact hp h' p
  · intro hr h' p
    rw [hr] at hp
    obtain ⟨r1, r2, r3⟩ := wr_resR p (false, false, false)
    simp (maxSteps := 1000000) (disch := first | omega | rfl | (simp only [zL, two63, room] <;> omega) | fail) only [↓reduceIte, ↓zP, zW, WOp, evOp, evBin, binI, binSh, binS, evNil, keyIs, keyEq, mkv, AV.cells, AV.sc, optv, bnd, env, put, Env.get, Env.set, Env.del, Env.dels, Env.init, res1, resL, resV, fillP, splice, newRow, Nat.reduceEqDiff, Nat.reduceLT, Nat.reduceLeDiff, Nat.reduceAdd, Nat.reduceMul, Nat.reduceSub, Nat.reduceBEq, reduceCtorEq, ↓zR, zQ, Tr, StA, StT, r1, r2]
    exact hp _ r3
theorem c_sParseRule (s : List UInt8) {h : AH} {post : AV → AH → Prop} (hp : ∀ h', Pre h h' → post (.tup [.agg (encR (ruP s).1), .bool (ruP s).2]) h') : S 4 [.str s] h post k := by
  refine S_of rfl T4 ?_; unfold fi4
  simp (maxSteps := 1000000) (disch := first | omega | rfl | (simp only [zL, two63, room] <;> omega) | fail) only [↓reduceIte, ↓zP, zW, WOp, evOp, evBin, binI, binSh, binS, evNil, keyIs, keyEq, mkv, AV.cells, AV.sc, optv, bnd, env, put, Env.get, Env.set, Env.del, Env.dels, Env.init, res1, resL, resV, fillP, splice, newRow, Nat.reduceEqDiff, Nat.reduceLT, Nat.reduceLeDiff, Nat.reduceAdd, Nat.reduceMul, Nat.reduceSub, Nat.reduceBEq, reduceCtorEq, ↓zR, zQ, Tr, StA, StT]
  refine c_ruParse s ?_
  intro h' hp'
  obtain ⟨r1, r2, r3⟩ := wr_resR hp' (ruP s).1
  simp (maxSteps := 1000000) (disch := first | omega | rfl | (simp only [zL, two63, room] <;> omega) | fail) only [↓reduceIte, ↓zP, zW, WOp, evOp, evBin, binI, binSh, binS, evNil, keyIs, keyEq, mkv, AV.cells, AV.sc, optv, bnd, env, put, Env.get, Env.set, Env.del, Env.dels, Env.init, res1, resL, resV, fillP, splice, newRow, Nat.reduceEqDiff, Nat.reduceLT, Nat.reduceLeDiff, Nat.reduceAdd, Nat.reduceMul, Nat.reduceSub, Nat.reduceBEq, reduceCtorEq, ↓zR, zQ, Tr, StA, StT, r1, r2]
  exact hp _ r3
end Go.Proofs.YtejhhdpfndiliaaDoor.Ab

/- RULES that are drawn, and lines, moves and names with them. -/
namespace Go.Proofs.YtejhhdpfndiliaaDoor.Ab
open Go
set_option maxRecDepth 100000
set_option maxHeartbeats 4000000

theorem Cur.setb {b : AH} {cv : AV} {bs : List UInt8} {K : Nat} {g : AH} (hc : Cur b cv bs K g) {q : Nat} (hq : b.length < q) (o : AO) : Cur b cv bs K (g.set q o) :=
  hc.ag (n := b.length + 1) (by omega) ((Ag.refl _ g).set (by omega))
theorem wr_resX {c : Nat} {h g : AH} (hp : PreX c (h ++ [AO.row (encR (false, false, false)) 0 0 false]) g) (hc : c < h.length) (r : Ru) : wrRow g h.length 0 0 (encR r) = some (g.set h.length (.row (encR r) 0 0 false)) ∧
    rdRow (g.set h.length (.row (encR r) 0 0 false)) h.length 0 0 3 = some (encR r) ∧ PreX c h (g.set h.length (.row (encR r) 0 0 false)) := by
  have hl : h.length < g.length := by have := hp.1; simp at this; omega
  have hr : g[h.length]? = some (.row (encR (false, false, false)) 0 0 false) := by rw [hp.2 _ (by simp) (by omega)]; simp
  refine ⟨by simp [wrRow, hr, splice, AV.sc], ?_, by simp; omega, fun i hi hn => ?_⟩
  · unfold rdRow
    rw [List.getElem?_set, if_pos rfl, if_pos hl]
    simp
  · rw [List.getElem?_set, if_neg (by omega), hp.2 i (by simp; omega) hn, List.getElem?_append_left hi]
section
variable {b : AH} {cv : AV} {bs : List UInt8} {K : Nat} {h : AH} {post : AV → AH → Prop}
theorem c_rule (hc : Cur b cv bs K h) (hK : K < 2 ^ 47) (hp : ∀ (r : Ru) h', Cur b cv bs (K + 6) h' → PreX b.length h h' → post (.agg (encR r)) h') : S 53 [.ptr b.length 0 0 3] h post k := by
  have hl := hc.lt
  have pA := Pre.push h (AO.row (encR (false, false, false)) 0 0 false)
  refine S_of rfl T53 ?_; unfold fi53
  simp (maxSteps := 1000000) (disch := first | omega | rfl | (simp only [zL, two63, room] <;> omega) | fail) only [↓reduceIte, ↓zP, zW, WOp, evOp, evBin, binI, binSh, binS, evNil, keyIs, keyEq, mkv, AV.cells, AV.sc, optv, bnd, env, put, Env.get, Env.set, Env.del, Env.dels, Env.init, res1, resL, resV, fillP, splice, newRow, Nat.reduceEqDiff, Nat.reduceLT, Nat.reduceLeDiff, Nat.reduceAdd, Nat.reduceMul, Nat.reduceSub, Nat.reduceBEq, reduceCtorEq, ↓zR, zQ, Tr, StA, StT]
  refine c_one (hc.pre pA) (by omega) 2 (by omega) ?_
  intro x g1 hc1 hp1
  simp (maxSteps := 1000000) (disch := first | omega | rfl | (simp only [zL, two63, room] <;> omega) | fail) only [↓reduceIte, ↓zP, zW, WOp, evOp, evBin, binI, binSh, binS, evNil, keyIs, keyEq, mkv, AV.cells, AV.sc, optv, bnd, env, put, Env.get, Env.set, Env.del, Env.dels, Env.init, res1, resL, resV, fillP, splice, newRow, Nat.reduceEqDiff, Nat.reduceLT, Nat.reduceLeDiff, Nat.reduceAdd, Nat.reduceMul, Nat.reduceSub, Nat.reduceBEq, reduceCtorEq, ↓zR, zQ, Tr, StA, StT]
  refine c_one hc1 (by omega) 3 (by omega) ?_
  intro y g2 hc2 hp2
  simp (maxSteps := 1000000) (disch := first | omega | rfl | (simp only [zL, two63, room] <;> omega) | fail) only [↓reduceIte, ↓zP, zW, WOp, evOp, evBin, binI, binSh, binS, evNil, keyIs, keyEq, mkv, AV.cells, AV.sc, optv, bnd, env, put, Env.get, Env.set, Env.del, Env.dels, Env.init, res1, resL, resV, fillP, splice, newRow, Nat.reduceEqDiff, Nat.reduceLT, Nat.reduceLeDiff, Nat.reduceAdd, Nat.reduceMul, Nat.reduceSub, Nat.reduceBEq, reduceCtorEq, ↓zR, zQ, Tr, StA, StT]
  refine c_one hc2 (by omega) 3 (by omega) ?_
  intro z g3 hc3 hp3
  obtain ⟨r1, r2, r3⟩ := wr_resX (hp1.trans (hp2.trans hp3)) hl (x, y, z)
  simp (maxSteps := 1000000) (disch := first | omega | rfl | (simp only [zL, two63, room] <;> omega) | fail) only [↓reduceIte, ↓zP, zW, WOp, evOp, evBin, binI, binSh, binS, evNil, keyIs, keyEq, mkv, AV.cells, AV.sc, optv, bnd, env, put, Env.get, Env.set, Env.del, Env.dels, Env.init, res1, resL, resV, fillP, splice, newRow, Nat.reduceEqDiff, Nat.reduceLT, Nat.reduceLeDiff, Nat.reduceAdd, Nat.reduceMul, Nat.reduceSub, Nat.reduceBEq, reduceCtorEq, ↓zR, zQ, Tr, StA, StT, r1, r2]
  exact hp (x, y, z) _ ((hc3.setb hl _).le (by omega)) r3
theorem c_few (hc : Cur b cv bs K h) (hK : K < 2 ^ 46) (hp : ∀ w h', w.length ≤ 13 → Cur b cv bs (K + 50) h' → PreX b.length h h' → post (.str w) h') : S 54 [.ptr b.length 0 0 3] h post k := by
  refine S_of rfl T54 ?_; unfold fi54
  simp (maxSteps := 1000000) (disch := first | omega | rfl | (simp only [zL, two63, room] <;> omega) | fail) only [↓reduceIte, ↓zP, zW, WOp, evOp, evBin, binI, binSh, binS, evNil, keyIs, keyEq, mkv, AV.cells, AV.sc, optv, bnd, env, put, Env.get, Env.set, Env.del, Env.dels, Env.init, res1, resL, resV, fillP, splice, newRow, Nat.reduceEqDiff, Nat.reduceLT, Nat.reduceLeDiff, Nat.reduceAdd, Nat.reduceMul, Nat.reduceSub, Nat.reduceBEq, reduceCtorEq, ↓zR, zQ, Tr, StA, StT]
  refine c_one hc (by omega) 8 (by omega) ?_
  intro o h1 hc1 hp1
  cases o
  · simp (maxSteps := 1000000) (disch := first | omega | rfl | (simp only [zL, two63, room] <;> omega) | fail) only [↓reduceIte, ↓zP, zW, WOp, evOp, evBin, binI, binSh, binS, evNil, keyIs, keyEq, mkv, AV.cells, AV.sc, optv, bnd, env, put, Env.get, Env.set, Env.del, Env.dels, Env.init, res1, resL, resV, fillP, splice, newRow, Nat.reduceEqDiff, Nat.reduceLT, Nat.reduceLeDiff, Nat.reduceAdd, Nat.reduceMul, Nat.reduceSub, Nat.reduceBEq, reduceCtorEq, ↓zR, zQ, Tr, StA, StT]
    refine c_one hc1 (by omega) 3 (by omega) ?_
    intro o h2 hc2 hp2
    cases o
    · simp (maxSteps := 1000000) (disch := first | omega | rfl | (simp only [zL, two63, room] <;> omega) | fail) only [↓reduceIte, ↓zP, zW, WOp, evOp, evBin, binI, binSh, binS, evNil, keyIs, keyEq, mkv, AV.cells, AV.sc, optv, bnd, env, put, Env.get, Env.set, Env.del, Env.dels, Env.init, res1, resL, resV, fillP, splice, newRow, Nat.reduceEqDiff, Nat.reduceLT, Nat.reduceLeDiff, Nat.reduceAdd, Nat.reduceMul, Nat.reduceSub, Nat.reduceBEq, reduceCtorEq, ↓zR, zQ, Tr, StA, StT]
      refine c_sureLine hc2 7 (by omega) (by omega) (by omega) ?_
      intro w h3 a1 a2 _ hc3 hp3
      simp (maxSteps := 1000000) (disch := first | omega | rfl | (simp only [zL, two63, room] <;> omega) | fail) only [↓reduceIte, ↓zP, zW, WOp, evOp, evBin, binI, binSh, binS, evNil, keyIs, keyEq, mkv, AV.cells, AV.sc, optv, bnd, env, put, Env.get, Env.set, Env.del, Env.dels, Env.init, res1, resL, resV, fillP, splice, newRow, Nat.reduceEqDiff, Nat.reduceLT, Nat.reduceLeDiff, Nat.reduceAdd, Nat.reduceMul, Nat.reduceSub, Nat.reduceBEq, reduceCtorEq, ↓zR, zQ, Tr, StA, StT]
      exact hp w h3 (by omega) (hc3.le (by omega)) (hp1.trans (hp2.trans hp3))
    · have ww : ∀ y : Nat, y ≤ 2 → IntKind.i64.wrap (1 + (y : Int)) = ((y + 1 : Nat) : Int) := fun y hy => by rw [IntKind.wrap_i64]; omega
      simp (maxSteps := 1000000) (disch := first | omega | rfl | (simp only [zL, two63, room] <;> omega) | fail) only [↓reduceIte, ↓zP, zW, WOp, evOp, evBin, binI, binSh, binS, evNil, keyIs, keyEq, mkv, AV.cells, AV.sc, optv, bnd, env, put, Env.get, Env.set, Env.del, Env.dels, Env.init, res1, resL, resV, fillP, splice, newRow, Nat.reduceEqDiff, Nat.reduceLT, Nat.reduceLeDiff, Nat.reduceAdd, Nat.reduceMul, Nat.reduceSub, Nat.reduceBEq, reduceCtorEq, ↓zR, zQ, Tr, StA, StT]
      refine c_pick hc2 (by omega) 2 (by omega) ?_
      intro y1 g1 hy1 hg1 hpg1
      have y1' : y1 ≤ 2 := by omega
      simp (maxSteps := 1000000) (disch := first | omega | rfl | (simp only [zL, two63, room] <;> omega) | fail) only [↓reduceIte, ↓zP, zW, WOp, evOp, evBin, binI, binSh, binS, evNil, keyIs, keyEq, mkv, AV.cells, AV.sc, optv, bnd, env, put, Env.get, Env.set, Env.del, Env.dels, Env.init, res1, resL, resV, fillP, splice, newRow, Nat.reduceEqDiff, Nat.reduceLT, Nat.reduceLeDiff, Nat.reduceAdd, Nat.reduceMul, Nat.reduceSub, Nat.reduceBEq, reduceCtorEq, ↓zR, zQ, Tr, StA, StT, ww y1 y1']
      refine c_pick hg1 (by omega) 2 (by omega) ?_
      intro y2 g2 hy2 hg2 hpg2
      have y2' : y2 ≤ 2 := by omega
      have e : ∀ {h : AH} {post : AV → AH → Prop}, S 100 [.int .i64 ((y1 + 1 : Nat) : Int), .int .i64 1, .int .i64 ((y2 + 1 : Nat) : Int)] h post k = post (.str (List.replicate (y1 + 1) 84 ++ List.replicate 1 46 ++ List.replicate (y2 + 1) 70)) h := fun {h post} => e_liFirstG (y1 + 1) 1 (y2 + 1) (by omega) (by omega) (by omega)
      simp (maxSteps := 1000000) (disch := first | omega | rfl | (simp only [zL, two63, room] <;> omega) | fail) only [↓reduceIte, ↓zP, zW, WOp, evOp, evBin, binI, binSh, binS, evNil, keyIs, keyEq, mkv, AV.cells, AV.sc, optv, bnd, env, put, Env.get, Env.set, Env.del, Env.dels, Env.init, res1, resL, resV, fillP, splice, newRow, Nat.reduceEqDiff, Nat.reduceLT, Nat.reduceLeDiff, Nat.reduceAdd, Nat.reduceMul, Nat.reduceSub, Nat.reduceBEq, reduceCtorEq, ↓zR, zQ, Tr, StA, StT, ww y2 y2', e]
      exact hp _ g2 (by simp; omega) (hg2.le (by omega)) (hp1.trans (hp2.trans (hpg1.trans hpg2)))
  · simp (maxSteps := 1000000) (disch := first | omega | rfl | (simp only [zL, two63, room] <;> omega) | fail) only [↓reduceIte, ↓zP, zW, WOp, evOp, evBin, binI, binSh, binS, evNil, keyIs, keyEq, mkv, AV.cells, AV.sc, optv, bnd, env, put, Env.get, Env.set, Env.del, Env.dels, Env.init, res1, resL, resV, fillP, splice, newRow, Nat.reduceEqDiff, Nat.reduceLT, Nat.reduceLeDiff, Nat.reduceAdd, Nat.reduceMul, Nat.reduceSub, Nat.reduceBEq, reduceCtorEq, ↓zR, zQ, Tr, StA, StT]
    refine c_line hc1 (by omega) ?_
    intro w h2 hw hc2 hp2
    simp (maxSteps := 1000000) (disch := first | omega | rfl | (simp only [zL, two63, room] <;> omega) | fail) only [↓reduceIte, ↓zP, zW, WOp, evOp, evBin, binI, binSh, binS, evNil, keyIs, keyEq, mkv, AV.cells, AV.sc, optv, bnd, env, put, Env.get, Env.set, Env.del, Env.dels, Env.init, res1, resL, resV, fillP, splice, newRow, Nat.reduceEqDiff, Nat.reduceLT, Nat.reduceLeDiff, Nat.reduceAdd, Nat.reduceMul, Nat.reduceSub, Nat.reduceBEq, reduceCtorEq, ↓zR, zQ, Tr, StA, StT]
    exact hp w h2 hw (hc2.le (by omega)) (hp1.trans hp2)
end
theorem c_DrawRuleMoves {cv : AV} {bs : List UInt8} {h : AH} (hs : Slc 1 encU h cv bs) (hb : bs.length < 2 ^ 40) {post : AV → AH → Prop} (hp : ∀ w r h', w.length ≤ 13 → Pre h h' → post (.tup [.str w, .agg (encR r)]) h') : S 21 [cv] h post k := by
  refine S_of rfl T21 ?_; unfold fi21
  have hc := Cur.new (hs.pre (Pre.push h (AO.row (encR (false, false, false)) 0 0 false))) hb
  rcases hs.cases with ⟨rfl, _⟩ | ⟨rfl, _⟩ | ⟨c, kk, off, rfl⟩
  all_goals
    clear hs
    simp (maxSteps := 1000000) (disch := first | omega | rfl | (simp only [zL, two63, room] <;> omega) | fail) only [↓reduceIte, ↓zP, zW, WOp, evOp, evBin, binI, binSh, binS, evNil, keyIs, keyEq, mkv, AV.cells, AV.sc, optv, bnd, env, put, Env.get, Env.set, Env.del, Env.dels, Env.init, res1, resL, resV, fillP, splice, newRow, Nat.reduceEqDiff, Nat.reduceLT, Nat.reduceLeDiff, Nat.reduceAdd, Nat.reduceMul, Nat.reduceSub, Nat.reduceBEq, reduceCtorEq, ↓zR, zQ, Tr, StA, StT]
    refine c_few hc (by omega) ?_
    intro w h1 hw hc1 _
    clear hc
    simp (maxSteps := 1000000) (disch := first | omega | rfl | (simp only [zL, two63, room] <;> omega) | fail) only [↓reduceIte, ↓zP, zW, WOp, evOp, evBin, binI, binSh, binS, evNil, keyIs, keyEq, mkv, AV.cells, AV.sc, optv, bnd, env, put, Env.get, Env.set, Env.del, Env.dels, Env.init, res1, resL, resV, fillP, splice, newRow, Nat.reduceEqDiff, Nat.reduceLT, Nat.reduceLeDiff, Nat.reduceAdd, Nat.reduceMul, Nat.reduceSub, Nat.reduceBEq, reduceCtorEq, ↓zR, zQ, Tr, StA, StT]
    refine c_rule hc1 (by omega) ?_
    intro r h2 hc2 _
    obtain ⟨r1, r2, r3⟩ := wr_resR hc2.done r
    simp (maxSteps := 1000000) (disch := first | omega | rfl | (simp only [zL, two63, room] <;> omega) | fail) only [↓reduceIte, ↓zP, zW, WOp, evOp, evBin, binI, binSh, binS, evNil, keyIs, keyEq, mkv, AV.cells, AV.sc, optv, bnd, env, put, Env.get, Env.set, Env.del, Env.dels, Env.init, res1, resL, resV, fillP, splice, newRow, Nat.reduceEqDiff, Nat.reduceLT, Nat.reduceLeDiff, Nat.reduceAdd, Nat.reduceMul, Nat.reduceSub, Nat.reduceBEq, reduceCtorEq, ↓zR, zQ, Tr, StA, StT, r1, r2]
    exact hp w r _ hw r3
theorem c_DrawRuleText {cv : AV} {bs : List UInt8} {h : AH} (hs : Slc 1 encU h cv bs) (hb : bs.length < 2 ^ 40) {post : AV → AH → Prop} (hp : ∀ r h', Pre h h' → post (.agg (encR r)) h') : S 7 [cv] h post k := by
  refine S_of rfl T7 ?_; unfold fi7
  have hc := Cur.new (hs.pre (Pre.push h (AO.row (encR (false, false, false)) 0 0 false))) hb
  rcases hs.cases with ⟨rfl, _⟩ | ⟨rfl, _⟩ | ⟨c, kk, off, rfl⟩
  all_goals
    clear hs
    simp (maxSteps := 1000000) (disch := first | omega | rfl | (simp only [zL, two63, room] <;> omega) | fail) only [↓reduceIte, ↓zP, zW, WOp, evOp, evBin, binI, binSh, binS, evNil, keyIs, keyEq, mkv, AV.cells, AV.sc, optv, bnd, env, put, Env.get, Env.set, Env.del, Env.dels, Env.init, res1, resL, resV, fillP, splice, newRow, Nat.reduceEqDiff, Nat.reduceLT, Nat.reduceLeDiff, Nat.reduceAdd, Nat.reduceMul, Nat.reduceSub, Nat.reduceBEq, reduceCtorEq, ↓zR, zQ, Tr, StA, StT]
    refine c_rule hc (by omega) ?_
    intro r h2 hc2 _
    obtain ⟨r1, r2, r3⟩ := wr_resR hc2.done r
    simp (maxSteps := 1000000) (disch := first | omega | rfl | (simp only [zL, two63, room] <;> omega) | fail) only [↓reduceIte, ↓zP, zW, WOp, evOp, evBin, binI, binSh, binS, evNil, keyIs, keyEq, mkv, AV.cells, AV.sc, optv, bnd, env, put, Env.get, Env.set, Env.del, Env.dels, Env.init, res1, resL, resV, fillP, splice, newRow, Nat.reduceEqDiff, Nat.reduceLT, Nat.reduceLeDiff, Nat.reduceAdd, Nat.reduceMul, Nat.reduceSub, Nat.reduceBEq, reduceCtorEq, ↓zR, zQ, Tr, StA, StT, r1, r2]
    exact hp r _ r3
theorem c_DrawParseRule {cv : AV} {bs : List UInt8} {h : AH} (hs : Slc 1 encU h cv bs) (hb : bs.length < 2 ^ 40) {post : AV → AH → Prop} (hp : ∀ w h', w.length ≤ 3 → Pre h h' → post (.str w) h') : S 5 [cv] h post k := by
  refine S_of rfl T5 ?_; unfold fi5
  have hc := Cur.new hs hb
  rcases hs.cases with ⟨rfl, _⟩ | ⟨rfl, _⟩ | ⟨c, kk, off, rfl⟩
  all_goals
    simp (maxSteps := 1000000) (disch := first | omega | rfl | (simp only [zL, two63, room] <;> omega) | fail) only [↓reduceIte, ↓zP, zW, WOp, evOp, evBin, binI, binSh, binS, evNil, keyIs, keyEq, mkv, AV.cells, AV.sc, optv, bnd, env, put, Env.get, Env.set, Env.del, Env.dels, Env.init, res1, resL, resV, fillP, splice, newRow, Nat.reduceEqDiff, Nat.reduceLT, Nat.reduceLeDiff, Nat.reduceAdd, Nat.reduceMul, Nat.reduceSub, Nat.reduceBEq, reduceCtorEq, ↓zR, zQ, Tr, StA, StT]
    refine c_one hc (by omega) 3 (by omega) ?_
    intro o h1 hc1 _
    clear hc
    cases o
    · simp (maxSteps := 1000000) (disch := first | omega | rfl | (simp only [zL, two63, room] <;> omega) | fail) only [↓reduceIte, ↓zP, zW, WOp, evOp, evBin, binI, binSh, binS, evNil, keyIs, keyEq, mkv, AV.cells, AV.sc, optv, bnd, env, put, Env.get, Env.set, Env.del, Env.dels, Env.init, res1, resL, resV, fillP, splice, newRow, Nat.reduceEqDiff, Nat.reduceLT, Nat.reduceLeDiff, Nat.reduceAdd, Nat.reduceMul, Nat.reduceSub, Nat.reduceBEq, reduceCtorEq, ↓zR, zQ, Tr, StA, StT]
      refine c_rule hc1 (by omega) ?_
      intro r h2 hc2 _
      simp (maxSteps := 1000000) (disch := first | omega | rfl | (simp only [zL, two63, room] <;> omega) | fail) only [↓reduceIte, ↓zP, zW, WOp, evOp, evBin, binI, binSh, binS, evNil, keyIs, keyEq, mkv, AV.cells, AV.sc, optv, bnd, env, put, Env.get, Env.set, Env.del, Env.dels, Env.init, res1, resL, resV, fillP, splice, newRow, Nat.reduceEqDiff, Nat.reduceLT, Nat.reduceLeDiff, Nat.reduceAdd, Nat.reduceMul, Nat.reduceSub, Nat.reduceBEq, reduceCtorEq, ↓zR, zQ, Tr, StA, StT]
      refine c_sruText r ?_
      intro h3 hp3
      simp (maxSteps := 1000000) (disch := first | omega | rfl | (simp only [zL, two63, room] <;> omega) | fail) only [↓reduceIte, ↓zP, zW, WOp, evOp, evBin, binI, binSh, binS, evNil, keyIs, keyEq, mkv, AV.cells, AV.sc, optv, bnd, env, put, Env.get, Env.set, Env.del, Env.dels, Env.init, res1, resL, resV, fillP, splice, newRow, Nat.reduceEqDiff, Nat.reduceLT, Nat.reduceLeDiff, Nat.reduceAdd, Nat.reduceMul, Nat.reduceSub, Nat.reduceBEq, reduceCtorEq, ↓zR, zQ, Tr, StA, StT]
      refine hp _ h3 ?_ (hc2.done.trans hp3)
      obtain ⟨x, y, z⟩ := r
      cases x <;> cases y <;> cases z <;> decide
    · simp (maxSteps := 1000000) (disch := first | omega | rfl | (simp only [zL, two63, room] <;> omega) | fail) only [↓reduceIte, ↓zP, zW, WOp, evOp, evBin, binI, binSh, binS, evNil, keyIs, keyEq, mkv, AV.cells, AV.sc, optv, bnd, env, put, Env.get, Env.set, Env.del, Env.dels, Env.init, res1, resL, resV, fillP, splice, newRow, Nat.reduceEqDiff, Nat.reduceLT, Nat.reduceLeDiff, Nat.reduceAdd, Nat.reduceMul, Nat.reduceSub, Nat.reduceBEq, reduceCtorEq, ↓zR, zQ, Tr, StA, StT]
      refine c_of (hc1.pre (Pre.push _ _)) (by omega) (slc_litS h1 [[], [108, 111], [111, 111], [120], [45, 45], [111, 98, 108], [98, 108]]) (fun r hr => by cases hr; have := hc1.lt; omega) (by simp) (by simp) ?_
      intro x hx h3 hc3 hp3
      simp (maxSteps := 1000000) (disch := first | omega | rfl | (simp only [zL, two63, room] <;> omega) | fail) only [↓reduceIte, ↓zP, zW, WOp, evOp, evBin, binI, binSh, binS, evNil, keyIs, keyEq, mkv, AV.cells, AV.sc, optv, bnd, env, put, Env.get, Env.set, Env.del, Env.dels, Env.init, res1, resL, resV, fillP, splice, newRow, Nat.reduceEqDiff, Nat.reduceLT, Nat.reduceLeDiff, Nat.reduceAdd, Nat.reduceMul, Nat.reduceSub, Nat.reduceBEq, reduceCtorEq, ↓zR, zQ, Tr, StA, StT]
      refine hp x h3 ?_ hc3.done
      simp only [List.mem_cons, List.not_mem_nil, or_false] at hx
      rcases hx with rfl | rfl | rfl | rfl | rfl | rfl | rfl <;> simp
end Go.Proofs.YtejhhdpfndiliaaDoor.Ab

/- RULES: drawn moves and plays. -/
namespace Go.Proofs.YtejhhdpfndiliaaDoor.Ab
open Go
set_option maxRecDepth 100000
set_option maxHeartbeats 4000000

theorem wr_two {h gA g : AH} (hA : h ++ [AO.row [.int .i64 0, .int .i64 0] 0 0 false] = gA) (hp : Pre (gA ++ [AO.row (encR (false, false, false)) 0 0 false]) g) (x y : Int) (r : Ru) :
    wrRow g h.length 0 0 [.int .i64 x, .int .i64 y] = some (g.set h.length (.row [.int .i64 x, .int .i64 y] 0 0 false)) ∧
    wrRow (g.set h.length (.row [.int .i64 x, .int .i64 y] 0 0 false)) gA.length 0 0 (encR r) = some ((g.set h.length (.row [.int .i64 x, .int .i64 y] 0 0 false)).set gA.length (.row (encR r) 0 0 false)) ∧
    rdRow ((g.set h.length (.row [.int .i64 x, .int .i64 y] 0 0 false)).set gA.length (.row (encR r) 0 0 false)) h.length 0 0 2 = some [.int .i64 x, .int .i64 y] ∧
    rdRow ((g.set h.length (.row [.int .i64 x, .int .i64 y] 0 0 false)).set gA.length (.row (encR r) 0 0 false)) gA.length 0 0 3 = some (encR r) ∧
    Pre h ((g.set h.length (.row [.int .i64 x, .int .i64 y] 0 0 false)).set gA.length (.row (encR r) 0 0 false)) := by
  have lA : gA.length = h.length + 1 := by rw [← hA]; simp
  have lg := hp.1
  simp only [List.length_append, List.length_cons, List.length_nil] at lg
  have pA : Pre (h ++ [AO.row [.int .i64 0, .int .i64 0] 0 0 false]) g := by rw [hA]; exact (Pre.push gA _).trans hp
  obtain ⟨a1, a2, a3⟩ := wr_res pA x y
  have hr : (g.set h.length (.row [.int .i64 x, .int .i64 y] 0 0 false))[gA.length]? = some (.row (encR (false, false, false)) 0 0 false) := by
    rw [List.getElem?_set, if_neg (by omega), hp.2 _ (by simp)]; simp
  refine ⟨a1, by simp [wrRow, hr, splice, AV.sc], ?_, ?_, a3.set (by omega)⟩
  · unfold rdRow at a2 ⊢
    rw [List.getElem?_set, if_neg (by omega)]
    exact a2
  · unfold rdRow
    rw [List.getElem?_set, if_pos rfl, if_pos (by simp; omega)]
    simp
theorem rd_setne {h : AH} {c q k off n : Nat} {o : AO} {cs : List AV} (hn : c ≠ q) (hr : rdRow h c k off n = some cs) : rdRow (h.set q o) c k off n = some cs := by
  unfold rdRow at hr ⊢
  rw [List.getElem?_set, if_neg (Ne.symm hn)]
  exact hr
theorem c_DrawCanByRule {cv : AV} {bs : List UInt8} {h : AH} (hs : Slc 1 encU h cv bs) (hb : bs.length < 2 ^ 40) {post : AV → AH → Prop} (hp : ∀ w i t r h', w.length ≤ 13 → Pre h h' → post (.tup [.str w, mvV i t, .agg (encR r)]) h') : S 14 [cv] h post k := by
  have pA := Pre.push h (AO.row [.int .i64 0, .int .i64 0] 0 0 false)
  generalize hgA : h ++ [AO.row [.int .i64 0, .int .i64 0] 0 0 false] = gA at pA
  have pB := Pre.push gA (AO.row (encR (false, false, false)) 0 0 false)
  generalize hgB : gA ++ [AO.row (encR (false, false, false)) 0 0 false] = gB at pB
  have lh : h.length < gB.length := by rw [← hgB, ← hgA]; simp
  have hc := Cur.new ((hs.pre pA).pre pB) hb
  refine S_of rfl T14 ?_; unfold fi14
  rcases hs.cases with ⟨rfl, _⟩ | ⟨rfl, _⟩ | ⟨c, kk, off, rfl⟩
  all_goals
    clear hs
    simp (maxSteps := 1000000) (disch := first | omega | rfl | (simp only [zL, two63, room] <;> omega) | fail) only [↓reduceIte, ↓zP, zW, WOp, evOp, evBin, binI, binSh, binS, evNil, keyIs, keyEq, mkv, AV.cells, AV.sc, optv, bnd, env, put, Env.get, Env.set, Env.del, Env.dels, Env.init, res1, resL, resV, fillP, splice, newRow, Nat.reduceEqDiff, Nat.reduceLT, Nat.reduceLeDiff, Nat.reduceAdd, Nat.reduceMul, Nat.reduceSub, Nat.reduceBEq, reduceCtorEq, ↓zR, zQ, Tr, StA, StT, hgA, hgB]
    refine c_few hc (by omega) ?_
    intro w g1 hw hc1 _
    clear hc
    simp (maxSteps := 1000000) (disch := first | omega | rfl | (simp only [zL, two63, room] <;> omega) | fail) only [↓reduceIte, ↓zP, zW, WOp, evOp, evBin, binI, binSh, binS, evNil, keyIs, keyEq, mkv, AV.cells, AV.sc, optv, bnd, env, put, Env.get, Env.set, Env.del, Env.dels, Env.init, res1, resL, resV, fillP, splice, newRow, Nat.reduceEqDiff, Nat.reduceLT, Nat.reduceLeDiff, Nat.reduceAdd, Nat.reduceMul, Nat.reduceSub, Nat.reduceBEq, reduceCtorEq, ↓zR, zQ, Tr, StA, StT]
    refine c_rule hc1 (by omega) ?_
    intro r g2 hc2 _
    have p3 := Pre.push g2 (AO.row (encR r) 0 0 false)
    have q7 := (row3 (x := .bool r.1) (y := .bool r.2.1) (z := .bool r.2.2) (h := g2 ++ [AO.row (encR r) 0 0 false]) (c := g2.length) (by simp)).2.2.2
    have hc3 := hc2.pre p3
    have hn7 : g2.length ≠ gB.length := by have := hc2.lt; omega
    have hn7h : g2.length ≠ h.length := by have := hc2.lt; omega
    generalize hg3 : g2 ++ [AO.row (encR r) 0 0 false] = g3 at p3 q7 hc3
    cases hg : plG10 w
    · simp (maxSteps := 1000000) (disch := first | omega | rfl | (simp only [zL, two63, room] <;> omega) | fail) only [↓reduceIte, ↓zP, zW, WOp, evOp, evBin, binI, binSh, binS, evNil, keyIs, keyEq, mkv, AV.cells, AV.sc, optv, bnd, env, put, Env.get, Env.set, Env.del, Env.dels, Env.init, res1, resL, resV, fillP, splice, newRow, Nat.reduceEqDiff, Nat.reduceLT, Nat.reduceLeDiff, Nat.reduceAdd, Nat.reduceMul, Nat.reduceSub, Nat.reduceBEq, reduceCtorEq, ↓zR, zQ, Tr, StA, StT, e_reFewG w (by omega), hg, hg3]
      have hgg := hc3
      have qgg := q7
      try refine w_drw ?_
      try (simp (maxSteps := 1000000) (disch := first | omega | rfl | (simp only [zL, two63, room] <;> omega) | fail) only [↓reduceIte, ↓zP, zW, WOp, evOp, evBin, binI, binSh, binS, evNil, keyIs, keyEq, mkv, AV.cells, AV.sc, optv, bnd, env, put, Env.get, Env.set, Env.del, Env.dels, Env.init, res1, resL, resV, fillP, splice, newRow, Nat.reduceEqDiff, Nat.reduceLT, Nat.reduceLeDiff, Nat.reduceAdd, Nat.reduceMul, Nat.reduceSub, Nat.reduceBEq, reduceCtorEq, ↓zR, zQ, Tr, StA, StT])
      refine c_among (Cur.pre hgg (Pre.push _ _)) (by omega) (slc_litI _ [0, 1, 2, 3, -1, 12]) (fun r hr => by cases hr; have := Cur.lt hgg; omega) (by simp) (by simp) ?_
      intro x _ g8 hg8 hx8
      have q8 := rdRow_prex hx8 hn7 (rdRow_pre (Pre.push _ _) qgg)
      simp (maxSteps := 1000000) (disch := first | omega | rfl | (simp only [zL, two63, room] <;> omega) | fail) only [↓reduceIte, ↓zP, zW, WOp, evOp, evBin, binI, binSh, binS, evNil, keyIs, keyEq, mkv, AV.cells, AV.sc, optv, bnd, env, put, Env.get, Env.set, Env.del, Env.dels, Env.init, res1, resL, resV, fillP, splice, newRow, Nat.reduceEqDiff, Nat.reduceLT, Nat.reduceLeDiff, Nat.reduceAdd, Nat.reduceMul, Nat.reduceSub, Nat.reduceBEq, reduceCtorEq, ↓zR, zQ, Tr, StA, StT]
      refine c_among (Cur.pre hg8 (Pre.push _ _)) (by omega) (slc_litI _ [0, 1, 2, 3, 4, -1, 4611686018427387904]) (fun r hr => by cases hr; have := Cur.lt hg8; omega) (by simp) (by simp) ?_
      intro y _ g9 hg9 hx9
      have q9 := rdRow_prex hx9 hn7 (rdRow_pre (Pre.push _ _) q8)
      obtain ⟨r1, r2, r3, r4, r5⟩ := wr_two hgA (by rw [hgB]; exact hg9.done) x y r
      have q9s := rd_setne (o := AO.row [.int .i64 x, .int .i64 y] 0 0 false) hn7h q9
      have qgg' := rdRow_pre (Pre.push _ (AO.row (List.map (AV.int .i64) [0, 1, 2, 3, -1, 12]) 0 0 false)) qgg
      have q8' := rdRow_pre (Pre.push _ (AO.row (List.map (AV.int .i64) [0, 1, 2, 3, 4, -1, 4611686018427387904]) 0 0 false)) q8
      simp only [List.map_cons, List.map_nil] at qgg' q8'
      simp (maxSteps := 1000000) (disch := first | omega | rfl | (simp only [zL, two63, room] <;> omega) | fail) only [↓reduceIte, ↓zP, zW, WOp, evOp, evBin, binI, binSh, binS, evNil, keyIs, keyEq, mkv, AV.cells, AV.sc, optv, bnd, env, put, Env.get, Env.set, Env.del, Env.dels, Env.init, res1, resL, resV, fillP, splice, newRow, Nat.reduceEqDiff, Nat.reduceLT, Nat.reduceLeDiff, Nat.reduceAdd, Nat.reduceMul, Nat.reduceSub, Nat.reduceBEq, reduceCtorEq, ↓zR, zQ, Tr, StA, StT, qgg, q8, q9, q9s, qgg', q8', r1, r2, r3, r4]
      exact hp w x y r _ hw r5
    · obtain ⟨l1, l2, l3⟩ := pl10 hg
      simp (maxSteps := 1000000) (disch := first | omega | rfl | (simp only [zL, two63, room] <;> omega) | fail) only [↓reduceIte, ↓zP, zW, WOp, evOp, evBin, binI, binSh, binS, evNil, keyIs, keyEq, mkv, AV.cells, AV.sc, optv, bnd, env, put, Env.get, Env.set, Env.del, Env.dels, Env.init, res1, resL, resV, fillP, splice, newRow, Nat.reduceEqDiff, Nat.reduceLT, Nat.reduceLeDiff, Nat.reduceAdd, Nat.reduceMul, Nat.reduceSub, Nat.reduceBEq, reduceCtorEq, ↓zR, zQ, Tr, StA, StT, e_reFewG w (by omega), hg, hg3]
      refine c_one hc3 (by omega) 3 (by omega) ?_
      intro o g4 hc4 hx4
      have q74 := rdRow_prex hx4 hn7 q7
      cases o
      · simp (maxSteps := 1000000) (disch := first | omega | rfl | (simp only [zL, two63, room] <;> omega) | fail) only [↓reduceIte, ↓zP, zW, WOp, evOp, evBin, binI, binSh, binS, evNil, keyIs, keyEq, mkv, AV.cells, AV.sc, optv, bnd, env, put, Env.get, Env.set, Env.del, Env.dels, Env.init, res1, resL, resV, fillP, splice, newRow, Nat.reduceEqDiff, Nat.reduceLT, Nat.reduceLeDiff, Nat.reduceAdd, Nat.reduceMul, Nat.reduceSub, Nat.reduceBEq, reduceCtorEq, ↓zR, zQ, Tr, StA, StT, q74]
        refine c_ruMoves l3 (by omega) r ?_
        intro v g5 ho hp5
        have hc5 := hc4.pre hp5
        have q75 := rdRow_pre hp5 q74
        have hv := ho.slc
        rcases hv.cases with ⟨rfl, h0⟩ | ⟨rfl, h0⟩ | ⟨c2, kk2, off2, rfl⟩
        · simp (maxSteps := 1000000) (disch := first | omega | rfl | (simp only [zL, two63, room] <;> omega) | fail) only [↓reduceIte, ↓zP, zW, WOp, evOp, evBin, binI, binSh, binS, evNil, keyIs, keyEq, mkv, AV.cells, AV.sc, optv, bnd, env, put, Env.get, Env.set, Env.del, Env.dels, Env.init, res1, resL, resV, fillP, splice, newRow, Nat.reduceEqDiff, Nat.reduceLT, Nat.reduceLeDiff, Nat.reduceAdd, Nat.reduceMul, Nat.reduceSub, Nat.reduceBEq, reduceCtorEq, ↓zR, zQ, Tr, StA, StT]
          have hgg := hc5
          have qgg := q75
          try refine w_drw ?_
          try (simp (maxSteps := 1000000) (disch := first | omega | rfl | (simp only [zL, two63, room] <;> omega) | fail) only [↓reduceIte, ↓zP, zW, WOp, evOp, evBin, binI, binSh, binS, evNil, keyIs, keyEq, mkv, AV.cells, AV.sc, optv, bnd, env, put, Env.get, Env.set, Env.del, Env.dels, Env.init, res1, resL, resV, fillP, splice, newRow, Nat.reduceEqDiff, Nat.reduceLT, Nat.reduceLeDiff, Nat.reduceAdd, Nat.reduceMul, Nat.reduceSub, Nat.reduceBEq, reduceCtorEq, ↓zR, zQ, Tr, StA, StT])
          refine c_among (Cur.pre hgg (Pre.push _ _)) (by omega) (slc_litI _ [0, 1, 2, 3, -1, 12]) (fun r hr => by cases hr; have := Cur.lt hgg; omega) (by simp) (by simp) ?_
          intro x _ g8 hg8 hx8
          have q8 := rdRow_prex hx8 hn7 (rdRow_pre (Pre.push _ _) qgg)
          simp (maxSteps := 1000000) (disch := first | omega | rfl | (simp only [zL, two63, room] <;> omega) | fail) only [↓reduceIte, ↓zP, zW, WOp, evOp, evBin, binI, binSh, binS, evNil, keyIs, keyEq, mkv, AV.cells, AV.sc, optv, bnd, env, put, Env.get, Env.set, Env.del, Env.dels, Env.init, res1, resL, resV, fillP, splice, newRow, Nat.reduceEqDiff, Nat.reduceLT, Nat.reduceLeDiff, Nat.reduceAdd, Nat.reduceMul, Nat.reduceSub, Nat.reduceBEq, reduceCtorEq, ↓zR, zQ, Tr, StA, StT]
          refine c_among (Cur.pre hg8 (Pre.push _ _)) (by omega) (slc_litI _ [0, 1, 2, 3, 4, -1, 4611686018427387904]) (fun r hr => by cases hr; have := Cur.lt hg8; omega) (by simp) (by simp) ?_
          intro y _ g9 hg9 hx9
          have q9 := rdRow_prex hx9 hn7 (rdRow_pre (Pre.push _ _) q8)
          obtain ⟨r1, r2, r3, r4, r5⟩ := wr_two hgA (by rw [hgB]; exact hg9.done) x y r
          have q9s := rd_setne (o := AO.row [.int .i64 x, .int .i64 y] 0 0 false) hn7h q9
          have qgg' := rdRow_pre (Pre.push _ (AO.row (List.map (AV.int .i64) [0, 1, 2, 3, -1, 12]) 0 0 false)) qgg
          have q8' := rdRow_pre (Pre.push _ (AO.row (List.map (AV.int .i64) [0, 1, 2, 3, 4, -1, 4611686018427387904]) 0 0 false)) q8
          simp only [List.map_cons, List.map_nil] at qgg' q8'
          simp (maxSteps := 1000000) (disch := first | omega | rfl | (simp only [zL, two63, room] <;> omega) | fail) only [↓reduceIte, ↓zP, zW, WOp, evOp, evBin, binI, binSh, binS, evNil, keyIs, keyEq, mkv, AV.cells, AV.sc, optv, bnd, env, put, Env.get, Env.set, Env.del, Env.dels, Env.init, res1, resL, resV, fillP, splice, newRow, Nat.reduceEqDiff, Nat.reduceLT, Nat.reduceLeDiff, Nat.reduceAdd, Nat.reduceMul, Nat.reduceSub, Nat.reduceBEq, reduceCtorEq, ↓zR, zQ, Tr, StA, StT, qgg, q8, q9, q9s, qgg', q8', r1, r2, r3, r4]
          exact hp w x y r _ hw r5
        · simp (maxSteps := 1000000) (disch := first | omega | rfl | (simp only [zL, two63, room] <;> omega) | fail) only [↓reduceIte, ↓zP, zW, WOp, evOp, evBin, binI, binSh, binS, evNil, keyIs, keyEq, mkv, AV.cells, AV.sc, optv, bnd, env, put, Env.get, Env.set, Env.del, Env.dels, Env.init, res1, resL, resV, fillP, splice, newRow, Nat.reduceEqDiff, Nat.reduceLT, Nat.reduceLeDiff, Nat.reduceAdd, Nat.reduceMul, Nat.reduceSub, Nat.reduceBEq, reduceCtorEq, ↓zR, zQ, Tr, StA, StT]
          have hgg := hc5
          have qgg := q75
          try refine w_drw ?_
          try (simp (maxSteps := 1000000) (disch := first | omega | rfl | (simp only [zL, two63, room] <;> omega) | fail) only [↓reduceIte, ↓zP, zW, WOp, evOp, evBin, binI, binSh, binS, evNil, keyIs, keyEq, mkv, AV.cells, AV.sc, optv, bnd, env, put, Env.get, Env.set, Env.del, Env.dels, Env.init, res1, resL, resV, fillP, splice, newRow, Nat.reduceEqDiff, Nat.reduceLT, Nat.reduceLeDiff, Nat.reduceAdd, Nat.reduceMul, Nat.reduceSub, Nat.reduceBEq, reduceCtorEq, ↓zR, zQ, Tr, StA, StT])
          refine c_among (Cur.pre hgg (Pre.push _ _)) (by omega) (slc_litI _ [0, 1, 2, 3, -1, 12]) (fun r hr => by cases hr; have := Cur.lt hgg; omega) (by simp) (by simp) ?_
          intro x _ g8 hg8 hx8
          have q8 := rdRow_prex hx8 hn7 (rdRow_pre (Pre.push _ _) qgg)
          simp (maxSteps := 1000000) (disch := first | omega | rfl | (simp only [zL, two63, room] <;> omega) | fail) only [↓reduceIte, ↓zP, zW, WOp, evOp, evBin, binI, binSh, binS, evNil, keyIs, keyEq, mkv, AV.cells, AV.sc, optv, bnd, env, put, Env.get, Env.set, Env.del, Env.dels, Env.init, res1, resL, resV, fillP, splice, newRow, Nat.reduceEqDiff, Nat.reduceLT, Nat.reduceLeDiff, Nat.reduceAdd, Nat.reduceMul, Nat.reduceSub, Nat.reduceBEq, reduceCtorEq, ↓zR, zQ, Tr, StA, StT]
          refine c_among (Cur.pre hg8 (Pre.push _ _)) (by omega) (slc_litI _ [0, 1, 2, 3, 4, -1, 4611686018427387904]) (fun r hr => by cases hr; have := Cur.lt hg8; omega) (by simp) (by simp) ?_
          intro y _ g9 hg9 hx9
          have q9 := rdRow_prex hx9 hn7 (rdRow_pre (Pre.push _ _) q8)
          obtain ⟨r1, r2, r3, r4, r5⟩ := wr_two hgA (by rw [hgB]; exact hg9.done) x y r
          have q9s := rd_setne (o := AO.row [.int .i64 x, .int .i64 y] 0 0 false) hn7h q9
          have qgg' := rdRow_pre (Pre.push _ (AO.row (List.map (AV.int .i64) [0, 1, 2, 3, -1, 12]) 0 0 false)) qgg
          have q8' := rdRow_pre (Pre.push _ (AO.row (List.map (AV.int .i64) [0, 1, 2, 3, 4, -1, 4611686018427387904]) 0 0 false)) q8
          simp only [List.map_cons, List.map_nil] at qgg' q8'
          simp (maxSteps := 1000000) (disch := first | omega | rfl | (simp only [zL, two63, room] <;> omega) | fail) only [↓reduceIte, ↓zP, zW, WOp, evOp, evBin, binI, binSh, binS, evNil, keyIs, keyEq, mkv, AV.cells, AV.sc, optv, bnd, env, put, Env.get, Env.set, Env.del, Env.dels, Env.init, res1, resL, resV, fillP, splice, newRow, Nat.reduceEqDiff, Nat.reduceLT, Nat.reduceLeDiff, Nat.reduceAdd, Nat.reduceMul, Nat.reduceSub, Nat.reduceBEq, reduceCtorEq, ↓zR, zQ, Tr, StA, StT, qgg, q8, q9, q9s, qgg', q8', r1, r2, r3, r4]
          exact hp w x y r _ hw r5
        · by_cases hn : ((mvR w r).length : Int) > 0
          · simp (maxSteps := 1000000) (disch := first | omega | rfl | (simp only [zL, two63, room] <;> omega) | fail) only [↓reduceIte, ↓zP, zW, WOp, evOp, evBin, binI, binSh, binS, evNil, keyIs, keyEq, mkv, AV.cells, AV.sc, optv, bnd, env, put, Env.get, Env.set, Env.del, Env.dels, Env.init, res1, resL, resV, fillP, splice, newRow, Nat.reduceEqDiff, Nat.reduceLT, Nat.reduceLeDiff, Nat.reduceAdd, Nat.reduceMul, Nat.reduceSub, Nat.reduceBEq, reduceCtorEq, ↓zR, zQ, Tr, StA, StT, hn]
            try refine w_drw ?_
            try (simp (maxSteps := 1000000) (disch := first | omega | rfl | (simp only [zL, two63, room] <;> omega) | fail) only [↓reduceIte, ↓zP, zW, WOp, evOp, evBin, binI, binSh, binS, evNil, keyIs, keyEq, mkv, AV.cells, AV.sc, optv, bnd, env, put, Env.get, Env.set, Env.del, Env.dels, Env.init, res1, resL, resV, fillP, splice, newRow, Nat.reduceEqDiff, Nat.reduceLT, Nat.reduceLeDiff, Nat.reduceAdd, Nat.reduceMul, Nat.reduceSub, Nat.reduceBEq, reduceCtorEq, ↓zR, zQ, Tr, StA, StT])
            have hml : (mvR w r).length ≤ 10 * 10 := Nat.le_trans (mvR_len w r) (Nat.mul_le_mul l2 l2)
            refine c_pick hc5 (by omega) (mvR w r).length (by omega) ?_
            intro x g6 hx hc6 hx6
            have hlt : x < (mvR w r).length := by omega
            have hLe : mvR w r = (mvR w r).take x ++ (mvR w r)[x] :: (mvR w r).drop (x + 1) := by
              have := (List.take_append_drop x (mvR w r)).symm
              rwa [List.drop_eq_getElem_cons hlt] at this
            have hv2 := hv
            generalize hm : (mvR w r)[x] = m at hLe
            rw [hLe] at hv2
            have hne : c2 ≠ gB.length := Nat.ne_of_gt (Nat.lt_of_lt_of_le hc4.lt (own_ge ho rfl))
            have hrd := rdRow_prex hx6 hne (hv2.rd hlM)
            rw [List.length_take, show min x (mvR w r).length = x by omega] at hrd
            have hrd' : rdRow g6 c2 kk2 (off2 + x * 2) 2 = some [.int .i64 m.1, .int .i64 m.2] := hrd
            have n1 : (x : Int) < ((mvR w r).length : Int) := by omega
            have q76 := rdRow_prex hx6 hn7 q75
            obtain ⟨r1, r2, r3, r4, r5⟩ := wr_two hgA (by rw [hgB]; exact hc6.done) m.1 m.2 r
            have q76s := rd_setne (o := AO.row [.int .i64 m.1, .int .i64 m.2] 0 0 false) hn7h q76
            simp (maxSteps := 1000000) (disch := first | omega | rfl | (simp only [zL, two63, room] <;> omega) | fail) only [↓reduceIte, ↓zP, zW, WOp, evOp, evBin, binI, binSh, binS, evNil, keyIs, keyEq, mkv, AV.cells, AV.sc, optv, bnd, env, put, Env.get, Env.set, Env.del, Env.dels, Env.init, res1, resL, resV, fillP, splice, newRow, Nat.reduceEqDiff, Nat.reduceLT, Nat.reduceLeDiff, Nat.reduceAdd, Nat.reduceMul, Nat.reduceSub, Nat.reduceBEq, reduceCtorEq, ↓zR, zQ, Tr, StA, StT, n1, hrd', q75, q76, q76s, r1, r2, r3, r4]
            exact hp w m.1 m.2 r _ hw r5
          · simp (maxSteps := 1000000) (disch := first | omega | rfl | (simp only [zL, two63, room] <;> omega) | fail) only [↓reduceIte, ↓zP, zW, WOp, evOp, evBin, binI, binSh, binS, evNil, keyIs, keyEq, mkv, AV.cells, AV.sc, optv, bnd, env, put, Env.get, Env.set, Env.del, Env.dels, Env.init, res1, resL, resV, fillP, splice, newRow, Nat.reduceEqDiff, Nat.reduceLT, Nat.reduceLeDiff, Nat.reduceAdd, Nat.reduceMul, Nat.reduceSub, Nat.reduceBEq, reduceCtorEq, ↓zR, zQ, Tr, StA, StT, hn]
            have hgg := hc5
            have qgg := q75
            try refine w_drw ?_
            try (simp (maxSteps := 1000000) (disch := first | omega | rfl | (simp only [zL, two63, room] <;> omega) | fail) only [↓reduceIte, ↓zP, zW, WOp, evOp, evBin, binI, binSh, binS, evNil, keyIs, keyEq, mkv, AV.cells, AV.sc, optv, bnd, env, put, Env.get, Env.set, Env.del, Env.dels, Env.init, res1, resL, resV, fillP, splice, newRow, Nat.reduceEqDiff, Nat.reduceLT, Nat.reduceLeDiff, Nat.reduceAdd, Nat.reduceMul, Nat.reduceSub, Nat.reduceBEq, reduceCtorEq, ↓zR, zQ, Tr, StA, StT])
            refine c_among (Cur.pre hgg (Pre.push _ _)) (by omega) (slc_litI _ [0, 1, 2, 3, -1, 12]) (fun r hr => by cases hr; have := Cur.lt hgg; omega) (by simp) (by simp) ?_
            intro x _ g8 hg8 hx8
            have q8 := rdRow_prex hx8 hn7 (rdRow_pre (Pre.push _ _) qgg)
            simp (maxSteps := 1000000) (disch := first | omega | rfl | (simp only [zL, two63, room] <;> omega) | fail) only [↓reduceIte, ↓zP, zW, WOp, evOp, evBin, binI, binSh, binS, evNil, keyIs, keyEq, mkv, AV.cells, AV.sc, optv, bnd, env, put, Env.get, Env.set, Env.del, Env.dels, Env.init, res1, resL, resV, fillP, splice, newRow, Nat.reduceEqDiff, Nat.reduceLT, Nat.reduceLeDiff, Nat.reduceAdd, Nat.reduceMul, Nat.reduceSub, Nat.reduceBEq, reduceCtorEq, ↓zR, zQ, Tr, StA, StT]
            refine c_among (Cur.pre hg8 (Pre.push _ _)) (by omega) (slc_litI _ [0, 1, 2, 3, 4, -1, 4611686018427387904]) (fun r hr => by cases hr; have := Cur.lt hg8; omega) (by simp) (by simp) ?_
            intro y _ g9 hg9 hx9
            have q9 := rdRow_prex hx9 hn7 (rdRow_pre (Pre.push _ _) q8)
            obtain ⟨r1, r2, r3, r4, r5⟩ := wr_two hgA (by rw [hgB]; exact hg9.done) x y r
            have q9s := rd_setne (o := AO.row [.int .i64 x, .int .i64 y] 0 0 false) hn7h q9
            have qgg' := rdRow_pre (Pre.push _ (AO.row (List.map (AV.int .i64) [0, 1, 2, 3, -1, 12]) 0 0 false)) qgg
            have q8' := rdRow_pre (Pre.push _ (AO.row (List.map (AV.int .i64) [0, 1, 2, 3, 4, -1, 4611686018427387904]) 0 0 false)) q8
            simp only [List.map_cons, List.map_nil] at qgg' q8'
            simp (maxSteps := 1000000) (disch := first | omega | rfl | (simp only [zL, two63, room] <;> omega) | fail) only [↓reduceIte, ↓zP, zW, WOp, evOp, evBin, binI, binSh, binS, evNil, keyIs, keyEq, mkv, AV.cells, AV.sc, optv, bnd, env, put, Env.get, Env.set, Env.del, Env.dels, Env.init, res1, resL, resV, fillP, splice, newRow, Nat.reduceEqDiff, Nat.reduceLT, Nat.reduceLeDiff, Nat.reduceAdd, Nat.reduceMul, Nat.reduceSub, Nat.reduceBEq, reduceCtorEq, ↓zR, zQ, Tr, StA, StT, qgg, q8, q9, q9s, qgg', q8', r1, r2, r3, r4]
            exact hp w x y r _ hw r5
      · simp (maxSteps := 1000000) (disch := first | omega | rfl | (simp only [zL, two63, room] <;> omega) | fail) only [↓reduceIte, ↓zP, zW, WOp, evOp, evBin, binI, binSh, binS, evNil, keyIs, keyEq, mkv, AV.cells, AV.sc, optv, bnd, env, put, Env.get, Env.set, Env.del, Env.dels, Env.init, res1, resL, resV, fillP, splice, newRow, Nat.reduceEqDiff, Nat.reduceLT, Nat.reduceLeDiff, Nat.reduceAdd, Nat.reduceMul, Nat.reduceSub, Nat.reduceBEq, reduceCtorEq, ↓zR, zQ, Tr, StA, StT]
        have hgg := hc4
        have qgg := q74
        try refine w_drw ?_
        try (simp (maxSteps := 1000000) (disch := first | omega | rfl | (simp only [zL, two63, room] <;> omega) | fail) only [↓reduceIte, ↓zP, zW, WOp, evOp, evBin, binI, binSh, binS, evNil, keyIs, keyEq, mkv, AV.cells, AV.sc, optv, bnd, env, put, Env.get, Env.set, Env.del, Env.dels, Env.init, res1, resL, resV, fillP, splice, newRow, Nat.reduceEqDiff, Nat.reduceLT, Nat.reduceLeDiff, Nat.reduceAdd, Nat.reduceMul, Nat.reduceSub, Nat.reduceBEq, reduceCtorEq, ↓zR, zQ, Tr, StA, StT])
        refine c_among (Cur.pre hgg (Pre.push _ _)) (by omega) (slc_litI _ [0, 1, 2, 3, -1, 12]) (fun r hr => by cases hr; have := Cur.lt hgg; omega) (by simp) (by simp) ?_
        intro x _ g8 hg8 hx8
        have q8 := rdRow_prex hx8 hn7 (rdRow_pre (Pre.push _ _) qgg)
        simp (maxSteps := 1000000) (disch := first | omega | rfl | (simp only [zL, two63, room] <;> omega) | fail) only [↓reduceIte, ↓zP, zW, WOp, evOp, evBin, binI, binSh, binS, evNil, keyIs, keyEq, mkv, AV.cells, AV.sc, optv, bnd, env, put, Env.get, Env.set, Env.del, Env.dels, Env.init, res1, resL, resV, fillP, splice, newRow, Nat.reduceEqDiff, Nat.reduceLT, Nat.reduceLeDiff, Nat.reduceAdd, Nat.reduceMul, Nat.reduceSub, Nat.reduceBEq, reduceCtorEq, ↓zR, zQ, Tr, StA, StT]
        refine c_among (Cur.pre hg8 (Pre.push _ _)) (by omega) (slc_litI _ [0, 1, 2, 3, 4, -1, 4611686018427387904]) (fun r hr => by cases hr; have := Cur.lt hg8; omega) (by simp) (by simp) ?_
        intro y _ g9 hg9 hx9
        have q9 := rdRow_prex hx9 hn7 (rdRow_pre (Pre.push _ _) q8)
        obtain ⟨r1, r2, r3, r4, r5⟩ := wr_two hgA (by rw [hgB]; exact hg9.done) x y r
        have q9s := rd_setne (o := AO.row [.int .i64 x, .int .i64 y] 0 0 false) hn7h q9
        have qgg' := rdRow_pre (Pre.push _ (AO.row (List.map (AV.int .i64) [0, 1, 2, 3, -1, 12]) 0 0 false)) qgg
        have q8' := rdRow_pre (Pre.push _ (AO.row (List.map (AV.int .i64) [0, 1, 2, 3, 4, -1, 4611686018427387904]) 0 0 false)) q8
        simp only [List.map_cons, List.map_nil] at qgg' q8'
        simp (maxSteps := 1000000) (disch := first | omega | rfl | (simp only [zL, two63, room] <;> omega) | fail) only [↓reduceIte, ↓zP, zW, WOp, evOp, evBin, binI, binSh, binS, evNil, keyIs, keyEq, mkv, AV.cells, AV.sc, optv, bnd, env, put, Env.get, Env.set, Env.del, Env.dels, Env.init, res1, resL, resV, fillP, splice, newRow, Nat.reduceEqDiff, Nat.reduceLT, Nat.reduceLeDiff, Nat.reduceAdd, Nat.reduceMul, Nat.reduceSub, Nat.reduceBEq, reduceCtorEq, ↓zR, zQ, Tr, StA, StT, qgg, q8, q9, q9s, qgg', q8', r1, r2, r3, r4]
        exact hp w x y r _ hw r5
end Go.Proofs.YtejhhdpfndiliaaDoor.Ab

/- RULES: drawn plays. -/
namespace Go.Proofs.YtejhhdpfndiliaaDoor.Ab
open Go
set_option maxRecDepth 100000
set_option maxHeartbeats 4000000

theorem lp_dpr {B b : AH} {cv : AV} {bs : List UInt8} (hbB : b.length < B.length) (r : Ru) {c4 c7 : Nat} (h7b : c7 ≠ b.length) (hq7 : rdRow B c7 0 0 3 = some (encR r)) {w0 : List UInt8} (hw0 : w0.length < 2 ^ 60) {R : X → Env → AH → Prop} : ∀ (d : Nat) (cur : List UInt8) (out : List (Int × Int)) (v : AV) (K : Nat) (h : AH), (plG10 w0 = true → signs cur ∧ cur.length ≤ 10) → Cur b cv bs K h → K + 2 * d < 2 ^ 45 → PreX b.length B h → OwL 2 encM B h v out → out.length + d ≤ 12 →
    (∀ out' v' h', out'.length ≤ 12 → Cur b cv bs (K + 2 * d) h' → PreX b.length B h' → OwL 2 encM B h' v' out' → R (.exit 0) [(4, .ptr c4 0 0 3), (5, .ptr b.length 0 0 3), (6, .str w0), (7, .ptr c7 0 0 3), (8, v')] h') →
    Cx (.loop lp10_0) [(4, .ptr c4 0 0 3), (5, .ptr b.length 0 0 3), (6, .str w0), (7, .ptr c7 0 0 3), (8, v), (9, .str cur), (10, .int .i64 (d : Nat))] h R k k
  | 0, cur, out, v, K, h, hsg, hc, hK, hp, ho, hl, hR => by
    rw [w_loopb (c := lp10_0) (d := lb10_0) rfl]; unfold lb10_0
    simp (maxSteps := 1000000) (disch := first | omega | rfl | (simp only [zL, two63, room] <;> omega) | fail) only [↓reduceIte, ↓zP, zW, WOp, evOp, evBin, binI, binSh, binS, evNil, keyIs, keyEq, mkv, AV.cells, AV.sc, optv, bnd, env, put, Env.get, Env.set, Env.del, Env.dels, Env.init, res1, resL, resV, fillP, splice, newRow, Nat.reduceEqDiff, Nat.reduceLT, Nat.reduceLeDiff, Nat.reduceAdd, Nat.reduceMul, Nat.reduceSub, Nat.reduceBEq, reduceCtorEq, ↓zR, zQ, Tr, StA, StT]
    exact hR out v h (by omega) hc hp ho
  | d + 1, cur, out, v, K, h, hsg, hc, hK, hp, ho, hl, hR => by
    have n0 : ((d + 1 : Nat) : Int) > 0 := by omega
    have stop : ∀ g, Pre h g → R (.exit 0) [(4, .ptr c4 0 0 3), (5, .ptr b.length 0 0 3), (6, .str w0), (7, .ptr c7 0 0 3), (8, v)] g := fun g pg => hR out v g (by omega) ((hc.pre pg).le (by omega)) (hp.trans (pg.x _)) (ho.pre pg)
    cases hg : plG10 w0
    · rw [w_loopb (c := lp10_0) (d := lb10_0) rfl]; unfold lb10_0
      simp (maxSteps := 1000000) (disch := first | omega | rfl | (simp only [zL, two63, room] <;> omega) | fail) only [↓reduceIte, ↓zP, zW, WOp, evOp, evBin, binI, binSh, binS, evNil, keyIs, keyEq, mkv, AV.cells, AV.sc, optv, bnd, env, put, Env.get, Env.set, Env.del, Env.dels, Env.init, res1, resL, resV, fillP, splice, newRow, Nat.reduceEqDiff, Nat.reduceLT, Nat.reduceLeDiff, Nat.reduceAdd, Nat.reduceMul, Nat.reduceSub, Nat.reduceBEq, reduceCtorEq, ↓zR, zQ, Tr, StA, StT, n0, e_reFewG w0 hw0, hg]
      exact stop h (Pre.refl h)
    · obtain ⟨s1, s2⟩ := hsg hg
      have q7 := rdRow_prex hp h7b hq7
      have hdw : IntKind.i64.wrap (((d + 1 : Nat) : Int) - 1) = (d : Int) := by rw [IntKind.wrap_i64]; omega
      rw [w_loopb (c := lp10_0) (d := lb10_0) rfl]; unfold lb10_0
      simp (maxSteps := 1000000) (disch := first | omega | rfl | (simp only [zL, two63, room] <;> omega) | fail) only [↓reduceIte, ↓zP, zW, WOp, evOp, evBin, binI, binSh, binS, evNil, keyIs, keyEq, mkv, AV.cells, AV.sc, optv, bnd, env, put, Env.get, Env.set, Env.del, Env.dels, Env.init, res1, resL, resV, fillP, splice, newRow, Nat.reduceEqDiff, Nat.reduceLT, Nat.reduceLeDiff, Nat.reduceAdd, Nat.reduceMul, Nat.reduceSub, Nat.reduceBEq, reduceCtorEq, ↓zR, zQ, Tr, StA, StT, n0, e_reFewG w0 hw0, hg, q7]
      refine c_ruMoves s1 (by omega) r ?_
      intro vm g2 hom hp2
      have hvm := hom.slc
      have hc2 := hc.pre hp2
      rcases hvm.cases with ⟨rfl, h0⟩ | ⟨rfl, h0⟩ | ⟨c2, kk2, off2, rfl⟩
      · simp (maxSteps := 1000000) (disch := first | omega | rfl | (simp only [zL, two63, room] <;> omega) | fail) only [↓reduceIte, ↓zP, zW, WOp, evOp, evBin, binI, binSh, binS, evNil, keyIs, keyEq, mkv, AV.cells, AV.sc, optv, bnd, env, put, Env.get, Env.set, Env.del, Env.dels, Env.init, res1, resL, resV, fillP, splice, newRow, Nat.reduceEqDiff, Nat.reduceLT, Nat.reduceLeDiff, Nat.reduceAdd, Nat.reduceMul, Nat.reduceSub, Nat.reduceBEq, reduceCtorEq, ↓zR, zQ, Tr, StA, StT]
        exact stop g2 hp2
      · simp (maxSteps := 1000000) (disch := first | omega | rfl | (simp only [zL, two63, room] <;> omega) | fail) only [↓reduceIte, ↓zP, zW, WOp, evOp, evBin, binI, binSh, binS, evNil, keyIs, keyEq, mkv, AV.cells, AV.sc, optv, bnd, env, put, Env.get, Env.set, Env.del, Env.dels, Env.init, res1, resL, resV, fillP, splice, newRow, Nat.reduceEqDiff, Nat.reduceLT, Nat.reduceLeDiff, Nat.reduceAdd, Nat.reduceMul, Nat.reduceSub, Nat.reduceBEq, reduceCtorEq, ↓zR, zQ, Tr, StA, StT]
        exact stop g2 hp2
      · by_cases hn : (mvR cur r).length = 0
        · have z1 : (((mvR cur r).length : Int) == 0) = true := by rw [hn]; rfl
          simp (maxSteps := 1000000) (disch := first | omega | rfl | (simp only [zL, two63, room] <;> omega) | fail) only [↓reduceIte, ↓zP, zW, WOp, evOp, evBin, binI, binSh, binS, evNil, keyIs, keyEq, mkv, AV.cells, AV.sc, optv, bnd, env, put, Env.get, Env.set, Env.del, Env.dels, Env.init, res1, resL, resV, fillP, splice, newRow, Nat.reduceEqDiff, Nat.reduceLT, Nat.reduceLeDiff, Nat.reduceAdd, Nat.reduceMul, Nat.reduceSub, Nat.reduceBEq, reduceCtorEq, ↓zR, zQ, Tr, StA, StT, z1]
          exact stop g2 hp2
        · have z1 : (((mvR cur r).length : Int) == 0) = false := by
            rw [beq_eq_false_iff_ne]; omega
          simp (maxSteps := 1000000) (disch := first | omega | rfl | (simp only [zL, two63, room] <;> omega) | fail) only [↓reduceIte, ↓zP, zW, WOp, evOp, evBin, binI, binSh, binS, evNil, keyIs, keyEq, mkv, AV.cells, AV.sc, optv, bnd, env, put, Env.get, Env.set, Env.del, Env.dels, Env.init, res1, resL, resV, fillP, splice, newRow, Nat.reduceEqDiff, Nat.reduceLT, Nat.reduceLeDiff, Nat.reduceAdd, Nat.reduceMul, Nat.reduceSub, Nat.reduceBEq, reduceCtorEq, ↓zR, zQ, Tr, StA, StT, z1]
          have hml : (mvR cur r).length ≤ 10 * 10 := Nat.le_trans (mvR_len cur r) (Nat.mul_le_mul s2 s2)
          refine c_pick hc2 (by omega) (mvR cur r).length (by omega) ?_
          intro x g3 hx hc3 hx3
          have hlt : x < (mvR cur r).length := by omega
          have hLe : mvR cur r = (mvR cur r).take x ++ (mvR cur r)[x] :: (mvR cur r).drop (x + 1) := by
            have := (List.take_append_drop x (mvR cur r)).symm
            rwa [List.drop_eq_getElem_cons hlt] at this
          have hmem : (mvR cur r)[x] ∈ mvR cur r := List.getElem_mem hlt
          have hv2 := hvm
          generalize hm : (mvR cur r)[x] = m at hLe hmem
          rw [hLe] at hv2
          obtain ⟨i, t, rfl, hmv⟩ := mem_mvR.1 hmem
          have hne : c2 ≠ b.length := Nat.ne_of_gt (Nat.lt_of_lt_of_le hc.lt (own_ge hom rfl))
          have hrd := rdRow_prex hx3 hne (hv2.rd hlM)
          rw [List.length_take, show min x (mvR cur r).length = x by omega] at hrd
          have hrd' : rdRow g3 c2 kk2 (off2 + x * 2) 2 = some [.int .i64 i, .int .i64 t] := hrd
          have n1 : (x : Int) < ((mvR cur r).length : Int) := by omega
          have ho3 := (ho.pre hp2).x hx3 hbB
          have pA := Pre.push g3 (AO.row [.int .i64 i, .int .i64 t] 0 0 false)
          obtain ⟨qm, -, -⟩ := mvRow g3 i t
          have pB := Pre.push (g3 ++ [AO.row [.int .i64 i, .int .i64 t] 0 0 false]) (AO.row [.int .i64 i, .int .i64 t] 0 0 false)
          have hpx3 : PreX b.length B g3 := hp.trans ((hp2.x _).trans hx3)
          obtain ⟨o2, g4, hap, ho4, hag⟩ := apA hlM scM ((ho3.pre pA).pre pB) (Nat.le_trans hpx3.1 (Nat.le_trans pA.1 pB.1)) ((i : Int), (t : Int)) (by omega)
          obtain ⟨f1, f2, f3⟩ := apRow_fr hap
          have qm4 : rdRow g4 g3.length 0 0 2 = some [.int .i64 i, .int .i64 t] := by
            refine rd_row ?_ (rdRow_pre pB qm)
            refine f1 _ (by simp) fun e => ?_
            have := own_lt ho3 e
            omega
          have hc4 : Cur b cv bs (K + 2) g4 := ((hc3.pre pA).pre pB).ag hbB hag
          have hpx4 : PreX b.length B g4 := (hpx3.trans ((pA.trans pB).x _)).ag hag
          simp (maxSteps := 1000000) (disch := first | omega | rfl | (simp only [zL, two63, room] <;> omega) | fail) only [↓reduceIte, ↓zP, zW, WOp, evOp, evBin, binI, binSh, binS, evNil, keyIs, keyEq, mkv, AV.cells, AV.sc, optv, bnd, env, put, Env.get, Env.set, Env.del, Env.dels, Env.init, res1, resL, resV, fillP, splice, newRow, Nat.reduceEqDiff, Nat.reduceLT, Nat.reduceLeDiff, Nat.reduceAdd, Nat.reduceMul, Nat.reduceSub, Nat.reduceBEq, reduceCtorEq, ↓zR, zQ, Tr, StA, StT, n1, hrd', qm, hap, qm4]
          refine c_liMake cur i t hmv.1 hmv.2.1 hmv.ne (by omega) ?_
          intro g5 hp5
          simp (maxSteps := 1000000) (disch := first | omega | rfl | (simp only [zL, two63, room] <;> omega) | fail) only [↓reduceIte, ↓zP, zW, WOp, evOp, evBin, binI, binSh, binS, evNil, keyIs, keyEq, mkv, AV.cells, AV.sc, optv, bnd, env, put, Env.get, Env.set, Env.del, Env.dels, Env.init, res1, resL, resV, fillP, splice, newRow, Nat.reduceEqDiff, Nat.reduceLT, Nat.reduceLeDiff, Nat.reduceAdd, Nat.reduceMul, Nat.reduceSub, Nat.reduceBEq, reduceCtorEq, ↓zR, zQ, Tr, StA, StT, hdw]
          rw [w_loopn (c := lp10_0) rfl]
          simp (maxSteps := 1000000) (disch := first | omega | rfl | (simp only [zL, two63, room] <;> omega) | fail) only [↓reduceIte, ↓zP, zW, WOp, evOp, evBin, binI, binSh, binS, evNil, keyIs, keyEq, mkv, AV.cells, AV.sc, optv, bnd, env, put, Env.get, Env.set, Env.del, Env.dels, Env.init, res1, resL, resV, fillP, splice, newRow, Nat.reduceEqDiff, Nat.reduceLT, Nat.reduceLeDiff, Nat.reduceAdd, Nat.reduceMul, Nat.reduceSub, Nat.reduceBEq, reduceCtorEq, ↓zR, zQ, Tr, StA, StT]
          refine lp_dpr hbB r h7b hq7 hw0 d (madeB cur i t) (out ++ [((i : Int), (t : Int))]) o2 (K + 2) g5 (fun _ => ⟨signs_madeR s1 hmv.1, by rw [madeB_length]; exact s2⟩) (hc4.pre hp5) (by omega) (hpx4.trans (hp5.x _)) (ho4.pre hp5) (by simp; omega) ?_
          intro out' v' h' a1 a2 a3 a4
          exact hR out' v' h' a1 (a2.le (by omega)) a3 a4
theorem c_DrawPlayByRule {cv : AV} {bs : List UInt8} {h : AH} (hs : Slc 1 encU h cv bs) (hb : bs.length < 2 ^ 40) {post : AV → AH → Prop} (hp : ∀ w v L r h', w.length ≤ 13 → L.length ≤ 13 → Pre h h' → Slc 2 encM h' v L → post (.tup [.str w, v, .agg (encR r)]) h') : S 10 [cv] h post k := by
  have pA := Pre.push h (AO.row (encR (false, false, false)) 0 0 false)
  have lA : (h ++ [AO.row (encR (false, false, false)) 0 0 false]).length = h.length + 1 := by simp
  generalize hgA : h ++ [AO.row (encR (false, false, false)) 0 0 false] = gA at pA lA
  have hc := Cur.new (hs.pre pA) hb
  refine S_of rfl T10 ?_; unfold fi10
  rcases hs.cases with ⟨rfl, _⟩ | ⟨rfl, _⟩ | ⟨c, kk, off, rfl⟩
  all_goals
    clear hs
    simp (maxSteps := 1000000) (disch := first | omega | rfl | (simp only [zL, two63, room] <;> omega) | fail) only [↓reduceIte, ↓zP, zW, WOp, evOp, evBin, binI, binSh, binS, evNil, keyIs, keyEq, mkv, AV.cells, AV.sc, optv, bnd, env, put, Env.get, Env.set, Env.del, Env.dels, Env.init, res1, resL, resV, fillP, splice, newRow, Nat.reduceEqDiff, Nat.reduceLT, Nat.reduceLeDiff, Nat.reduceAdd, Nat.reduceMul, Nat.reduceSub, Nat.reduceBEq, reduceCtorEq, ↓zR, zQ, Tr, StA, StT, hgA]
    refine c_few hc (by omega) ?_
    intro w g1 hw hc1 _
    clear hc
    simp (maxSteps := 1000000) (disch := first | omega | rfl | (simp only [zL, two63, room] <;> omega) | fail) only [↓reduceIte, ↓zP, zW, WOp, evOp, evBin, binI, binSh, binS, evNil, keyIs, keyEq, mkv, AV.cells, AV.sc, optv, bnd, env, put, Env.get, Env.set, Env.del, Env.dels, Env.init, res1, resL, resV, fillP, splice, newRow, Nat.reduceEqDiff, Nat.reduceLT, Nat.reduceLeDiff, Nat.reduceAdd, Nat.reduceMul, Nat.reduceSub, Nat.reduceBEq, reduceCtorEq, ↓zR, zQ, Tr, StA, StT]
    refine c_rule hc1 (by omega) ?_
    intro r g2 hc2 _
    have p3 := Pre.push g2 (AO.row (encR r) 0 0 false)
    have q7 := (row3 (x := .bool r.1) (y := .bool r.2.1) (z := .bool r.2.2) (h := g2 ++ [AO.row (encR r) 0 0 false]) (c := g2.length) (by simp)).2.2.2
    have hc3 := hc2.pre p3
    have hl2 := hc2.lt
    have hn7 : g2.length ≠ gA.length := by omega
    generalize hg3 : g2 ++ [AO.row (encR r) 0 0 false] = g3 at p3 q7 hc3
    simp (maxSteps := 1000000) (disch := first | omega | rfl | (simp only [zL, two63, room] <;> omega) | fail) only [↓reduceIte, ↓zP, zW, WOp, evOp, evBin, binI, binSh, binS, evNil, keyIs, keyEq, mkv, AV.cells, AV.sc, optv, bnd, env, put, Env.get, Env.set, Env.del, Env.dels, Env.init, res1, resL, resV, fillP, splice, newRow, Nat.reduceEqDiff, Nat.reduceLT, Nat.reduceLeDiff, Nat.reduceAdd, Nat.reduceMul, Nat.reduceSub, Nat.reduceBEq, reduceCtorEq, ↓zR, zQ, Tr, StA, StT, hg3]
    refine c_pick hc3 (by omega) 8 (by omega) ?_
    intro x g4 hx hc4 hx4
    simp (maxSteps := 1000000) (disch := first | omega | rfl | (simp only [zL, two63, room] <;> omega) | fail) only [↓reduceIte, ↓zP, zW, WOp, evOp, evBin, binI, binSh, binS, evNil, keyIs, keyEq, mkv, AV.cells, AV.sc, optv, bnd, env, put, Env.get, Env.set, Env.del, Env.dels, Env.init, res1, resL, resV, fillP, splice, newRow, Nat.reduceEqDiff, Nat.reduceLT, Nat.reduceLeDiff, Nat.reduceAdd, Nat.reduceMul, Nat.reduceSub, Nat.reduceBEq, reduceCtorEq, ↓zR, zQ, Tr, StA, StT]
    have q74 := rdRow_prex hx4 hn7 q7
    refine lp_dpr (B := g4) hc4.lt r hn7 q74 (by omega) x w [] .nilS _ g4 (fun e => ⟨(pl10 e).2.2, (pl10 e).2.1⟩) hc4 (by omega) (PreX.refl _ _) OwL.nil (by simp; omega) ?_
    intro out v g5 hlo hc5 hx5 ho
    simp (maxSteps := 1000000) (disch := first | omega | rfl | (simp only [zL, two63, room] <;> omega) | fail) only [↓reduceIte, ↓zP, zW, WOp, evOp, evBin, binI, binSh, binS, evNil, keyIs, keyEq, mkv, AV.cells, AV.sc, optv, bnd, env, put, Env.get, Env.set, Env.del, Env.dels, Env.init, res1, resL, resV, fillP, splice, newRow, Nat.reduceEqDiff, Nat.reduceLT, Nat.reduceLeDiff, Nat.reduceAdd, Nat.reduceMul, Nat.reduceSub, Nat.reduceBEq, reduceCtorEq, ↓zR, zQ, Tr, StA, StT]
    refine c_one hc5 (by omega) 8 (by omega) ?_
    intro o g6 hc6 hx6
    have hx56 := hx5.trans hx6
    have ho6 := ho.x hx6 hc4.lt
    cases o
    · simp (maxSteps := 1000000) (disch := first | omega | rfl | (simp only [zL, two63, room] <;> omega) | fail) only [↓reduceIte, ↓zP, zW, WOp, evOp, evBin, binI, binSh, binS, evNil, keyIs, keyEq, mkv, AV.cells, AV.sc, optv, bnd, env, put, Env.get, Env.set, Env.del, Env.dels, Env.init, res1, resL, resV, fillP, splice, newRow, Nat.reduceEqDiff, Nat.reduceLT, Nat.reduceLeDiff, Nat.reduceAdd, Nat.reduceMul, Nat.reduceSub, Nat.reduceBEq, reduceCtorEq, ↓zR, zQ, Tr, StA, StT]
      have q76 := rdRow_prex hx56 hn7 q74
      obtain ⟨r1, r2, r3⟩ := wr_resR (by rw [hgA]; exact hc6.done) r
      have hl4 := hc4.lt
      simp (maxSteps := 1000000) (disch := first | omega | rfl | (simp only [zL, two63, room] <;> omega) | fail) only [↓reduceIte, ↓zP, zW, WOp, evOp, evBin, binI, binSh, binS, evNil, keyIs, keyEq, mkv, AV.cells, AV.sc, optv, bnd, env, put, Env.get, Env.set, Env.del, Env.dels, Env.init, res1, resL, resV, fillP, splice, newRow, Nat.reduceEqDiff, Nat.reduceLT, Nat.reduceLeDiff, Nat.reduceAdd, Nat.reduceMul, Nat.reduceSub, Nat.reduceBEq, reduceCtorEq, ↓zR, zQ, Tr, StA, StT, q76, r1, r2]
      exact hp w v out r _ hw (by omega) r3 (OwL.slc (own_set ho6 (by omega)))
    · simp (maxSteps := 1000000) (disch := first | omega | rfl | (simp only [zL, two63, room] <;> omega) | fail) only [↓reduceIte, ↓zP, zW, WOp, evOp, evBin, binI, binSh, binS, evNil, keyIs, keyEq, mkv, AV.cells, AV.sc, optv, bnd, env, put, Env.get, Env.set, Env.del, Env.dels, Env.init, res1, resL, resV, fillP, splice, newRow, Nat.reduceEqDiff, Nat.reduceLT, Nat.reduceLeDiff, Nat.reduceAdd, Nat.reduceMul, Nat.reduceSub, Nat.reduceBEq, reduceCtorEq, ↓zR, zQ, Tr, StA, StT]
      refine c_pick hc6 (by omega) 4 (by omega) ?_
      intro y1 g7 hy1 hc7 hx7
      simp (maxSteps := 1000000) (disch := first | omega | rfl | (simp only [zL, two63, room] <;> omega) | fail) only [↓reduceIte, ↓zP, zW, WOp, evOp, evBin, binI, binSh, binS, evNil, keyIs, keyEq, mkv, AV.cells, AV.sc, optv, bnd, env, put, Env.get, Env.set, Env.del, Env.dels, Env.init, res1, resL, resV, fillP, splice, newRow, Nat.reduceEqDiff, Nat.reduceLT, Nat.reduceLeDiff, Nat.reduceAdd, Nat.reduceMul, Nat.reduceSub, Nat.reduceBEq, reduceCtorEq, ↓zR, zQ, Tr, StA, StT]
      refine c_pick hc7 (by omega) 6 (by omega) ?_
      intro y2 g8 hy2 hc8 hx8
      have w1 : IntKind.i64.wrap ((y2 : Int) - 1) = (y2 : Int) - 1 := wrap_i (by omega)
      have ho8 := (ho6.x hx7 hc4.lt).x hx8 hc4.lt
      have hx78 := hx56.trans (hx7.trans hx8)
      have pB := Pre.push g8 (AO.row [.int .i64 (y1 : Nat), .int .i64 ((y2 : Int) - 1)] 0 0 false)
      obtain ⟨o2, g9, hap, ho9, hag⟩ := apA hlM scM (ho8.pre pB) (Nat.le_trans hx78.1 pB.1) ((y1 : Int), (y2 : Int) - 1) (by omega)
      have hc9 := (hc8.pre pB).ag hc4.lt hag
      have hx9 := (hx78.trans (pB.x _)).ag hag
      have q79 := rdRow_prex hx9 hn7 q74
      obtain ⟨r1, r2, r3⟩ := wr_resR (by rw [hgA]; exact hc9.done) r
      have hl4 := hc4.lt
      simp (maxSteps := 1000000) (disch := first | omega | rfl | (simp only [zL, two63, room] <;> omega) | fail) only [↓reduceIte, ↓zP, zW, WOp, evOp, evBin, binI, binSh, binS, evNil, keyIs, keyEq, mkv, AV.cells, AV.sc, optv, bnd, env, put, Env.get, Env.set, Env.del, Env.dels, Env.init, res1, resL, resV, fillP, splice, newRow, Nat.reduceEqDiff, Nat.reduceLT, Nat.reduceLeDiff, Nat.reduceAdd, Nat.reduceMul, Nat.reduceSub, Nat.reduceBEq, reduceCtorEq, ↓zR, zQ, Tr, StA, StT, w1, hap, q79, r1, r2]
      exact hp w o2 _ r _ hw (by simp; omega) r3 (OwL.slc (own_set ho9 (by omega)))
end Go.Proofs.YtejhhdpfndiliaaDoor.Ab

/- THE LAW OF MOVES made. -/
namespace Go.Proofs.YtejhhdpfndiliaaDoor.Ab
open Go
set_option maxRecDepth 100000
set_option maxHeartbeats 8000000

theorem c_yInV {v : AV} {L : List (Int × Int)} (hlen : L.length < 2 ^ 30) (i t : Int) {bb : Bool} (hb : L.contains (i, t) = bb) {h : AH} (hs : Slc 2 encM h v L) {post : AV → AH → Prop} (hp : ∀ h', Pre h h' → post (.bool bb) h') : S 15 [v, mvV i t] h post k := c_yIn hlen i t hs (by rw [hb]; exact hp)
end Go.Proofs.YtejhhdpfndiliaaDoor.Ab

/- PLAIN: moves by rules beside those of chapter 1, and back. -/
namespace Go.Proofs.YtejhhdpfndiliaaDoor.Ab
open Go

theorem rc_of_mv {w : List UInt8} {i t : Nat} (h : Mv w i t) (r : Ru) : RcP w r i t := by
  obtain ⟨h1, h2, h3, h4⟩ := h
  rcases h4 with ⟨a, b | ⟨b, c⟩⟩ | ⟨a, b | ⟨b, c⟩⟩
  · subst b
    refine ⟨h1, h2, by rw [a]; decide, h3, .inl ⟨fun _ => by omega, fun _ => a⟩, .inl ⟨by omega, by omega⟩, fun x hx hh => by omega⟩
  · subst b
    refine ⟨h1, h2, by rw [a]; decide, h3, .inl ⟨fun _ => by omega, fun _ => a⟩, .inl ⟨by omega, by omega⟩, fun x hx hh => ?_⟩
    obtain rfl : x = i + 1 := by omega
    rw [a, c]; cases r.1 <;> decide
  · subst b
    refine ⟨h1, h2, by rw [a]; decide, h3, .inl ⟨fun e => (by rw [a] at e; cases e), fun e => by omega⟩, .inl ⟨by omega, by omega⟩, fun x hx hh => by omega⟩
  · subst b
    refine ⟨h1, h2, by rw [a]; decide, h3, .inl ⟨fun e => (by rw [a] at e; cases e), fun e => by omega⟩, .inl ⟨by omega, by omega⟩, fun x hx hh => ?_⟩
    obtain rfl : x = t + 1 := by omega
    rw [show t + 2 - 1 = t + 1 by omega] at c
    rw [a, c]; cases r.1 <;> decide
theorem sign_or {b : UInt8} (h : isSign b = true) (hn : b ≠ 46) : b = 84 ∨ b = 70 := by
  unfold isSign at h
  simp only [Bool.or_eq_true, beq_iff_eq] at h
  rcases h with (h | h) | h
  · exact .inl h
  · first | exact .inr h | exact absurd h hn
  · first | exact .inr h | exact absurd h hn
theorem mv_of_rc {w : List UInt8} (hs : ∀ i, i < w.length → isSign (w.getD i 0) = true) {i t : Nat} (h : RcP w (false, false, false) i t) : Mv w i t := by
  obtain ⟨h1, h2, h3, h4, h5, h6, h7⟩ := h
  refine ⟨h1, h2, h4, ?_⟩
  have hne : i ≠ t := fun e => by rw [e] at h3; exact h3 h4
  have h5' : w.getD i 0 = 84 ↔ i < t := h5.resolve_right (by simp)
  have h6' : t ≤ i + 2 ∧ i ≤ t + 2 := h6.resolve_right (by simp)
  rcases sign_or (hs i h1) h3 with e | e
  · left
    have hit := h5'.1 e
    refine ⟨e, ?_⟩
    by_cases ht : t = i + 1
    · exact .inl ht
    · have h8 := h7 (i + 1) (by omega) (.inl ⟨by omega, by omega⟩)
      rw [e] at h8
      refine .inr ⟨by omega, ?_⟩
      have : passB 84 (w.getD (i + 1) 0) false = (w.getD (i + 1) 0 == 70) := by
        unfold passB; rw [Bool.false_and, Bool.or_false]; rfl
      simpa using this.symm.trans h8
  · right
    have hit : ¬ i < t := fun hh => by rw [h5'.2 hh] at e; cases e
    refine ⟨e, ?_⟩
    by_cases ht : t + 1 = i
    · exact .inl ht
    · have h8 := h7 (i - 1) (by omega) (.inr ⟨by omega, by omega⟩)
      rw [e] at h8
      refine .inr ⟨by omega, ?_⟩
      have : passB 70 (w.getD (i - 1) 0) false = (w.getD (i - 1) 0 == 84) := by
        unfold passB; rw [Bool.false_and, Bool.or_false]; rfl
      simpa using this.symm.trans h8
theorem lst_ext {α : Type} (r : α → α → Prop) (asy : ∀ a b, r a b → r b a → False) : ∀ {l l' : List α}, l.Pairwise r → l'.Pairwise r → (∀ x, x ∈ l ↔ x ∈ l') → l = l'
  | [], [], _, _, _ => rfl
  | [], b :: t, _, _, h => by have := (h b).2 (by simp); simp at this
  | a :: s, [], _, _, h => by have := (h a).1 (by simp); simp at this
  | a :: s, b :: t, h1, h2, h => by
    rw [List.pairwise_cons] at h1 h2
    obtain rfl : a = b := by
      have ha := (h a).1 (by simp)
      have hb := (h b).2 (by simp)
      rw [List.mem_cons] at ha hb
      rcases ha with rfl | ha
      · rfl
      · rcases hb with rfl | hb
        · rfl
        · exact (asy _ _ (h1.1 _ hb) (h2.1 _ ha)).elim
    congr 1
    refine lst_ext r asy h1.2 h2.2 fun x => ?_
    have hx := h x
    rw [List.mem_cons, List.mem_cons] at hx
    constructor
    · intro hm
      rcases hx.1 (.inr hm) with rfl | h3
      · have := h1.1 _ hm; exact (asy _ _ this this).elim
      · exact h3
    · intro hm
      rcases hx.2 (.inr hm) with rfl | h3
      · have := h2.1 _ hm; exact (asy _ _ this this).elim
      · exact h3
abbrev ltM (a b : Int × Int) : Prop := a.1 < b.1 ∨ a.1 = b.1 ∧ a.2 < b.2
theorem mvR_none {w : List UInt8} (hs : ∀ i, i < w.length → isSign (w.getD i 0) = true) : mvR w (false, false, false) = movesB w [84, 70] := by
  refine lst_ext ltM (fun a b h1 h2 => by rcases h1 with h1 | h1 <;> rcases h2 with h2 | h2 <;> omega) (mvR_sorted w _) ((moves_sorted w _).imp fun h => .inl h) fun m => ?_
  rw [mem_mvR]
  constructor
  · rintro ⟨i, t, rfl, h⟩
    have hm := mv_of_rc hs h
    refine mem_moves.2 ⟨hm, ?_⟩
    rcases hm.2.2.2 with ⟨e, _⟩ | ⟨e, _⟩ <;> rw [e] <;> decide
  · intro h
    obtain ⟨i, t, rfl, hm⟩ := movesB_mv h
    exact ⟨i, t, rfl, rc_of_mv hm _⟩
theorem mvR_has_plain {w : List UInt8} {m : Int × Int} (h : m ∈ movesB w [84, 70]) (r : Ru) : (mvR w r).contains m = true := by
  obtain ⟨i, t, rfl, hm⟩ := movesB_mv h
  rw [List.contains_iff_mem, mem_mvR]
  exact ⟨i, t, rfl, rc_of_mv hm r⟩
theorem pass_mono {b c : UInt8} {own : Bool} (h : passB b c own = true) : passB b c true = true := by
  unfold passB at h ⊢
  cases own
  · rw [Bool.false_and, Bool.or_false] at h
    rw [h]; rfl
  · exact h
theorem rc_all {w : List UInt8} {r : Ru} {i t : Nat} (h : RcP w r i t) : RcP w (true, true, true) i t := by
  obtain ⟨h1, h2, h3, h4, h5, h6, h7⟩ := h
  exact ⟨h1, h2, h3, h4, .inr rfl, .inr rfl, fun x hx hh => pass_mono (h7 x hx hh)⟩
theorem mvR_all {w : List UInt8} {r : Ru} {i t : Nat} (h : RcP w r i t) : (mvR w (true, true, true)).contains (((i : Int), (t : Int)) : Int × Int) = true := by
  rw [List.contains_iff_mem, mem_mvR]
  exact ⟨i, t, rfl, rc_all h⟩
theorem made_at {w : List UInt8} {i t : Nat} (hi : i < w.length) (ht : t < w.length) (x : Nat) : (madeB w i t).getD x 0 = if x = i then 46 else if x = t then w.getD i 0 else w.getD x 0 := by
  unfold madeB
  rw [List.getD_eq_getElem?_getD, List.getElem?_set]
  by_cases e : i = x
  · subst e
    rw [if_pos rfl, if_pos (by simpa using hi), if_pos rfl]; rfl
  · rw [if_neg e, if_neg (Ne.symm e), List.getElem?_set]
    by_cases e2 : t = x
    · subst e2
      rw [if_pos rfl, if_pos ht, if_pos rfl]; rfl
    · rw [if_neg e2, if_neg (Ne.symm e2), List.getD_eq_getElem?_getD]
theorem getD_ext {l l' : List UInt8} (hl : l.length = l'.length) (h : ∀ x, x < l.length → l.getD x 0 = l'.getD x 0) : l = l' := by
  refine List.ext_getElem hl fun n h1 h2 => ?_
  have := h n h1
  rw [List.getD_eq_getElem?_getD, List.getD_eq_getElem?_getD, List.getElem?_eq_getElem h1, List.getElem?_eq_getElem h2] at this
  simpa using this
theorem rc_back {w : List UInt8} {r : Ru} {i t : Nat} (h : RcP w r i t) (hb : r.2.1 = true) : RcP (madeB w i t) r t i ∧ madeB (madeB w i t) t i = w := by
  obtain ⟨h1, h2, h3, h4, h5, h6, h7⟩ := h
  have hne : i ≠ t := fun e => by rw [e] at h3; exact h3 h4
  have hl := madeB_length w i t
  have at_i : (madeB w i t).getD i 0 = 46 := by rw [made_at h1 h2, if_pos rfl]
  have at_t : (madeB w i t).getD t 0 = w.getD i 0 := by rw [made_at h1 h2, if_neg (Ne.symm hne), if_pos rfl]
  have at_x : ∀ x, x ≠ i → x ≠ t → (madeB w i t).getD x 0 = w.getD x 0 := fun x a b => by rw [made_at h1 h2, if_neg a, if_neg b]
  refine ⟨⟨by omega, by omega, by rw [at_t]; exact h3, at_i, .inr hb, h6.imp (fun a => ⟨a.2, a.1⟩) id, fun x hx hh => ?_⟩, ?_⟩
  · rw [at_t, at_x x (by omega) (by omega)]
    exact h7 x (by omega) (by omega)
  · refine getD_ext (by rw [madeB_length, madeB_length]) fun x hx => ?_
    rw [made_at (by omega) (by omega), at_t]
    by_cases e : x = t
    · subst e; rw [if_pos rfl, h4]
    · rw [if_neg e]
      by_cases e2 : x = i
      · subst e2; rw [if_pos rfl]
      · rw [if_neg e2, at_x x e2 e]
end Go.Proofs.YtejhhdpfndiliaaDoor.Ab
