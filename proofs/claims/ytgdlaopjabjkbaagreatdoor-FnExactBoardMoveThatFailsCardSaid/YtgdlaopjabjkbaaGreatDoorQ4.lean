/- Part 5 of the proof of a law of the given program: the rules that it leans on, and what the functions that it reaches answer; the conditions stand with each theorem. -/
import Derived.Lib.Join
import Derived.Test.YtgdlaopjabjkbaaGreatDoorQ3
set_option linter.unusedSimpArgs false
set_option linter.unusedVariables false
/- BOARDS, as the reference reads them: texts parted, rows, cells, moves that can be made. -/
namespace Go.Proofs.YtgdlaopjabjkbaaGreatDoor.Ab
open Go
set_option maxRecDepth 100000
set_option maxHeartbeats 4000000

/-- One element of a slice of texts. -/
theorem Slc.idxS {h : AH} {c kk off n e : Nat} {L : List (List UInt8)} (hs : Slc 1 encS h (.slice c kk off n e) L) {i : Nat} (hi : i < L.length) : rdRow h c kk (off + i * 1) 1 = some [.str (L.getD i [])] := by
  have hL : L = L.take i ++ L[i] :: L.drop (i + 1) := by
    have := (List.take_append_drop i L).symm
    rwa [List.drop_eq_getElem_cons hi] at this
  have h1 : L.getD i [] = L[i] := by simp [List.getD_eq_getElem?_getD, hi]
  rw [h1]
  rw [hL] at hs
  have := hs.rd hlS
  rw [List.length_take, Nat.min_eq_left (by omega)] at this
  exact this
theorem Slc.isS {h : AH} {v : AV} {L : List (List UInt8)} (hs : Slc 1 encS h v L) (hl : 0 < L.length) : ∃ c kk off, v = .slice c kk off L.length 1 := by
  rcases hs.cases with ⟨_, h0⟩ | ⟨_, h0⟩ | h0
  · rw [h0] at hl; simp at hl
  · rw [h0] at hl; simp at hl
  · exact h0

theorem lp_l1Split (s : List UInt8) (c : UInt8) (hs : s.length < 2 ^ 30) (h0 : AH) {R : X → Env → AH → Prop} : ∀ (d i fr : Nat) (o : AV) (L : List (List UInt8)) (h : AH), i + d = s.length → fr ≤ i → L.length ≤ i → OwL 1 encS h0 h o L → Pre h0 h →
    (∀ o' h' L' fr', OwL 1 encS h0 h' o' L' → Pre h0 h' → fr' ≤ s.length → L'.length ≤ s.length → L' ++ [s.drop fr'] = L ++ splA c ((s.drop fr).take (i - fr)) (s.drop i) → R (.exit 0) [(0, .str s), (5, o'), (6, .int .i64 fr')] h') →
    Cx (.loop lp337_0) [(0, .str s), (1, by8 c), (5, o), (6, .int .i64 fr), (7, .int .i64 i)] h R k k := by
  intro d
  induction d with
  | zero =>
    intro i fr o L h hi hfr hLi ho hp hR
    obtain rfl : i = s.length := by omega
    rw [w_loopb (c := lp337_0) (d := lb337_0) rfl]; unfold lb337_0
    simp (maxSteps := 1000000) (disch := first | omega | rfl | (simp only [zL, two63, room] <;> omega) | fail) only [↓reduceIte, ↓zP, zW, WOp, evOp, evBin, binI, binSh, binS, evNil, keyIs, keyEq, mkv, AV.cells, AV.sc, optv, bnd, env, put, Env.get, Env.set, Env.del, Env.dels, Env.init, res1, resL, resV, fillP, splice, newRow, Nat.reduceEqDiff, Nat.reduceLT, Nat.reduceLeDiff, Nat.reduceAdd, Nat.reduceMul, Nat.reduceSub, Nat.reduceBEq, reduceCtorEq, ↓zR, zQ, Tr, StA, StT]
    refine hR o h L fr ho hp hfr hLi ?_
    rw [List.drop_length]
    unfold splA
    rw [List.take_of_length_le (by simp)]
  | succ d ih =>
    intro i fr o L h hi hfr hLi ho hp hR
    have hlt : (i : Int) < (s.length : Int) := by omega
    have hw1 : IntKind.i64.wrap ((i : Int) + 1) = ((i + 1 : Nat) : Int) := by rw [IntKind.wrap_i64]; omega
    have hdrop : s.drop i = s.getD i 0 :: s.drop (i + 1) := by
      rw [List.drop_eq_getElem_cons (by omega)]; simp [List.getD_eq_getElem?_getD, show i < s.length by omega]
    have hsn : (s.drop fr).take (i + 1 - fr) = (s.drop fr).take (i - fr) ++ [s.getD i 0] := by
      rw [show i + 1 - fr = (i - fr) + 1 by omega, List.take_add_one, List.getElem?_drop, show fr + (i - fr) = i by omega]
      simp [List.getD_eq_getElem?_getD, show i < s.length by omega]
    rw [w_loopb (c := lp337_0) (d := lb337_0) rfl]; unfold lb337_0
    cases e : (s.getD i 0 == c)
    · simp (maxSteps := 1000000) (disch := first | omega | rfl | (simp only [zL, two63, room] <;> omega) | fail) only [↓reduceIte, ↓zP, zW, WOp, evOp, evBin, binI, binSh, binS, evNil, keyIs, keyEq, mkv, AV.cells, AV.sc, optv, bnd, env, put, Env.get, Env.set, Env.del, Env.dels, Env.init, res1, resL, resV, fillP, splice, newRow, Nat.reduceEqDiff, Nat.reduceLT, Nat.reduceLeDiff, Nat.reduceAdd, Nat.reduceMul, Nat.reduceSub, Nat.reduceBEq, reduceCtorEq, ↓zR, zQ, Tr, StA, StT, hlt, e, hw1]
      rw [w_loopn (c := lp337_0) rfl]
      simp (maxSteps := 1000000) (disch := first | omega | rfl | (simp only [zL, two63, room] <;> omega) | fail) only [↓reduceIte, ↓zP, zW, WOp, evOp, evBin, binI, binSh, binS, evNil, keyIs, keyEq, mkv, AV.cells, AV.sc, optv, bnd, env, put, Env.get, Env.set, Env.del, Env.dels, Env.init, res1, resL, resV, fillP, splice, newRow, Nat.reduceEqDiff, Nat.reduceLT, Nat.reduceLeDiff, Nat.reduceAdd, Nat.reduceMul, Nat.reduceSub, Nat.reduceBEq, reduceCtorEq, ↓zR, zQ, Tr, StA, StT]
      refine ih (i + 1) fr o L h (by omega) (by omega) (by omega) ho hp ?_
      intro o' h' L' fr' q1 q2 q3 q4 q5
      refine hR o' h' L' fr' q1 q2 q3 q4 ?_
      rw [q5, hdrop, hsn]
      rw [splA_cons, if_neg (by simpa using e)]
    · have hec : s.getD i 0 = c := by simpa using e
      have hle : (fr : Int) ≤ (i : Int) := by omega
      have hle2 : (i : Int) ≤ (s.length : Int) := by omega
      simp (maxSteps := 1000000) (disch := first | omega | rfl | (simp only [zL, two63, room] <;> omega) | fail) only [↓reduceIte, ↓zP, zW, WOp, evOp, evBin, binI, binSh, binS, evNil, keyIs, keyEq, mkv, AV.cells, AV.sc, optv, bnd, env, put, Env.get, Env.set, Env.del, Env.dels, Env.init, res1, resL, resV, fillP, splice, newRow, Nat.reduceEqDiff, Nat.reduceLT, Nat.reduceLeDiff, Nat.reduceAdd, Nat.reduceMul, Nat.reduceSub, Nat.reduceBEq, reduceCtorEq, ↓zR, zQ, Tr, StA, StT, hlt, e, hw1]
      generalize hA : h ++ [AO.row [.str ((s.drop fr).take (i - fr))] 0 0 false] = gA
      have pA : Pre h gA := hA ▸ Pre.push _ _
      have rA : rdRow gA h.length 0 0 1 = some [.str ((s.drop fr).take (i - fr))] := by rw [← hA]; simp (maxSteps := 1000000) (disch := first | omega | rfl | (simp only [zL, two63, room] <;> omega) | fail) only [↓reduceIte, ↓zP, zW, WOp, evOp, evBin, binI, binSh, binS, evNil, keyIs, keyEq, mkv, AV.cells, AV.sc, optv, bnd, env, put, Env.get, Env.set, Env.del, Env.dels, Env.init, res1, resL, resV, fillP, splice, newRow, Nat.reduceEqDiff, Nat.reduceLT, Nat.reduceLeDiff, Nat.reduceAdd, Nat.reduceMul, Nat.reduceSub, Nat.reduceBEq, reduceCtorEq, ↓zR, zQ, Tr, StA, StT]
      obtain ⟨o', h', apB, owB, pB⟩ := apL hlS scS (ho.pre pA) (hp.trans pA) ((s.drop fr).take (i - fr)) (by omega)
      simp (maxSteps := 1000000) (disch := first | omega | rfl | (simp only [zL, two63, room] <;> omega) | fail) only [↓reduceIte, ↓zP, zW, WOp, evOp, evBin, binI, binSh, binS, evNil, keyIs, keyEq, mkv, AV.cells, AV.sc, optv, bnd, env, put, Env.get, Env.set, Env.del, Env.dels, Env.init, res1, resL, resV, fillP, splice, newRow, Nat.reduceEqDiff, Nat.reduceLT, Nat.reduceLeDiff, Nat.reduceAdd, Nat.reduceMul, Nat.reduceSub, Nat.reduceBEq, reduceCtorEq, ↓zR, zQ, Tr, StA, StT, rA, apB, hw1]
      rw [w_loopn (c := lp337_0) rfl]
      simp (maxSteps := 1000000) (disch := first | omega | rfl | (simp only [zL, two63, room] <;> omega) | fail) only [↓reduceIte, ↓zP, zW, WOp, evOp, evBin, binI, binSh, binS, evNil, keyIs, keyEq, mkv, AV.cells, AV.sc, optv, bnd, env, put, Env.get, Env.set, Env.del, Env.dels, Env.init, res1, resL, resV, fillP, splice, newRow, Nat.reduceEqDiff, Nat.reduceLT, Nat.reduceLeDiff, Nat.reduceAdd, Nat.reduceMul, Nat.reduceSub, Nat.reduceBEq, reduceCtorEq, ↓zR, zQ, Tr, StA, StT]
      refine ih (i + 1) (i + 1) o' _ h' (by omega) (by omega) (by simp; omega) owB pB ?_
      intro o2 h2 L2 fr2 q1 q2 q3 q4 q5
      refine hR o2 h2 L2 fr2 q1 q2 q3 q4 ?_
      rw [q5, hdrop, List.append_assoc]
      rw [splA_cons, if_pos hec, Nat.sub_self, List.take_zero]
      rfl
theorem c_l1Split (s : List UInt8) (c : UInt8) (hs : s.length < 2 ^ 30) {h : AH} {post : AV → AH → Prop} (hp : ∀ v h', OwL 1 encS h h' v (splA c [] s) → Pre h h' → post v h') : S 337 [.str s, by8 c] h post k := by
  refine S_of rfl T337 ?_; unfold fi337
  simp (maxSteps := 1000000) (disch := first | omega | rfl | (simp only [zL, two63, room] <;> omega) | fail) only [↓reduceIte, ↓zP, zW, WOp, evOp, evBin, binI, binSh, binS, evNil, keyIs, keyEq, mkv, AV.cells, AV.sc, optv, bnd, env, put, Env.get, Env.set, Env.del, Env.dels, Env.init, res1, resL, resV, fillP, splice, newRow, Nat.reduceEqDiff, Nat.reduceLT, Nat.reduceLeDiff, Nat.reduceAdd, Nat.reduceMul, Nat.reduceSub, Nat.reduceBEq, reduceCtorEq, ↓zR, zQ, Tr, StA, StT]
  refine lp_l1Split s c hs h s.length 0 0 .nilS [] h (by omega) (Nat.le_refl _) (by simp) OwL.nil (Pre.refl h) ?_
  intro o' h' L' fr' ho hp' hfr hL he
  have hle : (fr' : Int) ≤ (s.length : Int) := by omega
  have htk : (s.drop fr').take (s.length - fr') = s.drop fr' := List.take_of_length_le (by simp)
  simp (maxSteps := 1000000) (disch := first | omega | rfl | (simp only [zL, two63, room] <;> omega) | fail) only [↓reduceIte, ↓zP, zW, WOp, evOp, evBin, binI, binSh, binS, evNil, keyIs, keyEq, mkv, AV.cells, AV.sc, optv, bnd, env, put, Env.get, Env.set, Env.del, Env.dels, Env.init, res1, resL, resV, fillP, splice, newRow, Nat.reduceEqDiff, Nat.reduceLT, Nat.reduceLeDiff, Nat.reduceAdd, Nat.reduceMul, Nat.reduceSub, Nat.reduceBEq, reduceCtorEq, ↓zR, zQ, Tr, StA, StT, htk]
  generalize hA : h' ++ [AO.row [.str (s.drop fr')] 0 0 false] = gA
  have pA : Pre h' gA := hA ▸ Pre.push _ _
  have rA : rdRow gA h'.length 0 0 1 = some [.str (s.drop fr')] := by rw [← hA]; simp (maxSteps := 1000000) (disch := first | omega | rfl | (simp only [zL, two63, room] <;> omega) | fail) only [↓reduceIte, ↓zP, zW, WOp, evOp, evBin, binI, binSh, binS, evNil, keyIs, keyEq, mkv, AV.cells, AV.sc, optv, bnd, env, put, Env.get, Env.set, Env.del, Env.dels, Env.init, res1, resL, resV, fillP, splice, newRow, Nat.reduceEqDiff, Nat.reduceLT, Nat.reduceLeDiff, Nat.reduceAdd, Nat.reduceMul, Nat.reduceSub, Nat.reduceBEq, reduceCtorEq, ↓zR, zQ, Tr, StA, StT]
  obtain ⟨o2, h2, apB, owB, pB⟩ := apL hlS scS (ho.pre pA) (hp'.trans pA) (s.drop fr') (by omega)
  simp (maxSteps := 1000000) (disch := first | omega | rfl | (simp only [zL, two63, room] <;> omega) | fail) only [↓reduceIte, ↓zP, zW, WOp, evOp, evBin, binI, binSh, binS, evNil, keyIs, keyEq, mkv, AV.cells, AV.sc, optv, bnd, env, put, Env.get, Env.set, Env.del, Env.dels, Env.init, res1, resL, resV, fillP, splice, newRow, Nat.reduceEqDiff, Nat.reduceLT, Nat.reduceLeDiff, Nat.reduceAdd, Nat.reduceMul, Nat.reduceSub, Nat.reduceBEq, reduceCtorEq, ↓zR, zQ, Tr, StA, StT, rA, apB]
  refine hp o2 h2 ?_ pB
  rw [he] at owB
  simpa using owB

/-! ### Rows of a board -/
def rowOK (w : Nat) (r : List UInt8) : Bool := goodLine r && (decide (r.length ≤ 5) && decide (r.length = w))
def boOK (b : List UInt8) : Bool := decide (b.length ≤ 40) && (decide (1 ≤ (spl b).length ∧ (spl b).length ≤ 5) && (spl b).all (rowOK ((spl b).getD 0 []).length))
theorem lp_boRows {b : AH} {v : AV} {L : List (List UInt8)} (hL1 : 1 ≤ L.length) (hL5 : L.length ≤ 5) (hb : ∀ r ∈ L, r.length < 2 ^ 30) (hs : Slc 1 encS b v L) {R : X → Env → AH → Prop} : ∀ (rest pre : List (List UInt8)), L = pre ++ rest →
    (rest.all (rowOK (L.getD 0 []).length) = true → R (.exit 0) [(4, v)] b) → (rest.all (rowOK (L.getD 0 []).length) = false → R .ret [(2, .nilS), (3, .bool false)] b) →
    Cx (.loop lp328_0) [(4, v), (16, v), (17, .int .i64 L.length), (18, .int .i64 pre.length)] b R k k
  | [], pre, hL, h1, h2 => by
    rw [w_loopb (c := lp328_0) (d := lb328_0) rfl]; unfold lb328_0
    have hl : L.length = pre.length := by rw [hL]; simp
    rw [hl]
    simp (maxSteps := 1000000) (disch := first | omega | rfl | (simp only [zL, two63, room] <;> omega) | fail) only [↓reduceIte, ↓zP, zW, WOp, evOp, evBin, binI, binSh, binS, evNil, keyIs, keyEq, mkv, AV.cells, AV.sc, optv, bnd, env, put, Env.get, Env.set, Env.del, Env.dels, Env.init, res1, resL, resV, fillP, splice, newRow, Nat.reduceEqDiff, Nat.reduceLT, Nat.reduceLeDiff, Nat.reduceAdd, Nat.reduceMul, Nat.reduceSub, Nat.reduceBEq, reduceCtorEq, ↓zR, zQ, Tr, StA, StT]
    exact h1 rfl
  | x :: rest, pre, hL, h1, h2 => by
    have ih := lp_boRows hL1 hL5 hb hs (R := R) rest (pre ++ [x])
    have hxb := hb x (by rw [hL]; simp)
    have hl : L.length = pre.length + 1 + rest.length := by rw [hL]; simp; omega
    have hs' := hs
    rw [hL] at hs'
    obtain ⟨c, kk, off, rfl, hr⟩ := hs'.at hlS
    rw [← hL, hl] at ih h1 ⊢
    have hr0 := (show Slc 1 encS b (.slice c kk off (pre.length + 1 + rest.length) 1) L by rw [← hl]; rw [← hL] at hs'; exact hs').idxS (i := 0) (by omega)
    rw [Nat.zero_mul, Nat.add_zero] at hr0
    have hlt : (pre.length : Int) < ((pre.length + 1 + rest.length : Nat) : Int) := by omega
    have h0lt : (0 : Int) < ((pre.length + 1 + rest.length : Nat) : Int) := by omega
    have hw1 : (pre.length : Int) + 1 = ((pre ++ [x]).length : Int) := by simp
    have hra : rowOK (L.getD 0 []).length x = (goodLine x && (decide (x.length ≤ 5) && decide (x.length = (L.getD 0 []).length))) := rfl
    rw [w_loopb (c := lp328_0) (d := lb328_0) rfl]; unfold lb328_0
    simp (maxSteps := 1000000) (disch := first | omega | rfl | (simp only [zL, two63, room] <;> omega) | fail) only [↓reduceIte, ↓zP, zW, WOp, evOp, evBin, binI, binSh, binS, evNil, keyIs, keyEq, mkv, AV.cells, AV.sc, optv, bnd, env, put, Env.get, Env.set, Env.del, Env.dels, Env.init, res1, resL, resV, fillP, splice, newRow, Nat.reduceEqDiff, Nat.reduceLT, Nat.reduceLeDiff, Nat.reduceAdd, Nat.reduceMul, Nat.reduceSub, Nat.reduceBEq, reduceCtorEq, ↓zR, zQ, Tr, StA, StT, hlt, hr]
    refine c_liGood x (by omega) ?_
    cases e1 : goodLine x
    · simp (maxSteps := 1000000) (disch := first | omega | rfl | (simp only [zL, two63, room] <;> omega) | fail) only [↓reduceIte, ↓zP, zW, WOp, evOp, evBin, binI, binSh, binS, evNil, keyIs, keyEq, mkv, AV.cells, AV.sc, optv, bnd, env, put, Env.get, Env.set, Env.del, Env.dels, Env.init, res1, resL, resV, fillP, splice, newRow, Nat.reduceEqDiff, Nat.reduceLT, Nat.reduceLeDiff, Nat.reduceAdd, Nat.reduceMul, Nat.reduceSub, Nat.reduceBEq, reduceCtorEq, ↓zR, zQ, Tr, StA, StT]
      exact h2 (by rw [List.all_cons, hra, e1]; rfl)
    · by_cases e2 : x.length ≤ 5
      · have e2' : (x.length : Int) ≤ 5 := by omega
        by_cases e3 : x.length = (L.getD 0 []).length
        · have e3' : (x.length : Int) = ((L.getD 0 []).length : Int) := by omega
          simp (maxSteps := 1000000) (disch := first | omega | rfl | (simp only [zL, two63, room] <;> omega) | fail) only [↓reduceIte, ↓zP, zW, WOp, evOp, evBin, binI, binSh, binS, evNil, keyIs, keyEq, mkv, AV.cells, AV.sc, optv, bnd, env, put, Env.get, Env.set, Env.del, Env.dels, Env.init, res1, resL, resV, fillP, splice, newRow, Nat.reduceEqDiff, Nat.reduceLT, Nat.reduceLeDiff, Nat.reduceAdd, Nat.reduceMul, Nat.reduceSub, Nat.reduceBEq, reduceCtorEq, ↓zR, zQ, Tr, StA, StT, e2', h0lt, hr0, Nat.zero_mul, Int.toNat_zero, Nat.add_zero, e3', hw1]
          rw [w_loopn (c := lp328_0) rfl]
          simp (maxSteps := 1000000) (disch := first | omega | rfl | (simp only [zL, two63, room] <;> omega) | fail) only [↓reduceIte, ↓zP, zW, WOp, evOp, evBin, binI, binSh, binS, evNil, keyIs, keyEq, mkv, AV.cells, AV.sc, optv, bnd, env, put, Env.get, Env.set, Env.del, Env.dels, Env.init, res1, resL, resV, fillP, splice, newRow, Nat.reduceEqDiff, Nat.reduceLT, Nat.reduceLeDiff, Nat.reduceAdd, Nat.reduceMul, Nat.reduceSub, Nat.reduceBEq, reduceCtorEq, ↓zR, zQ, Tr, StA, StT]
          refine ih (by rw [hL]; simp) (fun q => h1 ?_) (fun q => h2 ?_)
          · rw [List.all_cons, hra, e1, q, decide_eq_true e2, decide_eq_true e3]; rfl
          · rw [List.all_cons, q]; exact Bool.and_false _
        · have e3' : (x.length : Int) ≠ ((L.getD 0 []).length : Int) := by omega
          simp (maxSteps := 1000000) (disch := first | omega | rfl | (simp only [zL, two63, room] <;> omega) | fail) only [↓reduceIte, ↓zP, zW, WOp, evOp, evBin, binI, binSh, binS, evNil, keyIs, keyEq, mkv, AV.cells, AV.sc, optv, bnd, env, put, Env.get, Env.set, Env.del, Env.dels, Env.init, res1, resL, resV, fillP, splice, newRow, Nat.reduceEqDiff, Nat.reduceLT, Nat.reduceLeDiff, Nat.reduceAdd, Nat.reduceMul, Nat.reduceSub, Nat.reduceBEq, reduceCtorEq, ↓zR, zQ, Tr, StA, StT, e2', h0lt, hr0, Nat.zero_mul, Int.toNat_zero, Nat.add_zero, e3']
          exact h2 (by rw [List.all_cons, hra, decide_eq_false e3]; simp)
      · have e2' : (x.length : Int) > 5 := by omega
        simp (maxSteps := 1000000) (disch := first | omega | rfl | (simp only [zL, two63, room] <;> omega) | fail) only [↓reduceIte, ↓zP, zW, WOp, evOp, evBin, binI, binSh, binS, evNil, keyIs, keyEq, mkv, AV.cells, AV.sc, optv, bnd, env, put, Env.get, Env.set, Env.del, Env.dels, Env.init, res1, resL, resV, fillP, splice, newRow, Nat.reduceEqDiff, Nat.reduceLT, Nat.reduceLeDiff, Nat.reduceAdd, Nat.reduceMul, Nat.reduceSub, Nat.reduceBEq, reduceCtorEq, ↓zR, zQ, Tr, StA, StT, e2']
        exact h2 (by rw [List.all_cons, hra, decide_eq_false e2]; simp)
theorem mem_flat_len {r : List UInt8} : ∀ {L : List (List UInt8)}, r ∈ L → r.length ≤ L.flatten.length
  | [], h => by simp at h
  | x :: L, h => by
    rw [List.flatten_cons, List.length_append]
    rcases List.mem_cons.1 h with rfl | h
    · omega
    · have := mem_flat_len h; omega
theorem spl_elem_len (b : List UInt8) {r : List UInt8} (hr : r ∈ spl b) : r.length ≤ b.length := by
  have h1 := spl_len b
  have h2 : r.length ≤ (spl b).flatten.length := mem_flat_len hr
  have h3 : 0 < (spl b).length := by
    cases h : spl b with
    | nil => rw [h] at hr; simp at hr
    | cons a l => simp
  omega
theorem c_boRows (b : List UInt8) (hb : b.length < 2 ^ 30) {h : AH} {post : AV → AH → Prop} (h1 : boOK b = true → ∀ v h', OwL 1 encS h h' v (spl b) → Pre h h' → post (.tup [v, .bool true]) h') (h2 : boOK b = false → ∀ h', Pre h h' → post (.tup [.nilS, .bool false]) h') : S 328 [.str b] h post k := by
  refine S_of rfl T328 ?_; unfold fi328
  by_cases e1 : b.length ≤ 40
  · have e1' : (b.length : Int) ≤ 40 := by omega
    simp (maxSteps := 1000000) (disch := first | omega | rfl | (simp only [zL, two63, room] <;> omega) | fail) only [↓reduceIte, ↓zP, zW, WOp, evOp, evBin, binI, binSh, binS, evNil, keyIs, keyEq, mkv, AV.cells, AV.sc, optv, bnd, env, put, Env.get, Env.set, Env.del, Env.dels, Env.init, res1, resL, resV, fillP, splice, newRow, Nat.reduceEqDiff, Nat.reduceLT, Nat.reduceLeDiff, Nat.reduceAdd, Nat.reduceMul, Nat.reduceSub, Nat.reduceBEq, reduceCtorEq, ↓zR, zQ, Tr, StA, StT, e1']
    refine c_l1Split b 47 hb ?_
    intro v h' ho hp
    have ho' : OwL 1 encS h h' v (spl b) := ho
    have hv := fun g => Slc.lenV (ho'.slc) (g := g) (ρ := fun _ => _) (x := .t 0) rfl; simp only [evOp] at hv
    simp (maxSteps := 1000000) (disch := first | omega | rfl | (simp only [zL, two63, room] <;> omega) | fail) only [↓reduceIte, ↓zP, zW, WOp, evOp, evBin, binI, binSh, binS, evNil, keyIs, keyEq, mkv, AV.cells, AV.sc, optv, bnd, env, put, Env.get, Env.set, Env.del, Env.dels, Env.init, res1, resL, resV, fillP, splice, newRow, Nat.reduceEqDiff, Nat.reduceLT, Nat.reduceLeDiff, Nat.reduceAdd, Nat.reduceMul, Nat.reduceSub, Nat.reduceBEq, reduceCtorEq, ↓zR, zQ, Tr, StA, StT, hv, e_l1In]
    have hspl : (spl b).length = b.count 47 + 1 := spl_count b
    by_cases e2 : 1 ≤ (spl b).length ∧ (spl b).length ≤ 5
    · have e2' : (1 : Int) ≤ ((spl b).length : Int) ∧ ((spl b).length : Int) ≤ 5 := by omega
      simp (maxSteps := 1000000) (disch := first | omega | rfl | (simp only [zL, two63, room] <;> omega) | fail) only [↓reduceIte, ↓zP, zW, WOp, evOp, evBin, binI, binSh, binS, evNil, keyIs, keyEq, mkv, AV.cells, AV.sc, optv, bnd, env, put, Env.get, Env.set, Env.del, Env.dels, Env.init, res1, resL, resV, fillP, splice, newRow, Nat.reduceEqDiff, Nat.reduceLT, Nat.reduceLeDiff, Nat.reduceAdd, Nat.reduceMul, Nat.reduceSub, Nat.reduceBEq, reduceCtorEq, ↓zR, zQ, Tr, StA, StT, e2', hv]
      refine lp_boRows e2.1 e2.2 (fun r hr => Nat.lt_of_le_of_lt (spl_elem_len b hr) hb) ho'.slc (spl b) [] rfl ?_ ?_
      · intro q
        simp (maxSteps := 1000000) (disch := first | omega | rfl | (simp only [zL, two63, room] <;> omega) | fail) only [↓reduceIte, ↓zP, zW, WOp, evOp, evBin, binI, binSh, binS, evNil, keyIs, keyEq, mkv, AV.cells, AV.sc, optv, bnd, env, put, Env.get, Env.set, Env.del, Env.dels, Env.init, res1, resL, resV, fillP, splice, newRow, Nat.reduceEqDiff, Nat.reduceLT, Nat.reduceLeDiff, Nat.reduceAdd, Nat.reduceMul, Nat.reduceSub, Nat.reduceBEq, reduceCtorEq, ↓zR, zQ, Tr, StA, StT]
        exact h1 (by unfold boOK; rw [q, decide_eq_true e1, decide_eq_true e2]; rfl) v h' ho' hp
      · intro q
        simp (maxSteps := 1000000) (disch := first | omega | rfl | (simp only [zL, two63, room] <;> omega) | fail) only [↓reduceIte, ↓zP, zW, WOp, evOp, evBin, binI, binSh, binS, evNil, keyIs, keyEq, mkv, AV.cells, AV.sc, optv, bnd, env, put, Env.get, Env.set, Env.del, Env.dels, Env.init, res1, resL, resV, fillP, splice, newRow, Nat.reduceEqDiff, Nat.reduceLT, Nat.reduceLeDiff, Nat.reduceAdd, Nat.reduceMul, Nat.reduceSub, Nat.reduceBEq, reduceCtorEq, ↓zR, zQ, Tr, StA, StT]
        exact h2 (by unfold boOK; rw [q]; simp) h' hp
    · have e2' : ¬ ((1 : Int) ≤ ((spl b).length : Int) ∧ ((spl b).length : Int) ≤ 5) := by omega
      simp (maxSteps := 1000000) (disch := first | omega | rfl | (simp only [zL, two63, room] <;> omega) | fail) only [↓reduceIte, ↓zP, zW, WOp, evOp, evBin, binI, binSh, binS, evNil, keyIs, keyEq, mkv, AV.cells, AV.sc, optv, bnd, env, put, Env.get, Env.set, Env.del, Env.dels, Env.init, res1, resL, resV, fillP, splice, newRow, Nat.reduceEqDiff, Nat.reduceLT, Nat.reduceLeDiff, Nat.reduceAdd, Nat.reduceMul, Nat.reduceSub, Nat.reduceBEq, reduceCtorEq, ↓zR, zQ, Tr, StA, StT, e2']
      exact h2 (by unfold boOK; rw [decide_eq_false e2]; simp) h' hp
  · have e1' : (b.length : Int) > 40 := by omega
    simp (maxSteps := 1000000) (disch := first | omega | rfl | (simp only [zL, two63, room] <;> omega) | fail) only [↓reduceIte, ↓zP, zW, WOp, evOp, evBin, binI, binSh, binS, evNil, keyIs, keyEq, mkv, AV.cells, AV.sc, optv, bnd, env, put, Env.get, Env.set, Env.del, Env.dels, Env.init, res1, resL, resV, fillP, splice, newRow, Nat.reduceEqDiff, Nat.reduceLT, Nat.reduceLeDiff, Nat.reduceAdd, Nat.reduceMul, Nat.reduceSub, Nat.reduceBEq, reduceCtorEq, ↓zR, zQ, Tr, StA, StT, e1']
    exact h2 (by unfold boOK; rw [decide_eq_false e1]; rfl) h (Pre.refl h)

/-! ### Cells of a board -/
structure Bd (rs : List (List UInt8)) (w h : Nat) : Prop where
  len : rs.length = h
  h1 : 1 ≤ h
  h5 : h ≤ 5
  w1 : 1 ≤ w
  w5 : w ≤ 5
  row : ∀ r ∈ rs, r.length = w ∧ r.all isSign = true
theorem rows_get {w : Nat} : ∀ {rs : List (List UInt8)}, (∀ r ∈ rs, r.length = w) → ∀ {y x : Nat}, y < rs.length → x < w → (rs.getD y []).getD x 0 = rs.flatten.getD (y * w + x) 0
  | [], _, y, x, hy, _ => by simp at hy
  | r :: rs, hr, y, x, hy, hx => by
    have h1 := hr r (by simp)
    cases y with
    | zero => simp [List.getD_eq_getElem?_getD, List.getElem?_append_left (show x < r.length by omega)]
    | succ y =>
      have ih := rows_get (rs := rs) (fun q hq => hr q (by simp [hq])) (y := y) (x := x) (by simpa using hy) hx
      have e : (y + 1) * w + x = r.length + (y * w + x) := by rw [h1, Nat.add_mul, Nat.one_mul]; omega
      rw [List.flatten_cons, e]
      simp only [List.getD_eq_getElem?_getD, List.getElem?_cons_succ] at ih ⊢
      rw [List.getElem?_append_right (by omega), Nat.add_sub_cancel_left]
      exact ih
theorem rows_len {w : Nat} : ∀ {rs : List (List UInt8)}, (∀ r ∈ rs, r.length = w) → rs.flatten.length = w * rs.length
  | [], _ => by simp
  | r :: rs, hr => by
    rw [List.flatten_cons, List.length_append, rows_len (rs := rs) (fun q hq => hr q (by simp [hq])), hr r (by simp), List.length_cons, Nat.mul_succ]; omega
theorem Bd.flen {rs : List (List UInt8)} {w h : Nat} (hb : Bd rs w h) : rs.flatten.length = w * h := by rw [rows_len (fun r hr => (hb.row r hr).1), hb.len]
theorem Bd.head {rs : List (List UInt8)} {w h : Nat} (hb : Bd rs w h) : (rs.getD 0 []).length = w := by
  have h1 := hb.h1
  cases rs with
  | nil => have := hb.len; simp at this; omega
  | cons r rs => exact (hb.row r (by simp)).1
theorem Bd.get {rs : List (List UInt8)} {w h : Nat} (hb : Bd rs w h) {y x : Nat} (hy : y < h) (hx : x < w) : (rs.getD y []).getD x 0 = rs.flatten.getD (y * w + x) 0 := rows_get (fun r hr => (hb.row r hr).1) (by rw [hb.len]; exact hy) hx
theorem Bd.rowlen {rs : List (List UInt8)} {w h : Nat} (hb : Bd rs w h) {y : Nat} (hy : y < h) : (rs.getD y []).length = w := by
  have hl : y < rs.length := by rw [hb.len]; exact hy
  have : rs.getD y [] ∈ rs := by simp [List.getD_eq_getElem?_getD, hl]
  exact (hb.row _ this).1
theorem Bd.sign {rs : List (List UInt8)} {w h : Nat} (hb : Bd rs w h) {i : Nat} (hi : i < w * h) : isSign (rs.flatten.getD i 0) = true := by
  have hl : i < rs.flatten.length := by rw [hb.flen]; exact hi
  have hm : rs.flatten.getD i 0 ∈ rs.flatten := by simp only [List.getD_eq_getElem?_getD, List.getElem?_eq_getElem hl, Option.getD_some]; exact List.getElem_mem hl
  obtain ⟨r, hr, hx⟩ := List.mem_flatten.1 hm
  exact List.all_eq_true.1 (hb.row r hr).2 _ hx
theorem boOK_bd {b : List UInt8} (h : boOK b = true) : Bd (spl b) ((spl b).getD 0 []).length (spl b).length := by
  unfold boOK at h
  simp only [Bool.and_eq_true, decide_eq_true_iff] at h
  obtain ⟨h1, ⟨h2, h3⟩, h4⟩ := h
  rw [List.all_eq_true] at h4
  have h5 : (spl b).getD 0 [] ∈ spl b := by simp [List.getD_eq_getElem?_getD, show 0 < (spl b).length by omega]
  have h6 := h4 _ h5
  unfold rowOK goodLine at h6
  simp only [Bool.and_eq_true, decide_eq_true_iff] at h6
  refine ⟨rfl, h2, h3, h6.1.1.1, h6.2.1, fun r hr => ?_⟩
  have h7 := h4 r hr
  unfold rowOK goodLine at h7
  simp only [Bool.and_eq_true, decide_eq_true_iff] at h7
  exact ⟨h7.2.2, h7.1.2⟩
def sAt (rs : List (List UInt8)) (w h : Nat) (x y : Int) : UInt8 := if 0 ≤ x ∧ x < (w : Int) ∧ 0 ≤ y ∧ y < (h : Int) then rs.flatten.getD (y * w + x).toNat 0 else 32
theorem c_boAt {rs : List (List UInt8)} {w h : Nat} (hb : Bd rs w h) (x y : Int) {v : AV} {g : AH} (hs : Slc 1 encS g v rs) {post : AV → AH → Prop} (hp : post (by8 (sAt rs w h x y)) g) : S 345 [v, .int .i64 x, .int .i64 y] g post k := by
  have hl := hb.len
  have hh1 := hb.h1
  have hh5 := hb.h5
  have hw5 := hb.w5
  obtain ⟨c, kk, off, rfl⟩ := hs.isS (by omega)
  have hr0 := hs.idxS (i := 0) (by omega)
  rw [Nat.zero_mul, Nat.add_zero] at hr0
  have hd := hb.head
  rw [hl] at hs ⊢
  have h0lt : (0 : Int) < (h : Int) := by omega
  refine S_of rfl T345 ?_; unfold fi345
  by_cases hy : 0 ≤ y ∧ y ≤ (h : Int) - 1
  · by_cases hx : 0 ≤ x ∧ x ≤ (w : Int) - 1
    · obtain ⟨y, rfl⟩ := Int.eq_ofNat_of_zero_le hy.1
      obtain ⟨x, rfl⟩ := Int.eq_ofNat_of_zero_le hx.1
      have hyl : (y : Int) < (h : Int) := by omega
      have hry := hs.idxS (i := y) (by omega)
      have hrl : (rs.getD y []).length = w := hb.rowlen (by omega)
      have hxl : (x : Int) < ((rs.getD y []).length : Int) := by rw [hrl]; omega
      simp (maxSteps := 1000000) (disch := first | omega | rfl | (simp only [zL, two63, room] <;> omega) | fail) only [↓reduceIte, ↓zP, zW, WOp, evOp, evBin, binI, binSh, binS, evNil, keyIs, keyEq, mkv, AV.cells, AV.sc, optv, bnd, env, put, Env.get, Env.set, Env.del, Env.dels, Env.init, res1, resL, resV, fillP, splice, newRow, Nat.reduceEqDiff, Nat.reduceLT, Nat.reduceLeDiff, Nat.reduceAdd, Nat.reduceMul, Nat.reduceSub, Nat.reduceBEq, reduceCtorEq, ↓zR, zQ, Tr, StA, StT, e_l1In, hy, hx, h0lt, hr0, Nat.zero_mul, Int.toNat_zero, Nat.add_zero, hd, hyl, hry, hxl]
      have hc : sAt rs w h (x : Int) (y : Int) = (rs.getD y []).getD x 0 := by
        unfold sAt
        rw [if_pos (by omega), hb.get (by omega) (by omega), show ((y : Int) * w + x).toNat = y * w + x by (have : ((y : Int) * w + x) = ((y * w + x : Nat) : Int) := by push_cast; rfl); omega]
      rw [hc] at hp
      exact hp
    · simp (maxSteps := 1000000) (disch := first | omega | rfl | (simp only [zL, two63, room] <;> omega) | fail) only [↓reduceIte, ↓zP, zW, WOp, evOp, evBin, binI, binSh, binS, evNil, keyIs, keyEq, mkv, AV.cells, AV.sc, optv, bnd, env, put, Env.get, Env.set, Env.del, Env.dels, Env.init, res1, resL, resV, fillP, splice, newRow, Nat.reduceEqDiff, Nat.reduceLT, Nat.reduceLeDiff, Nat.reduceAdd, Nat.reduceMul, Nat.reduceSub, Nat.reduceBEq, reduceCtorEq, ↓zR, zQ, Tr, StA, StT, e_l1In, hy, hx, h0lt, hr0, Nat.zero_mul, Int.toNat_zero, Nat.add_zero, hd]
      have hc : sAt rs w h x y = 32 := by unfold sAt; rw [if_neg (by omega)]
      rw [hc] at hp
      exact hp
  · simp (maxSteps := 1000000) (disch := first | omega | rfl | (simp only [zL, two63, room] <;> omega) | fail) only [↓reduceIte, ↓zP, zW, WOp, evOp, evBin, binI, binSh, binS, evNil, keyIs, keyEq, mkv, AV.cells, AV.sc, optv, bnd, env, put, Env.get, Env.set, Env.del, Env.dels, Env.init, res1, resL, resV, fillP, splice, newRow, Nat.reduceEqDiff, Nat.reduceLT, Nat.reduceLeDiff, Nat.reduceAdd, Nat.reduceMul, Nat.reduceSub, Nat.reduceBEq, reduceCtorEq, ↓zR, zQ, Tr, StA, StT, e_l1In, hy]
    have hc : sAt rs w h x y = 32 := by unfold sAt; rw [if_neg (by omega)]
    rw [hc] at hp
    exact hp

/-! ### Moves that can be made, as the reference tells them -/
theorem nt_f {a : Bool} (h : false = !a) : a = true := by cases a <;> simp_all
theorem nt_t {a : Bool} (h : true = !a) : a = false := by cases a <;> simp_all
theorem sAt_bl {rs : List (List UInt8)} {w h : Nat} (hb : Bd rs w h) (x y : Int) : (sAt rs w h x y == 32) = !decide (0 ≤ x ∧ x < (w : Int) ∧ 0 ≤ y ∧ y < (h : Int)) := by
  unfold sAt
  split
  · rename_i hc
    rw [decide_eq_true hc]
    obtain ⟨y, rfl⟩ := Int.eq_ofNat_of_zero_le hc.2.2.1
    obtain ⟨x, rfl⟩ := Int.eq_ofNat_of_zero_le hc.1
    have hlt : y * w + x < w * h := by
      have : (y + 1) * w ≤ h * w := Nat.mul_le_mul_right _ (by omega)
      rw [Nat.add_mul, Nat.one_mul, Nat.mul_comm h] at this
      omega
    have hs := hb.sign hlt
    rw [show ((y : Int) * w + x).toNat = y * w + x by (have : ((y : Int) * w + x) = ((y * w + x : Nat) : Int) := by push_cast; rfl); omega]
    generalize rs.flatten.getD (y * w + x) 0 = b at hs
    show (b == 32) = false
    rw [beq_eq_false_iff_ne]
    rintro rfl
    simp [isSign] at hs
  · rename_i hc
    rw [decide_eq_false hc]; rfl
/-- One look of the reference: far cells away to one side. -/
theorem lp_boCan1 {rs : List (List UInt8)} {w h : Nat} (hb : Bd rs w h) {v : AV} {g0 : AH} (hs : Slc 1 encS g0 v rs) {i t : Int} {x y : Nat} (hx : x < w) (hy : y < h) {d : Int} (hd : d = 1 ∨ d = -1) (side : Int) (dx dy : Int) (hdd : (dx = d ∧ dy = 0) ∨ (dx = 0 ∧ dy = d)) (tg oth : UInt8) (far : Nat) (hf : far = 1 ∨ far = 2) {g : AH} (hg : g = g0 ++ [AO.row (encM (i, t)) 0 0 false]) {R : X → Env → AH → Prop}
    (h1 : bFar rs.flatten w h x y dx dy far t = true → R .ret [(4, .bool (tg == 46 && (far == 1 || sAt rs w h (x + dx) (y + dy) == oth)))] g)
    (h2 : bFar rs.flatten w h x y dx dy far t = false → Cx (.loop lp333_1) [(0, v), (3, .ptr g0.length 0 0 2), (5, .int .i64 w), (6, .int .i64 x), (7, .int .i64 y), (8, by8 tg), (9, .int .i64 d), (10, by8 oth), (11, .int .i64 side), (12, .int .i64 dx), (13, .int .i64 dy), (14, .int .i64 ((far + 1 : Nat) : Int))] g R k k) :
    Cx (.loop lp333_1) [(0, v), (3, .ptr g0.length 0 0 2), (5, .int .i64 w), (6, .int .i64 x), (7, .int .i64 y), (8, by8 tg), (9, .int .i64 d), (10, by8 oth), (11, .int .i64 side), (12, .int .i64 dx), (13, .int .i64 dy), (14, .int .i64 (far : Int))] g R k k := by
  have hsg : Slc 1 encS g v rs := by rw [hg]; exact hs.pre (Pre.push _ _)
  have hrd : rdRow g g0.length 0 1 1 = some [.int .i64 t] := by rw [hg]; simp (maxSteps := 1000000) (disch := first | omega | rfl | (simp only [zL, two63, room] <;> omega) | fail) only [↓reduceIte, ↓zP, zW, WOp, evOp, evBin, binI, binSh, binS, evNil, keyIs, keyEq, mkv, AV.cells, AV.sc, optv, bnd, env, put, Env.get, Env.set, Env.del, Env.dels, Env.init, res1, resL, resV, fillP, splice, newRow, Nat.reduceEqDiff, Nat.reduceLT, Nat.reduceLeDiff, Nat.reduceAdd, Nat.reduceMul, Nat.reduceSub, Nat.reduceBEq, reduceCtorEq, ↓zR, zQ, Tr, StA, StT]
  have hw5 := hb.w5
  have hh5 := hb.h5
  have hfb : (far : Int) ≤ 2 := by omega
  have m1 : (far : Int) * dx = if dx = 0 then 0 else if dx = 1 then (far : Int) else -(far : Int) := by
    rcases hdd with ⟨rfl, _⟩ | ⟨rfl, _⟩
    · rcases hd with rfl | rfl <;> simp
    · simp
  have m2 : (far : Int) * dy = if dy = 0 then 0 else if dy = 1 then (far : Int) else -(far : Int) := by
    rcases hdd with ⟨_, rfl⟩ | ⟨_, rfl⟩
    · simp
    · rcases hd with rfl | rfl <;> simp
  have b1 : -2 ≤ (far : Int) * dx ∧ (far : Int) * dx ≤ 2 := by rw [m1]; (repeat' split) <;> omega
  have b2 : -2 ≤ (far : Int) * dy ∧ (far : Int) * dy ≤ 2 := by rw [m2]; (repeat' split) <;> omega
  have hyw : ((y : Int) + far * dy) * w = (y : Int) * w + (far * dy) * w := Int.add_mul _ _ _
  have b3 : -100 ≤ ((y : Int) + far * dy) * w ∧ ((y : Int) + far * dy) * w ≤ 100 := by
    have q1 : -2 ≤ (y : Int) + far * dy := by omega
    have q2 : (y : Int) + far * dy ≤ 7 := by omega
    generalize (y : Int) + far * dy = Y at q1 q2
    have r1 : (-2) * (w : Int) ≤ Y * w := Int.mul_le_mul_of_nonneg_right q1 (by omega)
    have r2 : Y * (w : Int) ≤ 7 * w := Int.mul_le_mul_of_nonneg_right q2 (by omega)
    omega
  have w1 : IntKind.i64.wrap ((far : Int) * dx) = far * dx := wrap_id (by omega) (by omega)
  have w2 : IntKind.i64.wrap ((far : Int) * dy) = far * dy := wrap_id (by omega) (by omega)
  have w3 : IntKind.i64.wrap ((x : Int) + far * dx) = x + far * dx := wrap_id (by omega) (by omega)
  have w4 : IntKind.i64.wrap ((y : Int) + far * dy) = y + far * dy := wrap_id (by omega) (by omega)
  have w5 : IntKind.i64.wrap (((y : Int) + far * dy) * w) = (y + far * dy) * w := wrap_id (by omega) (by omega)
  have w6 : IntKind.i64.wrap (((y : Int) + far * dy) * w + x) = (y + far * dy) * w + x := wrap_id (by omega) (by omega)
  have w7 : IntKind.i64.wrap (((y : Int) + far * dy) * w + x + far * dx) = (y + far * dy) * w + x + far * dx := wrap_id (by omega) (by omega)
  have w8 : IntKind.i64.wrap ((far : Int) + 1) = ((far + 1 : Nat) : Int) := by rw [IntKind.wrap_i64]; omega
  have w9 : IntKind.i64.wrap ((x : Int) + dx) = x + dx := wrap_id (by rcases hdd with ⟨rfl, _⟩ | ⟨rfl, _⟩ <;> omega) (by rcases hdd with ⟨rfl, _⟩ | ⟨rfl, _⟩ <;> omega)
  have w10 : IntKind.i64.wrap ((y : Int) + dy) = y + dy := wrap_id (by rcases hdd with ⟨_, rfl⟩ | ⟨_, rfl⟩ <;> omega) (by rcases hdd with ⟨_, rfl⟩ | ⟨_, rfl⟩ <;> omega)
  have u32 : ∀ b : UInt8, ((b.toNat : Int) == 32) = (b == 32) := fun b => u8c b 32
  have hbl := sAt_bl hb (x + far * dx) (y + far * dy)
  have hfar : bFar rs.flatten w h x y dx dy far t = (decide (0 ≤ (x : Int) + far * dx ∧ (x : Int) + far * dx < (w : Int) ∧ 0 ≤ (y : Int) + far * dy ∧ (y : Int) + far * dy < (h : Int)) && decide (t = (y + far * dy) * w + x + far * dx)) := rfl
  rw [hfar] at h1 h2
  rw [w_loopb (c := lp333_1) (d := lb333_1) rfl]; unfold lb333_1
  simp (maxSteps := 1000000) (disch := first | omega | rfl | (simp only [zL, two63, room] <;> omega) | fail) only [↓reduceIte, ↓zP, zW, WOp, evOp, evBin, binI, binSh, binS, evNil, keyIs, keyEq, mkv, AV.cells, AV.sc, optv, bnd, env, put, Env.get, Env.set, Env.del, Env.dels, Env.init, res1, resL, resV, fillP, splice, newRow, Nat.reduceEqDiff, Nat.reduceLT, Nat.reduceLeDiff, Nat.reduceAdd, Nat.reduceMul, Nat.reduceSub, Nat.reduceBEq, reduceCtorEq, ↓zR, zQ, Tr, StA, StT, hfb, w1, w2, w3, w4]
  refine c_boAt hb _ _ hsg ?_
  cases e1 : (sAt rs w h (x + far * dx) (y + far * dy) == 32)
  · rw [e1] at hbl
    have hin : decide (0 ≤ (x : Int) + far * dx ∧ (x : Int) + far * dx < (w : Int) ∧ 0 ≤ (y : Int) + far * dy ∧ (y : Int) + far * dy < (h : Int)) = true := nt_f hbl
    rw [hin] at h1 h2
    by_cases e2 : t = (y + far * dy) * w + x + far * dx
    · have hh1 := h1 (by rw [decide_eq_true e2]; rfl)
      simp (maxSteps := 1000000) (disch := first | omega | rfl | (simp only [zL, two63, room] <;> omega) | fail) only [↓reduceIte, ↓zP, zW, WOp, evOp, evBin, binI, binSh, binS, evNil, keyIs, keyEq, mkv, AV.cells, AV.sc, optv, bnd, env, put, Env.get, Env.set, Env.del, Env.dels, Env.init, res1, resL, resV, fillP, splice, newRow, Nat.reduceEqDiff, Nat.reduceLT, Nat.reduceLeDiff, Nat.reduceAdd, Nat.reduceMul, Nat.reduceSub, Nat.reduceBEq, reduceCtorEq, ↓zR, zQ, Tr, StA, StT, u32, e1, hrd, w1, w2, w4, w5, w6, w7, e2]
      cases e3 : (tg == 46)
      · rw [e3] at hh1
        simp (maxSteps := 1000000) (disch := first | omega | rfl | (simp only [zL, two63, room] <;> omega) | fail) only [↓reduceIte, ↓zP, zW, WOp, evOp, evBin, binI, binSh, binS, evNil, keyIs, keyEq, mkv, AV.cells, AV.sc, optv, bnd, env, put, Env.get, Env.set, Env.del, Env.dels, Env.init, res1, resL, resV, fillP, splice, newRow, Nat.reduceEqDiff, Nat.reduceLT, Nat.reduceLeDiff, Nat.reduceAdd, Nat.reduceMul, Nat.reduceSub, Nat.reduceBEq, reduceCtorEq, ↓zR, zQ, Tr, StA, StT, e3]
        exact hh1
      · rw [e3] at hh1
        rcases hf with rfl | rfl
        · simp (maxSteps := 1000000) (disch := first | omega | rfl | (simp only [zL, two63, room] <;> omega) | fail) only [↓reduceIte, ↓zP, zW, WOp, evOp, evBin, binI, binSh, binS, evNil, keyIs, keyEq, mkv, AV.cells, AV.sc, optv, bnd, env, put, Env.get, Env.set, Env.del, Env.dels, Env.init, res1, resL, resV, fillP, splice, newRow, Nat.reduceEqDiff, Nat.reduceLT, Nat.reduceLeDiff, Nat.reduceAdd, Nat.reduceMul, Nat.reduceSub, Nat.reduceBEq, reduceCtorEq, ↓zR, zQ, Tr, StA, StT, e3]
          exact hh1
        · simp (maxSteps := 1000000) (disch := first | omega | rfl | (simp only [zL, two63, room] <;> omega) | fail) only [↓reduceIte, ↓zP, zW, WOp, evOp, evBin, binI, binSh, binS, evNil, keyIs, keyEq, mkv, AV.cells, AV.sc, optv, bnd, env, put, Env.get, Env.set, Env.del, Env.dels, Env.init, res1, resL, resV, fillP, splice, newRow, Nat.reduceEqDiff, Nat.reduceLT, Nat.reduceLeDiff, Nat.reduceAdd, Nat.reduceMul, Nat.reduceSub, Nat.reduceBEq, reduceCtorEq, ↓zR, zQ, Tr, StA, StT, e3, w9, w10]
          refine c_boAt hb _ _ hsg ?_
          simp (maxSteps := 1000000) (disch := first | omega | rfl | (simp only [zL, two63, room] <;> omega) | fail) only [↓reduceIte, ↓zP, zW, WOp, evOp, evBin, binI, binSh, binS, evNil, keyIs, keyEq, mkv, AV.cells, AV.sc, optv, bnd, env, put, Env.get, Env.set, Env.del, Env.dels, Env.init, res1, resL, resV, fillP, splice, newRow, Nat.reduceEqDiff, Nat.reduceLT, Nat.reduceLeDiff, Nat.reduceAdd, Nat.reduceMul, Nat.reduceSub, Nat.reduceBEq, reduceCtorEq, ↓zR, zQ, Tr, StA, StT]
          exact hh1
    · have hh2 := h2 (by rw [decide_eq_false e2]; rfl)
      have e2' : t ≠ (y + far * dy) * w + x + far * dx := e2
      simp (maxSteps := 1000000) (disch := first | omega | rfl | (simp only [zL, two63, room] <;> omega) | fail) only [↓reduceIte, ↓zP, zW, WOp, evOp, evBin, binI, binSh, binS, evNil, keyIs, keyEq, mkv, AV.cells, AV.sc, optv, bnd, env, put, Env.get, Env.set, Env.del, Env.dels, Env.init, res1, resL, resV, fillP, splice, newRow, Nat.reduceEqDiff, Nat.reduceLT, Nat.reduceLeDiff, Nat.reduceAdd, Nat.reduceMul, Nat.reduceSub, Nat.reduceBEq, reduceCtorEq, ↓zR, zQ, Tr, StA, StT, u32, e1, hrd, w1, w2, w4, w5, w6, w7, e2', w8]
      rw [w_loopn (c := lp333_1) rfl]
      simp (maxSteps := 1000000) (disch := first | omega | rfl | (simp only [zL, two63, room] <;> omega) | fail) only [↓reduceIte, ↓zP, zW, WOp, evOp, evBin, binI, binSh, binS, evNil, keyIs, keyEq, mkv, AV.cells, AV.sc, optv, bnd, env, put, Env.get, Env.set, Env.del, Env.dels, Env.init, res1, resL, resV, fillP, splice, newRow, Nat.reduceEqDiff, Nat.reduceLT, Nat.reduceLeDiff, Nat.reduceAdd, Nat.reduceMul, Nat.reduceSub, Nat.reduceBEq, reduceCtorEq, ↓zR, zQ, Tr, StA, StT]
      exact hh2
  · rw [e1] at hbl
    have hin : decide (0 ≤ (x : Int) + far * dx ∧ (x : Int) + far * dx < (w : Int) ∧ 0 ≤ (y : Int) + far * dy ∧ (y : Int) + far * dy < (h : Int)) = false := nt_t hbl
    rw [hin] at h2
    have hh2 := h2 rfl
    simp (maxSteps := 1000000) (disch := first | omega | rfl | (simp only [zL, two63, room] <;> omega) | fail) only [↓reduceIte, ↓zP, zW, WOp, evOp, evBin, binI, binSh, binS, evNil, keyIs, keyEq, mkv, AV.cells, AV.sc, optv, bnd, env, put, Env.get, Env.set, Env.del, Env.dels, Env.init, res1, resL, resV, fillP, splice, newRow, Nat.reduceEqDiff, Nat.reduceLT, Nat.reduceLeDiff, Nat.reduceAdd, Nat.reduceMul, Nat.reduceSub, Nat.reduceBEq, reduceCtorEq, ↓zR, zQ, Tr, StA, StT, u32, e1, w8]
    rw [w_loopn (c := lp333_1) rfl]
    simp (maxSteps := 1000000) (disch := first | omega | rfl | (simp only [zL, two63, room] <;> omega) | fail) only [↓reduceIte, ↓zP, zW, WOp, evOp, evBin, binI, binSh, binS, evNil, keyIs, keyEq, mkv, AV.cells, AV.sc, optv, bnd, env, put, Env.get, Env.set, Env.del, Env.dels, Env.init, res1, resL, resV, fillP, splice, newRow, Nat.reduceEqDiff, Nat.reduceLT, Nat.reduceLeDiff, Nat.reduceAdd, Nat.reduceMul, Nat.reduceSub, Nat.reduceBEq, reduceCtorEq, ↓zR, zQ, Tr, StA, StT]
    exact hh2

/-- Both looks to one side. -/
theorem lp_boCan1b {rs : List (List UInt8)} {w h : Nat} (hb : Bd rs w h) {v : AV} {g0 : AH} (hs : Slc 1 encS g0 v rs) {i t : Int} {x y : Nat} (hx : x < w) (hy : y < h) {d : Int} (hd : d = 1 ∨ d = -1) (side : Int) (dx dy : Int) (hdd : (dx = d ∧ dy = 0) ∨ (dx = 0 ∧ dy = d)) (tg oth : UInt8) {g : AH} (hg : g = g0 ++ [AO.row (encM (i, t)) 0 0 false]) {R : X → Env → AH → Prop}
    (h1 : bFar rs.flatten w h x y dx dy 1 t = true → R .ret [(4, .bool (tg == 46))] g)
    (h2 : bFar rs.flatten w h x y dx dy 1 t = false → bFar rs.flatten w h x y dx dy 2 t = true → R .ret [(4, .bool (tg == 46 && sAt rs w h (x + dx) (y + dy) == oth))] g)
    (h3 : bFar rs.flatten w h x y dx dy 1 t = false → bFar rs.flatten w h x y dx dy 2 t = false → R (.exit 3) [(0, v), (3, .ptr g0.length 0 0 2), (5, .int .i64 w), (6, .int .i64 x), (7, .int .i64 y), (8, by8 tg), (9, .int .i64 d), (10, by8 oth), (11, .int .i64 side)] g) :
    Cx (.loop lp333_1) [(0, v), (3, .ptr g0.length 0 0 2), (5, .int .i64 w), (6, .int .i64 x), (7, .int .i64 y), (8, by8 tg), (9, .int .i64 d), (10, by8 oth), (11, .int .i64 side), (12, .int .i64 dx), (13, .int .i64 dy), (14, .int .i64 1)] g R k k := by
  refine lp_boCan1 hb hs hx hy hd side dx dy hdd tg oth 1 (.inl rfl) hg ?_ ?_
  · intro e
    simpa using h1 e
  · intro e
    refine lp_boCan1 hb hs hx hy hd side dx dy hdd tg oth 2 (.inr rfl) hg ?_ ?_
    · intro e2
      simpa using h2 e e2
    · intro e2
      have := h3 e e2
      rw [w_loopb (c := lp333_1) (d := lb333_1) rfl]; unfold lb333_1
      have hgt : ((2 + 1 : Nat) : Int) > 2 := by decide
      simp (maxSteps := 1000000) (disch := first | omega | rfl | (simp only [zL, two63, room] <;> omega) | fail) only [↓reduceIte, ↓zP, zW, WOp, evOp, evBin, binI, binSh, binS, evNil, keyIs, keyEq, mkv, AV.cells, AV.sc, optv, bnd, env, put, Env.get, Env.set, Env.del, Env.dels, Env.init, res1, resL, resV, fillP, splice, newRow, Nat.reduceEqDiff, Nat.reduceLT, Nat.reduceLeDiff, Nat.reduceAdd, Nat.reduceMul, Nat.reduceSub, Nat.reduceBEq, reduceCtorEq, ↓zR, zQ, Tr, StA, StT, hgt]
      exact this
theorem sAt_of_far {rs : List (List UInt8)} {w h : Nat} {x y dx dy t : Int} {d : Int} (hd : d = 1 ∨ d = -1) (hdd : (dx = d ∧ dy = 0) ∨ (dx = 0 ∧ dy = d)) (hx : 0 ≤ x ∧ x < (w : Int)) (hy : 0 ≤ y ∧ y < (h : Int)) (hf : bFar rs.flatten w h x y dx dy 2 t = true) : sAt rs w h (x + dx) (y + dy) = bAt rs.flatten w h (x + dx) (y + dy) := by
  have := (bFar_iff.1 hf).1
  unfold sAt bAt
  rcases hdd with ⟨rfl, rfl⟩ | ⟨rfl, rfl⟩ <;> rcases hd with rfl | rfl <;> rw [if_pos (by omega), if_pos (by omega)]
/-- The looks to both sides. -/
theorem lp_boCan0 {rs : List (List UInt8)} {w h : Nat} (hb : Bd rs w h) {v : AV} {g0 : AH} (hs : Slc 1 encS g0 v rs) {i : Nat} {t : Int} (hi : i < w * h) {x y : Nat} (hxe : x = i % w) (hye : y = i / w) (hx : x < w) (hy : y < h) {d : Int} (hd : d = 1 ∨ d = -1) (oth : UInt8) {g : AH} (hg : g = g0 ++ [AO.row (encM ((i : Int), t)) 0 0 false]) {R : X → Env → AH → Prop}
    (h1 : bCanK rs.flatten w h i t d oth = true → R .ret [(4, .bool true)] g)
    (h2 : bCanK rs.flatten w h i t d oth = false → R .ret [(4, .bool false)] g)
    (h3 : bCanK rs.flatten w h i t d oth = false → R (.exit 1) [] g) :
    Cx (.loop lp333_0) [(0, v), (3, .ptr g0.length 0 0 2), (5, .int .i64 w), (6, .int .i64 x), (7, .int .i64 y), (8, by8 (rs.flatten.getD t.toNat 0)), (9, .int .i64 d), (10, by8 oth), (11, .int .i64 0)] g R k k := by
  have hr : ∀ b, bCanK rs.flatten w h i t d oth = b → R .ret [(4, .bool b)] g := fun b hb => by cases b; exact h2 hb; exact h1 hb
  unfold bCanK at hr h3
  simp only [← hxe, ← hye] at hr h3
  have hx' : 0 ≤ (x : Int) ∧ (x : Int) < (w : Int) := by omega
  have hy' : 0 ≤ (y : Int) ∧ (y : Int) < (h : Int) := by omega
  have md : IntKind.i64.wrap d = d := wrap_id (by omega) (by omega)
  rw [w_loopb (c := lp333_0) (d := lb333_0) rfl]; unfold lb333_0
  simp (maxSteps := 1000000) (disch := first | omega | rfl | (simp only [zL, two63, room] <;> omega) | fail) only [↓reduceIte, ↓zP, zW, WOp, evOp, evBin, binI, binSh, binS, evNil, keyIs, keyEq, mkv, AV.cells, AV.sc, optv, bnd, env, put, Env.get, Env.set, Env.del, Env.dels, Env.init, res1, resL, resV, fillP, splice, newRow, Nat.reduceEqDiff, Nat.reduceLT, Nat.reduceLeDiff, Nat.reduceAdd, Nat.reduceMul, Nat.reduceSub, Nat.reduceBEq, reduceCtorEq, ↓zR, zQ, Tr, StA, StT, Int.mul_one, Int.mul_zero, md, Int.sub_zero]
  refine lp_boCan1b hb hs hx hy hd 0 d 0 (.inl ⟨rfl, rfl⟩) _ oth hg ?_ ?_ ?_
  · intro e
    simp (maxSteps := 1000000) (disch := first | omega | rfl | (simp only [zL, two63, room] <;> omega) | fail) only [↓reduceIte, ↓zP, zW, WOp, evOp, evBin, binI, binSh, binS, evNil, keyIs, keyEq, mkv, AV.cells, AV.sc, optv, bnd, env, put, Env.get, Env.set, Env.del, Env.dels, Env.init, res1, resL, resV, fillP, splice, newRow, Nat.reduceEqDiff, Nat.reduceLT, Nat.reduceLeDiff, Nat.reduceAdd, Nat.reduceMul, Nat.reduceSub, Nat.reduceBEq, reduceCtorEq, ↓zR, zQ, Tr, StA, StT]
    exact hr _ (by rw [if_pos e])
  · intro e e2
    simp (maxSteps := 1000000) (disch := first | omega | rfl | (simp only [zL, two63, room] <;> omega) | fail) only [↓reduceIte, ↓zP, zW, WOp, evOp, evBin, binI, binSh, binS, evNil, keyIs, keyEq, mkv, AV.cells, AV.sc, optv, bnd, env, put, Env.get, Env.set, Env.del, Env.dels, Env.init, res1, resL, resV, fillP, splice, newRow, Nat.reduceEqDiff, Nat.reduceLT, Nat.reduceLeDiff, Nat.reduceAdd, Nat.reduceMul, Nat.reduceSub, Nat.reduceBEq, reduceCtorEq, ↓zR, zQ, Tr, StA, StT]
    refine hr _ ?_
    rw [if_neg (by rw [e]; decide), if_pos e2, sAt_of_far hd (.inl ⟨rfl, rfl⟩) hx' hy' e2, Int.add_zero]
  intro e e2
  rw [if_neg (by rw [e]; decide), if_neg (by rw [e2]; decide)] at h3
  have hr2 : ∀ b, _ = b → R .ret [(4, .bool b)] g := fun b hb => hr b (by rw [if_neg (by rw [e]; decide), if_neg (by rw [e2]; decide)]; exact hb)
  simp (maxSteps := 1000000) (disch := first | omega | rfl | (simp only [zL, two63, room] <;> omega) | fail) only [↓reduceIte, ↓zP, zW, WOp, evOp, evBin, binI, binSh, binS, evNil, keyIs, keyEq, mkv, AV.cells, AV.sc, optv, bnd, env, put, Env.get, Env.set, Env.del, Env.dels, Env.init, res1, resL, resV, fillP, splice, newRow, Nat.reduceEqDiff, Nat.reduceLT, Nat.reduceLeDiff, Nat.reduceAdd, Nat.reduceMul, Nat.reduceSub, Nat.reduceBEq, reduceCtorEq, ↓zR, zQ, Tr, StA, StT, Int.zero_add]
  rw [w_loopb (c := lp333_0) (d := lb333_0) rfl]; unfold lb333_0
  simp (maxSteps := 1000000) (disch := first | omega | rfl | (simp only [zL, two63, room] <;> omega) | fail) only [↓reduceIte, ↓zP, zW, WOp, evOp, evBin, binI, binSh, binS, evNil, keyIs, keyEq, mkv, AV.cells, AV.sc, optv, bnd, env, put, Env.get, Env.set, Env.del, Env.dels, Env.init, res1, resL, resV, fillP, splice, newRow, Nat.reduceEqDiff, Nat.reduceLT, Nat.reduceLeDiff, Nat.reduceAdd, Nat.reduceMul, Nat.reduceSub, Nat.reduceBEq, reduceCtorEq, ↓zR, zQ, Tr, StA, StT, Int.mul_one, Int.mul_zero, md, Int.sub_self, Int.zero_add]
  refine lp_boCan1b hb hs hx hy hd 1 0 d (.inr ⟨rfl, rfl⟩) _ oth hg ?_ ?_ ?_
  · intro e3
    simp (maxSteps := 1000000) (disch := first | omega | rfl | (simp only [zL, two63, room] <;> omega) | fail) only [↓reduceIte, ↓zP, zW, WOp, evOp, evBin, binI, binSh, binS, evNil, keyIs, keyEq, mkv, AV.cells, AV.sc, optv, bnd, env, put, Env.get, Env.set, Env.del, Env.dels, Env.init, res1, resL, resV, fillP, splice, newRow, Nat.reduceEqDiff, Nat.reduceLT, Nat.reduceLeDiff, Nat.reduceAdd, Nat.reduceMul, Nat.reduceSub, Nat.reduceBEq, reduceCtorEq, ↓zR, zQ, Tr, StA, StT]
    exact hr2 _ (by rw [if_pos e3])
  · intro e3 e4
    simp (maxSteps := 1000000) (disch := first | omega | rfl | (simp only [zL, two63, room] <;> omega) | fail) only [↓reduceIte, ↓zP, zW, WOp, evOp, evBin, binI, binSh, binS, evNil, keyIs, keyEq, mkv, AV.cells, AV.sc, optv, bnd, env, put, Env.get, Env.set, Env.del, Env.dels, Env.init, res1, resL, resV, fillP, splice, newRow, Nat.reduceEqDiff, Nat.reduceLT, Nat.reduceLeDiff, Nat.reduceAdd, Nat.reduceMul, Nat.reduceSub, Nat.reduceBEq, reduceCtorEq, ↓zR, zQ, Tr, StA, StT]
    refine hr2 _ ?_
    rw [if_neg (by rw [e3]; decide), if_pos e4, sAt_of_far hd (.inr ⟨rfl, rfl⟩) hx' hy' e4, Int.add_zero]
  intro e3 e4
  rw [if_neg (by rw [e3]; decide), if_neg (by rw [e4]; decide)] at h3
  simp (maxSteps := 1000000) (disch := first | omega | rfl | (simp only [zL, two63, room] <;> omega) | fail) only [↓reduceIte, ↓zP, zW, WOp, evOp, evBin, binI, binSh, binS, evNil, keyIs, keyEq, mkv, AV.cells, AV.sc, optv, bnd, env, put, Env.get, Env.set, Env.del, Env.dels, Env.init, res1, resL, resV, fillP, splice, newRow, Nat.reduceEqDiff, Nat.reduceLT, Nat.reduceLeDiff, Nat.reduceAdd, Nat.reduceMul, Nat.reduceSub, Nat.reduceBEq, reduceCtorEq, ↓zR, zQ, Tr, StA, StT]
  rw [w_loopb (c := lp333_0) (d := lb333_0) rfl]; unfold lb333_0
  simp (maxSteps := 1000000) (disch := first | omega | rfl | (simp only [zL, two63, room] <;> omega) | fail) only [↓reduceIte, ↓zP, zW, WOp, evOp, evBin, binI, binSh, binS, evNil, keyIs, keyEq, mkv, AV.cells, AV.sc, optv, bnd, env, put, Env.get, Env.set, Env.del, Env.dels, Env.init, res1, resL, resV, fillP, splice, newRow, Nat.reduceEqDiff, Nat.reduceLT, Nat.reduceLeDiff, Nat.reduceAdd, Nat.reduceMul, Nat.reduceSub, Nat.reduceBEq, reduceCtorEq, ↓zR, zQ, Tr, StA, StT]
  exact h3 rfl

theorem bd_div {w h i : Nat} (hi : i < w * h) : 0 < w ∧ i % w < w ∧ i / w < h := by
  have hw : 0 < w := by
    rcases Nat.eq_zero_or_pos w with h0 | h0
    · rw [h0, Nat.zero_mul] at hi; omega
    · exact h0
  exact ⟨hw, Nat.mod_lt _ hw, Nat.div_lt_of_lt_mul hi⟩
theorem sAt_cell {rs : List (List UInt8)} {w h i : Nat} (hi : i < w * h) : sAt rs w h ((i % w : Nat) : Int) ((i / w : Nat) : Int) = rs.flatten.getD i 0 := by
  obtain ⟨h0, h1, h2⟩ := bd_div hi
  unfold sAt
  rw [if_pos ⟨Int.natCast_nonneg _, Int.ofNat_lt.2 h1, Int.natCast_nonneg _, Int.ofNat_lt.2 h2⟩]
  have := Nat.div_add_mod i w
  rw [Nat.mul_comm] at this
  have e : (((i / w : Nat) : Int) * w + ((i % w : Nat) : Int)) = ((i / w * w + i % w : Nat) : Int) := by rw [Int.natCast_add, Int.natCast_mul]
  rw [e, Int.toNat_natCast, this]
theorem c_boCan {rs : List (List UInt8)} {w h : Nat} (hb : Bd rs w h) (i t : Int) {v : AV} {g : AH} (hs : Slc 1 encS g v rs) {post : AV → AH → Prop} (hp : ∀ g', Pre g g' → post (.bool (bCan rs.flatten w h (i, t))) g') : S 333 [v, mvV i t] g post k := by
  have hq : ∀ b, bCan rs.flatten w h (i, t) = b → post (.bool b) (g ++ [AO.row [AV.int .i64 i, AV.int .i64 t] 0 0 false]) := fun b hb => by rw [← hb]; exact hp _ (Pre.push _ _)
  have hfl := hb.flen
  have hl := hb.len
  have hh1 := hb.h1
  have hh5 := hb.h5
  have hw1' := hb.w1
  have hw5 := hb.w5
  have hsg : Slc 1 encS (g ++ [AO.row [AV.int .i64 i, AV.int .i64 t] 0 0 false]) v rs := hs.pre (Pre.push _ _)
  obtain ⟨c, kk, off, rfl⟩ := hs.isS (by omega)
  have hr0 := hsg.idxS (i := 0) (by omega)
  rw [Nat.zero_mul, Nat.add_zero] at hr0
  have hd := hb.head
  rw [hl] at hs hsg ⊢
  have h0lt : (0 : Int) < (h : Int) := by omega
  have hwh : w * h ≤ 25 := Nat.mul_le_mul hw5 hh5
  have hwhi : (w : Int) * h = ((w * h : Nat) : Int) := by push_cast; rfl
  have wm : IntKind.i64.wrap ((w : Int) * h) = ((w * h : Nat) : Int) := by rw [hwhi]; exact wrap_id (by omega) (by omega)
  have wm1 : IntKind.i64.wrap (((w * h : Nat) : Int) - 1) = ((w * h : Nat) : Int) - 1 := wrap_id (by omega) (by omega)
  refine S_of rfl T333 ?_; unfold fi333
  by_cases hi : 0 ≤ i ∧ i ≤ ((w * h : Nat) : Int) - 1
  case neg =>
    simp (maxSteps := 1000000) (disch := first | omega | rfl | (simp only [zL, two63, room] <;> omega) | fail) only [↓reduceIte, ↓zP, zW, WOp, evOp, evBin, binI, binSh, binS, evNil, keyIs, keyEq, mkv, AV.cells, AV.sc, optv, bnd, env, put, Env.get, Env.set, Env.del, Env.dels, Env.init, res1, resL, resV, fillP, splice, newRow, Nat.reduceEqDiff, Nat.reduceLT, Nat.reduceLeDiff, Nat.reduceAdd, Nat.reduceMul, Nat.reduceSub, Nat.reduceBEq, reduceCtorEq, ↓zR, zQ, Tr, StA, StT, e_l1In, h0lt, hr0, Nat.zero_mul, Int.toNat_zero, Nat.add_zero, hd, wm, wm1, hi]
    exact hq _ (by unfold bCan; rw [hfl, decide_eq_false (by omega)]; rfl)
  by_cases ht : 0 ≤ t ∧ t ≤ ((w * h : Nat) : Int) - 1
  case neg =>
    simp (maxSteps := 1000000) (disch := first | omega | rfl | (simp only [zL, two63, room] <;> omega) | fail) only [↓reduceIte, ↓zP, zW, WOp, evOp, evBin, binI, binSh, binS, evNil, keyIs, keyEq, mkv, AV.cells, AV.sc, optv, bnd, env, put, Env.get, Env.set, Env.del, Env.dels, Env.init, res1, resL, resV, fillP, splice, newRow, Nat.reduceEqDiff, Nat.reduceLT, Nat.reduceLeDiff, Nat.reduceAdd, Nat.reduceMul, Nat.reduceSub, Nat.reduceBEq, reduceCtorEq, ↓zR, zQ, Tr, StA, StT, e_l1In, h0lt, hr0, Nat.zero_mul, Int.toNat_zero, Nat.add_zero, hd, wm, wm1, hi, ht]
    exact hq _ (by unfold bCan; rw [hfl, decide_eq_false (by omega)]; rfl)
  obtain ⟨i, rfl⟩ := Int.eq_ofNat_of_zero_le hi.1
  obtain ⟨t, rfl⟩ := Int.eq_ofNat_of_zero_le ht.1
  have hiN : i < w * h := by omega
  have htN : t < w * h := by omega
  obtain ⟨hw0, hx, hy⟩ := bd_div hiN
  have hdec : bCan rs.flatten w h ((i : Int), (t : Int)) = (if rs.flatten.getD i 0 = 84 then bCanK rs.flatten w h i t 1 70 else if rs.flatten.getD i 0 = 70 then bCanK rs.flatten w h i t (-1) 84 else false) := by
    unfold bCan
    rw [hfl, decide_eq_true (by omega), Bool.true_and]
    simp only [Int.toNat_natCast]
  rw [hdec] at hq
  have d1 : ((i : Int)).tmod w = ((i % w : Nat) : Int) := by rw [Int.tmod_eq_emod_of_nonneg (by omega)]; push_cast; rfl
  have d2 : ((i : Int)).tdiv w = ((i / w : Nat) : Int) := by rw [Int.tdiv_eq_ediv_of_nonneg (by omega)]; push_cast; rfl
  have d3 : ((t : Int)).tmod w = ((t % w : Nat) : Int) := by rw [Int.tmod_eq_emod_of_nonneg (by omega)]; push_cast; rfl
  have d4 : ((t : Int)).tdiv w = ((t / w : Nat) : Int) := by rw [Int.tdiv_eq_ediv_of_nonneg (by omega)]; push_cast; rfl
  have natw : ∀ n : Nat, n < h → IntKind.i64.wrap (n : Int) = n := fun n hn => wrap_id (by omega) (by omega)
  have wd2 : IntKind.i64.wrap ((i / w : Nat) : Int) = ((i / w : Nat) : Int) := natw _ hy
  have hty := (bd_div htN).2.2
  have wd4 : IntKind.i64.wrap ((t / w : Nat) : Int) = ((t / w : Nat) : Int) := natw _ hty
  have hwn : ((w : Int) = 0) = False := eq_false (by omega)
  simp (maxSteps := 1000000) (disch := first | omega | rfl | (simp only [zL, two63, room] <;> omega) | fail) only [↓reduceIte, ↓zP, zW, WOp, evOp, evBin, binI, binSh, binS, evNil, keyIs, keyEq, mkv, AV.cells, AV.sc, optv, bnd, env, put, Env.get, Env.set, Env.del, Env.dels, Env.init, res1, resL, resV, fillP, splice, newRow, Nat.reduceEqDiff, Nat.reduceLT, Nat.reduceLeDiff, Nat.reduceAdd, Nat.reduceMul, Nat.reduceSub, Nat.reduceBEq, reduceCtorEq, ↓zR, zQ, Tr, StA, StT, e_l1In, h0lt, hr0, Nat.zero_mul, Int.toNat_zero, Nat.add_zero, hd, wm, wm1, hi, ht, hwn, d1, d2, d3, d4, wd2, wd4]
  refine c_boAt hb _ _ hsg ?_
  rw [sAt_cell htN]
  simp (maxSteps := 1000000) (disch := first | omega | rfl | (simp only [zL, two63, room] <;> omega) | fail) only [↓reduceIte, ↓zP, zW, WOp, evOp, evBin, binI, binSh, binS, evNil, keyIs, keyEq, mkv, AV.cells, AV.sc, optv, bnd, env, put, Env.get, Env.set, Env.del, Env.dels, Env.init, res1, resL, resV, fillP, splice, newRow, Nat.reduceEqDiff, Nat.reduceLT, Nat.reduceLeDiff, Nat.reduceAdd, Nat.reduceMul, Nat.reduceSub, Nat.reduceBEq, reduceCtorEq, ↓zR, zQ, Tr, StA, StT]
  refine c_boAt hb _ _ hsg ?_
  rw [sAt_cell hiN]
  generalize rs.flatten.getD i 0 = bi at hq
  cases e1 : (bi == 84)
  · cases e2 : (bi == 70)
    · simp (maxSteps := 1000000) (disch := first | omega | rfl | (simp only [zL, two63, room] <;> omega) | fail) only [↓reduceIte, ↓zP, zW, WOp, evOp, evBin, binI, binSh, binS, evNil, keyIs, keyEq, mkv, AV.cells, AV.sc, optv, bnd, env, put, Env.get, Env.set, Env.del, Env.dels, Env.init, res1, resL, resV, fillP, splice, newRow, Nat.reduceEqDiff, Nat.reduceLT, Nat.reduceLeDiff, Nat.reduceAdd, Nat.reduceMul, Nat.reduceSub, Nat.reduceBEq, reduceCtorEq, ↓zR, zQ, Tr, StA, StT, e1, e2]
      refine hq _ ?_
      rw [if_neg (by simpa using e1), if_neg (by simpa using e2)]
    · simp (maxSteps := 1000000) (disch := first | omega | rfl | (simp only [zL, two63, room] <;> omega) | fail) only [↓reduceIte, ↓zP, zW, WOp, evOp, evBin, binI, binSh, binS, evNil, keyIs, keyEq, mkv, AV.cells, AV.sc, optv, bnd, env, put, Env.get, Env.set, Env.del, Env.dels, Env.init, res1, resL, resV, fillP, splice, newRow, Nat.reduceEqDiff, Nat.reduceLT, Nat.reduceLeDiff, Nat.reduceAdd, Nat.reduceMul, Nat.reduceSub, Nat.reduceBEq, reduceCtorEq, ↓zR, zQ, Tr, StA, StT, e1, e2]
      have hq' : ∀ b, bCanK rs.flatten w h i t (-1) 84 = b → post (.bool b) (g ++ [AO.row [AV.int .i64 (i : Int), AV.int .i64 (t : Int)] 0 0 false]) := fun b hb => hq b (by rw [if_neg (by simpa using e1), if_pos (by simpa using e2)]; exact hb)
      refine lp_boCan0 hb hs (t := (t : Int)) hiN rfl rfl hx hy (d := -1) (.inr rfl) 84 rfl ?_ ?_ ?_
      · intro e; simp (maxSteps := 1000000) (disch := first | omega | rfl | (simp only [zL, two63, room] <;> omega) | fail) only [↓reduceIte, ↓zP, zW, WOp, evOp, evBin, binI, binSh, binS, evNil, keyIs, keyEq, mkv, AV.cells, AV.sc, optv, bnd, env, put, Env.get, Env.set, Env.del, Env.dels, Env.init, res1, resL, resV, fillP, splice, newRow, Nat.reduceEqDiff, Nat.reduceLT, Nat.reduceLeDiff, Nat.reduceAdd, Nat.reduceMul, Nat.reduceSub, Nat.reduceBEq, reduceCtorEq, ↓zR, zQ, Tr, StA, StT]; exact hq' _ e
      · intro e; simp (maxSteps := 1000000) (disch := first | omega | rfl | (simp only [zL, two63, room] <;> omega) | fail) only [↓reduceIte, ↓zP, zW, WOp, evOp, evBin, binI, binSh, binS, evNil, keyIs, keyEq, mkv, AV.cells, AV.sc, optv, bnd, env, put, Env.get, Env.set, Env.del, Env.dels, Env.init, res1, resL, resV, fillP, splice, newRow, Nat.reduceEqDiff, Nat.reduceLT, Nat.reduceLeDiff, Nat.reduceAdd, Nat.reduceMul, Nat.reduceSub, Nat.reduceBEq, reduceCtorEq, ↓zR, zQ, Tr, StA, StT]; exact hq' _ e
      · intro e; simp (maxSteps := 1000000) (disch := first | omega | rfl | (simp only [zL, two63, room] <;> omega) | fail) only [↓reduceIte, ↓zP, zW, WOp, evOp, evBin, binI, binSh, binS, evNil, keyIs, keyEq, mkv, AV.cells, AV.sc, optv, bnd, env, put, Env.get, Env.set, Env.del, Env.dels, Env.init, res1, resL, resV, fillP, splice, newRow, Nat.reduceEqDiff, Nat.reduceLT, Nat.reduceLeDiff, Nat.reduceAdd, Nat.reduceMul, Nat.reduceSub, Nat.reduceBEq, reduceCtorEq, ↓zR, zQ, Tr, StA, StT]; exact hq' _ e
  · simp (maxSteps := 1000000) (disch := first | omega | rfl | (simp only [zL, two63, room] <;> omega) | fail) only [↓reduceIte, ↓zP, zW, WOp, evOp, evBin, binI, binSh, binS, evNil, keyIs, keyEq, mkv, AV.cells, AV.sc, optv, bnd, env, put, Env.get, Env.set, Env.del, Env.dels, Env.init, res1, resL, resV, fillP, splice, newRow, Nat.reduceEqDiff, Nat.reduceLT, Nat.reduceLeDiff, Nat.reduceAdd, Nat.reduceMul, Nat.reduceSub, Nat.reduceBEq, reduceCtorEq, ↓zR, zQ, Tr, StA, StT, e1]
    have hq' : ∀ b, bCanK rs.flatten w h i t 1 70 = b → post (.bool b) (g ++ [AO.row [AV.int .i64 (i : Int), AV.int .i64 (t : Int)] 0 0 false]) := fun b hb => hq b (by rw [if_pos (by simpa using e1)]; exact hb)
    refine lp_boCan0 hb hs (t := (t : Int)) hiN rfl rfl hx hy (d := 1) (.inl rfl) 70 rfl ?_ ?_ ?_
    · intro e; simp (maxSteps := 1000000) (disch := first | omega | rfl | (simp only [zL, two63, room] <;> omega) | fail) only [↓reduceIte, ↓zP, zW, WOp, evOp, evBin, binI, binSh, binS, evNil, keyIs, keyEq, mkv, AV.cells, AV.sc, optv, bnd, env, put, Env.get, Env.set, Env.del, Env.dels, Env.init, res1, resL, resV, fillP, splice, newRow, Nat.reduceEqDiff, Nat.reduceLT, Nat.reduceLeDiff, Nat.reduceAdd, Nat.reduceMul, Nat.reduceSub, Nat.reduceBEq, reduceCtorEq, ↓zR, zQ, Tr, StA, StT]; exact hq' _ e
    · intro e; simp (maxSteps := 1000000) (disch := first | omega | rfl | (simp only [zL, two63, room] <;> omega) | fail) only [↓reduceIte, ↓zP, zW, WOp, evOp, evBin, binI, binSh, binS, evNil, keyIs, keyEq, mkv, AV.cells, AV.sc, optv, bnd, env, put, Env.get, Env.set, Env.del, Env.dels, Env.init, res1, resL, resV, fillP, splice, newRow, Nat.reduceEqDiff, Nat.reduceLT, Nat.reduceLeDiff, Nat.reduceAdd, Nat.reduceMul, Nat.reduceSub, Nat.reduceBEq, reduceCtorEq, ↓zR, zQ, Tr, StA, StT]; exact hq' _ e
    · intro e; simp (maxSteps := 1000000) (disch := first | omega | rfl | (simp only [zL, two63, room] <;> omega) | fail) only [↓reduceIte, ↓zP, zW, WOp, evOp, evBin, binI, binSh, binS, evNil, keyIs, keyEq, mkv, AV.cells, AV.sc, optv, bnd, env, put, Env.get, Env.set, Env.del, Env.dels, Env.init, res1, resL, resV, fillP, splice, newRow, Nat.reduceEqDiff, Nat.reduceLT, Nat.reduceLeDiff, Nat.reduceAdd, Nat.reduceMul, Nat.reduceSub, Nat.reduceBEq, reduceCtorEq, ↓zR, zQ, Tr, StA, StT]; exact hq' _ e
end Go.Proofs.YtgdlaopjabjkbaaGreatDoor.Ab

/- BOARDS, as the reference moves on them: all moves, a move made, plays, texts. -/
namespace Go.Proofs.YtgdlaopjabjkbaaGreatDoor.Ab
open Go
set_option maxRecDepth 100000
set_option maxHeartbeats 4000000

end Go.Proofs.YtgdlaopjabjkbaaGreatDoor.Ab

/- BOARDS, as the program moves on them. -/
namespace Go.Proofs.YtgdlaopjabjkbaaGreatDoor.Ab
open Go
set_option maxRecDepth 100000
set_option maxHeartbeats 4000000

theorem S_extV {f : Nat} {xs : List AV} {h h' : AH} {post : AV → AH → Prop} {G : List AV → AH → Option (AV × AH)} {r : AV} (hEf : E f = some (fun _ xs h => G xs h)) (hG : G xs h = some (r, h')) (hp : post r h') : S f xs h post k := Spec_ext hEf 0 hG hp
abbrev boV (cells : List UInt8) (w : Nat) : AV := .agg [.str cells, .int .i64 (w : Int)]
abbrev boR (cells : List UInt8) (w : Nat) : List AV := [.str cells, .int .i64 (w : Int)]
theorem c_bHigh (cells : List UInt8) (w : Nat) (hw : 1 ≤ w) (hc : cells.length < 2 ^ 30) {g : AH} {post : AV → AH → Prop} (hp : ∀ g', Pre g g' → post (.int .i64 ((cells.length / w : Nat) : Int)) g') : S 348 [boV cells w] g post k := by
  have hwn : ((w : Int) = 0) = False := eq_false (by omega)
  have d1 : ((cells.length : Int)).tdiv w = ((cells.length / w : Nat) : Int) := by rw [Int.tdiv_eq_ediv_of_nonneg (by omega)]; push_cast; rfl
  have hle : cells.length / w ≤ cells.length := Nat.div_le_self _ _
  have wd : IntKind.i64.wrap ((cells.length / w : Nat) : Int) = ((cells.length / w : Nat) : Int) := by
    generalize cells.length / w = q at hle
    exact wrap_id (by omega) (by omega)
  refine S_of rfl T348 ?_; unfold fi348
  simp (maxSteps := 1000000) (disch := first | omega | rfl | (simp only [zL, two63, room] <;> omega) | fail) only [↓reduceIte, ↓zP, zW, WOp, evOp, evBin, binI, binSh, binS, evNil, keyIs, keyEq, mkv, AV.cells, AV.sc, optv, bnd, env, put, Env.get, Env.set, Env.del, Env.dels, Env.init, res1, resL, resV, fillP, splice, newRow, Nat.reduceEqDiff, Nat.reduceLT, Nat.reduceLeDiff, Nat.reduceAdd, Nat.reduceMul, Nat.reduceSub, Nat.reduceBEq, reduceCtorEq, ↓zR, zQ, Tr, StA, StT, hwn, d1, wd]
  exact hp _ (Pre.push _ _)
structure Bc (cells : List UInt8) (w h : Nat) : Prop where
  len : cells.length = w * h
  w1 : 1 ≤ w
  w5 : w ≤ 5
  h1 : 1 ≤ h
  h5 : h ≤ 5
theorem Bc.le {cells : List UInt8} {w h : Nat} (hb : Bc cells w h) : cells.length ≤ 25 := by rw [hb.len]; exact Nat.mul_le_mul hb.w5 hb.h5
theorem Bc.div {cells : List UInt8} {w h : Nat} (hb : Bc cells w h) : cells.length / w = h := by rw [hb.len]; exact Nat.mul_div_cancel_left _ hb.w1
theorem c_bSign {cells : List UInt8} {w h : Nat} (hb : Bc cells w h) (x y : Int) {g : AH} {post : AV → AH → Prop} (hp : ∀ g', Pre g g' → post (by8 (bAt cells w h x y)) g') : S 342 [boV cells w, .int .i64 x, .int .i64 y] g post k := by
  have hle := hb.le
  have hdv := hb.div
  have hw1' := hb.w1
  have hw5 := hb.w5
  have hh5 := hb.h5
  have hcl := hb.len
  have pA := Pre.push g (AO.row (boR cells w) 0 0 false)
  have rA : rdRow (g ++ [AO.row (boR cells w) 0 0 false]) g.length 0 0 2 = some (boR cells w) := by simp (maxSteps := 1000000) (disch := first | omega | rfl | (simp only [zL, two63, room] <;> omega) | fail) only [↓reduceIte, ↓zP, zW, WOp, evOp, evBin, binI, binSh, binS, evNil, keyIs, keyEq, mkv, AV.cells, AV.sc, optv, bnd, env, put, Env.get, Env.set, Env.del, Env.dels, Env.init, res1, resL, resV, fillP, splice, newRow, Nat.reduceEqDiff, Nat.reduceLT, Nat.reduceLeDiff, Nat.reduceAdd, Nat.reduceMul, Nat.reduceSub, Nat.reduceBEq, reduceCtorEq, ↓zR, zQ, Tr, StA, StT]
  have rA0 : rdRow (g ++ [AO.row (boR cells w) 0 0 false]) g.length 0 0 1 = some [.str cells] := by simp (maxSteps := 1000000) (disch := first | omega | rfl | (simp only [zL, two63, room] <;> omega) | fail) only [↓reduceIte, ↓zP, zW, WOp, evOp, evBin, binI, binSh, binS, evNil, keyIs, keyEq, mkv, AV.cells, AV.sc, optv, bnd, env, put, Env.get, Env.set, Env.del, Env.dels, Env.init, res1, resL, resV, fillP, splice, newRow, Nat.reduceEqDiff, Nat.reduceLT, Nat.reduceLeDiff, Nat.reduceAdd, Nat.reduceMul, Nat.reduceSub, Nat.reduceBEq, reduceCtorEq, ↓zR, zQ, Tr, StA, StT]
  have rA1 : rdRow (g ++ [AO.row (boR cells w) 0 0 false]) g.length 0 1 1 = some [.int .i64 (w : Int)] := by simp (maxSteps := 1000000) (disch := first | omega | rfl | (simp only [zL, two63, room] <;> omega) | fail) only [↓reduceIte, ↓zP, zW, WOp, evOp, evBin, binI, binSh, binS, evNil, keyIs, keyEq, mkv, AV.cells, AV.sc, optv, bnd, env, put, Env.get, Env.set, Env.del, Env.dels, Env.init, res1, resL, resV, fillP, splice, newRow, Nat.reduceEqDiff, Nat.reduceLT, Nat.reduceLeDiff, Nat.reduceAdd, Nat.reduceMul, Nat.reduceSub, Nat.reduceBEq, reduceCtorEq, ↓zR, zQ, Tr, StA, StT]
  refine S_of rfl T342 ?_; unfold fi342
  by_cases hx : 0 ≤ x ∧ x ≤ (w : Int) - 1
  · simp (maxSteps := 1000000) (disch := first | omega | rfl | (simp only [zL, two63, room] <;> omega) | fail) only [↓reduceIte, ↓zP, zW, WOp, evOp, evBin, binI, binSh, binS, evNil, keyIs, keyEq, mkv, AV.cells, AV.sc, optv, bnd, env, put, Env.get, Env.set, Env.del, Env.dels, Env.init, res1, resL, resV, fillP, splice, newRow, Nat.reduceEqDiff, Nat.reduceLT, Nat.reduceLeDiff, Nat.reduceAdd, Nat.reduceMul, Nat.reduceSub, Nat.reduceBEq, reduceCtorEq, ↓zR, zQ, Tr, StA, StT, e_within, hx]
    refine c_bHigh cells w hb.w1 (by omega) ?_
    intro g1 p1
    have r0 := rdRow_pre p1 rA0
    have r1 := rdRow_pre p1 rA1
    rw [hdv]
    by_cases hy : 0 ≤ y ∧ y ≤ (h : Int) - 1
    · obtain ⟨y, rfl⟩ := Int.eq_ofNat_of_zero_le hy.1
      obtain ⟨x, rfl⟩ := Int.eq_ofNat_of_zero_le hx.1
      have hlt : y * w + x < w * h := by
        have : (y + 1) * w ≤ h * w := Nat.mul_le_mul_right _ (by omega)
        rw [Nat.add_mul, Nat.one_mul, Nat.mul_comm h] at this
        omega
      have m1 : IntKind.i64.wrap ((y : Int) * w) = ((y * w : Nat) : Int) := by
        rw [← Int.natCast_mul]; exact wrap_id (by omega) (by omega)
      have m2 : IntKind.i64.wrap (((y * w : Nat) : Int) + x) = ((y * w + x : Nat) : Int) := by
        rw [← Int.natCast_add]; exact wrap_id (by omega) (by omega)
      have hlt2 : ((y * w + x : Nat) : Int) < (cells.length : Int) := by omega
      simp (maxSteps := 1000000) (disch := first | omega | rfl | (simp only [zL, two63, room] <;> omega) | fail) only [↓reduceIte, ↓zP, zW, WOp, evOp, evBin, binI, binSh, binS, evNil, keyIs, keyEq, mkv, AV.cells, AV.sc, optv, bnd, env, put, Env.get, Env.set, Env.del, Env.dels, Env.init, res1, resL, resV, fillP, splice, newRow, Nat.reduceEqDiff, Nat.reduceLT, Nat.reduceLeDiff, Nat.reduceAdd, Nat.reduceMul, Nat.reduceSub, Nat.reduceBEq, reduceCtorEq, ↓zR, zQ, Tr, StA, StT, e_within, hy, r0, r1, m1, m2, hlt2]
      have hc : bAt cells w h (x : Int) (y : Int) = cells.getD (y * w + x) 0 := by
        unfold bAt
        have e : ((y : Int) * w + x) = ((y * w + x : Nat) : Int) := by rw [Int.natCast_add, Int.natCast_mul]
        rw [if_pos (by omega), e, Int.toNat_natCast]
      have := hp g1 (pA.trans p1)
      rw [hc] at this
      exact this
    · simp (maxSteps := 1000000) (disch := first | omega | rfl | (simp only [zL, two63, room] <;> omega) | fail) only [↓reduceIte, ↓zP, zW, WOp, evOp, evBin, binI, binSh, binS, evNil, keyIs, keyEq, mkv, AV.cells, AV.sc, optv, bnd, env, put, Env.get, Env.set, Env.del, Env.dels, Env.init, res1, resL, resV, fillP, splice, newRow, Nat.reduceEqDiff, Nat.reduceLT, Nat.reduceLeDiff, Nat.reduceAdd, Nat.reduceMul, Nat.reduceSub, Nat.reduceBEq, reduceCtorEq, ↓zR, zQ, Tr, StA, StT, e_within, hy]
      have hc : bAt cells w h x y = 0 := by unfold bAt; rw [if_neg (by omega)]
      have := hp g1 (pA.trans p1)
      rw [hc] at this
      exact this
  · simp (maxSteps := 1000000) (disch := first | omega | rfl | (simp only [zL, two63, room] <;> omega) | fail) only [↓reduceIte, ↓zP, zW, WOp, evOp, evBin, binI, binSh, binS, evNil, keyIs, keyEq, mkv, AV.cells, AV.sc, optv, bnd, env, put, Env.get, Env.set, Env.del, Env.dels, Env.init, res1, resL, resV, fillP, splice, newRow, Nat.reduceEqDiff, Nat.reduceLT, Nat.reduceLeDiff, Nat.reduceAdd, Nat.reduceMul, Nat.reduceSub, Nat.reduceBEq, reduceCtorEq, ↓zR, zQ, Tr, StA, StT, e_within, hx]
    have hc : bAt cells w h x y = 0 := by unfold bAt; rw [if_neg (by omega)]
    have := hp _ pA
    rw [hc] at this
    exact this

/-- One way of a toad's or a frog's. -/
theorem lp_bMoves1 {cells : List UInt8} {w h : Nat} (hb : Bc cells w h) {h0 : AH} {c0 : Nat} (hc0 : rdRow h0 c0 0 0 2 = some (boR cells w)) {i : Nat} (hi : i < cells.length) {d : Int} (hd : d = 1 ∨ d = -1) {cw : Nat} (j : Nat) (hj : j < 2) (dx dy : Int) (hdj : (j = 0 ∧ dx = d ∧ dy = 0) ∨ (j = 1 ∧ dx = 0 ∧ dy = d)) {o : AV} {L : List Mo} {g : AH} (hL : L.length ≤ 1000) (ho : OwL 2 encM h0 g o L) (hp : Pre h0 g) (hne : rowOf o ≠ some cw) (hcw : g[cw]? = some (.row [.int .i64 d, .int .i64 0, .int .i64 0, .int .i64 d] 0 0 false)) {R : X → Env → AH → Prop}
    (hR : ∀ o' g', OwL 2 encM h0 g' o' (L ++ bTry cells w h i (cells.getD i 0) dx dy) → Pre h0 g' → rowOf o' ≠ some cw → g'[cw]? = some (.row [.int .i64 d, .int .i64 0, .int .i64 0, .int .i64 d] 0 0 false) →
      Cx (.loop lp332_1) [(1, .ptr c0 0 0 2), (3, o'), (4, .int .i64 i), (5, by8 (cells.getD i 0)), (6, .int .i64 (i % w : Nat)), (7, .int .i64 (i / w : Nat)), (16, .int .i64 cells.length), (17, .int .i64 i), (40, .slice cw 0 0 2 2), (41, .int .i64 2), (42, .int .i64 ((j + 1 : Nat) : Int))] g' R k k) :
    Cx (.loop lp332_1) [(1, .ptr c0 0 0 2), (3, o), (4, .int .i64 i), (5, by8 (cells.getD i 0)), (6, .int .i64 (i % w : Nat)), (7, .int .i64 (i / w : Nat)), (16, .int .i64 cells.length), (17, .int .i64 i), (40, .slice cw 0 0 2 2), (41, .int .i64 2), (42, .int .i64 (j : Int))] g R k k := by
  have hle := hb.le
  have hw5 := hb.w5
  have hh5 := hb.h5
  obtain ⟨_, hx, hy⟩ := bd_div (w := w) (h := h) (i := i) (by rw [← hb.len]; exact hi)
  have hlt : (j : Int) < 2 := by omega
  have rW : rdRow g cw 0 (j * 2) 2 = some [.int .i64 dx, .int .i64 dy] := by
    rcases hdj with ⟨rfl, rfl, rfl⟩ | ⟨rfl, rfl, rfl⟩
    · simp [rdRow, hcw]
    · simp [rdRow, hcw]
  have hbd : -1 ≤ dx ∧ dx ≤ 1 ∧ -1 ≤ dy ∧ dy ≤ 1 := by omega
  unfold bTry at hR
  generalize hb0 : cells.getD i 0 = b at hR
  generalize i % w = x at hx hR
  generalize i / w = y at hy hR
  have dyw : -5 ≤ dy * (w : Int) ∧ dy * (w : Int) ≤ 5 := by
    rcases hdj with ⟨_, _, rfl⟩ | ⟨_, _, rfl⟩
    · simp
    · rcases hd with rfl | rfl <;> simp <;> omega
  have dyw2 : 2 * dy * (w : Int) = 2 * (dy * w) := Int.mul_assoc _ _ _
  have w1 : IntKind.i64.wrap ((x : Int) + dx) = x + dx := wrap_id (by omega) (by omega)
  have w2 : IntKind.i64.wrap ((y : Int) + dy) = y + dy := wrap_id (by omega) (by omega)
  have w3 : IntKind.i64.wrap ((i : Int) + dx) = i + dx := wrap_id (by omega) (by omega)
  have w4 : IntKind.i64.wrap (dy * (w : Int)) = dy * w := wrap_id (by omega) (by omega)
  have w5 : IntKind.i64.wrap ((i : Int) + dx + dy * w) = i + dx + dy * w := wrap_id (by omega) (by omega)
  have w6 : IntKind.i64.wrap (2 * dx) = 2 * dx := wrap_id (by omega) (by omega)
  have w7 : IntKind.i64.wrap (2 * dy) = 2 * dy := wrap_id (by omega) (by omega)
  have w8 : IntKind.i64.wrap ((x : Int) + 2 * dx) = x + 2 * dx := wrap_id (by omega) (by omega)
  have w9 : IntKind.i64.wrap ((y : Int) + 2 * dy) = y + 2 * dy := wrap_id (by omega) (by omega)
  have w10 : IntKind.i64.wrap ((i : Int) + 2 * dx) = i + 2 * dx := wrap_id (by omega) (by omega)
  have w11 : IntKind.i64.wrap (2 * dy * (w : Int)) = 2 * dy * w := wrap_id (by omega) (by omega)
  have w12 : IntKind.i64.wrap ((i : Int) + 2 * dx + 2 * dy * w) = i + 2 * dx + 2 * dy * w := wrap_id (by omega) (by omega)
  have wj : IntKind.i64.wrap ((j : Int) + 1) = ((j + 1 : Nat) : Int) := by rw [IntKind.wrap_i64]; omega
  have hcwl : cw < g.length := (List.getElem?_eq_some_iff.1 hcw).1
  have hc0' := rdRow_pre hp hc0
  have fin : ∀ {g1 : AH} (m : Mo), Pre g g1 → ∃ o' g2, apRow (g1 ++ [AO.row (encM m) 0 0 false]) 2 o 1 (encM m) = some (o', g2) ∧ OwL 2 encM h0 g2 o' (L ++ [m]) ∧ Pre h0 g2 ∧ rowOf o' ≠ some cw ∧ g2[cw]? = some (.row [.int .i64 d, .int .i64 0, .int .i64 0, .int .i64 d] 0 0 false) := by
    intro g1 m p1
    have pA := Pre.push g1 (AO.row (encM m) 0 0 false)
    obtain ⟨o', g2, ap, ow, pp⟩ := apL hlM scM (ho.pre (p1.trans pA)) ((hp.trans p1).trans pA) m (by omega)
    obtain ⟨f1, f2, f3⟩ := apRow_fr ap
    refine ⟨o', g2, ap, ow, pp, ?_, ?_⟩
    · intro e
      rcases f3 cw e with h1 | h1
      · exact hne h1
      · have := (p1.trans pA).1; omega
    · rw [f1 cw (by have := (p1.trans pA).1; omega) hne, (p1.trans pA).2 cw hcwl, hcw]
  have u46 : ∀ b : UInt8, ((b.toNat : Int) == 46) = (b == 46) := fun b => u8c b 46
  rw [w_loopb (c := lp332_1) (d := lb332_1) rfl]; unfold lb332_1
  simp (maxSteps := 1000000) (disch := first | omega | rfl | (simp only [zL, two63, room] <;> omega) | fail) only [↓reduceIte, ↓zP, zW, WOp, evOp, evBin, binI, binSh, binS, evNil, keyIs, keyEq, mkv, AV.cells, AV.sc, optv, bnd, env, put, Env.get, Env.set, Env.del, Env.dels, Env.init, res1, resL, resV, fillP, splice, newRow, Nat.reduceEqDiff, Nat.reduceLT, Nat.reduceLeDiff, Nat.reduceAdd, Nat.reduceMul, Nat.reduceSub, Nat.reduceBEq, reduceCtorEq, ↓zR, zQ, Tr, StA, StT, hlt, rW]
  generalize hA : g ++ [AO.row [.int .i64 dx, .int .i64 dy] 0 0 false] = gA
  have pA : Pre g gA := hA ▸ Pre.push _ _
  have rA0 : rdRow gA g.length 0 0 1 = some [.int .i64 dx] := by rw [← hA]; simp (maxSteps := 1000000) (disch := first | omega | rfl | (simp only [zL, two63, room] <;> omega) | fail) only [↓reduceIte, ↓zP, zW, WOp, evOp, evBin, binI, binSh, binS, evNil, keyIs, keyEq, mkv, AV.cells, AV.sc, optv, bnd, env, put, Env.get, Env.set, Env.del, Env.dels, Env.init, res1, resL, resV, fillP, splice, newRow, Nat.reduceEqDiff, Nat.reduceLT, Nat.reduceLeDiff, Nat.reduceAdd, Nat.reduceMul, Nat.reduceSub, Nat.reduceBEq, reduceCtorEq, ↓zR, zQ, Tr, StA, StT]
  have rA1 : rdRow gA g.length 0 1 1 = some [.int .i64 dy] := by rw [← hA]; simp (maxSteps := 1000000) (disch := first | omega | rfl | (simp only [zL, two63, room] <;> omega) | fail) only [↓reduceIte, ↓zP, zW, WOp, evOp, evBin, binI, binSh, binS, evNil, keyIs, keyEq, mkv, AV.cells, AV.sc, optv, bnd, env, put, Env.get, Env.set, Env.del, Env.dels, Env.init, res1, resL, resV, fillP, splice, newRow, Nat.reduceEqDiff, Nat.reduceLT, Nat.reduceLeDiff, Nat.reduceAdd, Nat.reduceMul, Nat.reduceSub, Nat.reduceBEq, reduceCtorEq, ↓zR, zQ, Tr, StA, StT]
  have rc := rdRow_pre pA hc0'
  try (simp (maxSteps := 1000000) (disch := first | omega | rfl | (simp only [zL, two63, room] <;> omega) | fail) only [↓reduceIte, ↓zP, zW, WOp, evOp, evBin, binI, binSh, binS, evNil, keyIs, keyEq, mkv, AV.cells, AV.sc, optv, bnd, env, put, Env.get, Env.set, Env.del, Env.dels, Env.init, res1, resL, resV, fillP, splice, newRow, Nat.reduceEqDiff, Nat.reduceLT, Nat.reduceLeDiff, Nat.reduceAdd, Nat.reduceMul, Nat.reduceSub, Nat.reduceBEq, reduceCtorEq, ↓zR, zQ, Tr, StA, StT, rA0, rA1, Nat.zero_mul, Int.toNat_zero, Int.toNat_one, Nat.add_zero, rc, w1, w2])
  refine c_bSign hb _ _ ?_
  intro g1 p1
  cases e1 : (bAt cells w h (x + dx) (y + dy) == 46)
  · have e1' : ¬ bAt cells w h (x + dx) (y + dy) = 46 := by simpa using e1
    rw [if_neg e1'] at hR
    have rc1 := rdRow_pre p1 rc
    simp (maxSteps := 1000000) (disch := first | omega | rfl | (simp only [zL, two63, room] <;> omega) | fail) only [↓reduceIte, ↓zP, zW, WOp, evOp, evBin, binI, binSh, binS, evNil, keyIs, keyEq, mkv, AV.cells, AV.sc, optv, bnd, env, put, Env.get, Env.set, Env.del, Env.dels, Env.init, res1, resL, resV, fillP, splice, newRow, Nat.reduceEqDiff, Nat.reduceLT, Nat.reduceLeDiff, Nat.reduceAdd, Nat.reduceMul, Nat.reduceSub, Nat.reduceBEq, reduceCtorEq, ↓zR, zQ, Tr, StA, StT, u46, e1, rc1, w1, w2]
    refine c_bSign hb _ _ ?_
    intro g2 p2
    simp (maxSteps := 1000000) (disch := first | omega | rfl | (simp only [zL, two63, room] <;> omega) | fail) only [↓reduceIte, ↓zP, zW, WOp, evOp, evBin, binI, binSh, binS, evNil, keyIs, keyEq, mkv, AV.cells, AV.sc, optv, bnd, env, put, Env.get, Env.set, Env.del, Env.dels, Env.init, res1, resL, resV, fillP, splice, newRow, Nat.reduceEqDiff, Nat.reduceLT, Nat.reduceLeDiff, Nat.reduceAdd, Nat.reduceMul, Nat.reduceSub, Nat.reduceBEq, reduceCtorEq, ↓zR, zQ, Tr, StA, StT]
    refine c_other _ ?_
    cases e2 : (bAt cells w h (x + dx) (y + dy) == otherB b)
    · have e2' : ¬ bAt cells w h (x + dx) (y + dy) = otherB b := by simpa using e2
      rw [if_neg (fun q => e2' q.1)] at hR
      simp (maxSteps := 1000000) (disch := first | omega | rfl | (simp only [zL, two63, room] <;> omega) | fail) only [↓reduceIte, ↓zP, zW, WOp, evOp, evBin, binI, binSh, binS, evNil, keyIs, keyEq, mkv, AV.cells, AV.sc, optv, bnd, env, put, Env.get, Env.set, Env.del, Env.dels, Env.init, res1, resL, resV, fillP, splice, newRow, Nat.reduceEqDiff, Nat.reduceLT, Nat.reduceLeDiff, Nat.reduceAdd, Nat.reduceMul, Nat.reduceSub, Nat.reduceBEq, reduceCtorEq, ↓zR, zQ, Tr, StA, StT, e2, wj]
      rw [w_loopn (c := lp332_1) rfl]
      simp (maxSteps := 1000000) (disch := first | omega | rfl | (simp only [zL, two63, room] <;> omega) | fail) only [↓reduceIte, ↓zP, zW, WOp, evOp, evBin, binI, binSh, binS, evNil, keyIs, keyEq, mkv, AV.cells, AV.sc, optv, bnd, env, put, Env.get, Env.set, Env.del, Env.dels, Env.init, res1, resL, resV, fillP, splice, newRow, Nat.reduceEqDiff, Nat.reduceLT, Nat.reduceLeDiff, Nat.reduceAdd, Nat.reduceMul, Nat.reduceSub, Nat.reduceBEq, reduceCtorEq, ↓zR, zQ, Tr, StA, StT]
      have pp := (pA.trans p1).trans p2
      refine hR o g2 (by simpa using ho.pre pp) (hp.trans pp) hne ?_
      rw [pp.2 cw hcwl, hcw]
    · have e2' : bAt cells w h (x + dx) (y + dy) = otherB b := by simpa using e2
      have rc2 := rdRow_pre p2 rc1
      simp (maxSteps := 1000000) (disch := first | omega | rfl | (simp only [zL, two63, room] <;> omega) | fail) only [↓reduceIte, ↓zP, zW, WOp, evOp, evBin, binI, binSh, binS, evNil, keyIs, keyEq, mkv, AV.cells, AV.sc, optv, bnd, env, put, Env.get, Env.set, Env.del, Env.dels, Env.init, res1, resL, resV, fillP, splice, newRow, Nat.reduceEqDiff, Nat.reduceLT, Nat.reduceLeDiff, Nat.reduceAdd, Nat.reduceMul, Nat.reduceSub, Nat.reduceBEq, reduceCtorEq, ↓zR, zQ, Tr, StA, StT, e2, rc2, w6, w7, w8, w9]
      refine c_bSign hb _ _ ?_
      intro g3 p3
      cases e3 : (bAt cells w h (x + 2 * dx) (y + 2 * dy) == 46)
      · have e3' : ¬ bAt cells w h (x + 2 * dx) (y + 2 * dy) = 46 := by simpa using e3
        rw [if_neg (fun q => e3' q.2)] at hR
        simp (maxSteps := 1000000) (disch := first | omega | rfl | (simp only [zL, two63, room] <;> omega) | fail) only [↓reduceIte, ↓zP, zW, WOp, evOp, evBin, binI, binSh, binS, evNil, keyIs, keyEq, mkv, AV.cells, AV.sc, optv, bnd, env, put, Env.get, Env.set, Env.del, Env.dels, Env.init, res1, resL, resV, fillP, splice, newRow, Nat.reduceEqDiff, Nat.reduceLT, Nat.reduceLeDiff, Nat.reduceAdd, Nat.reduceMul, Nat.reduceSub, Nat.reduceBEq, reduceCtorEq, ↓zR, zQ, Tr, StA, StT, u46, e3, wj]
        rw [w_loopn (c := lp332_1) rfl]
        simp (maxSteps := 1000000) (disch := first | omega | rfl | (simp only [zL, two63, room] <;> omega) | fail) only [↓reduceIte, ↓zP, zW, WOp, evOp, evBin, binI, binSh, binS, evNil, keyIs, keyEq, mkv, AV.cells, AV.sc, optv, bnd, env, put, Env.get, Env.set, Env.del, Env.dels, Env.init, res1, resL, resV, fillP, splice, newRow, Nat.reduceEqDiff, Nat.reduceLT, Nat.reduceLeDiff, Nat.reduceAdd, Nat.reduceMul, Nat.reduceSub, Nat.reduceBEq, reduceCtorEq, ↓zR, zQ, Tr, StA, StT]
        have pp := ((pA.trans p1).trans p2).trans p3
        refine hR o g3 (by simpa using ho.pre pp) (hp.trans pp) hne ?_
        rw [pp.2 cw hcwl, hcw]
      · have e3' : bAt cells w h (x + 2 * dx) (y + 2 * dy) = 46 := by simpa using e3
        rw [if_pos ⟨e2', e3'⟩] at hR
        have rc3 : rdRow g3 c0 0 1 1 = some [.int .i64 (w : Int)] := by
          have := rd_part (rdRow_pre p3 rc2) (o := 1) (m := 1) (by omega)
          exact this
        obtain ⟨o', g4, ap, ow, pp, q1, q2⟩ := fin ((i : Int), (i : Int) + 2 * dx + 2 * dy * w) (((pA.trans p1).trans p2).trans p3)
        have rl : rdRow (g3 ++ [AO.row (encM ((i : Int), (i : Int) + 2 * dx + 2 * dy * w)) 0 0 false]) g3.length 0 0 2 = some (encM ((i : Int), (i : Int) + 2 * dx + 2 * dy * w)) := by simp (maxSteps := 1000000) (disch := first | omega | rfl | (simp only [zL, two63, room] <;> omega) | fail) only [↓reduceIte, ↓zP, zW, WOp, evOp, evBin, binI, binSh, binS, evNil, keyIs, keyEq, mkv, AV.cells, AV.sc, optv, bnd, env, put, Env.get, Env.set, Env.del, Env.dels, Env.init, res1, resL, resV, fillP, splice, newRow, Nat.reduceEqDiff, Nat.reduceLT, Nat.reduceLeDiff, Nat.reduceAdd, Nat.reduceMul, Nat.reduceSub, Nat.reduceBEq, reduceCtorEq, ↓zR, zQ, Tr, StA, StT]
        simp (maxSteps := 1000000) (disch := first | omega | rfl | (simp only [zL, two63, room] <;> omega) | fail) only [↓reduceIte, ↓zP, zW, WOp, evOp, evBin, binI, binSh, binS, evNil, keyIs, keyEq, mkv, AV.cells, AV.sc, optv, bnd, env, put, Env.get, Env.set, Env.del, Env.dels, Env.init, res1, resL, resV, fillP, splice, newRow, Nat.reduceEqDiff, Nat.reduceLT, Nat.reduceLeDiff, Nat.reduceAdd, Nat.reduceMul, Nat.reduceSub, Nat.reduceBEq, reduceCtorEq, ↓zR, zQ, Tr, StA, StT, u46, e3, w6, w7, w10, w11, w12, rc3, ap, rl, wj]
        rw [w_loopn (c := lp332_1) rfl]
        simp (maxSteps := 1000000) (disch := first | omega | rfl | (simp only [zL, two63, room] <;> omega) | fail) only [↓reduceIte, ↓zP, zW, WOp, evOp, evBin, binI, binSh, binS, evNil, keyIs, keyEq, mkv, AV.cells, AV.sc, optv, bnd, env, put, Env.get, Env.set, Env.del, Env.dels, Env.init, res1, resL, resV, fillP, splice, newRow, Nat.reduceEqDiff, Nat.reduceLT, Nat.reduceLeDiff, Nat.reduceAdd, Nat.reduceMul, Nat.reduceSub, Nat.reduceBEq, reduceCtorEq, ↓zR, zQ, Tr, StA, StT]
        exact hR o' g4 ow pp q1 q2
  · have e1' : bAt cells w h (x + dx) (y + dy) = 46 := by simpa using e1
    rw [if_pos e1'] at hR
    have rc3 : rdRow g1 c0 0 1 1 = some [.int .i64 (w : Int)] := by
      have := rd_part (rdRow_pre p1 rc) (o := 1) (m := 1) (by omega)
      exact this
    obtain ⟨o', g4, ap, ow, pp, q1, q2⟩ := fin ((i : Int), (i : Int) + dx + dy * w) (pA.trans p1)
    have rl : rdRow (g1 ++ [AO.row (encM ((i : Int), (i : Int) + dx + dy * w)) 0 0 false]) g1.length 0 0 2 = some (encM ((i : Int), (i : Int) + dx + dy * w)) := by simp (maxSteps := 1000000) (disch := first | omega | rfl | (simp only [zL, two63, room] <;> omega) | fail) only [↓reduceIte, ↓zP, zW, WOp, evOp, evBin, binI, binSh, binS, evNil, keyIs, keyEq, mkv, AV.cells, AV.sc, optv, bnd, env, put, Env.get, Env.set, Env.del, Env.dels, Env.init, res1, resL, resV, fillP, splice, newRow, Nat.reduceEqDiff, Nat.reduceLT, Nat.reduceLeDiff, Nat.reduceAdd, Nat.reduceMul, Nat.reduceSub, Nat.reduceBEq, reduceCtorEq, ↓zR, zQ, Tr, StA, StT]
    simp (maxSteps := 1000000) (disch := first | omega | rfl | (simp only [zL, two63, room] <;> omega) | fail) only [↓reduceIte, ↓zP, zW, WOp, evOp, evBin, binI, binSh, binS, evNil, keyIs, keyEq, mkv, AV.cells, AV.sc, optv, bnd, env, put, Env.get, Env.set, Env.del, Env.dels, Env.init, res1, resL, resV, fillP, splice, newRow, Nat.reduceEqDiff, Nat.reduceLT, Nat.reduceLeDiff, Nat.reduceAdd, Nat.reduceMul, Nat.reduceSub, Nat.reduceBEq, reduceCtorEq, ↓zR, zQ, Tr, StA, StT, u46, e1, w3, w4, w5, rc3, ap, rl, wj]
    rw [w_loopn (c := lp332_1) rfl]
    simp (maxSteps := 1000000) (disch := first | omega | rfl | (simp only [zL, two63, room] <;> omega) | fail) only [↓reduceIte, ↓zP, zW, WOp, evOp, evBin, binI, binSh, binS, evNil, keyIs, keyEq, mkv, AV.cells, AV.sc, optv, bnd, env, put, Env.get, Env.set, Env.del, Env.dels, Env.init, res1, resL, resV, fillP, splice, newRow, Nat.reduceEqDiff, Nat.reduceLT, Nat.reduceLeDiff, Nat.reduceAdd, Nat.reduceMul, Nat.reduceSub, Nat.reduceBEq, reduceCtorEq, ↓zR, zQ, Tr, StA, StT]
    exact hR o' g4 ow pp q1 q2

theorem bOne_len (cells : List UInt8) (w h i : Nat) : (bOne cells w h i).length ≤ 2 := by
  have one : ∀ dx dy, (bTry cells w h i (cells.getD i 0) dx dy).length ≤ 1 := fun dx dy => by
    unfold bTry
    split
    · simp
    · split <;> simp
  unfold bOne
  split
  · simp
  · rw [List.length_append]
    have h1 := one (stepB (cells.getD i 0)) 0
    have h2 := one 0 (stepB (cells.getD i 0))
    omega
theorem lp_bMoves0 {cells : List UInt8} {w h : Nat} (hb : Bc cells w h) {h0 : AH} {c0 : Nat} (hc0 : rdRow h0 c0 0 0 2 = some (boR cells w)) {R : X → Env → AH → Prop} : ∀ (d i : Nat) (o : AV) (L : List Mo) (g : AH), i + d = cells.length → L.length ≤ 2 * i → OwL 2 encM h0 g o L → Pre h0 g →
    (∀ o' g', OwL 2 encM h0 g' o' (L ++ (List.range' i d).flatMap (bOne cells w h)) → Pre h0 g' → R (.exit 0) [(3, o')] g') →
    Cx (.loop lp332_0) [(1, .ptr c0 0 0 2), (3, o), (16, .int .i64 cells.length), (17, .int .i64 i)] g R k k := by
  have hle := hb.le
  have hw1' := hb.w1
  intro d
  induction d with
  | zero =>
    intro i o L g hi hL ho hp hR
    obtain rfl : i = cells.length := by omega
    rw [w_loopb (c := lp332_0) (d := lb332_0) rfl]; unfold lb332_0
    simp (maxSteps := 1000000) (disch := first | omega | rfl | (simp only [zL, two63, room] <;> omega) | fail) only [↓reduceIte, ↓zP, zW, WOp, evOp, evBin, binI, binSh, binS, evNil, keyIs, keyEq, mkv, AV.cells, AV.sc, optv, bnd, env, put, Env.get, Env.set, Env.del, Env.dels, Env.init, res1, resL, resV, fillP, splice, newRow, Nat.reduceEqDiff, Nat.reduceLT, Nat.reduceLeDiff, Nat.reduceAdd, Nat.reduceMul, Nat.reduceSub, Nat.reduceBEq, reduceCtorEq, ↓zR, zQ, Tr, StA, StT]
    exact hR o g (by simpa using ho) hp
  | succ d ih =>
    intro i o L g hi hL ho hp hR
    have hlt : (i : Int) < (cells.length : Int) := by omega
    have hiN : i < w * h := by rw [← hb.len]; omega
    obtain ⟨_, hx, hy⟩ := bd_div hiN
    have hw1 : IntKind.i64.wrap ((i : Int) + 1) = ((i + 1 : Nat) : Int) := by rw [IntKind.wrap_i64]; omega
    have rc := rdRow_pre hp hc0
    have rc0 : rdRow g c0 0 0 1 = some [.str cells] := rd_part rc (o := 0) (m := 1) (by omega)
    have rc1 : rdRow g c0 0 1 1 = some [.int .i64 (w : Int)] := rd_part rc (o := 1) (m := 1) (by omega)
    have hwn : ((w : Int) = 0) = False := eq_false (by omega)
    have d1 : ((i : Int)).tmod w = ((i % w : Nat) : Int) := by rw [Int.tmod_eq_emod_of_nonneg (by omega)]; push_cast; rfl
    have d2 : ((i : Int)).tdiv w = ((i / w : Nat) : Int) := by rw [Int.tdiv_eq_ediv_of_nonneg (by omega)]; push_cast; rfl
    have hh5 := hb.h5
    have wd2 : IntKind.i64.wrap ((i / w : Nat) : Int) = ((i / w : Nat) : Int) := by
      generalize i / w = q at hy
      exact wrap_id (by omega) (by omega)
    have hfm : (List.range' i (d + 1)).flatMap (bOne cells w h) = bOne cells w h i ++ (List.range' (i + 1) d).flatMap (bOne cells w h) := by rw [List.range'_succ, List.flatMap_cons]
    have hbl := bOne_len cells w h i
    rw [hfm, ← List.append_assoc] at hR
    have hone : bOne cells w h i = if stepB (cells.getD i 0) = 0 then [] else bTry cells w h i (cells.getD i 0) (stepB (cells.getD i 0)) 0 ++ bTry cells w h i (cells.getD i 0) 0 (stepB (cells.getD i 0)) := rfl
    have hsr := stepB_range (cells.getD i 0)
    rw [w_loopb (c := lp332_0) (d := lb332_0) rfl]; unfold lb332_0
    simp (maxSteps := 1000000) (disch := first | omega | rfl | (simp only [zL, two63, room] <;> omega) | fail) only [↓reduceIte, ↓zP, zW, WOp, evOp, evBin, binI, binSh, binS, evNil, keyIs, keyEq, mkv, AV.cells, AV.sc, optv, bnd, env, put, Env.get, Env.set, Env.del, Env.dels, Env.init, res1, resL, resV, fillP, splice, newRow, Nat.reduceEqDiff, Nat.reduceLT, Nat.reduceLeDiff, Nat.reduceAdd, Nat.reduceMul, Nat.reduceSub, Nat.reduceBEq, reduceCtorEq, ↓zR, zQ, Tr, StA, StT, hlt, rc0, rc1, hwn, d1, d2, wd2]
    refine c_stepOf _ ?_
    by_cases hz : stepB (cells.getD i 0) = 0
    · rw [if_pos hz] at hone
      have hzb : (stepB (cells.getD i 0) == 0) = true := by simpa using hz
      simp (maxSteps := 1000000) (disch := first | omega | rfl | (simp only [zL, two63, room] <;> omega) | fail) only [↓reduceIte, ↓zP, zW, WOp, evOp, evBin, binI, binSh, binS, evNil, keyIs, keyEq, mkv, AV.cells, AV.sc, optv, bnd, env, put, Env.get, Env.set, Env.del, Env.dels, Env.init, res1, resL, resV, fillP, splice, newRow, Nat.reduceEqDiff, Nat.reduceLT, Nat.reduceLeDiff, Nat.reduceAdd, Nat.reduceMul, Nat.reduceSub, Nat.reduceBEq, reduceCtorEq, ↓zR, zQ, Tr, StA, StT, hzb, hw1]
      rw [w_loopn (c := lp332_0) rfl]
      simp (maxSteps := 1000000) (disch := first | omega | rfl | (simp only [zL, two63, room] <;> omega) | fail) only [↓reduceIte, ↓zP, zW, WOp, evOp, evBin, binI, binSh, binS, evNil, keyIs, keyEq, mkv, AV.cells, AV.sc, optv, bnd, env, put, Env.get, Env.set, Env.del, Env.dels, Env.init, res1, resL, resV, fillP, splice, newRow, Nat.reduceEqDiff, Nat.reduceLT, Nat.reduceLeDiff, Nat.reduceAdd, Nat.reduceMul, Nat.reduceSub, Nat.reduceBEq, reduceCtorEq, ↓zR, zQ, Tr, StA, StT]
      refine ih (i + 1) o L g (by omega) (by omega) ho hp ?_
      intro o' g' q1 q2
      refine hR o' g' ?_ q2
      rw [hone, List.append_nil]
      exact q1
    · rw [if_neg hz] at hone
      have hzb : (stepB (cells.getD i 0) == 0) = false := by simpa using hz
      have hd : stepB (cells.getD i 0) = 1 ∨ stepB (cells.getD i 0) = -1 := by omega
      generalize hdd : stepB (cells.getD i 0) = dd at hone hd hzb
      simp (maxSteps := 1000000) (disch := first | omega | rfl | (simp only [zL, two63, room] <;> omega) | fail) only [↓reduceIte, ↓zP, zW, WOp, evOp, evBin, binI, binSh, binS, evNil, keyIs, keyEq, mkv, AV.cells, AV.sc, optv, bnd, env, put, Env.get, Env.set, Env.del, Env.dels, Env.init, res1, resL, resV, fillP, splice, newRow, Nat.reduceEqDiff, Nat.reduceLT, Nat.reduceLeDiff, Nat.reduceAdd, Nat.reduceMul, Nat.reduceSub, Nat.reduceBEq, reduceCtorEq, ↓zR, zQ, Tr, StA, StT, hzb]
      generalize hA : g ++ [AO.row [.int .i64 dd, .int .i64 0, .int .i64 0, .int .i64 dd] 0 0 false] = gA
      have pA : Pre g gA := hA ▸ Pre.push _ _
      have rA : gA[g.length]? = some (.row [.int .i64 dd, .int .i64 0, .int .i64 0, .int .i64 dd] 0 0 false) := by rw [← hA]; simp
      have hne : rowOf o ≠ some g.length := fun e => by have := own_lt ho e; omega
      refine lp_bMoves1 hb hc0 (i := i) (by omega) hd 0 (by omega) dd 0 (.inl ⟨rfl, rfl, rfl⟩) (by omega) (ho.pre pA) (hp.trans pA) hne rA ?_
      intro o1 g1 q1 q2 q3 q4
      have hl1 : (L ++ bTry cells w h i (cells.getD i 0) dd 0).length ≤ 1000 := by
        rw [List.length_append]
        rw [hone, List.length_append] at hbl
        omega
      refine lp_bMoves1 hb hc0 (i := i) (by omega) hd 1 (by omega) 0 dd (.inr ⟨rfl, rfl, rfl⟩) hl1 q1 q2 q3 q4 ?_
      intro o2 g2 q5 q6 q7 q8
      have h22 : ((1 + 1 : Nat) : Int) = 2 := rfl
      rw [h22]
      rw [w_loopb (c := lp332_1) (d := lb332_1) rfl]; unfold lb332_1
      simp (maxSteps := 1000000) (disch := first | omega | rfl | (simp only [zL, two63, room] <;> omega) | fail) only [↓reduceIte, ↓zP, zW, WOp, evOp, evBin, binI, binSh, binS, evNil, keyIs, keyEq, mkv, AV.cells, AV.sc, optv, bnd, env, put, Env.get, Env.set, Env.del, Env.dels, Env.init, res1, resL, resV, fillP, splice, newRow, Nat.reduceEqDiff, Nat.reduceLT, Nat.reduceLeDiff, Nat.reduceAdd, Nat.reduceMul, Nat.reduceSub, Nat.reduceBEq, reduceCtorEq, ↓zR, zQ, Tr, StA, StT, hw1]
      rw [w_loopn (c := lp332_0) rfl]
      simp (maxSteps := 1000000) (disch := first | omega | rfl | (simp only [zL, two63, room] <;> omega) | fail) only [↓reduceIte, ↓zP, zW, WOp, evOp, evBin, binI, binSh, binS, evNil, keyIs, keyEq, mkv, AV.cells, AV.sc, optv, bnd, env, put, Env.get, Env.set, Env.del, Env.dels, Env.init, res1, resL, resV, fillP, splice, newRow, Nat.reduceEqDiff, Nat.reduceLT, Nat.reduceLeDiff, Nat.reduceAdd, Nat.reduceMul, Nat.reduceSub, Nat.reduceBEq, reduceCtorEq, ↓zR, zQ, Tr, StA, StT]
      refine ih (i + 1) o2 _ g2 (by omega) ?_ q5 q6 ?_
      · rw [List.append_assoc, ← hone, List.length_append]; omega
      · intro o' g' k1 k2
        refine hR o' g' ?_ k2
        rw [hone]
        simpa [List.append_assoc] using k1
theorem mosOf_enc : ∀ L : List Mo, mosOf (L.flatMap encM) = some L
  | [] => rfl
  | (a, b) :: L => by
    rw [List.flatMap_cons]
    show mosOf (.int .i64 a :: .int .i64 b :: L.flatMap encM) = _
    unfold mosOf
    rw [mosOf_enc L]
    rfl
theorem srtMo_len (L : List Mo) : (srtMo L).length = L.length := List.length_mergeSort _
theorem sortM_own {b g : AH} {o : AV} {L : List Mo} (ho : OwL 2 encM b g o L) (hp : Pre b g) (hL : L.length ≤ 1099511627776) (f : Nat) : ∃ g', xSortM f [o, .fn f []] g = some (.tup [], g') ∧ OwL 2 encM b g' o (srtMo L) ∧ Pre b g' := by
  have hnil : L = [] → srtMo L = [] := fun e => by rw [e]; simp [srtMo]
  unfold OwL Own at ho
  cases o <;> simp only at ho <;> try (exact ho.elim)
  · have hL0 : L = [] := List.eq_nil_of_length_eq_zero ho.1
    refine ⟨g, by unfold xSortM; simp, ?_, hp⟩
    rw [hnil hL0]; exact OwL.nil
  · have hL0 : L = [] := List.eq_nil_of_length_eq_zero ho.1
    refine ⟨g, by unfold xSortM; simp, ?_, hp⟩
    rw [hnil hL0]; exact OwL.emp
  · rename_i c kk off n e
    by_cases hL0 : L = []
    · refine ⟨g, ?_, ?_, hp⟩
      · unfold xSortM
        have : n = 0 := by rw [ho.2.1, hL0]; rfl
        simp [this]
      · rw [hnil hL0]
        unfold OwL Own
        simp only
        rw [hL0] at ho
        exact ho
    obtain ⟨rfl, rfl, h3, h4, cells, fl, h5, h6, h7, h8⟩ := ho
    have hlt := (List.getElem?_eq_some_iff.1 h5).1
    have hL1 : L.length ≠ 0 := fun e => hL0 (List.eq_nil_of_length_eq_zero e)
    have hrd : rdRow g c kk off (L.length * 2) = some (L.flatMap encM) := by
      unfold rdRow
      rw [h5]
      simp only
      rw [if_pos ⟨h6, Nat.le_refl _, by omega⟩, h8, List.take_of_length_le (by omega)]
    have hml : (moC (srtMo L)).length = L.length * 2 := by
      have := flat_len hlM (srtMo L)
      rw [srtMo_len] at this
      exact this
    have hsc : (moC (srtMo L)).all AV.sc = true := by
      rw [List.all_eq_true]
      intro x hx
      obtain ⟨m, _, hm⟩ := List.mem_flatMap.1 hx
      simp at hm
      rcases hm with rfl | rfl <;> rfl
    have hw : wrRow g c kk off (moC (srtMo L)) = some (g.set c (.row (splice cells off (moC (srtMo L))) kk kk false)) := by
      unfold wrRow
      rw [h5]
      simp only
      rw [if_pos ⟨trivial, h6, by rw [hml]; omega, hsc⟩]
    refine ⟨g.set c (.row (splice cells off (moC (srtMo L))) kk kk false), ?_, ?_, hp.set h4⟩
    · unfold xSortM
      simp only
      rw [if_neg (fun q => hL1 q.2), if_pos ⟨trivial, trivial, hL⟩, hrd]
      simp only [mosOf_enc]
      rw [hw]
      rfl
    · unfold OwL Own
      simp only
      have hsl : (splice cells off (moC (srtMo L))).length = cells.length := by
        unfold splice
        simp only [List.length_append, List.length_take, List.length_drop]
        omega
      refine ⟨trivial, (srtMo_len L).symm, by rw [srtMo_len]; exact hml.symm, h4, _, kk, by rw [List.getElem?_set, if_pos rfl, if_pos hlt], Nat.le_refl _, by rw [srtMo_len, hsl]; exact h7, ?_⟩
      unfold splice
      rw [List.append_assoc, List.drop_append_of_le_length (by simp; omega), List.drop_take, Nat.sub_self, List.take_zero, List.nil_append, List.drop_of_length_le (by rw [hml]; omega), List.append_nil]
theorem c_bMoves {cells : List UInt8} {w h : Nat} (hb : Bc cells w h) {g : AH} {post : AV → AH → Prop} (hp : ∀ o g', OwL 2 encM g g' o (bMoves cells w h) → Pre g g' → post o g') : S 332 [boV cells w] g post k := by
  have hle := hb.le
  refine S_of rfl T332 ?_; unfold fi332
  simp (maxSteps := 1000000) (disch := first | omega | rfl | (simp only [zL, two63, room] <;> omega) | fail) only [↓reduceIte, ↓zP, zW, WOp, evOp, evBin, binI, binSh, binS, evNil, keyIs, keyEq, mkv, AV.cells, AV.sc, optv, bnd, env, put, Env.get, Env.set, Env.del, Env.dels, Env.init, res1, resL, resV, fillP, splice, newRow, Nat.reduceEqDiff, Nat.reduceLT, Nat.reduceLeDiff, Nat.reduceAdd, Nat.reduceMul, Nat.reduceSub, Nat.reduceBEq, reduceCtorEq, ↓zR, zQ, Tr, StA, StT]
  generalize hA : g ++ [AO.row [.str cells, .int .i64 (w : Int)] 0 0 false] = gA
  have pA : Pre g gA := hA ▸ Pre.push _ _
  have rA : rdRow gA g.length 0 0 2 = some (boR cells w) := by rw [← hA]; simp (maxSteps := 1000000) (disch := first | omega | rfl | (simp only [zL, two63, room] <;> omega) | fail) only [↓reduceIte, ↓zP, zW, WOp, evOp, evBin, binI, binSh, binS, evNil, keyIs, keyEq, mkv, AV.cells, AV.sc, optv, bnd, env, put, Env.get, Env.set, Env.del, Env.dels, Env.init, res1, resL, resV, fillP, splice, newRow, Nat.reduceEqDiff, Nat.reduceLT, Nat.reduceLeDiff, Nat.reduceAdd, Nat.reduceMul, Nat.reduceSub, Nat.reduceBEq, reduceCtorEq, ↓zR, zQ, Tr, StA, StT]
  have rA0 : rdRow gA g.length 0 0 1 = some [.str cells] := rd_part rA (o := 0) (m := 1) (by omega)
  try (simp (maxSteps := 1000000) (disch := first | omega | rfl | (simp only [zL, two63, room] <;> omega) | fail) only [↓reduceIte, ↓zP, zW, WOp, evOp, evBin, binI, binSh, binS, evNil, keyIs, keyEq, mkv, AV.cells, AV.sc, optv, bnd, env, put, Env.get, Env.set, Env.del, Env.dels, Env.init, res1, resL, resV, fillP, splice, newRow, Nat.reduceEqDiff, Nat.reduceLT, Nat.reduceLeDiff, Nat.reduceAdd, Nat.reduceMul, Nat.reduceSub, Nat.reduceBEq, reduceCtorEq, ↓zR, zQ, Tr, StA, StT, rA0])
  refine lp_bMoves0 hb rA cells.length 0 .empS [] gA (by omega) (by simp) OwL.emp (Pre.refl _) ?_
  intro o g1 ho p1
  rw [← List.range_eq_range', List.nil_append] at ho
  have hl : (bRaw cells w h).length ≤ 1099511627776 := by
    have h1 : ∀ l : List Nat, (l.flatMap (bOne cells w h)).length ≤ 2 * l.length := by
      intro l
      induction l with
      | nil => simp
      | cons a l ih =>
        have := bOne_len cells w h a
        rw [List.flatMap_cons, List.length_append, List.length_cons]; omega
    have := h1 (List.range cells.length)
    unfold bRaw
    rw [List.length_range] at this
    omega
  obtain ⟨g2, hx, ho2, p2⟩ := sortM_own (L := bRaw cells w h) ho p1 hl 344
  simp (maxSteps := 1000000) (disch := first | omega | rfl | (simp only [zL, two63, room] <;> omega) | fail) only [↓reduceIte, ↓zP, zW, WOp, evOp, evBin, binI, binSh, binS, evNil, keyIs, keyEq, mkv, AV.cells, AV.sc, optv, bnd, env, put, Env.get, Env.set, Env.del, Env.dels, Env.init, res1, resL, resV, fillP, splice, newRow, Nat.reduceEqDiff, Nat.reduceLT, Nat.reduceLeDiff, Nat.reduceAdd, Nat.reduceMul, Nat.reduceSub, Nat.reduceBEq, reduceCtorEq, ↓zR, zQ, Tr, StA, StT]
  refine S_extV (G := xSortM 344) rfl hx ?_
  simp (maxSteps := 1000000) (disch := first | omega | rfl | (simp only [zL, two63, room] <;> omega) | fail) only [↓reduceIte, ↓zP, zW, WOp, evOp, evBin, binI, binSh, binS, evNil, keyIs, keyEq, mkv, AV.cells, AV.sc, optv, bnd, env, put, Env.get, Env.set, Env.del, Env.dels, Env.init, res1, resL, resV, fillP, splice, newRow, Nat.reduceEqDiff, Nat.reduceLT, Nat.reduceLeDiff, Nat.reduceAdd, Nat.reduceMul, Nat.reduceSub, Nat.reduceBEq, reduceCtorEq, ↓zR, zQ, Tr, StA, StT]
  exact hp o g2 (ho2.old pA.1) (pA.trans p2)
end Go.Proofs.YtgdlaopjabjkbaaGreatDoor.Ab

/- BOARDS: texts read, the laws IsBoardBlocked and BoardMoves. -/
namespace Go.Proofs.YtgdlaopjabjkbaaGreatDoor.Ab
open Go
set_option maxRecDepth 100000
set_option maxHeartbeats 4000000

theorem idx_head (c : UInt8) : ∀ (s cur : List UInt8), Go.Lib.indexByte (s ++ [c]) c + cur.length = (((splA c cur s).getD 0 []).length : Nat)
  | [], cur => by simp [splA, Go.Lib.indexByte]
  | b :: s, cur => by
    by_cases e : b = c
    · subst e
      rw [splA_cons, if_pos rfl]
      simp [Go.Lib.indexByte]
    · have hb : (b == c) = false := by simpa using e
      have ih := idx_head c s (cur ++ [b])
      rw [splA_cons, if_neg e, ← ih]
      have hne : Go.Lib.indexByte (s ++ [c]) c ≠ -1 := by
        intro h1
        rw [h1] at ih
        have h2 : ∀ (s cur : List UInt8), cur.length ≤ ((splA c cur s).getD 0 []).length := by
          intro s
          induction s with
          | nil => intro cur; simp [splA]
          | cons b s ih =>
            intro cur
            rw [splA_cons]
            split
            · simp
            · have := ih (cur ++ [b])
              simp at this ⊢
              omega
        have := h2 s (cur ++ [b])
        omega
      have hm : (Go.Lib.indexByte (s ++ [c]) c == -1) = false := by simpa using hne
      have hu : Go.Lib.indexByte (b :: s ++ [c]) c = Go.Lib.indexByte (s ++ [c]) c + 1 := by
        rw [List.cons_append]
        conv => lhs; unfold Go.Lib.indexByte
        rw [hb, hm]
        simp
      rw [hu, List.length_append]
      simp
      omega
def ln5 (r : List UInt8) : Bool := decide (1 ≤ (r.length : Int) ∧ (r.length : Int) ≤ 5) && r.all isSign
theorem boOK_eq (b : List UInt8) : boOK b = (decide (b.length ≤ 30) && (decide ((spl b).length ≤ 5) && !((spl b).any fun r => !(ln5 r && decide (r.length = ((spl b).getD 0 []).length))))) := by
  have h1 : ∀ r, rowOK ((spl b).getD 0 []).length r = (ln5 r && decide (r.length = ((spl b).getD 0 []).length)) := by
    intro r
    unfold rowOK goodLine ln5
    cases hr : r.all isSign
    · simp
    · by_cases e1 : 1 ≤ r.length ∧ r.length ≤ 5
      · rw [decide_eq_true (show 1 ≤ r.length ∧ r.length ≤ 12 by omega), decide_eq_true (show r.length ≤ 5 by omega), decide_eq_true (show 1 ≤ (r.length : Int) ∧ (r.length : Int) ≤ 5 by omega)]
        simp
      · rw [decide_eq_false (show ¬ (1 ≤ (r.length : Int) ∧ (r.length : Int) ≤ 5) by omega)]
        by_cases e2 : r.length ≤ 5
        · rw [decide_eq_false (show ¬ (1 ≤ r.length ∧ r.length ≤ 12) by omega)]; simp
        · rw [decide_eq_false e2]; simp
  have h2 : (spl b).all (rowOK ((spl b).getD 0 []).length) = !((spl b).any fun r => !(ln5 r && decide (r.length = ((spl b).getD 0 []).length))) := by
    rw [show rowOK ((spl b).getD 0 []).length = fun r => (ln5 r && decide (r.length = ((spl b).getD 0 []).length)) from funext h1]
    rw [List.any_eq_not_all_not, Bool.not_not]
    simp
  have h3 := spl_count b
  unfold boOK
  rw [h2]
  by_cases e5 : (spl b).length ≤ 5
  · rw [decide_eq_true e5, decide_eq_true (show 1 ≤ (spl b).length ∧ (spl b).length ≤ 5 by omega), Bool.true_and]
    cases hA : !((spl b).any fun r => !(ln5 r && decide (r.length = ((spl b).getD 0 []).length)))
    · simp
    · simp only [Bool.and_true, decide_eq_decide]
      rw [← h2, List.all_eq_true] at hA
      have h4 : ∀ {L : List (List UInt8)}, (∀ r ∈ L, r.length ≤ 5) → L.flatten.length ≤ 5 * L.length := by
        intro L
        induction L with
        | nil => simp
        | cons a L ih =>
          intro h
          have := ih fun r hr => h r (by simp [hr])
          have := h a (by simp)
          rw [List.flatten_cons, List.length_append, List.length_cons]; omega
      have h5 := h4 (L := spl b) fun r hr => by
        have := hA r hr
        unfold rowOK at this
        simp only [Bool.and_eq_true, decide_eq_true_iff] at this
        exact this.2.1
      have h6 := spl_len b
      omega
  · rw [decide_eq_false e5, decide_eq_false (show ¬ (1 ≤ (spl b).length ∧ (spl b).length ≤ 5) by omega)]
    simp
theorem row_own (h : AH) (L : List (List UInt8)) : OwL 1 encS h (h ++ [.row (L.map AV.str) 0 0 false]) (.slice h.length 0 0 L.length 1) L := by
  have hm : L.map AV.str = L.flatMap encS := by
    induction L with
    | nil => rfl
    | cons a L ih => rw [List.map_cons, List.flatMap_cons, ih]; rfl
  unfold OwL Own
  simp only
  refine ⟨trivial, trivial, by rw [flat_len hlS], Nat.le_refl _, L.map AV.str, 0, by simp, Nat.le_refl _, by simp, by rw [hm]; rfl⟩
theorem c_IsBoard (b : List UInt8) (hb : b.length < 2 ^ 30) {h : AH} {post : AV → AH → Prop} (hp : ∀ h', Pre h h' → post (.bool (boOK b)) h') : S 330 [.str b] h post k := by
  rw [boOK_eq] at hp
  refine S_of rfl T330 ?_; unfold fi330
  by_cases e1 : b.length ≤ 30
  · have e1' : (b.length : Int) ≤ 30 := by omega
    rw [decide_eq_true e1, Bool.true_and] at hp
    have hx : xSplit [.str b, .str [47]] h = some (.slice h.length 0 0 (spl b).length 1, h ++ [.row ((spl b).map AV.str) 0 0 false]) := by
      unfold xSplit
      simp only
      rw [if_pos (by omega)]
      rfl
    simp (maxSteps := 1000000) (disch := first | omega | rfl | (simp only [zL, two63, room] <;> omega) | fail) only [↓reduceIte, ↓zP, zW, WOp, evOp, evBin, binI, binSh, binS, evNil, keyIs, keyEq, mkv, AV.cells, AV.sc, optv, bnd, env, put, Env.get, Env.set, Env.del, Env.dels, Env.init, res1, resL, resV, fillP, splice, newRow, Nat.reduceEqDiff, Nat.reduceLT, Nat.reduceLeDiff, Nat.reduceAdd, Nat.reduceMul, Nat.reduceSub, Nat.reduceBEq, reduceCtorEq, ↓zR, zQ, Tr, StA, StT, e1']
    refine S_extV (G := xSplit) rfl hx ?_
    have ow := row_own h (spl b)
    have pA := Pre.push h (AO.row ((spl b).map AV.str) 0 0 false)
    generalize hA : h ++ [AO.row ((spl b).map AV.str) 0 0 false] = gA at ow pA
    have hv : AV.sc (.slice h.length 0 0 (spl b).length 1) = true := rfl
    simp (maxSteps := 1000000) (disch := first | omega | rfl | (simp only [zL, two63, room] <;> omega) | fail) only [↓reduceIte, ↓zP, zW, WOp, evOp, evBin, binI, binSh, binS, evNil, keyIs, keyEq, mkv, AV.cells, AV.sc, optv, bnd, env, put, Env.get, Env.set, Env.del, Env.dels, Env.init, res1, resL, resV, fillP, splice, newRow, Nat.reduceEqDiff, Nat.reduceLT, Nat.reduceLeDiff, Nat.reduceAdd, Nat.reduceMul, Nat.reduceSub, Nat.reduceBEq, reduceCtorEq, ↓zR, zQ, Tr, StA, StT, hv]
    generalize hB : gA ++ [AO.row [.slice h.length 0 0 (spl b).length 1] 0 0 false] = gB
    have pB : Pre gA gB := hB ▸ Pre.push _ _
    have rB : rdRow gB gA.length 0 0 1 = some [.slice h.length 0 0 (spl b).length 1] := by rw [← hB]; simp (maxSteps := 1000000) (disch := first | omega | rfl | (simp only [zL, two63, room] <;> omega) | fail) only [↓reduceIte, ↓zP, zW, WOp, evOp, evBin, binI, binSh, binS, evNil, keyIs, keyEq, mkv, AV.cells, AV.sc, optv, bnd, env, put, Env.get, Env.set, Env.del, Env.dels, Env.init, res1, resL, resV, fillP, splice, newRow, Nat.reduceEqDiff, Nat.reduceLT, Nat.reduceLeDiff, Nat.reduceAdd, Nat.reduceMul, Nat.reduceSub, Nat.reduceBEq, reduceCtorEq, ↓zR, zQ, Tr, StA, StT]
    try (simp (maxSteps := 1000000) (disch := first | omega | rfl | (simp only [zL, two63, room] <;> omega) | fail) only [↓reduceIte, ↓zP, zW, WOp, evOp, evBin, binI, binSh, binS, evNil, keyIs, keyEq, mkv, AV.cells, AV.sc, optv, bnd, env, put, Env.get, Env.set, Env.del, Env.dels, Env.init, res1, resL, resV, fillP, splice, newRow, Nat.reduceEqDiff, Nat.reduceLT, Nat.reduceLeDiff, Nat.reduceAdd, Nat.reduceMul, Nat.reduceSub, Nat.reduceBEq, reduceCtorEq, ↓zR, zQ, Tr, StA, StT, rB])
    by_cases e5 : (spl b).length ≤ 5
    · have e5' : ((spl b).length : Int) ≤ 5 := by omega
      rw [decide_eq_true e5, Bool.true_and] at hp
      simp (maxSteps := 1000000) (disch := first | omega | rfl | (simp only [zL, two63, room] <;> omega) | fail) only [↓reduceIte, ↓zP, zW, WOp, evOp, evBin, binI, binSh, binS, evNil, keyIs, keyEq, mkv, AV.cells, AV.sc, optv, bnd, env, put, Env.get, Env.set, Env.del, Env.dels, Env.init, res1, resL, resV, fillP, splice, newRow, Nat.reduceEqDiff, Nat.reduceLT, Nat.reduceLeDiff, Nat.reduceAdd, Nat.reduceMul, Nat.reduceSub, Nat.reduceBEq, reduceCtorEq, ↓zR, zQ, Tr, StA, StT, e5', rB]
      have hs := (ow.pre pB).slc
      have hl0 : 0 < (spl b).length := by have := spl_count b; omega
      refine c_ContainsFuncS 339 [.ptr gA.length 0 0 1] (fun r => !(ln5 r && decide (r.length = ((spl b).getD 0 []).length))) (fun g => Pre gB g) (by omega) (fun g hg => hs.pre hg) ?_ (Pre.refl _) ?_
      · intro r hr g hg post2 hp2
        have hrl := spl_elem_len b hr
        have rC := rdRow_pre hg rB
        have hr0 := (hs.pre hg).idxS (i := 0) hl0
        have h0lt : (0 : Int) < ((spl b).length : Int) := by omega
        have hp3 := hp2 g hg
        refine S_of rfl T339 ?_; unfold fi339
        simp (maxSteps := 1000000) (disch := first | omega | rfl | (simp only [zL, two63, room] <;> omega) | fail) only [↓reduceIte, ↓zP, zW, WOp, evOp, evBin, binI, binSh, binS, evNil, keyIs, keyEq, mkv, AV.cells, AV.sc, optv, bnd, env, put, Env.get, Env.set, Env.del, Env.dels, Env.init, res1, resL, resV, fillP, splice, newRow, Nat.reduceEqDiff, Nat.reduceLT, Nat.reduceLeDiff, Nat.reduceAdd, Nat.reduceMul, Nat.reduceSub, Nat.reduceBEq, reduceCtorEq, ↓zR, zQ, Tr, StA, StT]
        refine c_isLineOf r 5 (by omega) (by omega) ?_
        have hl5 : (decide (1 ≤ (r.length : Int) ∧ (r.length : Int) ≤ 5) && r.all isSign) = ln5 r := rfl
        rw [hl5]
        cases e6 : ln5 r
        · rw [e6] at hp3
          simp (maxSteps := 1000000) (disch := first | omega | rfl | (simp only [zL, two63, room] <;> omega) | fail) only [↓reduceIte, ↓zP, zW, WOp, evOp, evBin, binI, binSh, binS, evNil, keyIs, keyEq, mkv, AV.cells, AV.sc, optv, bnd, env, put, Env.get, Env.set, Env.del, Env.dels, Env.init, res1, resL, resV, fillP, splice, newRow, Nat.reduceEqDiff, Nat.reduceLT, Nat.reduceLeDiff, Nat.reduceAdd, Nat.reduceMul, Nat.reduceSub, Nat.reduceBEq, reduceCtorEq, ↓zR, zQ, Tr, StA, StT]
          exact hp3
        · rw [e6] at hp3
          by_cases e7 : r.length = ((spl b).getD 0 []).length
          · have e7' : (r.length : Int) = (((spl b).getD 0 []).length : Int) := by omega
            rw [decide_eq_true e7] at hp3
            simp (maxSteps := 1000000) (disch := first | omega | rfl | (simp only [zL, two63, room] <;> omega) | fail) only [↓reduceIte, ↓zP, zW, WOp, evOp, evBin, binI, binSh, binS, evNil, keyIs, keyEq, mkv, AV.cells, AV.sc, optv, bnd, env, put, Env.get, Env.set, Env.del, Env.dels, Env.init, res1, resL, resV, fillP, splice, newRow, Nat.reduceEqDiff, Nat.reduceLT, Nat.reduceLeDiff, Nat.reduceAdd, Nat.reduceMul, Nat.reduceSub, Nat.reduceBEq, reduceCtorEq, ↓zR, zQ, Tr, StA, StT, rC, h0lt, hr0, Nat.zero_mul, Int.toNat_zero, Nat.add_zero, e7']
            exact hp3
          · have e7' : (r.length : Int) ≠ (((spl b).getD 0 []).length : Int) := by omega
            rw [decide_eq_false e7] at hp3
            simp (maxSteps := 1000000) (disch := first | omega | rfl | (simp only [zL, two63, room] <;> omega) | fail) only [↓reduceIte, ↓zP, zW, WOp, evOp, evBin, binI, binSh, binS, evNil, keyIs, keyEq, mkv, AV.cells, AV.sc, optv, bnd, env, put, Env.get, Env.set, Env.del, Env.dels, Env.init, res1, resL, resV, fillP, splice, newRow, Nat.reduceEqDiff, Nat.reduceLT, Nat.reduceLeDiff, Nat.reduceAdd, Nat.reduceMul, Nat.reduceSub, Nat.reduceBEq, reduceCtorEq, ↓zR, zQ, Tr, StA, StT, rC, h0lt, hr0, Nat.zero_mul, Int.toNat_zero, Nat.add_zero, e7']
            exact hp3
      · intro g hg
        have hp3 := hp g ((pA.trans pB).trans hg)
        simp (maxSteps := 1000000) (disch := first | omega | rfl | (simp only [zL, two63, room] <;> omega) | fail) only [↓reduceIte, ↓zP, zW, WOp, evOp, evBin, binI, binSh, binS, evNil, keyIs, keyEq, mkv, AV.cells, AV.sc, optv, bnd, env, put, Env.get, Env.set, Env.del, Env.dels, Env.init, res1, resL, resV, fillP, splice, newRow, Nat.reduceEqDiff, Nat.reduceLT, Nat.reduceLeDiff, Nat.reduceAdd, Nat.reduceMul, Nat.reduceSub, Nat.reduceBEq, reduceCtorEq, ↓zR, zQ, Tr, StA, StT]
        exact hp3
    · have e5' : ((spl b).length : Int) > 5 := by omega
      rw [decide_eq_false e5] at hp
      simp (maxSteps := 1000000) (disch := first | omega | rfl | (simp only [zL, two63, room] <;> omega) | fail) only [↓reduceIte, ↓zP, zW, WOp, evOp, evBin, binI, binSh, binS, evNil, keyIs, keyEq, mkv, AV.cells, AV.sc, optv, bnd, env, put, Env.get, Env.set, Env.del, Env.dels, Env.init, res1, resL, resV, fillP, splice, newRow, Nat.reduceEqDiff, Nat.reduceLT, Nat.reduceLeDiff, Nat.reduceAdd, Nat.reduceMul, Nat.reduceSub, Nat.reduceBEq, reduceCtorEq, ↓zR, zQ, Tr, StA, StT, e5']
      exact hp gB (pA.trans pB)
  · have e1' : (b.length : Int) > 30 := by omega
    rw [decide_eq_false e1] at hp
    simp (maxSteps := 1000000) (disch := first | omega | rfl | (simp only [zL, two63, room] <;> omega) | fail) only [↓reduceIte, ↓zP, zW, WOp, evOp, evBin, binI, binSh, binS, evNil, keyIs, keyEq, mkv, AV.cells, AV.sc, optv, bnd, env, put, Env.get, Env.set, Env.del, Env.dels, Env.init, res1, resL, resV, fillP, splice, newRow, Nat.reduceEqDiff, Nat.reduceLT, Nat.reduceLeDiff, Nat.reduceAdd, Nat.reduceMul, Nat.reduceSub, Nat.reduceBEq, reduceCtorEq, ↓zR, zQ, Tr, StA, StT, e1']
    exact hp h (Pre.refl h)

def bW (b : List UInt8) : Nat := ((spl b).getD 0 []).length
theorem c_boardOf (b : List UInt8) (hb : b.length < 2 ^ 30) {h : AH} {post : AV → AH → Prop} (hp : ∀ h', Pre h h' → post (boV (noB 47 b) (bW b)) h') : S 331 [.str b] h post k := by
  have hi : xIndex [.str (b ++ [47]), .str [47]] = some (.int .i64 (bW b)) := by
    have := idx_head 47 b []
    simp only [List.length_nil, Int.natCast_zero, Int.add_zero] at this
    unfold xIndex
    simp only
    rw [this]
    rfl
  have hr : xReplaceAll [.str b, .str [47], .str []] = some (.str (noB 47 b)) := by
    unfold xReplaceAll
    simp only
    rw [if_pos (by omega)]
  have hle : (b ++ [47]).length ≤ 9223372036854775807 := by simp; omega
  refine S_of rfl T331 ?_; unfold fi331
  simp (maxSteps := 1000000) (disch := first | omega | rfl | (simp only [zL, two63, room] <;> omega) | fail) only [↓reduceIte, ↓zP, zW, WOp, evOp, evBin, binI, binSh, binS, evNil, keyIs, keyEq, mkv, AV.cells, AV.sc, optv, bnd, env, put, Env.get, Env.set, Env.del, Env.dels, Env.init, res1, resL, resV, fillP, splice, newRow, Nat.reduceEqDiff, Nat.reduceLT, Nat.reduceLeDiff, Nat.reduceAdd, Nat.reduceMul, Nat.reduceSub, Nat.reduceBEq, reduceCtorEq, ↓zR, zQ, Tr, StA, StT]
  refine S_ext (r := .int .i64 (bW b)) rfl hi ?_
  simp (maxSteps := 1000000) (disch := first | omega | rfl | (simp only [zL, two63, room] <;> omega) | fail) only [↓reduceIte, ↓zP, zW, WOp, evOp, evBin, binI, binSh, binS, evNil, keyIs, keyEq, mkv, AV.cells, AV.sc, optv, bnd, env, put, Env.get, Env.set, Env.del, Env.dels, Env.init, res1, resL, resV, fillP, splice, newRow, Nat.reduceEqDiff, Nat.reduceLT, Nat.reduceLeDiff, Nat.reduceAdd, Nat.reduceMul, Nat.reduceSub, Nat.reduceBEq, reduceCtorEq, ↓zR, zQ, Tr, StA, StT]
  refine S_ext (r := .str (noB 47 b)) rfl hr ?_
  simp (maxSteps := 1000000) (disch := first | omega | rfl | (simp only [zL, two63, room] <;> omega) | fail) only [↓reduceIte, ↓zP, zW, WOp, evOp, evBin, binI, binSh, binS, evNil, keyIs, keyEq, mkv, AV.cells, AV.sc, optv, bnd, env, put, Env.get, Env.set, Env.del, Env.dels, Env.init, res1, resL, resV, fillP, splice, newRow, Nat.reduceEqDiff, Nat.reduceLT, Nat.reduceLeDiff, Nat.reduceAdd, Nat.reduceMul, Nat.reduceSub, Nat.reduceBEq, reduceCtorEq, ↓zR, zQ, Tr, StA, StT]
  have hq := hp _ (Pre.push h (AO.row [.str (noB 47 b), .int .i64 (bW b)] 0 0 false))
  exact hq
theorem boOK_bc {b : List UInt8} (h : boOK b = true) : Bc (noB 47 b) (bW b) (spl b).length := by
  have hd := boOK_bd h
  have h1 : noB 47 b = (spl b).flatten := (spl_flat b).symm
  refine ⟨by rw [h1]; exact hd.flen, hd.w1, hd.w5, hd.h1, hd.h5⟩
/-- All moves on a board, in order. -/
def bdL (b : List UInt8) : List Mo := bList (noB 47 b) (bW b) (spl b).length
theorem bList_len {cells : List UInt8} {w h : Nat} (hb : Bc cells w h) : (bList cells w h).length ≤ 625 := by
  have hle := hb.le
  have h1 : ∀ l : List Nat, (l.flatMap fun f : Nat => ((List.range cells.length).filter fun t : Nat => bCan cells w h ((f : Int), (t : Int))).map fun t : Nat => ((f : Int), (t : Int))).length ≤ 25 * l.length := by
    intro l
    induction l with
    | nil => simp
    | cons a l ih =>
      have : (((List.range cells.length).filter fun t : Nat => bCan cells w h ((a : Int), (t : Int))).map fun t : Nat => ((a : Int), (t : Int))).length ≤ 25 := by
        rw [List.length_map]
        exact Nat.le_trans (List.length_filter_le _ _) (by simpa using hle)
      rw [List.flatMap_cons, List.length_append, List.length_cons]; omega
  have := h1 (List.range cells.length)
  unfold bList
  rw [List.length_range] at this
  omega
end Go.Proofs.YtgdlaopjabjkbaaGreatDoor.Ab

/- BOARDS: moves made, texts of boards; the law MakeOnBoard. -/
namespace Go.Proofs.YtgdlaopjabjkbaaGreatDoor.Ab
open Go
set_option maxRecDepth 100000
set_option maxHeartbeats 4000000

/-! ### A move made on rows -/
def rPut (w : Nat) (rs : List (List UInt8)) (i : Nat) (b : UInt8) : List (List UInt8) := rs.set (i / w) ((rs.getD (i / w) []).set (i % w) b)
def rMake (w : Nat) (rs : List (List UInt8)) (f t : Nat) : List (List UInt8) := rPut w (rPut w rs f 46) t (rs.flatten.getD f 0)
theorem flat_set {w : Nat} (b : UInt8) : ∀ {rs : List (List UInt8)}, (∀ r ∈ rs, r.length = w) → ∀ {y x : Nat}, y < rs.length → x < w → (rs.set y ((rs.getD y []).set x b)).flatten = rs.flatten.set (y * w + x) b
  | [], _, y, x, hy, _ => by simp at hy
  | r :: rs, hr, y, x, hy, hx => by
    have h1 := hr r (by simp)
    cases y with
    | zero =>
      simp only [List.set_cons_zero, List.flatten_cons, Nat.zero_mul, Nat.zero_add, List.getD_cons_zero]
      rw [List.set_append_left _ _ (by omega)]
    | succ y =>
      have ih := flat_set b (rs := rs) (fun q hq => hr q (by simp [hq])) (y := y) (x := x) (by simpa using hy) hx
      simp only [List.set_cons_succ, List.flatten_cons, List.getD_cons_succ]
      rw [ih, show (y + 1) * w + x = r.length + (y * w + x) by (rw [h1, Nat.add_mul, Nat.one_mul]; omega), List.set_append_right _ _ (by omega), Nat.add_sub_cancel_left]
theorem all_set {s : List UInt8} {x : Nat} {b : UInt8} (hs : s.all isSign = true) (hb : isSign b = true) : (s.set x b).all isSign = true := by
  rw [List.all_eq_true] at *
  intro c hc
  rcases List.mem_or_eq_of_mem_set hc with h | h
  · exact hs c h
  · rw [h]; exact hb
theorem Bd.put {rs : List (List UInt8)} {w h : Nat} (hb : Bd rs w h) {i : Nat} (hi : i < w * h) {b : UInt8} (hs : isSign b = true) : Bd (rPut w rs i b) w h ∧ (rPut w rs i b).flatten = rs.flatten.set i b := by
  obtain ⟨h0, hx, hy⟩ := bd_div hi
  have hyl : i / w < rs.length := by rw [hb.len]; exact hy
  have hmem : rs.getD (i / w) [] ∈ rs := by simp [List.getD_eq_getElem?_getD, hyl]
  constructor
  · refine ⟨by unfold rPut; rw [List.length_set]; exact hb.len, hb.h1, hb.h5, hb.w1, hb.w5, fun r hr => ?_⟩
    unfold rPut at hr
    rcases List.mem_or_eq_of_mem_set hr with h1 | h1
    · exact hb.row r h1
    · rw [h1, List.length_set]
      exact ⟨(hb.row _ hmem).1, all_set (hb.row _ hmem).2 hs⟩
  · unfold rPut
    rw [flat_set b (fun r hr => (hb.row r hr).1) hyl hx]
    have := Nat.div_add_mod i w
    rw [Nat.mul_comm] at this
    rw [this]
theorem Bd.make {rs : List (List UInt8)} {w h : Nat} (hb : Bd rs w h) {f t : Nat} (hf : f < w * h) (ht : t < w * h) (hne : f ≠ t) : Bd (rMake w rs f t) w h ∧ (rMake w rs f t).flatten = madeB rs.flatten f t := by
  obtain ⟨h1, h2⟩ := hb.put hf (b := 46) rfl
  obtain ⟨h3, h4⟩ := h1.put ht (b := rs.flatten.getD f 0) (hb.sign hf)
  refine ⟨h3, ?_⟩
  unfold rMake
  rw [h4, h2]
  unfold madeB
  rw [List.set_comm _ _ hne]
theorem bCan_rng {rs : List (List UInt8)} {w h : Nat} (hb : Bd rs w h) {m : Mo} (hc : bCan rs.flatten w h m = true) : ∃ f t : Nat, m = ((f : Int), (t : Int)) ∧ f < w * h ∧ t < w * h ∧ f ≠ t := by
  have hm := (bCan_iff hb.flen m).1 hc
  have hc0 := hc
  unfold bCan at hc
  rw [Bool.and_eq_true, decide_eq_true_iff, hb.flen] at hc
  obtain ⟨⟨h1, h2, h3, h4⟩, h5⟩ := hc
  obtain ⟨a, c⟩ := m
  simp only at h1 h2 h3 h4 h5
  obtain ⟨f, rfl⟩ := Int.eq_ofNat_of_zero_le h1
  obtain ⟨t, rfl⟩ := Int.eq_ofNat_of_zero_le h3
  refine ⟨f, t, rfl, by omega, by omega, ?_⟩
  rintro rfl
  simp only [Int.toNat_natCast] at h5
  have key : ∀ {d : Int} {o : UInt8}, (d = 1 ∨ d = -1) → rs.flatten.getD f 0 ≠ 46 → bCanK rs.flatten w h f f d o = true → False := by
    intro d o hd h46 hk
    have hy := (bd_div (w := w) (h := h) (i := f) (by omega))
    have hxy : ((f / w : Nat) : Int) * w + ((f % w : Nat) : Int) = f := by
      have := Nat.div_add_mod f w
      rw [Nat.mul_comm] at this
      exact_mod_cast this
    unfold bCanK at hk
    simp only [Int.toNat_natCast] at hk
    have e46 : (rs.flatten.getD f 0 == 46) = false := by simpa using h46
    rw [e46] at hk
    simp at hk
  split at h5
  · rename_i e; exact key (.inl rfl) (by rw [e]; decide) h5
  · split at h5
    · rename_i e; exact key (.inr rfl) (by rw [e]; decide) h5
    · cases h5
theorem OwL.storeS {b h : AH} {v : AV} {L : List (List UInt8)} (ho : OwL 1 encS b h v L) {y : Nat} (hy : y < L.length) (s : List UInt8) :
    ∃ c kk off h', v = .slice c kk off L.length 1 ∧ wrRow h c kk (off + y * 1) [.str s] = some h' ∧ OwL 1 encS b h' v (L.set y s) ∧ b.length ≤ c ∧ h'.length = h.length ∧ ∀ i, i ≠ c → h'[i]? = h[i]? := by
  have hL : L = L.take y ++ L[y] :: L.drop (y + 1) := by
    have := (List.take_append_drop y L).symm
    rwa [List.drop_eq_getElem_cons hy] at this
  have hset : L.set y s = L.take y ++ s :: L.drop (y + 1) := by rw [List.set_eq_take_append_cons_drop, if_pos hy]
  have hlt : (L.take y).length = y := by rw [List.length_take]; omega
  rw [hset]
  have ho' := ho
  rw [hL] at ho'
  obtain ⟨c, kk, off, h', h1, h2, h3, h4, h5, h6⟩ := ho'.store hlS scS s
  rw [← hL] at h1
  rw [hlt] at h2
  exact ⟨c, kk, off, h', h1, h2, h3, h4, h5, h6⟩
theorem put_list {w : List UInt8} {i : Nat} (hi : i < w.length) (b : UInt8) : w.take i ++ [b] ++ w.drop (i + 1) = w.set i b := by
  rw [List.set_eq_take_append_cons_drop, if_pos hi]; simp
theorem c_boMake {rs : List (List UInt8)} {w h : Nat} (hb : Bd rs w h) {f t : Nat} (hf : f < w * h) (ht : t < w * h) {v : AV} {g : AH} (hs : Slc 1 encS g v rs) {post : AV → AH → Prop} (hp : ∀ v' g', OwL 1 encS g g' v' (rMake w rs f t) → Pre g g' → post v' g') : S 334 [v, mvV (f : Int) (t : Int)] g post k := by
  have hl := hb.len
  have hh1 := hb.h1
  have hh5 := hb.h5
  have hw5 := hb.w5
  have hw1' := hb.w1
  have hd := hb.head
  obtain ⟨hw0, hfx, hfy⟩ := bd_div hf
  obtain ⟨_, htx, hty⟩ := bd_div ht
  obtain ⟨c, kk, off, rfl⟩ := hs.isS (by omega)
  have pA := Pre.push g (AO.row [.int .i64 (f : Int), .int .i64 (t : Int)] 0 0 false)
  have rA0 : rdRow (g ++ [AO.row [.int .i64 (f : Int), .int .i64 (t : Int)] 0 0 false]) g.length 0 0 1 = some [.int .i64 (f : Int)] := by simp (maxSteps := 1000000) (disch := first | omega | rfl | (simp only [zL, two63, room] <;> omega) | fail) only [↓reduceIte, ↓zP, zW, WOp, evOp, evBin, binI, binSh, binS, evNil, keyIs, keyEq, mkv, AV.cells, AV.sc, optv, bnd, env, put, Env.get, Env.set, Env.del, Env.dels, Env.init, res1, resL, resV, fillP, splice, newRow, Nat.reduceEqDiff, Nat.reduceLT, Nat.reduceLeDiff, Nat.reduceAdd, Nat.reduceMul, Nat.reduceSub, Nat.reduceBEq, reduceCtorEq, ↓zR, zQ, Tr, StA, StT]
  have rA1 : rdRow (g ++ [AO.row [.int .i64 (f : Int), .int .i64 (t : Int)] 0 0 false]) g.length 0 1 1 = some [.int .i64 (t : Int)] := by simp (maxSteps := 1000000) (disch := first | omega | rfl | (simp only [zL, two63, room] <;> omega) | fail) only [↓reduceIte, ↓zP, zW, WOp, evOp, evBin, binI, binSh, binS, evNil, keyIs, keyEq, mkv, AV.cells, AV.sc, optv, bnd, env, put, Env.get, Env.set, Env.del, Env.dels, Env.init, res1, resL, resV, fillP, splice, newRow, Nat.reduceEqDiff, Nat.reduceLT, Nat.reduceLeDiff, Nat.reduceAdd, Nat.reduceMul, Nat.reduceSub, Nat.reduceBEq, reduceCtorEq, ↓zR, zQ, Tr, StA, StT]
  have hsA := hs.pre pA
  have hr0 := hsA.idxS (i := 0) (by omega)
  rw [Nat.zero_mul, Nat.add_zero] at hr0
  have hrf := hsA.idxS (i := f / w) (by omega)
  have hrl : (rs.getD (f / w) []).length = w := hb.rowlen hfy
  have hget := hb.get hfy hfx
  have hsub : ((rs.getD (f / w) []).drop (f % w)).take (f % w + 1 - f % w) = [rs.flatten.getD f 0] := by
    rw [sub_one _ _ (by omega), hget]
    have := Nat.div_add_mod f w
    rw [Nat.mul_comm] at this
    rw [this]
  have hwn : ((w : Int) = 0) = False := eq_false (by omega)
  have d1 : ((f : Int)).tmod w = ((f % w : Nat) : Int) := by rw [Int.tmod_eq_emod_of_nonneg (by omega)]; push_cast; rfl
  have d2 : ((f : Int)).tdiv w = ((f / w : Nat) : Int) := by rw [Int.tdiv_eq_ediv_of_nonneg (by omega)]; push_cast; rfl
  have d3 : ((t : Int)).tmod w = ((t % w : Nat) : Int) := by rw [Int.tmod_eq_emod_of_nonneg (by omega)]; push_cast; rfl
  have d4 : ((t : Int)).tdiv w = ((t / w : Nat) : Int) := by rw [Int.tdiv_eq_ediv_of_nonneg (by omega)]; push_cast; rfl
  have natw : ∀ n : Nat, n < h → IntKind.i64.wrap (n : Int) = n := fun n hn => wrap_id (by omega) (by omega)
  have wd2 := natw _ hfy
  have wd4 := natw _ hty
  have hp1 : (rPut w rs f 46).length = h := (hb.put hf (b := 46) rfl).1.len
  have hp1r : ((rPut w rs f 46).getD (t / w) []).length = w := (hb.put hf (b := 46) rfl).1.rowlen hty
  have hput : rs.set (f / w) ((rs.getD (f / w) []).set (f % w) 46) = rPut w rs f 46 := rfl
  have hmake : (rPut w rs f 46).set (t / w) (((rPut w rs f 46).getD (t / w) []).set (t % w) (rs.flatten.getD f 0)) = rMake w rs f t := rfl
  generalize hbf : rs.flatten.getD f 0 = bf at *
  generalize hfyg : f / w = fy at *
  generalize hfxg : f % w = fx at *
  generalize htyg : t / w = ty at *
  generalize htxg : t % w = tx at *
  have h0lt : (0 : Int) < (rs.length : Int) := by omega
  have hfyl : (fy : Int) < (rs.length : Int) := by omega
  have wx : IntKind.i64.wrap ((fx : Int) + 1) = ((fx + 1 : Nat) : Int) := by rw [IntKind.wrap_i64]; omega
  have b1 : ((fx + 1 : Nat) : Int) ≤ ((rs.getD fy []).length : Int) := by omega
  have b2 : (fx : Int) ≤ ((fx + 1 : Nat) : Int) := by omega
  refine S_of rfl T334 ?_; unfold fi334
  simp (maxSteps := 1000000) (disch := first | omega | rfl | (simp only [zL, two63, room] <;> omega) | fail) only [↓reduceIte, ↓zP, zW, WOp, evOp, evBin, binI, binSh, binS, evNil, keyIs, keyEq, mkv, AV.cells, AV.sc, optv, bnd, env, put, Env.get, Env.set, Env.del, Env.dels, Env.init, res1, resL, resV, fillP, splice, newRow, Nat.reduceEqDiff, Nat.reduceLT, Nat.reduceLeDiff, Nat.reduceAdd, Nat.reduceMul, Nat.reduceSub, Nat.reduceBEq, reduceCtorEq, ↓zR, zQ, Tr, StA, StT, h0lt, hr0, Nat.zero_mul, Int.toNat_zero, Nat.add_zero, hd, rA0, hwn, d1, d2, wd2, hfyl, hrf, wx, b1, b2, hsub]
  refine c_l1OwnS hsA (by omega) ?_
  intro v2 g2 ho2 p2
  have qA := pA.trans p2
  have rB0 := rdRow_pre p2 rA0
  have rB1 := rdRow_pre p2 rA1
  obtain ⟨c2, k2, off2, g3, hv2, hw2, ho3, hb2, hl3, hag⟩ := ho2.storeS (y := fy) (by omega) ((rs.getD fy []).set fx 46)
  subst hv2
  have hs2 := ho2.slc
  have hrf2 := hs2.idxS (i := fy) (by omega)
  simp (maxSteps := 1000000) (disch := first | omega | rfl | (simp only [zL, two63, room] <;> omega) | fail) only [↓reduceIte, ↓zP, zW, WOp, evOp, evBin, binI, binSh, binS, evNil, keyIs, keyEq, mkv, AV.cells, AV.sc, optv, bnd, env, put, Env.get, Env.set, Env.del, Env.dels, Env.init, res1, resL, resV, fillP, splice, newRow, Nat.reduceEqDiff, Nat.reduceLT, Nat.reduceLeDiff, Nat.reduceAdd, Nat.reduceMul, Nat.reduceSub, Nat.reduceBEq, reduceCtorEq, ↓zR, zQ, Tr, StA, StT]
  refine w_drw ?_
  simp (maxSteps := 1000000) (disch := first | omega | rfl | (simp only [zL, two63, room] <;> omega) | fail) only [↓reduceIte, ↓zP, zW, WOp, evOp, evBin, binI, binSh, binS, evNil, keyIs, keyEq, mkv, AV.cells, AV.sc, optv, bnd, env, put, Env.get, Env.set, Env.del, Env.dels, Env.init, res1, resL, resV, fillP, splice, newRow, Nat.reduceEqDiff, Nat.reduceLT, Nat.reduceLeDiff, Nat.reduceAdd, Nat.reduceMul, Nat.reduceSub, Nat.reduceBEq, reduceCtorEq, ↓zR, zQ, Tr, StA, StT, rB0, hwn, d1, d2, wd2, hfyl, hrf2]
  refine c_liPut (rs.getD fy []) fx [46] (by omega) (by omega) (by simp) ?_
  rw [put_list (by omega)]
  simp (maxSteps := 1000000) (disch := first | omega | rfl | (simp only [zL, two63, room] <;> omega) | fail) only [↓reduceIte, ↓zP, zW, WOp, evOp, evBin, binI, binSh, binS, evNil, keyIs, keyEq, mkv, AV.cells, AV.sc, optv, bnd, env, put, Env.get, Env.set, Env.del, Env.dels, Env.init, res1, resL, resV, fillP, splice, newRow, Nat.reduceEqDiff, Nat.reduceLT, Nat.reduceLeDiff, Nat.reduceAdd, Nat.reduceMul, Nat.reduceSub, Nat.reduceBEq, reduceCtorEq, ↓zR, zQ, Tr, StA, StT, hfyl, hw2]
  rw [hput] at ho3
  have r3 : ∀ {o n : Nat} {cs : List AV}, rdRow g2 g.length 0 o n = some cs → rdRow g3 g.length 0 o n = some cs := by
    intro o n cs hh
    have hne : g.length ≠ c2 := by have := pA.1; simp at hb2; omega
    unfold rdRow at hh ⊢
    rw [hag _ hne]; exact hh
  have rC1 := r3 rB1
  have rC0 := r3 rB0
  obtain ⟨c3, k3, off3, g4, hv3, hw3, ho4, hb3, hl4, hag2⟩ := ho3.storeS (y := ty) (by omega) (((rPut w rs f 46).getD ty []).set tx bf)
  have hs3 := ho3.slc
  have hlen3 : (rPut w rs f 46).length = rs.length := by omega
  rw [hlen3] at hv3
  cases hv3
  have hrt := hs3.idxS (i := ty) (by omega)
  have htyl : (ty : Int) < (rs.length : Int) := by omega
  refine w_drw ?_
  simp (maxSteps := 1000000) (disch := first | omega | rfl | (simp only [zL, two63, room] <;> omega) | fail) only [↓reduceIte, ↓zP, zW, WOp, evOp, evBin, binI, binSh, binS, evNil, keyIs, keyEq, mkv, AV.cells, AV.sc, optv, bnd, env, put, Env.get, Env.set, Env.del, Env.dels, Env.init, res1, resL, resV, fillP, splice, newRow, Nat.reduceEqDiff, Nat.reduceLT, Nat.reduceLeDiff, Nat.reduceAdd, Nat.reduceMul, Nat.reduceSub, Nat.reduceBEq, reduceCtorEq, ↓zR, zQ, Tr, StA, StT, rC1, hwn, d3, d4, wd4, htyl, hrt]
  refine c_liPut ((rPut w rs f 46).getD ty []) tx [bf] (by omega) (by omega) (by simp) ?_
  rw [put_list (by omega)]
  simp (maxSteps := 1000000) (disch := first | omega | rfl | (simp only [zL, two63, room] <;> omega) | fail) only [↓reduceIte, ↓zP, zW, WOp, evOp, evBin, binI, binSh, binS, evNil, keyIs, keyEq, mkv, AV.cells, AV.sc, optv, bnd, env, put, Env.get, Env.set, Env.del, Env.dels, Env.init, res1, resL, resV, fillP, splice, newRow, Nat.reduceEqDiff, Nat.reduceLT, Nat.reduceLeDiff, Nat.reduceAdd, Nat.reduceMul, Nat.reduceSub, Nat.reduceBEq, reduceCtorEq, ↓zR, zQ, Tr, StA, StT, htyl, hw3]
  rw [hmake] at ho4
  have hgl : (g ++ [AO.row [.int .i64 (f : Int), .int .i64 (t : Int)] 0 0 false]).length = g.length + 1 := by simp
  refine hp _ g4 (ho4.old (by simp)) ⟨by have := p2.1; omega, fun i hi => ?_⟩
  rw [hag2 i (by omega), hag i (by omega), qA.2 i hi]
end Go.Proofs.YtgdlaopjabjkbaaGreatDoor.Ab

/- BOARDS: plays, texts, the law MakeOnBoard. -/
namespace Go.Proofs.YtgdlaopjabjkbaaGreatDoor.Ab
open Go
set_option maxRecDepth 100000
set_option maxHeartbeats 4000000

/-! ### Texts of boards -/
def txB (rs : List (List UInt8)) : List UInt8 := Go.Lib.join rs [47]
theorem txB_snoc (pre : List (List UInt8)) (x : List UInt8) : txB (pre ++ [x]) = if pre = [] then x else txB pre ++ [47] ++ x := by
  unfold txB
  cases pre with
  | nil => rw [if_pos rfl, List.nil_append, Go.Lib.join_one]
  | cons a r =>
    rw [if_neg (by simp), List.cons_append, Go.Lib.join_cons, Go.Lib.join_cons]
    simp [Go.Lib.joinTail]
theorem txB_len : ∀ rs : List (List UInt8), (txB rs).length ≤ rs.flatten.length + rs.length := by
  intro rs
  unfold txB
  cases rs with
  | nil => simp [Go.Lib.join_nil]
  | cons a r =>
    rw [Go.Lib.join_cons]
    have : (Go.Lib.joinTail [47] r).length ≤ r.flatten.length + r.length := by
      unfold Go.Lib.joinTail
      induction r with
      | nil => simp
      | cons b r ih =>
        rw [List.map_cons, List.flatten_cons, List.flatten_cons, List.length_append, List.length_append, List.length_append, List.length_cons]
        simp only [List.length_cons, List.length_nil]
        omega
    rw [List.length_append, List.flatten_cons, List.length_append, List.length_cons]
    omega
theorem lp_boText {rs : List (List UInt8)} {w h : Nat} (hb : Bd rs w h) {v : AV} {g : AH} (hs : Slc 1 encS g v rs) {R : X → Env → AH → Prop} (hR : R (.exit 0) [(3, .str (txB rs))] g) : ∀ (rest pre : List (List UInt8)), rs = pre ++ rest →
    Cx (.loop lp335_0) [(3, .str (txB pre)), (6, v), (7, .int .i64 rs.length), (8, .int .i64 pre.length)] g R k k
  | [], pre, hL => by
    rw [w_loopb (c := lp335_0) (d := lb335_0) rfl]; unfold lb335_0
    have hl : rs.length = pre.length := by rw [hL]; simp
    have he : rs = pre := by rw [hL]; simp
    rw [hl]
    simp (maxSteps := 1000000) (disch := first | omega | rfl | (simp only [zL, two63, room] <;> omega) | fail) only [↓reduceIte, ↓zP, zW, WOp, evOp, evBin, binI, binSh, binS, evNil, keyIs, keyEq, mkv, AV.cells, AV.sc, optv, bnd, env, put, Env.get, Env.set, Env.del, Env.dels, Env.init, res1, resL, resV, fillP, splice, newRow, Nat.reduceEqDiff, Nat.reduceLT, Nat.reduceLeDiff, Nat.reduceAdd, Nat.reduceMul, Nat.reduceSub, Nat.reduceBEq, reduceCtorEq, ↓zR, zQ, Tr, StA, StT]
    rw [← he]
    exact hR
  | x :: rest, pre, hL => by
    have ih := lp_boText hb hs hR rest (pre ++ [x]) (by rw [hL]; simp)
    have hl : rs.length = pre.length + 1 + rest.length := by rw [hL]; simp; omega
    have hfl := hb.flen
    have hwh : w * h ≤ 25 := Nat.mul_le_mul hb.w5 hb.h5
    have hh5 := hb.h5
    have hhl := hb.len
    have hxl : x.length ≤ 5 := by rw [(hb.row x (by rw [hL]; simp)).1]; exact hb.w5
    have hpl : (txB pre).length ≤ 60 := by
      have h1 := txB_len pre
      have h2 : pre.flatten.length ≤ rs.flatten.length := by rw [hL]; simp
      omega
    have hs' := hs
    rw [hL] at hs'
    obtain ⟨c, kk, off, hv, hr⟩ := hs'.at hlS
    rw [← hL, hl] at hv
    subst hv
    rw [hl] at ih ⊢
    have hlt : (pre.length : Int) < ((pre.length + 1 + rest.length : Nat) : Int) := by omega
    have hw1 : (pre.length : Int) + 1 = ((pre ++ [x]).length : Int) := by simp
    have hsn := txB_snoc pre x
    rw [w_loopb (c := lp335_0) (d := lb335_0) rfl]; unfold lb335_0
    by_cases hpe : pre = []
    · rw [if_pos hpe] at hsn
      have he : txB pre = [] := by rw [hpe]; rfl
      have hle : (txB pre).length + x.length ≤ 9223372036854775807 := by omega
      have hp0 : (pre.length : Int) ≤ 0 := by rw [hpe]; simp
      have hcat : txB pre ++ x = txB (pre ++ [x]) := by rw [hsn, he]; rfl
      simp (maxSteps := 1000000) (disch := first | omega | rfl | (simp only [zL, two63, room] <;> omega) | fail) only [↓reduceIte, ↓zP, zW, WOp, evOp, evBin, binI, binSh, binS, evNil, keyIs, keyEq, mkv, AV.cells, AV.sc, optv, bnd, env, put, Env.get, Env.set, Env.del, Env.dels, Env.init, res1, resL, resV, fillP, splice, newRow, Nat.reduceEqDiff, Nat.reduceLT, Nat.reduceLeDiff, Nat.reduceAdd, Nat.reduceMul, Nat.reduceSub, Nat.reduceBEq, reduceCtorEq, ↓zR, zQ, Tr, StA, StT, hlt, hr, hp0, hle, hcat, hw1]
      rw [w_loopn (c := lp335_0) rfl]
      simp (maxSteps := 1000000) (disch := first | omega | rfl | (simp only [zL, two63, room] <;> omega) | fail) only [↓reduceIte, ↓zP, zW, WOp, evOp, evBin, binI, binSh, binS, evNil, keyIs, keyEq, mkv, AV.cells, AV.sc, optv, bnd, env, put, Env.get, Env.set, Env.del, Env.dels, Env.init, res1, resL, resV, fillP, splice, newRow, Nat.reduceEqDiff, Nat.reduceLT, Nat.reduceLeDiff, Nat.reduceAdd, Nat.reduceMul, Nat.reduceSub, Nat.reduceBEq, reduceCtorEq, ↓zR, zQ, Tr, StA, StT]
      exact ih
    · rw [if_neg hpe] at hsn
      have hpp : 0 < pre.length := List.length_pos_iff.2 hpe
      have hgt : (pre.length : Int) > 0 := by omega
      have hle : (txB pre).length + 1 ≤ 9223372036854775807 := by omega
      have hle2 : (txB pre ++ [47]).length + x.length ≤ 9223372036854775807 := by rw [List.length_append]; simp; omega
      simp (maxSteps := 1000000) (disch := first | omega | rfl | (simp only [zL, two63, room] <;> omega) | fail) only [↓reduceIte, ↓zP, zW, WOp, evOp, evBin, binI, binSh, binS, evNil, keyIs, keyEq, mkv, AV.cells, AV.sc, optv, bnd, env, put, Env.get, Env.set, Env.del, Env.dels, Env.init, res1, resL, resV, fillP, splice, newRow, Nat.reduceEqDiff, Nat.reduceLT, Nat.reduceLeDiff, Nat.reduceAdd, Nat.reduceMul, Nat.reduceSub, Nat.reduceBEq, reduceCtorEq, ↓zR, zQ, Tr, StA, StT, hlt, hr, hgt, hle, hle2, hw1]
      rw [w_loopn (c := lp335_0) rfl]
      simp (maxSteps := 1000000) (disch := first | omega | rfl | (simp only [zL, two63, room] <;> omega) | fail) only [↓reduceIte, ↓zP, zW, WOp, evOp, evBin, binI, binSh, binS, evNil, keyIs, keyEq, mkv, AV.cells, AV.sc, optv, bnd, env, put, Env.get, Env.set, Env.del, Env.dels, Env.init, res1, resL, resV, fillP, splice, newRow, Nat.reduceEqDiff, Nat.reduceLT, Nat.reduceLeDiff, Nat.reduceAdd, Nat.reduceMul, Nat.reduceSub, Nat.reduceBEq, reduceCtorEq, ↓zR, zQ, Tr, StA, StT]
      rw [hsn] at ih
      exact ih
theorem c_boText {rs : List (List UInt8)} {w h : Nat} (hb : Bd rs w h) {v : AV} {g : AH} (hs : Slc 1 encS g v rs) {post : AV → AH → Prop} (hp : post (.str (txB rs)) g) : S 335 [v] g post k := by
  refine S_of rfl T335 ?_; unfold fi335
  have hv := fun g => Slc.lenV (hs) (g := g) (ρ := fun _ => _) (x := .t 0) rfl; simp only [evOp] at hv
  simp (maxSteps := 1000000) (disch := first | omega | rfl | (simp only [zL, two63, room] <;> omega) | fail) only [↓reduceIte, ↓zP, zW, WOp, evOp, evBin, binI, binSh, binS, evNil, keyIs, keyEq, mkv, AV.cells, AV.sc, optv, bnd, env, put, Env.get, Env.set, Env.del, Env.dels, Env.init, res1, resL, resV, fillP, splice, newRow, Nat.reduceEqDiff, Nat.reduceLT, Nat.reduceLeDiff, Nat.reduceAdd, Nat.reduceMul, Nat.reduceSub, Nat.reduceBEq, reduceCtorEq, ↓zR, zQ, Tr, StA, StT, hv]
  refine lp_boText hb hs ?_ rs [] rfl
  simp (maxSteps := 1000000) (disch := first | omega | rfl | (simp only [zL, two63, room] <;> omega) | fail) only [↓reduceIte, ↓zP, zW, WOp, evOp, evBin, binI, binSh, binS, evNil, keyIs, keyEq, mkv, AV.cells, AV.sc, optv, bnd, env, put, Env.get, Env.set, Env.del, Env.dels, Env.init, res1, resL, resV, fillP, splice, newRow, Nat.reduceEqDiff, Nat.reduceLT, Nat.reduceLeDiff, Nat.reduceAdd, Nat.reduceMul, Nat.reduceSub, Nat.reduceBEq, reduceCtorEq, ↓zR, zQ, Tr, StA, StT]
  exact hp
theorem flat_row {w : Nat} : ∀ {rs : List (List UInt8)}, (∀ r ∈ rs, r.length = w) → ∀ {y : Nat}, y < rs.length → (rs.flatten.drop (y * w)).take w = rs.getD y []
  | [], _, y, hy => by simp at hy
  | r :: rs, hr, y, hy => by
    have h1 := hr r (by simp)
    cases y with
    | zero =>
      rw [Nat.zero_mul, List.drop_zero, List.flatten_cons, List.take_left' h1]
      rfl
    | succ y =>
      have ih := flat_row (rs := rs) (fun q hq => hr q (by simp [hq])) (y := y) (by simpa using hy)
      rw [List.flatten_cons, Nat.add_mul, Nat.one_mul, Nat.add_comm, ← List.drop_drop, List.drop_left' h1, ih]
      rfl
theorem lp_bText {rs : List (List UInt8)} {w h : Nat} (hb : Bd rs w h) {g0 : AH} {c0 : Nat} (hc0 : rdRow g0 c0 0 0 2 = some (boR rs.flatten w)) {R : X → Env → AH → Prop} : ∀ (d j : Nat) (o : AV) (g : AH), j + d = h → OwL 1 encS g0 g o (rs.take j) → Pre g0 g →
    (∀ o' g', OwL 1 encS g0 g' o' rs → Pre g0 g' → R (.exit 0) [(3, o')] g') →
    Cx (.loop lp347_0) [(1, .ptr c0 0 0 2), (3, o), (4, .int .i64 (j * w : Nat))] g R k k := by
  have hfl := hb.flen
  have hhl := hb.len
  have hw5 := hb.w5
  have hh5 := hb.h5
  have hw1' := hb.w1
  have hwh : w * h ≤ 25 := Nat.mul_le_mul hb.w5 hb.h5
  intro d
  induction d with
  | zero =>
    intro j o g hj ho hp hR
    obtain rfl : j = h := by omega
    have rc0 : rdRow g c0 0 0 1 = some [.str rs.flatten] := rd_part (rdRow_pre hp hc0) (o := 0) (m := 1) (by omega)
    have hge : (rs.flatten.length : Int) ≤ ((j * w : Nat) : Int) := by rw [hfl, Nat.mul_comm]; omega
    rw [w_loopb (c := lp347_0) (d := lb347_0) rfl]; unfold lb347_0
    simp (maxSteps := 1000000) (disch := first | omega | rfl | (simp only [zL, two63, room] <;> omega) | fail) only [↓reduceIte, ↓zP, zW, WOp, evOp, evBin, binI, binSh, binS, evNil, keyIs, keyEq, mkv, AV.cells, AV.sc, optv, bnd, env, put, Env.get, Env.set, Env.del, Env.dels, Env.init, res1, resL, resV, fillP, splice, newRow, Nat.reduceEqDiff, Nat.reduceLT, Nat.reduceLeDiff, Nat.reduceAdd, Nat.reduceMul, Nat.reduceSub, Nat.reduceBEq, reduceCtorEq, ↓zR, zQ, Tr, StA, StT, rc0, hge]
    refine hR o g ?_ hp
    rw [List.take_of_length_le (by omega)] at ho
    exact ho
  | succ d ih =>
    intro j o g hj ho hp hR
    have rc0 : rdRow g c0 0 0 1 = some [.str rs.flatten] := rd_part (rdRow_pre hp hc0) (o := 0) (m := 1) (by omega)
    have rc1 : rdRow g c0 0 1 1 = some [.int .i64 (w : Int)] := rd_part (rdRow_pre hp hc0) (o := 1) (m := 1) (by omega)
    have hjw : j * w + w ≤ w * h := by
      have : (j + 1) * w ≤ h * w := Nat.mul_le_mul_right _ (by omega)
      rw [Nat.add_mul, Nat.one_mul, Nat.mul_comm h] at this
      exact this
    have hsw : (j + 1) * w = j * w + w := by rw [Nat.add_mul, Nat.one_mul]
    have hrow := flat_row (fun r hr => (hb.row r hr).1) (y := j) (show j < rs.length by omega)
    have htk : rs.take (j + 1) = rs.take j ++ [rs.getD j []] := by
      rw [List.take_add_one, List.getD_eq_getElem?_getD, List.getElem?_eq_getElem (by omega)]; rfl
    have hlt : ((j * w : Nat) : Int) < (rs.flatten.length : Int) := by omega
    have hwr : IntKind.i64.wrap (((j * w : Nat) : Int) + w) = ((j * w + w : Nat) : Int) := by rw [← Int.natCast_add]; exact wrap_id (by omega) (by omega)
    have b1 : ((j * w + w : Nat) : Int) ≤ (rs.flatten.length : Int) := by omega
    have b2 : ((j * w : Nat) : Int) ≤ ((j * w + w : Nat) : Int) := by omega
    have hsub : (rs.flatten.drop (j * w)).take (j * w + w - j * w) = rs.getD j [] := by rw [Nat.add_sub_cancel_left]; exact hrow
    generalize hjwg : j * w = jw at *
    rw [w_loopb (c := lp347_0) (d := lb347_0) rfl]; unfold lb347_0
    simp (maxSteps := 1000000) (disch := first | omega | rfl | (simp only [zL, two63, room] <;> omega) | fail) only [↓reduceIte, ↓zP, zW, WOp, evOp, evBin, binI, binSh, binS, evNil, keyIs, keyEq, mkv, AV.cells, AV.sc, optv, bnd, env, put, Env.get, Env.set, Env.del, Env.dels, Env.init, res1, resL, resV, fillP, splice, newRow, Nat.reduceEqDiff, Nat.reduceLT, Nat.reduceLeDiff, Nat.reduceAdd, Nat.reduceMul, Nat.reduceSub, Nat.reduceBEq, reduceCtorEq, ↓zR, zQ, Tr, StA, StT, rc0, rc1, hlt, hwr, b1, b2, hsub]
    generalize hA : g ++ [AO.row [.str (rs.getD j [])] 0 0 false] = gA
    have pA : Pre g gA := hA ▸ Pre.push _ _
    have rA : rdRow gA g.length 0 0 1 = some [.str (rs.getD j [])] := by rw [← hA]; simp (maxSteps := 1000000) (disch := first | omega | rfl | (simp only [zL, two63, room] <;> omega) | fail) only [↓reduceIte, ↓zP, zW, WOp, evOp, evBin, binI, binSh, binS, evNil, keyIs, keyEq, mkv, AV.cells, AV.sc, optv, bnd, env, put, Env.get, Env.set, Env.del, Env.dels, Env.init, res1, resL, resV, fillP, splice, newRow, Nat.reduceEqDiff, Nat.reduceLT, Nat.reduceLeDiff, Nat.reduceAdd, Nat.reduceMul, Nat.reduceSub, Nat.reduceBEq, reduceCtorEq, ↓zR, zQ, Tr, StA, StT]
    have lj : (rs.take j).length ≤ 5 := by rw [List.length_take]; omega
    obtain ⟨o', g2, ap, ow, pp⟩ := apL hlS scS (ho.pre pA) (hp.trans pA) (rs.getD j []) (by omega)
    have rc1' : rdRow g2 c0 0 1 1 = some [.int .i64 (w : Int)] := rd_part (rdRow_pre pp hc0) (o := 1) (m := 1) (by omega)
    simp (maxSteps := 1000000) (disch := first | omega | rfl | (simp only [zL, two63, room] <;> omega) | fail) only [↓reduceIte, ↓zP, zW, WOp, evOp, evBin, binI, binSh, binS, evNil, keyIs, keyEq, mkv, AV.cells, AV.sc, optv, bnd, env, put, Env.get, Env.set, Env.del, Env.dels, Env.init, res1, resL, resV, fillP, splice, newRow, Nat.reduceEqDiff, Nat.reduceLT, Nat.reduceLeDiff, Nat.reduceAdd, Nat.reduceMul, Nat.reduceSub, Nat.reduceBEq, reduceCtorEq, ↓zR, zQ, Tr, StA, StT, rA, ap, rc1', hwr]
    rw [w_loopn (c := lp347_0) rfl]
    simp (maxSteps := 1000000) (disch := first | omega | rfl | (simp only [zL, two63, room] <;> omega) | fail) only [↓reduceIte, ↓zP, zW, WOp, evOp, evBin, binI, binSh, binS, evNil, keyIs, keyEq, mkv, AV.cells, AV.sc, optv, bnd, env, put, Env.get, Env.set, Env.del, Env.dels, Env.init, res1, resL, resV, fillP, splice, newRow, Nat.reduceEqDiff, Nat.reduceLT, Nat.reduceLeDiff, Nat.reduceAdd, Nat.reduceMul, Nat.reduceSub, Nat.reduceBEq, reduceCtorEq, ↓zR, zQ, Tr, StA, StT]
    rw [← hsw]
    refine ih (j + 1) o' g2 (by omega) ?_ pp hR
    rw [htk]
    exact ow
theorem strsOf_map : ∀ L : List (List UInt8), strsOf (L.flatMap encS) = some L
  | [] => rfl
  | s :: L => by
    rw [List.flatMap_cons]
    show strsOf (.str s :: L.flatMap encS) = _
    unfold strsOf
    rw [strsOf_map L]
    rfl
theorem c_bText {rs : List (List UInt8)} {w h : Nat} (hb : Bd rs w h) {g : AH} {post : AV → AH → Prop} (hp : ∀ g', Pre g g' → post (.str (txB rs)) g') : S 347 [boV rs.flatten w] g post k := by
  have hhl := hb.len
  have hh1 := hb.h1
  have hh5 := hb.h5
  have hwh : w * h ≤ 25 := Nat.mul_le_mul hb.w5 hb.h5
  refine S_of rfl T347 ?_; unfold fi347
  simp (maxSteps := 1000000) (disch := first | omega | rfl | (simp only [zL, two63, room] <;> omega) | fail) only [↓reduceIte, ↓zP, zW, WOp, evOp, evBin, binI, binSh, binS, evNil, keyIs, keyEq, mkv, AV.cells, AV.sc, optv, bnd, env, put, Env.get, Env.set, Env.del, Env.dels, Env.init, res1, resL, resV, fillP, splice, newRow, Nat.reduceEqDiff, Nat.reduceLT, Nat.reduceLeDiff, Nat.reduceAdd, Nat.reduceMul, Nat.reduceSub, Nat.reduceBEq, reduceCtorEq, ↓zR, zQ, Tr, StA, StT]
  generalize hA : g ++ [AO.row [.str rs.flatten, .int .i64 (w : Int)] 0 0 false] = gA
  have pA : Pre g gA := hA ▸ Pre.push _ _
  have rA : rdRow gA g.length 0 0 2 = some (boR rs.flatten w) := by rw [← hA]; simp (maxSteps := 1000000) (disch := first | omega | rfl | (simp only [zL, two63, room] <;> omega) | fail) only [↓reduceIte, ↓zP, zW, WOp, evOp, evBin, binI, binSh, binS, evNil, keyIs, keyEq, mkv, AV.cells, AV.sc, optv, bnd, env, put, Env.get, Env.set, Env.del, Env.dels, Env.init, res1, resL, resV, fillP, splice, newRow, Nat.reduceEqDiff, Nat.reduceLT, Nat.reduceLeDiff, Nat.reduceAdd, Nat.reduceMul, Nat.reduceSub, Nat.reduceBEq, reduceCtorEq, ↓zR, zQ, Tr, StA, StT]
  have h0 : (0 : Int) = ((0 * w : Nat) : Int) := by rw [Nat.zero_mul]; rfl
  rw [h0]
  refine lp_bText hb rA h 0 .empS gA (by omega) OwL.emp (Pre.refl _) ?_
  intro o g2 ho p2
  have hs := ho.slc
  obtain ⟨c, kk, off, rfl⟩ := hs.isS (by omega)
  obtain ⟨_, _, hr⟩ := hs.all
  have hx : xJoin [.slice c kk off rs.length 1, .str [47]] g2 = some (.str (txB rs)) := by
    unfold xJoin
    simp only [if_true]
    rw [Nat.mul_one] at hr
    rw [hr]
    simp only [strsOf_map]
    have := txB_len rs
    have := hb.flen
    unfold txB at *
    rw [if_pos ⟨by omega, by omega⟩]
  simp (maxSteps := 1000000) (disch := first | omega | rfl | (simp only [zL, two63, room] <;> omega) | fail) only [↓reduceIte, ↓zP, zW, WOp, evOp, evBin, binI, binSh, binS, evNil, keyIs, keyEq, mkv, AV.cells, AV.sc, optv, bnd, env, put, Env.get, Env.set, Env.del, Env.dels, Env.init, res1, resL, resV, fillP, splice, newRow, Nat.reduceEqDiff, Nat.reduceLT, Nat.reduceLeDiff, Nat.reduceAdd, Nat.reduceMul, Nat.reduceSub, Nat.reduceBEq, reduceCtorEq, ↓zR, zQ, Tr, StA, StT]
  refine S_ext (r := .str (txB rs)) rfl hx ?_
  simp (maxSteps := 1000000) (disch := first | omega | rfl | (simp only [zL, two63, room] <;> omega) | fail) only [↓reduceIte, ↓zP, zW, WOp, evOp, evBin, binI, binSh, binS, evNil, keyIs, keyEq, mkv, AV.cells, AV.sc, optv, bnd, env, put, Env.get, Env.set, Env.del, Env.dels, Env.init, res1, resL, resV, fillP, splice, newRow, Nat.reduceEqDiff, Nat.reduceLT, Nat.reduceLeDiff, Nat.reduceAdd, Nat.reduceMul, Nat.reduceSub, Nat.reduceBEq, reduceCtorEq, ↓zR, zQ, Tr, StA, StT]
  exact hp g2 (pA.trans p2)

/-! ### Plays -/
theorem lp_IndexMv {v : AV} {L : List Mo} (hL : L.length < 2 ^ 30) (m : Mo) {g : AH} {c0 : Nat} (hc0 : rdRow g c0 0 0 2 = some (encM m)) (hs : Slc 2 encM g v L) {R : X → Env → AH → Prop} : ∀ (rest pre : List Mo), L = pre ++ rest →
    (∀ i : Nat, m ∈ rest → R .ret [(4, .int .i64 (i : Int))] g) → (m ∉ rest → R (.exit 0) [] g) →
    Cx (.loop lp133_0) [(0, v), (3, .ptr c0 0 0 2), (7, .int .i64 L.length), (8, .int .i64 pre.length)] g R k k
  | [], pre, hpre, h1, h2 => by
    rw [w_loopb (c := lp133_0) (d := lb133_0) rfl]; unfold lb133_0
    have hl : L.length = pre.length := by rw [hpre]; simp
    rw [hl]
    simp (maxSteps := 1000000) (disch := first | omega | rfl | (simp only [zL, two63, room] <;> omega) | fail) only [↓reduceIte, ↓zP, zW, WOp, evOp, evBin, binI, binSh, binS, evNil, keyIs, keyEq, mkv, AV.cells, AV.sc, optv, bnd, env, put, Env.get, Env.set, Env.del, Env.dels, Env.init, res1, resL, resV, fillP, splice, newRow, Nat.reduceEqDiff, Nat.reduceLT, Nat.reduceLeDiff, Nat.reduceAdd, Nat.reduceMul, Nat.reduceSub, Nat.reduceBEq, reduceCtorEq, ↓zR, zQ, Tr, StA, StT]
    exact h2 (by simp)
  | x :: rest, pre, hpre, h1, h2 => by
    have ih := lp_IndexMv hL m hc0 hs (R := R) rest (pre ++ [x]) (by rw [hpre]; simp)
    have hl : L.length = pre.length + 1 + rest.length := by rw [hpre]; simp; omega
    have hs' := hs
    rw [hpre] at hs'
    obtain ⟨c, kk, off, hv, hr⟩ := hs'.at hlM
    rw [← hpre, hl] at hv
    subst hv
    rw [hl] at ih ⊢
    have hlt : (pre.length : Int) < ((pre.length + 1 + rest.length : Nat) : Int) := by omega
    have hw1 : (pre.length : Int) + 1 = ((pre ++ [x]).length : Int) := by simp
    obtain ⟨m1, m2⟩ := m
    obtain ⟨x1, x2⟩ := x
    rw [w_loopb (c := lp133_0) (d := lb133_0) rfl]; unfold lb133_0
    by_cases e : ((m1, m2) : Mo) = (x1, x2)
    · cases e
      simp (maxSteps := 1000000) (disch := first | omega | rfl | (simp only [zL, two63, room] <;> omega) | fail) only [↓reduceIte, ↓zP, zW, WOp, evOp, evBin, binI, binSh, binS, evNil, keyIs, keyEq, mkv, AV.cells, AV.sc, optv, bnd, env, put, Env.get, Env.set, Env.del, Env.dels, Env.init, res1, resL, resV, fillP, splice, newRow, Nat.reduceEqDiff, Nat.reduceLT, Nat.reduceLeDiff, Nat.reduceAdd, Nat.reduceMul, Nat.reduceSub, Nat.reduceBEq, reduceCtorEq, ↓zR, zQ, Tr, StA, StT, hlt, hr, hc0, seqL]
      exact h1 pre.length (by simp)
    · have hb : (m1 == x1 && m2 == x2) = false := by
        cases hbe : (m1 == x1 && m2 == x2)
        · rfl
        · rw [Bool.and_eq_true, beq_iff_eq, beq_iff_eq] at hbe
          exact absurd (by rw [hbe.1, hbe.2]) e
      simp (maxSteps := 1000000) (disch := first | omega | rfl | (simp only [zL, two63, room] <;> omega) | fail) only [↓reduceIte, ↓zP, zW, WOp, evOp, evBin, binI, binSh, binS, evNil, keyIs, keyEq, mkv, AV.cells, AV.sc, optv, bnd, env, put, Env.get, Env.set, Env.del, Env.dels, Env.init, res1, resL, resV, fillP, splice, newRow, Nat.reduceEqDiff, Nat.reduceLT, Nat.reduceLeDiff, Nat.reduceAdd, Nat.reduceMul, Nat.reduceSub, Nat.reduceBEq, reduceCtorEq, ↓zR, zQ, Tr, StA, StT, hlt, hr, hc0, seqL, hb, hw1]
      rw [w_loopn (c := lp133_0) rfl]
      simp (maxSteps := 1000000) (disch := first | omega | rfl | (simp only [zL, two63, room] <;> omega) | fail) only [↓reduceIte, ↓zP, zW, WOp, evOp, evBin, binI, binSh, binS, evNil, keyIs, keyEq, mkv, AV.cells, AV.sc, optv, bnd, env, put, Env.get, Env.set, Env.del, Env.dels, Env.init, res1, resL, resV, fillP, splice, newRow, Nat.reduceEqDiff, Nat.reduceLT, Nat.reduceLeDiff, Nat.reduceAdd, Nat.reduceMul, Nat.reduceSub, Nat.reduceBEq, reduceCtorEq, ↓zR, zQ, Tr, StA, StT]
      refine ih (fun i hi => h1 i (by simp [hi])) (fun hn => h2 ?_)
      rw [List.mem_cons, not_or]
      exact ⟨e, hn⟩
theorem c_ContainsMv {v : AV} {L : List Mo} (hL : L.length < 2 ^ 30) (m : Mo) {g : AH} (hs : Slc 2 encM g v L) {post : AV → AH → Prop} (hp : ∀ g', Pre g g' → post (.bool (decide (m ∈ L))) g') : S 60 [v, .agg (encM m)] g post k := by
  have pA := Pre.push g (AO.row (encM m) 0 0 false)
  have rA : rdRow (g ++ [AO.row (encM m) 0 0 false]) g.length 0 0 2 = some (encM m) := by simp (maxSteps := 1000000) (disch := first | omega | rfl | (simp only [zL, two63, room] <;> omega) | fail) only [↓reduceIte, ↓zP, zW, WOp, evOp, evBin, binI, binSh, binS, evNil, keyIs, keyEq, mkv, AV.cells, AV.sc, optv, bnd, env, put, Env.get, Env.set, Env.del, Env.dels, Env.init, res1, resL, resV, fillP, splice, newRow, Nat.reduceEqDiff, Nat.reduceLT, Nat.reduceLeDiff, Nat.reduceAdd, Nat.reduceMul, Nat.reduceSub, Nat.reduceBEq, reduceCtorEq, ↓zR, zQ, Tr, StA, StT]
  generalize hgA : g ++ [AO.row (encM m) 0 0 false] = gA at pA rA
  have pB := Pre.push gA (AO.row (encM m) 0 0 false)
  have rB : rdRow (gA ++ [AO.row (encM m) 0 0 false]) gA.length 0 0 2 = some (encM m) := by simp (maxSteps := 1000000) (disch := first | omega | rfl | (simp only [zL, two63, room] <;> omega) | fail) only [↓reduceIte, ↓zP, zW, WOp, evOp, evBin, binI, binSh, binS, evNil, keyIs, keyEq, mkv, AV.cells, AV.sc, optv, bnd, env, put, Env.get, Env.set, Env.del, Env.dels, Env.init, res1, resL, resV, fillP, splice, newRow, Nat.reduceEqDiff, Nat.reduceLT, Nat.reduceLeDiff, Nat.reduceAdd, Nat.reduceMul, Nat.reduceSub, Nat.reduceBEq, reduceCtorEq, ↓zR, zQ, Tr, StA, StT]
  generalize hgB : gA ++ [AO.row (encM m) 0 0 false] = gB at pB rB
  have hsB := (hs.pre pA).pre pB
  have hq := hp gB (pA.trans pB)
  have hI : ∀ post2 : AV → AH → Prop, (m ∈ L → ∀ i : Nat, post2 (.int .i64 (i : Int)) gB) → (m ∉ L → post2 (.int .i64 (-1)) gB) → S 133 [v, .agg (encM m)] gA post2 k := by
    intro post2 h1 h2
    refine S_of rfl T133 ?_; unfold fi133
    have hv := fun g => Slc.lenV (hsB) (g := g) (ρ := fun _ => _) (x := .t 0) rfl; simp only [evOp] at hv
    simp (maxSteps := 1000000) (disch := first | omega | rfl | (simp only [zL, two63, room] <;> omega) | fail) only [↓reduceIte, ↓zP, zW, WOp, evOp, evBin, binI, binSh, binS, evNil, keyIs, keyEq, mkv, AV.cells, AV.sc, optv, bnd, env, put, Env.get, Env.set, Env.del, Env.dels, Env.init, res1, resL, resV, fillP, splice, newRow, Nat.reduceEqDiff, Nat.reduceLT, Nat.reduceLeDiff, Nat.reduceAdd, Nat.reduceMul, Nat.reduceSub, Nat.reduceBEq, reduceCtorEq, ↓zR, zQ, Tr, StA, StT, hgB, hv]
    refine lp_IndexMv hL m rB hsB L [] rfl ?_ ?_
    · intro i hi
      simp (maxSteps := 1000000) (disch := first | omega | rfl | (simp only [zL, two63, room] <;> omega) | fail) only [↓reduceIte, ↓zP, zW, WOp, evOp, evBin, binI, binSh, binS, evNil, keyIs, keyEq, mkv, AV.cells, AV.sc, optv, bnd, env, put, Env.get, Env.set, Env.del, Env.dels, Env.init, res1, resL, resV, fillP, splice, newRow, Nat.reduceEqDiff, Nat.reduceLT, Nat.reduceLeDiff, Nat.reduceAdd, Nat.reduceMul, Nat.reduceSub, Nat.reduceBEq, reduceCtorEq, ↓zR, zQ, Tr, StA, StT]
      exact h1 hi i
    · intro hn
      simp (maxSteps := 1000000) (disch := first | omega | rfl | (simp only [zL, two63, room] <;> omega) | fail) only [↓reduceIte, ↓zP, zW, WOp, evOp, evBin, binI, binSh, binS, evNil, keyIs, keyEq, mkv, AV.cells, AV.sc, optv, bnd, env, put, Env.get, Env.set, Env.del, Env.dels, Env.init, res1, resL, resV, fillP, splice, newRow, Nat.reduceEqDiff, Nat.reduceLT, Nat.reduceLeDiff, Nat.reduceAdd, Nat.reduceMul, Nat.reduceSub, Nat.reduceBEq, reduceCtorEq, ↓zR, zQ, Tr, StA, StT]
      exact h2 hn
  refine S_of rfl T60 ?_; unfold fi60
  simp (maxSteps := 1000000) (disch := first | omega | rfl | (simp only [zL, two63, room] <;> omega) | fail) only [↓reduceIte, ↓zP, zW, WOp, evOp, evBin, binI, binSh, binS, evNil, keyIs, keyEq, mkv, AV.cells, AV.sc, optv, bnd, env, put, Env.get, Env.set, Env.del, Env.dels, Env.init, res1, resL, resV, fillP, splice, newRow, Nat.reduceEqDiff, Nat.reduceLT, Nat.reduceLeDiff, Nat.reduceAdd, Nat.reduceMul, Nat.reduceSub, Nat.reduceBEq, reduceCtorEq, ↓zR, zQ, Tr, StA, StT, hgA, rA]
  refine hI _ ?_ ?_
  · intro hm i
    have hge : (i : Int) ≥ 0 := by omega
    rw [decide_eq_true hm] at hq
    simp (maxSteps := 1000000) (disch := first | omega | rfl | (simp only [zL, two63, room] <;> omega) | fail) only [↓reduceIte, ↓zP, zW, WOp, evOp, evBin, binI, binSh, binS, evNil, keyIs, keyEq, mkv, AV.cells, AV.sc, optv, bnd, env, put, Env.get, Env.set, Env.del, Env.dels, Env.init, res1, resL, resV, fillP, splice, newRow, Nat.reduceEqDiff, Nat.reduceLT, Nat.reduceLeDiff, Nat.reduceAdd, Nat.reduceMul, Nat.reduceSub, Nat.reduceBEq, reduceCtorEq, ↓zR, zQ, Tr, StA, StT, hge]
    exact hq
  · intro hm
    rw [decide_eq_false hm] at hq
    simp (maxSteps := 1000000) (disch := first | omega | rfl | (simp only [zL, two63, room] <;> omega) | fail) only [↓reduceIte, ↓zP, zW, WOp, evOp, evBin, binI, binSh, binS, evNil, keyIs, keyEq, mkv, AV.cells, AV.sc, optv, bnd, env, put, Env.get, Env.set, Env.del, Env.dels, Env.init, res1, resL, resV, fillP, splice, newRow, Nat.reduceEqDiff, Nat.reduceLT, Nat.reduceLeDiff, Nat.reduceAdd, Nat.reduceMul, Nat.reduceSub, Nat.reduceBEq, reduceCtorEq, ↓zR, zQ, Tr, StA, StT]
    exact hq

/-- Moves on cells, up to the first that cannot be made. -/
def bPlay (w h : Nat) : List UInt8 → List Mo → List UInt8 × Nat
  | c, [] => (c, 0)
  | c, m :: ms => if bCan c w h m then ((bPlay w h (madeB c m.1.toNat m.2.toNat) ms).1, (bPlay w h (madeB c m.1.toNat m.2.toNat) ms).2 + 1) else (c, 0)
theorem bPlay_le (w h : Nat) : ∀ (ms : List Mo) (c : List UInt8), (bPlay w h c ms).2 ≤ ms.length
  | [], c => by simp [bPlay]
  | m :: ms, c => by
    unfold bPlay
    split
    · have := bPlay_le w h ms (madeB c m.1.toNat m.2.toNat)
      simp only [List.length_cons]; omega
    · simp
theorem Bd.bc {rs : List (List UInt8)} {w h : Nat} (hb : Bd rs w h) : Bc rs.flatten w h := ⟨hb.flen, hb.w1, hb.w5, hb.h1, hb.h5⟩
theorem c_bPlay1 {rs : List (List UInt8)} {w h : Nat} (hb : Bd rs w h) (m : Mo) {g : AH} {c0 : Nat} (hc0 : rdRow g c0 0 1 1 = some [.int .i64 (w : Int)]) {post : AV → AH → Prop} (hp : ∀ g', Pre g g' → post (.bool (bCan rs.flatten w h m)) g') : S 351 [.str rs.flatten, .agg (encM m), .ptr c0 0 0 2] g post k := by
  have hbc := hb.bc
  have hle := bList_len hbc
  have pA := Pre.push g (AO.row (encM m) 0 0 false)
  have rA : rdRow (g ++ [AO.row (encM m) 0 0 false]) g.length 0 0 2 = some (encM m) := by simp (maxSteps := 1000000) (disch := first | omega | rfl | (simp only [zL, two63, room] <;> omega) | fail) only [↓reduceIte, ↓zP, zW, WOp, evOp, evBin, binI, binSh, binS, evNil, keyIs, keyEq, mkv, AV.cells, AV.sc, optv, bnd, env, put, Env.get, Env.set, Env.del, Env.dels, Env.init, res1, resL, resV, fillP, splice, newRow, Nat.reduceEqDiff, Nat.reduceLT, Nat.reduceLeDiff, Nat.reduceAdd, Nat.reduceMul, Nat.reduceSub, Nat.reduceBEq, reduceCtorEq, ↓zR, zQ, Tr, StA, StT]
  have rc := rdRow_pre pA hc0
  generalize hgA : g ++ [AO.row (encM m) 0 0 false] = gA at pA rA rc
  refine S_of rfl T351 ?_; unfold fi351
  simp (maxSteps := 1000000) (disch := first | omega | rfl | (simp only [zL, two63, room] <;> omega) | fail) only [↓reduceIte, ↓zP, zW, WOp, evOp, evBin, binI, binSh, binS, evNil, keyIs, keyEq, mkv, AV.cells, AV.sc, optv, bnd, env, put, Env.get, Env.set, Env.del, Env.dels, Env.init, res1, resL, resV, fillP, splice, newRow, Nat.reduceEqDiff, Nat.reduceLT, Nat.reduceLeDiff, Nat.reduceAdd, Nat.reduceMul, Nat.reduceSub, Nat.reduceBEq, reduceCtorEq, ↓zR, zQ, Tr, StA, StT, hgA]
  refine w_drw ?_
  simp (maxSteps := 1000000) (disch := first | omega | rfl | (simp only [zL, two63, room] <;> omega) | fail) only [↓reduceIte, ↓zP, zW, WOp, evOp, evBin, binI, binSh, binS, evNil, keyIs, keyEq, mkv, AV.cells, AV.sc, optv, bnd, env, put, Env.get, Env.set, Env.del, Env.dels, Env.init, res1, resL, resV, fillP, splice, newRow, Nat.reduceEqDiff, Nat.reduceLT, Nat.reduceLeDiff, Nat.reduceAdd, Nat.reduceMul, Nat.reduceSub, Nat.reduceBEq, reduceCtorEq, ↓zR, zQ, Tr, StA, StT, rc]
  refine c_bMoves hbc ?_
  intro o g2 ho p2
  rw [bMoves_eq hbc.len] at ho
  have rA2 := rdRow_pre p2 rA
  simp (maxSteps := 1000000) (disch := first | omega | rfl | (simp only [zL, two63, room] <;> omega) | fail) only [↓reduceIte, ↓zP, zW, WOp, evOp, evBin, binI, binSh, binS, evNil, keyIs, keyEq, mkv, AV.cells, AV.sc, optv, bnd, env, put, Env.get, Env.set, Env.del, Env.dels, Env.init, res1, resL, resV, fillP, splice, newRow, Nat.reduceEqDiff, Nat.reduceLT, Nat.reduceLeDiff, Nat.reduceAdd, Nat.reduceMul, Nat.reduceSub, Nat.reduceBEq, reduceCtorEq, ↓zR, zQ, Tr, StA, StT, rA2, rA]
  refine c_ContainsMv (by omega) m ho.slc ?_
  intro g3 p3
  have hd : decide (m ∈ bList rs.flatten w h) = bCan rs.flatten w h m := by
    cases e : bCan rs.flatten w h m
    · rw [decide_eq_false]; rw [bList_mem, e]; simp
    · rw [decide_eq_true]; rw [bList_mem]; exact e
  rw [hd]
  have hq := hp g3 ((pA.trans p2).trans p3)
  simp (maxSteps := 1000000) (disch := first | omega | rfl | (simp only [zL, two63, room] <;> omega) | fail) only [↓reduceIte, ↓zP, zW, WOp, evOp, evBin, binI, binSh, binS, evNil, keyIs, keyEq, mkv, AV.cells, AV.sc, optv, bnd, env, put, Env.get, Env.set, Env.del, Env.dels, Env.init, res1, resL, resV, fillP, splice, newRow, Nat.reduceEqDiff, Nat.reduceLT, Nat.reduceLeDiff, Nat.reduceAdd, Nat.reduceMul, Nat.reduceSub, Nat.reduceBEq, reduceCtorEq, ↓zR, zQ, Tr, StA, StT, rA2, rA]
  exact hq
theorem lp_playedB {w h : Nat} {v : AV} {ms : List Mo} (hL : ms.length < 2 ^ 30) {g0 : AH} {c0 : Nat} (hc0 : rdRow g0 c0 0 1 1 = some [.int .i64 (w : Int)]) (hs : Slc 2 encM g0 v ms) {R : X → Env → AH → Prop} : ∀ (rest pre : List Mo) (rs : List (List UInt8)) (g : AH), Bd rs w h → ms = pre ++ rest → Pre g0 g →
    (∀ g', Pre g0 g' → (bPlay w h rs.flatten rest).2 = rest.length → R (.exit 0) [(0, .str (bPlay w h rs.flatten rest).1), (1, v)] g') →
    (∀ g', Pre g0 g' → (bPlay w h rs.flatten rest).2 < rest.length → R .ret [(6, .str []), (7, .int .i64 ((pre.length + (bPlay w h rs.flatten rest).2 : Nat) : Int))] g') →
    Cx (.loop lp68_0) [(0, .str rs.flatten), (1, v), (2, .fn 351 [.ptr c0 0 0 2]), (10, v), (11, .int .i64 ms.length), (12, .int .i64 pre.length)] g R k k
  | [], pre, rs, g, hb, hL', hp, h1, h2 => by
    rw [w_loopb (c := lp68_0) (d := lb68_0) rfl]; unfold lb68_0
    have hl : ms.length = pre.length := by rw [hL']; simp
    rw [hl]
    simp (maxSteps := 1000000) (disch := first | omega | rfl | (simp only [zL, two63, room] <;> omega) | fail) only [↓reduceIte, ↓zP, zW, WOp, evOp, evBin, binI, binSh, binS, evNil, keyIs, keyEq, mkv, AV.cells, AV.sc, optv, bnd, env, put, Env.get, Env.set, Env.del, Env.dels, Env.init, res1, resL, resV, fillP, splice, newRow, Nat.reduceEqDiff, Nat.reduceLT, Nat.reduceLeDiff, Nat.reduceAdd, Nat.reduceMul, Nat.reduceSub, Nat.reduceBEq, reduceCtorEq, ↓zR, zQ, Tr, StA, StT]
    exact h1 g hp rfl
  | m :: rest, pre, rs, g, hb, hL', hp, h1, h2 => by
    have ih := lp_playedB (h := h) hL hc0 hs (R := R) rest (pre ++ [m])
    have hl : ms.length = pre.length + 1 + rest.length := by rw [hL']; simp; omega
    have hfl := hb.flen
    have hwh : w * h ≤ 25 := Nat.mul_le_mul hb.w5 hb.h5
    have hsg := hs.pre hp
    have hs' := hsg
    rw [hL'] at hs'
    obtain ⟨c, kk, off, hv, hr⟩ := hs'.at hlM
    rw [← hL', hl] at hv
    subst hv
    rw [hl] at ih ⊢
    have hlt : (pre.length : Int) < ((pre.length + 1 + rest.length : Nat) : Int) := by omega
    have hw1 : (pre.length : Int) + 1 = ((pre ++ [m]).length : Int) := by simp
    obtain ⟨m1, m2⟩ := m
    rw [w_loopb (c := lp68_0) (d := lb68_0) rfl]; unfold lb68_0
    simp (maxSteps := 1000000) (disch := first | omega | rfl | (simp only [zL, two63, room] <;> omega) | fail) only [↓reduceIte, ↓zP, zW, WOp, evOp, evBin, binI, binSh, binS, evNil, keyIs, keyEq, mkv, AV.cells, AV.sc, optv, bnd, env, put, Env.get, Env.set, Env.del, Env.dels, Env.init, res1, resL, resV, fillP, splice, newRow, Nat.reduceEqDiff, Nat.reduceLT, Nat.reduceLeDiff, Nat.reduceAdd, Nat.reduceMul, Nat.reduceSub, Nat.reduceBEq, reduceCtorEq, ↓zR, zQ, Tr, StA, StT, hlt, hr]
    generalize hA : g ++ [AO.row [.int .i64 m1, .int .i64 m2] 0 0 false] = gA
    have pA : Pre g gA := hA ▸ Pre.push _ _
    have rA : rdRow gA g.length 0 0 2 = some [.int .i64 m1, .int .i64 m2] := by rw [← hA]; simp (maxSteps := 1000000) (disch := first | omega | rfl | (simp only [zL, two63, room] <;> omega) | fail) only [↓reduceIte, ↓zP, zW, WOp, evOp, evBin, binI, binSh, binS, evNil, keyIs, keyEq, mkv, AV.cells, AV.sc, optv, bnd, env, put, Env.get, Env.set, Env.del, Env.dels, Env.init, res1, resL, resV, fillP, splice, newRow, Nat.reduceEqDiff, Nat.reduceLT, Nat.reduceLeDiff, Nat.reduceAdd, Nat.reduceMul, Nat.reduceSub, Nat.reduceBEq, reduceCtorEq, ↓zR, zQ, Tr, StA, StT]
    try (simp (maxSteps := 1000000) (disch := first | omega | rfl | (simp only [zL, two63, room] <;> omega) | fail) only [↓reduceIte, ↓zP, zW, WOp, evOp, evBin, binI, binSh, binS, evNil, keyIs, keyEq, mkv, AV.cells, AV.sc, optv, bnd, env, put, Env.get, Env.set, Env.del, Env.dels, Env.init, res1, resL, resV, fillP, splice, newRow, Nat.reduceEqDiff, Nat.reduceLT, Nat.reduceLeDiff, Nat.reduceAdd, Nat.reduceMul, Nat.reduceSub, Nat.reduceBEq, reduceCtorEq, ↓zR, zQ, Tr, StA, StT, rA])
    refine c_bPlay1 hb (m1, m2) (rdRow_pre (hp.trans pA) hc0) ?_
    intro g2 p2
    have rA2 := rdRow_pre p2 rA
    cases e : bCan rs.flatten w h (m1, m2)
    · have hz : bPlay w h rs.flatten ((m1, m2) :: rest) = (rs.flatten, 0) := by unfold bPlay; rw [if_neg (by rw [e]; decide)]
      rw [hz] at h2
      have hq := h2 g2 ((hp.trans pA).trans p2) (by simp)
      rw [Nat.add_zero] at hq
      simp (maxSteps := 1000000) (disch := first | omega | rfl | (simp only [zL, two63, room] <;> omega) | fail) only [↓reduceIte, ↓zP, zW, WOp, evOp, evBin, binI, binSh, binS, evNil, keyIs, keyEq, mkv, AV.cells, AV.sc, optv, bnd, env, put, Env.get, Env.set, Env.del, Env.dels, Env.init, res1, resL, resV, fillP, splice, newRow, Nat.reduceEqDiff, Nat.reduceLT, Nat.reduceLeDiff, Nat.reduceAdd, Nat.reduceMul, Nat.reduceSub, Nat.reduceBEq, reduceCtorEq, ↓zR, zQ, Tr, StA, StT]
      exact hq
    · obtain ⟨f, t, hft, hf, ht, hne⟩ := bCan_rng hb e
      simp only [Prod.mk.injEq] at hft
      obtain ⟨rfl, rfl⟩ := hft
      obtain ⟨hb2, hfl2⟩ := hb.make hf ht hne
      have hz : bPlay w h rs.flatten (((f : Int), (t : Int)) :: rest) = ((bPlay w h (rMake w rs f t).flatten rest).1, (bPlay w h (rMake w rs f t).flatten rest).2 + 1) := by
        rw [hfl2]
        conv => lhs; unfold bPlay
        rw [if_pos e]
        simp only [Int.toNat_natCast]
      rw [hz] at h1 h2
      simp (maxSteps := 1000000) (disch := first | omega | rfl | (simp only [zL, two63, room] <;> omega) | fail) only [↓reduceIte, ↓zP, zW, WOp, evOp, evBin, binI, binSh, binS, evNil, keyIs, keyEq, mkv, AV.cells, AV.sc, optv, bnd, env, put, Env.get, Env.set, Env.del, Env.dels, Env.init, res1, resL, resV, fillP, splice, newRow, Nat.reduceEqDiff, Nat.reduceLT, Nat.reduceLeDiff, Nat.reduceAdd, Nat.reduceMul, Nat.reduceSub, Nat.reduceBEq, reduceCtorEq, ↓zR, zQ, Tr, StA, StT, rA2]
      refine c_made rs.flatten f t (by omega) (by omega) (by omega) ?_
      intro g3 p3
      rw [← hfl2]
      simp (maxSteps := 1000000) (disch := first | omega | rfl | (simp only [zL, two63, room] <;> omega) | fail) only [↓reduceIte, ↓zP, zW, WOp, evOp, evBin, binI, binSh, binS, evNil, keyIs, keyEq, mkv, AV.cells, AV.sc, optv, bnd, env, put, Env.get, Env.set, Env.del, Env.dels, Env.init, res1, resL, resV, fillP, splice, newRow, Nat.reduceEqDiff, Nat.reduceLT, Nat.reduceLeDiff, Nat.reduceAdd, Nat.reduceMul, Nat.reduceSub, Nat.reduceBEq, reduceCtorEq, ↓zR, zQ, Tr, StA, StT, hw1]
      rw [w_loopn (c := lp68_0) rfl]
      simp (maxSteps := 1000000) (disch := first | omega | rfl | (simp only [zL, two63, room] <;> omega) | fail) only [↓reduceIte, ↓zP, zW, WOp, evOp, evBin, binI, binSh, binS, evNil, keyIs, keyEq, mkv, AV.cells, AV.sc, optv, bnd, env, put, Env.get, Env.set, Env.del, Env.dels, Env.init, res1, resL, resV, fillP, splice, newRow, Nat.reduceEqDiff, Nat.reduceLT, Nat.reduceLeDiff, Nat.reduceAdd, Nat.reduceMul, Nat.reduceSub, Nat.reduceBEq, reduceCtorEq, ↓zR, zQ, Tr, StA, StT]
      refine ih (rMake w rs f t) g3 hb2 (by rw [hL']; simp) (((hp.trans pA).trans p2).trans p3) ?_ ?_
      · intro g' q1 q2
        exact h1 g' q1 (by simp only [List.length_cons]; omega)
      · intro g' q1 q2
        have hq := h2 g' q1 (by simp only [List.length_cons]; omega)
        have he : (pre ++ [((f : Int), (t : Int))]).length + (bPlay w h (rMake w rs f t).flatten rest).2 = pre.length + ((bPlay w h (rMake w rs f t).flatten rest).2 + 1) := by simp; omega
        rw [he]
        exact hq
theorem c_bPlay {rs : List (List UInt8)} {w h : Nat} (hb : Bd rs w h) {v : AV} {ms : List Mo} (hL : ms.length < 2 ^ 30) {g : AH} (hs : Slc 2 encM g v ms) {post : AV → AH → Prop}
    (h1 : ∀ g', Pre g g' → (bPlay w h rs.flatten ms).2 = ms.length → post (.tup [boV (bPlay w h rs.flatten ms).1 w, .int .i64 ms.length]) g')
    (h2 : ∀ g', Pre g g' → (bPlay w h rs.flatten ms).2 < ms.length → post (.tup [boV [] w, .int .i64 (bPlay w h rs.flatten ms).2]) g') : S 346 [boV rs.flatten w, v] g post k := by
  refine S_of rfl T346 ?_; unfold fi346
  simp (maxSteps := 1000000) (disch := first | omega | rfl | (simp only [zL, two63, room] <;> omega) | fail) only [↓reduceIte, ↓zP, zW, WOp, evOp, evBin, binI, binSh, binS, evNil, keyIs, keyEq, mkv, AV.cells, AV.sc, optv, bnd, env, put, Env.get, Env.set, Env.del, Env.dels, Env.init, res1, resL, resV, fillP, splice, newRow, Nat.reduceEqDiff, Nat.reduceLT, Nat.reduceLeDiff, Nat.reduceAdd, Nat.reduceMul, Nat.reduceSub, Nat.reduceBEq, reduceCtorEq, ↓zR, zQ, Tr, StA, StT]
  generalize hA : g ++ [AO.row [.str rs.flatten, .int .i64 (w : Int)] 0 0 false] = gA
  have pA : Pre g gA := hA ▸ Pre.push _ _
  have rA0 : rdRow gA g.length 0 0 1 = some [.str rs.flatten] := by rw [← hA]; simp (maxSteps := 1000000) (disch := first | omega | rfl | (simp only [zL, two63, room] <;> omega) | fail) only [↓reduceIte, ↓zP, zW, WOp, evOp, evBin, binI, binSh, binS, evNil, keyIs, keyEq, mkv, AV.cells, AV.sc, optv, bnd, env, put, Env.get, Env.set, Env.del, Env.dels, Env.init, res1, resL, resV, fillP, splice, newRow, Nat.reduceEqDiff, Nat.reduceLT, Nat.reduceLeDiff, Nat.reduceAdd, Nat.reduceMul, Nat.reduceSub, Nat.reduceBEq, reduceCtorEq, ↓zR, zQ, Tr, StA, StT]
  have rA1 : rdRow gA g.length 0 1 1 = some [.int .i64 (w : Int)] := by rw [← hA]; simp (maxSteps := 1000000) (disch := first | omega | rfl | (simp only [zL, two63, room] <;> omega) | fail) only [↓reduceIte, ↓zP, zW, WOp, evOp, evBin, binI, binSh, binS, evNil, keyIs, keyEq, mkv, AV.cells, AV.sc, optv, bnd, env, put, Env.get, Env.set, Env.del, Env.dels, Env.init, res1, resL, resV, fillP, splice, newRow, Nat.reduceEqDiff, Nat.reduceLT, Nat.reduceLeDiff, Nat.reduceAdd, Nat.reduceMul, Nat.reduceSub, Nat.reduceBEq, reduceCtorEq, ↓zR, zQ, Tr, StA, StT]
  try (simp (maxSteps := 1000000) (disch := first | omega | rfl | (simp only [zL, two63, room] <;> omega) | fail) only [↓reduceIte, ↓zP, zW, WOp, evOp, evBin, binI, binSh, binS, evNil, keyIs, keyEq, mkv, AV.cells, AV.sc, optv, bnd, env, put, Env.get, Env.set, Env.del, Env.dels, Env.init, res1, resL, resV, fillP, splice, newRow, Nat.reduceEqDiff, Nat.reduceLT, Nat.reduceLeDiff, Nat.reduceAdd, Nat.reduceMul, Nat.reduceSub, Nat.reduceBEq, reduceCtorEq, ↓zR, zQ, Tr, StA, StT, rA0])
  generalize hB : gA ++ [AO.row [.str [], .int .i64 0] 0 0 false] = gB
  have pB : Pre gA gB := hB ▸ Pre.push _ _
  have cB : gB[gA.length]? = some (.row [.str [], .int .i64 0] 0 0 false) := by rw [← hB]; simp
  have rB0 := rdRow_pre pB rA0
  have rB1 := rdRow_pre pB rA1
  try (simp (maxSteps := 1000000) (disch := first | omega | rfl | (simp only [zL, two63, room] <;> omega) | fail) only [↓reduceIte, ↓zP, zW, WOp, evOp, evBin, binI, binSh, binS, evNil, keyIs, keyEq, mkv, AV.cells, AV.sc, optv, bnd, env, put, Env.get, Env.set, Env.del, Env.dels, Env.init, res1, resL, resV, fillP, splice, newRow, Nat.reduceEqDiff, Nat.reduceLT, Nat.reduceLeDiff, Nat.reduceAdd, Nat.reduceMul, Nat.reduceSub, Nat.reduceBEq, reduceCtorEq, ↓zR, zQ, Tr, StA, StT, rB0])
  -- impl.played
  have key : ∀ post2 : AV → AH → Prop, (∀ g', Pre gB g' → (bPlay w h rs.flatten ms).2 = ms.length → post2 (.tup [.str (bPlay w h rs.flatten ms).1, .int .i64 ms.length]) g') → (∀ g', Pre gB g' → (bPlay w h rs.flatten ms).2 < ms.length → post2 (.tup [.str [], .int .i64 (bPlay w h rs.flatten ms).2]) g') →
      S 68 [.str rs.flatten, v, .fn 351 [.ptr g.length 0 0 2]] gB post2 k := by
    intro post2 k1 k2
    have hsB := (hs.pre pA).pre pB
    refine S_of rfl T68 ?_; unfold fi68
    have hv := fun g => Slc.lenV (hsB) (g := g) (ρ := fun _ => _) (x := .t 0) rfl; simp only [evOp] at hv
    simp (maxSteps := 1000000) (disch := first | omega | rfl | (simp only [zL, two63, room] <;> omega) | fail) only [↓reduceIte, ↓zP, zW, WOp, evOp, evBin, binI, binSh, binS, evNil, keyIs, keyEq, mkv, AV.cells, AV.sc, optv, bnd, env, put, Env.get, Env.set, Env.del, Env.dels, Env.init, res1, resL, resV, fillP, splice, newRow, Nat.reduceEqDiff, Nat.reduceLT, Nat.reduceLeDiff, Nat.reduceAdd, Nat.reduceMul, Nat.reduceSub, Nat.reduceBEq, reduceCtorEq, ↓zR, zQ, Tr, StA, StT, hv]
    refine lp_playedB hL rB1 hsB ms [] rs gB hb rfl (Pre.refl _) ?_ ?_
    · intro g' q1 q2
      have hv2 := fun g => Slc.lenV ((hsB.pre q1)) (g := g) (ρ := fun _ => _) (x := .t 0) rfl; simp only [evOp] at hv2
      simp (maxSteps := 1000000) (disch := first | omega | rfl | (simp only [zL, two63, room] <;> omega) | fail) only [↓reduceIte, ↓zP, zW, WOp, evOp, evBin, binI, binSh, binS, evNil, keyIs, keyEq, mkv, AV.cells, AV.sc, optv, bnd, env, put, Env.get, Env.set, Env.del, Env.dels, Env.init, res1, resL, resV, fillP, splice, newRow, Nat.reduceEqDiff, Nat.reduceLT, Nat.reduceLeDiff, Nat.reduceAdd, Nat.reduceMul, Nat.reduceSub, Nat.reduceBEq, reduceCtorEq, ↓zR, zQ, Tr, StA, StT, hv2]
      exact k1 g' q1 q2
    · intro g' q1 q2
      simp (maxSteps := 1000000) (disch := first | omega | rfl | (simp only [zL, two63, room] <;> omega) | fail) only [↓reduceIte, ↓zP, zW, WOp, evOp, evBin, binI, binSh, binS, evNil, keyIs, keyEq, mkv, AV.cells, AV.sc, optv, bnd, env, put, Env.get, Env.set, Env.del, Env.dels, Env.init, res1, resL, resV, fillP, splice, newRow, Nat.reduceEqDiff, Nat.reduceLT, Nat.reduceLeDiff, Nat.reduceAdd, Nat.reduceMul, Nat.reduceSub, Nat.reduceBEq, reduceCtorEq, ↓zR, zQ, Tr, StA, StT]
      have := k2 g' q1 q2
      simpa using this
  refine key _ ?_ ?_
  · intro g' q1 q2
    have c2 : g'[gA.length]? = some (.row [.str [], .int .i64 0] 0 0 false) := by rw [q1.2 _ (List.getElem?_eq_some_iff.1 cB).1, cB]
    have r1 := rdRow_pre q1 rB1
    have hlt := (List.getElem?_eq_some_iff.1 c2).1
    have hw : wrRow g' gA.length 0 0 [.str (bPlay w h rs.flatten ms).1, .int .i64 (w : Int)] = some (g'.set gA.length (.row [.str (bPlay w h rs.flatten ms).1, .int .i64 (w : Int)] 0 0 false)) := by simp [wrRow, c2, splice, AV.sc]
    have hrd : rdRow (g'.set gA.length (.row [.str (bPlay w h rs.flatten ms).1, .int .i64 (w : Int)] 0 0 false)) gA.length 0 0 2 = some [.str (bPlay w h rs.flatten ms).1, .int .i64 (w : Int)] := by
      unfold rdRow
      rw [List.getElem?_set, if_pos rfl, if_pos hlt]
      rfl
    simp (maxSteps := 1000000) (disch := first | omega | rfl | (simp only [zL, two63, room] <;> omega) | fail) only [↓reduceIte, ↓zP, zW, WOp, evOp, evBin, binI, binSh, binS, evNil, keyIs, keyEq, mkv, AV.cells, AV.sc, optv, bnd, env, put, Env.get, Env.set, Env.del, Env.dels, Env.init, res1, resL, resV, fillP, splice, newRow, Nat.reduceEqDiff, Nat.reduceLT, Nat.reduceLeDiff, Nat.reduceAdd, Nat.reduceMul, Nat.reduceSub, Nat.reduceBEq, reduceCtorEq, ↓zR, zQ, Tr, StA, StT, r1, hw, hrd]
    refine h1 _ ((pA.trans (pB.trans q1)).set ?_) q2
    have := pA.1; omega
  · intro g' q1 q2
    have c2 : g'[gA.length]? = some (.row [.str [], .int .i64 0] 0 0 false) := by rw [q1.2 _ (List.getElem?_eq_some_iff.1 cB).1, cB]
    have r1 := rdRow_pre q1 rB1
    have hlt := (List.getElem?_eq_some_iff.1 c2).1
    have hw : wrRow g' gA.length 0 0 [.str [], .int .i64 (w : Int)] = some (g'.set gA.length (.row [.str [], .int .i64 (w : Int)] 0 0 false)) := by simp [wrRow, c2, splice, AV.sc]
    have hrd : rdRow (g'.set gA.length (.row [.str [], .int .i64 (w : Int)] 0 0 false)) gA.length 0 0 2 = some [.str [], .int .i64 (w : Int)] := by
      unfold rdRow
      rw [List.getElem?_set, if_pos rfl, if_pos hlt]
      rfl
    simp (maxSteps := 1000000) (disch := first | omega | rfl | (simp only [zL, two63, room] <;> omega) | fail) only [↓reduceIte, ↓zP, zW, WOp, evOp, evBin, binI, binSh, binS, evNil, keyIs, keyEq, mkv, AV.cells, AV.sc, optv, bnd, env, put, Env.get, Env.set, Env.del, Env.dels, Env.init, res1, resL, resV, fillP, splice, newRow, Nat.reduceEqDiff, Nat.reduceLT, Nat.reduceLeDiff, Nat.reduceAdd, Nat.reduceMul, Nat.reduceSub, Nat.reduceBEq, reduceCtorEq, ↓zR, zQ, Tr, StA, StT, r1, hw, hrd]
    refine h2 _ ((pA.trans (pB.trans q1)).set ?_) q2
    have := pA.1; omega
end Go.Proofs.YtgdlaopjabjkbaaGreatDoor.Ab
