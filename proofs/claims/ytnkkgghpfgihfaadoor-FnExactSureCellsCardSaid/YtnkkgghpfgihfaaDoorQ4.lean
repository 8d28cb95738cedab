/- Part 5 of the proof of a law of the given program: the rules that it leans on, and what the functions that it reaches answer; the conditions stand with each theorem. -/
import Derived.Test.YtnkkgghpfgihfaaDoorQ3
set_option linter.unusedSimpArgs false
set_option linter.unusedVariables false
/- PUZZLES: which lines fit a clue. -/
namespace Go.Proofs.YtnkkgghpfgihfaaDoor.Ab
open Go
set_option maxRecDepth 100000
set_option maxHeartbeats 4000000

theorem idx_cons (x : UInt8) (l : List UInt8) (b : UInt8) : Go.Lib.indexByte (x :: l) b = if x == b then 0 else if Go.Lib.indexByte l b == -1 then -1 else Go.Lib.indexByte l b + 1 := rfl
theorem lp_pzIndex (s : List UInt8) (hs : s.all isSign = true ∨ s = [49, 50, 70, 84]) (b : UInt8) (h0 : AH) (c : Nat) (hc : c = h0.length) {R : X → Env → AH → Prop} : ∀ (rest pre : List UInt8) (h : AH), s = pre ++ rest → s.length < 2 ^ 30 → h[c]? = some (.iter s pre.length) → Pre h0 h →
    (∀ h', Pre h0 h' → 0 ≤ Go.Lib.indexByte rest b → R .ret [(4, .int .i64 (pre.length + Go.Lib.indexByte rest b))] h') → (∀ h', Pre h0 h' → Go.Lib.indexByte rest b = -1 → R (.exit 0) [] h') →
    Cx (.loop lp195_0) [(0, .str s), (1, .str [b]), (7, .iter c)] h R k k
  | [], pre, h, hpre, hl, hi, hp, h1, h2 => by
    rw [w_loopb (c := lp195_0) (d := lb195_0) rfl]; unfold lb195_0
    have hlt : ¬ pre.length < s.length := by rw [hpre]; simp
    simp (maxSteps := 1000000) (disch := first | omega | rfl | (simp only [zL, two63, room] <;> omega) | fail) only [↓reduceIte, ↓zP, zW, WOp, evOp, evBin, binI, binSh, binS, evNil, keyIs, keyEq, mkv, AV.cells, AV.sc, optv, bnd, env, put, Env.get, Env.set, Env.del, Env.dels, Env.init, res1, resL, resV, fillP, splice, newRow, Nat.reduceEqDiff, Nat.reduceLT, Nat.reduceLeDiff, Nat.reduceAdd, Nat.reduceMul, Nat.reduceSub, Nat.reduceBEq, reduceCtorEq, ↓zR, zQ, Tr, StA, StT, hi, hlt]
    exact h2 h hp rfl
  | x :: rest, pre, h, hpre, hl, hi, hp, h1, h2 => by
    have ih := lp_pzIndex s hs b h0 c hc (R := R) rest (pre ++ [x])
    have hlt : pre.length < s.length := by rw [hpre]; simp
    have hx : s.getD pre.length 0 = x := by rw [hpre]; simp [List.getD_eq_getElem?_getD]
    have hlow : (s.getD pre.length 0).toNat < 128 := by
      rcases hs with hs | hs
      · exact sign_low (sign_at hs hlt)
      · have : ∀ i, i < 4 → (([49, 50, 70, 84] : List UInt8).getD i 0).toNat < 128 := by decide
        rw [hs] at hlt ⊢
        exact this _ hlt
    have hdec := dec_low hlt hlow
    have hd1 : (dec s pre.length).1 = ((s.getD pre.length 0).toNat : Int) := by rw [hdec]
    have hd2 : (dec s pre.length).2 = 1 := by rw [hdec]
    have hsub := sub_one s pre.length hlt
    have hi' : (h.set c (.iter s (pre.length + 1)))[c]? = some (.iter s (pre ++ [x]).length) := by
      rw [List.getElem?_set, if_pos rfl, if_pos (List.getElem?_eq_some_iff.1 hi).1]; simp
    have hp' : Pre h0 (h.set c (.iter s (pre.length + 1))) := hp.set (by omega)
    have e1 : ((pre.length : Int) + 1).toNat = pre.length + 1 := by omega
    have hbeq : ([x] == [b]) = (x == b) := by simp [List.beq_cons_cons, BEq.beq, List.beq]
    rw [w_loopb (c := lp195_0) (d := lb195_0) rfl]; unfold lb195_0
    cases e : (x == b)
    · simp (maxSteps := 1000000) (disch := first | omega | rfl | (simp only [zL, two63, room] <;> omega) | fail) only [↓reduceIte, ↓zP, zW, WOp, evOp, evBin, binI, binSh, binS, evNil, keyIs, keyEq, mkv, AV.cells, AV.sc, optv, bnd, env, put, Env.get, Env.set, Env.del, Env.dels, Env.init, res1, resL, resV, fillP, splice, newRow, Nat.reduceEqDiff, Nat.reduceLT, Nat.reduceLeDiff, Nat.reduceAdd, Nat.reduceMul, Nat.reduceSub, Nat.reduceBEq, reduceCtorEq, ↓zR, zQ, Tr, StA, StT, hi, hlt, hd1, hd2, e1, hsub, hx, hbeq, e]
      rw [w_loopn (c := lp195_0) rfl]
      simp (maxSteps := 1000000) (disch := first | omega | rfl | (simp only [zL, two63, room] <;> omega) | fail) only [↓reduceIte, ↓zP, zW, WOp, evOp, evBin, binI, binSh, binS, evNil, keyIs, keyEq, mkv, AV.cells, AV.sc, optv, bnd, env, put, Env.get, Env.set, Env.del, Env.dels, Env.init, res1, resL, resV, fillP, splice, newRow, Nat.reduceEqDiff, Nat.reduceLT, Nat.reduceLeDiff, Nat.reduceAdd, Nat.reduceMul, Nat.reduceSub, Nat.reduceBEq, reduceCtorEq, ↓zR, zQ, Tr, StA, StT]
      refine ih _ (by rw [hpre]; simp) hl hi' hp' ?_ ?_
      · intro h' hp2 hge
        have := h1 h' hp2 (by rw [idx_cons, e]; simp; split <;> omega)
        rw [idx_cons, e] at this
        rw [if_neg (by simp), if_neg (by simp; omega)] at this
        have e3 : (pre.length : Int) + (Go.Lib.indexByte rest b + 1) = ((pre ++ [x]).length : Int) + Go.Lib.indexByte rest b := by simp; omega
        rw [e3] at this
        exact this
      · intro h' hp2 hm
        exact h2 h' hp2 (by rw [idx_cons, e, hm]; rfl)
    · simp (maxSteps := 1000000) (disch := first | omega | rfl | (simp only [zL, two63, room] <;> omega) | fail) only [↓reduceIte, ↓zP, zW, WOp, evOp, evBin, binI, binSh, binS, evNil, keyIs, keyEq, mkv, AV.cells, AV.sc, optv, bnd, env, put, Env.get, Env.set, Env.del, Env.dels, Env.init, res1, resL, resV, fillP, splice, newRow, Nat.reduceEqDiff, Nat.reduceLT, Nat.reduceLeDiff, Nat.reduceAdd, Nat.reduceMul, Nat.reduceSub, Nat.reduceBEq, reduceCtorEq, ↓zR, zQ, Tr, StA, StT, hi, hlt, hd1, hd2, e1, hsub, hx, hbeq, e]
      have := h1 _ hp' (by rw [idx_cons, e]; simp)
      rw [idx_cons, e] at this
      simpa using this
def pzI (s : List UInt8) (b : UInt8) : Int := if Go.Lib.indexByte s b = -1 then 0 else Go.Lib.indexByte s b
theorem c_pzIndex (s : List UInt8) (hs : s.all isSign = true ∨ s = [49, 50, 70, 84]) (hl : s.length < 2 ^ 30) (b : UInt8) {h : AH} {post : AV → AH → Prop} (hp : ∀ h', Pre h h' → post (.int .i64 (pzI s b)) h') : S 195 [.str s, .str [b]] h post k := by
  refine S_of rfl T195 ?_; unfold fi195
  simp (maxSteps := 1000000) (disch := first | omega | rfl | (simp only [zL, two63, room] <;> omega) | fail) only [↓reduceIte, ↓zP, zW, WOp, evOp, evBin, binI, binSh, binS, evNil, keyIs, keyEq, mkv, AV.cells, AV.sc, optv, bnd, env, put, Env.get, Env.set, Env.del, Env.dels, Env.init, res1, resL, resV, fillP, splice, newRow, Nat.reduceEqDiff, Nat.reduceLT, Nat.reduceLeDiff, Nat.reduceAdd, Nat.reduceMul, Nat.reduceSub, Nat.reduceBEq, reduceCtorEq, ↓zR, zQ, Tr, StA, StT]
  refine lp_pzIndex s hs b h h.length rfl s [] _ rfl hl (by simp) (Pre.push _ _) ?_ ?_
  · intro h' hp' hge
    have := hp h' hp'
    unfold pzI at this
    rw [if_neg (by omega)] at this
    simp (maxSteps := 1000000) (disch := first | omega | rfl | (simp only [zL, two63, room] <;> omega) | fail) only [↓reduceIte, ↓zP, zW, WOp, evOp, evBin, binI, binSh, binS, evNil, keyIs, keyEq, mkv, AV.cells, AV.sc, optv, bnd, env, put, Env.get, Env.set, Env.del, Env.dels, Env.init, res1, resL, resV, fillP, splice, newRow, Nat.reduceEqDiff, Nat.reduceLT, Nat.reduceLeDiff, Nat.reduceAdd, Nat.reduceMul, Nat.reduceSub, Nat.reduceBEq, reduceCtorEq, ↓zR, zQ, Tr, StA, StT]
    simpa using this
  · intro h' hp' hm
    have := hp h' hp'
    unfold pzI at this
    rw [if_pos hm] at this
    simp (maxSteps := 1000000) (disch := first | omega | rfl | (simp only [zL, two63, room] <;> omega) | fail) only [↓reduceIte, ↓zP, zW, WOp, evOp, evBin, binI, binSh, binS, evNil, keyIs, keyEq, mkv, AV.cells, AV.sc, optv, bnd, env, put, Env.get, Env.set, Env.del, Env.dels, Env.init, res1, resL, resV, fillP, splice, newRow, Nat.reduceEqDiff, Nat.reduceLT, Nat.reduceLeDiff, Nat.reduceAdd, Nat.reduceMul, Nat.reduceSub, Nat.reduceBEq, reduceCtorEq, ↓zR, zQ, Tr, StA, StT]
    exact this

def valB (kd at' : Int) (w : List UInt8) : Int :=
  if kd = 0 then pzI [46, 70, 84] (w.getD at'.toNat 0) else if kd = 1 then w.count 84 else if kd = 2 then w.count 70 else if kd = 3 then (movesB w [84, 70]).length else if kd = 4 then pairsB w else
  pzI [49, 50, 70, 84] ((outcS (winB w true) (winB w false)).getD 0 0)
theorem c_pzValue (kd cell : Int) (w : List UInt8) (hs : w.all isSign = true) (hw : w.length ≤ 12) (hc : kd = 0 → 0 ≤ cell ∧ cell < w.length) {h : AH} {post : AV → AH → Prop} (hp : ∀ h', Pre h h' → post (.int .i64 (valB kd cell w)) h') : S 188 [.int .i64 kd, .int .i64 cell, .str w] h post k := by
  refine S_of rfl T188 ?_; unfold fi188
  unfold valB at hp
  have hw1 : w.length < 1073741824 := by omega
  by_cases k0 : kd = 0
  · obtain ⟨hc1, hc2⟩ := hc k0
    obtain ⟨i, rfl⟩ := Int.eq_ofNat_of_zero_le hc1
    have e1 : ((i : Int) + 1).toNat = i + 1 := by omega
    have e2 := sub_one w i (by omega)
    rw [if_pos k0] at hp
    simp (maxSteps := 1000000) (disch := first | omega | rfl | (simp only [zL, two63, room] <;> omega) | fail) only [↓reduceIte, ↓zP, zW, WOp, evOp, evBin, binI, binSh, binS, evNil, keyIs, keyEq, mkv, AV.cells, AV.sc, optv, bnd, env, put, Env.get, Env.set, Env.del, Env.dels, Env.init, res1, resL, resV, fillP, splice, newRow, Nat.reduceEqDiff, Nat.reduceLT, Nat.reduceLeDiff, Nat.reduceAdd, Nat.reduceMul, Nat.reduceSub, Nat.reduceBEq, reduceCtorEq, ↓zR, zQ, Tr, StA, StT, k0, e1, e2]
    refine c_pzIndex _ (.inl rfl) (by simp) _ ?_
    intro h2 hp2
    simp (maxSteps := 1000000) (disch := first | omega | rfl | (simp only [zL, two63, room] <;> omega) | fail) only [↓reduceIte, ↓zP, zW, WOp, evOp, evBin, binI, binSh, binS, evNil, keyIs, keyEq, mkv, AV.cells, AV.sc, optv, bnd, env, put, Env.get, Env.set, Env.del, Env.dels, Env.init, res1, resL, resV, fillP, splice, newRow, Nat.reduceEqDiff, Nat.reduceLT, Nat.reduceLeDiff, Nat.reduceAdd, Nat.reduceMul, Nat.reduceSub, Nat.reduceBEq, reduceCtorEq, ↓zR, zQ, Tr, StA, StT]
    exact hp h2 hp2
  rw [if_neg k0] at hp
  by_cases k1 : kd = 1
  · rw [if_pos k1] at hp
    simp (maxSteps := 1000000) (disch := first | omega | rfl | (simp only [zL, two63, room] <;> omega) | fail) only [↓reduceIte, ↓zP, zW, WOp, evOp, evBin, binI, binSh, binS, evNil, keyIs, keyEq, mkv, AV.cells, AV.sc, optv, bnd, env, put, Env.get, Env.set, Env.del, Env.dels, Env.init, res1, resL, resV, fillP, splice, newRow, Nat.reduceEqDiff, Nat.reduceLT, Nat.reduceLeDiff, Nat.reduceAdd, Nat.reduceMul, Nat.reduceSub, Nat.reduceBEq, reduceCtorEq, ↓zR, zQ, Tr, StA, StT, k1, e_liCountT]
    exact hp _ (Pre.refl _)
  rw [if_neg k1] at hp
  by_cases k2 : kd = 2
  · rw [if_pos k2] at hp
    simp (maxSteps := 1000000) (disch := first | omega | rfl | (simp only [zL, two63, room] <;> omega) | fail) only [↓reduceIte, ↓zP, zW, WOp, evOp, evBin, binI, binSh, binS, evNil, keyIs, keyEq, mkv, AV.cells, AV.sc, optv, bnd, env, put, Env.get, Env.set, Env.del, Env.dels, Env.init, res1, resL, resV, fillP, splice, newRow, Nat.reduceEqDiff, Nat.reduceLT, Nat.reduceLeDiff, Nat.reduceAdd, Nat.reduceMul, Nat.reduceSub, Nat.reduceBEq, reduceCtorEq, ↓zR, zQ, Tr, StA, StT, k2, e_liCountF]
    exact hp _ (Pre.refl _)
  rw [if_neg k2] at hp
  by_cases k3 : kd = 3
  · rw [if_pos k3] at hp
    simp (maxSteps := 1000000) (disch := first | omega | rfl | (simp only [zL, two63, room] <;> omega) | fail) only [↓reduceIte, ↓zP, zW, WOp, evOp, evBin, binI, binSh, binS, evNil, keyIs, keyEq, mkv, AV.cells, AV.sc, optv, bnd, env, put, Env.get, Env.set, Env.del, Env.dels, Env.init, res1, resL, resV, fillP, splice, newRow, Nat.reduceEqDiff, Nat.reduceLT, Nat.reduceLeDiff, Nat.reduceAdd, Nat.reduceMul, Nat.reduceSub, Nat.reduceBEq, reduceCtorEq, ↓zR, zQ, Tr, StA, StT, k3]
    refine c_liMoves w hs (by omega) true true ?_
    intro v h2 ho hp2
    rw [liMovesB_eq] at ho
    have hsl : Slc 2 encM h2 v (movesB w [84, 70]) := ho.slc
    have hv := fun g => Slc.lenV (hsl) (g := g) (ρ := fun _ => _) (x := .t 0) rfl; simp only [evOp] at hv
    simp (maxSteps := 1000000) (disch := first | omega | rfl | (simp only [zL, two63, room] <;> omega) | fail) only [↓reduceIte, ↓zP, zW, WOp, evOp, evBin, binI, binSh, binS, evNil, keyIs, keyEq, mkv, AV.cells, AV.sc, optv, bnd, env, put, Env.get, Env.set, Env.del, Env.dels, Env.init, res1, resL, resV, fillP, splice, newRow, Nat.reduceEqDiff, Nat.reduceLT, Nat.reduceLeDiff, Nat.reduceAdd, Nat.reduceMul, Nat.reduceSub, Nat.reduceBEq, reduceCtorEq, ↓zR, zQ, Tr, StA, StT, hv]
    exact hp _ hp2
  rw [if_neg k3] at hp
  by_cases k4 : kd = 4
  · rw [if_pos k4] at hp
    simp (maxSteps := 1000000) (disch := first | omega | rfl | (simp only [zL, two63, room] <;> omega) | fail) only [↓reduceIte, ↓zP, zW, WOp, evOp, evBin, binI, binSh, binS, evNil, keyIs, keyEq, mkv, AV.cells, AV.sc, optv, bnd, env, put, Env.get, Env.set, Env.del, Env.dels, Env.init, res1, resL, resV, fillP, splice, newRow, Nat.reduceEqDiff, Nat.reduceLT, Nat.reduceLeDiff, Nat.reduceAdd, Nat.reduceMul, Nat.reduceSub, Nat.reduceBEq, reduceCtorEq, ↓zR, zQ, Tr, StA, StT, k4, e_liPairs]
    exact hp _ (Pre.refl _)
  rw [if_neg k4] at hp
  · simp (maxSteps := 1000000) (disch := first | omega | rfl | (simp only [zL, two63, room] <;> omega) | fail) only [↓reduceIte, ↓zP, zW, WOp, evOp, evBin, binI, binSh, binS, evNil, keyIs, keyEq, mkv, AV.cells, AV.sc, optv, bnd, env, put, Env.get, Env.set, Env.del, Env.dels, Env.init, res1, resL, resV, fillP, splice, newRow, Nat.reduceEqDiff, Nat.reduceLT, Nat.reduceLeDiff, Nat.reduceAdd, Nat.reduceMul, Nat.reduceSub, Nat.reduceBEq, reduceCtorEq, ↓zR, zQ, Tr, StA, StT]
    have hsl : Slc 1 encS (h ++ [AO.row [.str w] 0 0 false]) (.slice h.length 0 0 1 1) [w] := by
      unfold Slc Sl
      exact ⟨rfl, rfl, rfl, by simp (maxSteps := 1000000) (disch := first | omega | rfl | (simp only [zL, two63, room] <;> omega) | fail) only [↓reduceIte, ↓zP, zW, WOp, evOp, evBin, binI, binSh, binS, evNil, keyIs, keyEq, mkv, AV.cells, AV.sc, optv, bnd, env, put, Env.get, Env.set, Env.del, Env.dels, Env.init, res1, resL, resV, fillP, splice, newRow, Nat.reduceEqDiff, Nat.reduceLT, Nat.reduceLeDiff, Nat.reduceAdd, Nat.reduceMul, Nat.reduceSub, Nat.reduceBEq, reduceCtorEq, ↓zR, zQ, Tr, StA, StT]; rfl⟩
    refine c_gaOutcome hsl (by simpa [signs] using hs) (by simp [gaTail]; omega) ?_
    intro h2 l2 a2
    rw [winL_one (mu w + 1) w true (by omega), winL_one (mu w + 1) w false (by omega), outcS_one]
    simp (maxSteps := 1000000) (disch := first | omega | rfl | (simp only [zL, two63, room] <;> omega) | fail) only [↓reduceIte, ↓zP, zW, WOp, evOp, evBin, binI, binSh, binS, evNil, keyIs, keyEq, mkv, AV.cells, AV.sc, optv, bnd, env, put, Env.get, Env.set, Env.del, Env.dels, Env.init, res1, resL, resV, fillP, splice, newRow, Nat.reduceEqDiff, Nat.reduceLT, Nat.reduceLeDiff, Nat.reduceAdd, Nat.reduceMul, Nat.reduceSub, Nat.reduceBEq, reduceCtorEq, ↓zR, zQ, Tr, StA, StT]
    refine c_pzIndex _ (.inr rfl) (by simp) _ ?_
    intro h3 hp3
    simp (maxSteps := 1000000) (disch := first | omega | rfl | (simp only [zL, two63, room] <;> omega) | fail) only [↓reduceIte, ↓zP, zW, WOp, evOp, evBin, binI, binSh, binS, evNil, keyIs, keyEq, mkv, AV.cells, AV.sc, optv, bnd, env, put, Env.get, Env.set, Env.del, Env.dels, Env.init, res1, resL, resV, fillP, splice, newRow, Nat.reduceEqDiff, Nat.reduceLT, Nat.reduceLeDiff, Nat.reduceAdd, Nat.reduceMul, Nat.reduceSub, Nat.reduceBEq, reduceCtorEq, ↓zR, zQ, Tr, StA, StT]
    have q : Pre (h ++ [AO.row [.str w] 0 0 false]) h2 := ⟨l2, a2⟩
    exact hp h3 ((pre_of_last q).trans hp3)

def fitB (c : Int × Int × Int) (w : List UInt8) : Bool := if c.1 = 0 then valB 0 c.2.1 w == c.2.2 else valB c.1 0 w == c.2.1
theorem c_pzFits (kd a b : Int) (w : List UInt8) (hs : w.all isSign = true) (hw : w.length ≤ 12) (hc : kd = 0 → 0 ≤ a ∧ a < w.length) {h : AH} {post : AV → AH → Prop} (hp : ∀ h', Pre h h' → post (.bool (fitB (kd, a, b) w)) h') : S 181 [.agg (encC (kd, a, b)), .str w] h post k := by
  refine S_of rfl T181 ?_; unfold fi181
  have r0 : rdRow (h ++ [AO.row [.int .i64 kd, .int .i64 a, .int .i64 b] 0 0 false]) h.length 0 2 1 = some [.int .i64 b] := by simp (maxSteps := 1000000) (disch := first | omega | rfl | (simp only [zL, two63, room] <;> omega) | fail) only [↓reduceIte, ↓zP, zW, WOp, evOp, evBin, binI, binSh, binS, evNil, keyIs, keyEq, mkv, AV.cells, AV.sc, optv, bnd, env, put, Env.get, Env.set, Env.del, Env.dels, Env.init, res1, resL, resV, fillP, splice, newRow, Nat.reduceEqDiff, Nat.reduceLT, Nat.reduceLeDiff, Nat.reduceAdd, Nat.reduceMul, Nat.reduceSub, Nat.reduceBEq, reduceCtorEq, ↓zR, zQ, Tr, StA, StT]
  have r1 : rdRow (h ++ [AO.row [.int .i64 kd, .int .i64 a, .int .i64 b] 0 0 false]) h.length 0 1 1 = some [.int .i64 a] := by simp (maxSteps := 1000000) (disch := first | omega | rfl | (simp only [zL, two63, room] <;> omega) | fail) only [↓reduceIte, ↓zP, zW, WOp, evOp, evBin, binI, binSh, binS, evNil, keyIs, keyEq, mkv, AV.cells, AV.sc, optv, bnd, env, put, Env.get, Env.set, Env.del, Env.dels, Env.init, res1, resL, resV, fillP, splice, newRow, Nat.reduceEqDiff, Nat.reduceLT, Nat.reduceLeDiff, Nat.reduceAdd, Nat.reduceMul, Nat.reduceSub, Nat.reduceBEq, reduceCtorEq, ↓zR, zQ, Tr, StA, StT]
  unfold fitB at hp
  by_cases k0 : kd = 0
  · rw [if_pos k0] at hp
    simp (maxSteps := 1000000) (disch := first | omega | rfl | (simp only [zL, two63, room] <;> omega) | fail) only [↓reduceIte, ↓zP, zW, WOp, evOp, evBin, binI, binSh, binS, evNil, keyIs, keyEq, mkv, AV.cells, AV.sc, optv, bnd, env, put, Env.get, Env.set, Env.del, Env.dels, Env.init, res1, resL, resV, fillP, splice, newRow, Nat.reduceEqDiff, Nat.reduceLT, Nat.reduceLeDiff, Nat.reduceAdd, Nat.reduceMul, Nat.reduceSub, Nat.reduceBEq, reduceCtorEq, ↓zR, zQ, Tr, StA, StT, k0]
    refine w_drw ?_
    simp (maxSteps := 1000000) (disch := first | omega | rfl | (simp only [zL, two63, room] <;> omega) | fail) only [↓reduceIte, ↓zP, zW, WOp, evOp, evBin, binI, binSh, binS, evNil, keyIs, keyEq, mkv, AV.cells, AV.sc, optv, bnd, env, put, Env.get, Env.set, Env.del, Env.dels, Env.init, res1, resL, resV, fillP, splice, newRow, Nat.reduceEqDiff, Nat.reduceLT, Nat.reduceLeDiff, Nat.reduceAdd, Nat.reduceMul, Nat.reduceSub, Nat.reduceBEq, reduceCtorEq, ↓zR, zQ, Tr, StA, StT, k0]
    refine c_pzValue 0 a w hs hw (fun _ => hc k0) ?_
    intro h2 hp2
    have q0 := rdRow_pre hp2 (k0 ▸ r0)
    simp (maxSteps := 1000000) (disch := first | omega | rfl | (simp only [zL, two63, room] <;> omega) | fail) only [↓reduceIte, ↓zP, zW, WOp, evOp, evBin, binI, binSh, binS, evNil, keyIs, keyEq, mkv, AV.cells, AV.sc, optv, bnd, env, put, Env.get, Env.set, Env.del, Env.dels, Env.init, res1, resL, resV, fillP, splice, newRow, Nat.reduceEqDiff, Nat.reduceLT, Nat.reduceLeDiff, Nat.reduceAdd, Nat.reduceMul, Nat.reduceSub, Nat.reduceBEq, reduceCtorEq, ↓zR, zQ, Tr, StA, StT, q0]
    exact hp h2 (pre_of_last hp2)
  · rw [if_neg k0] at hp
    simp (maxSteps := 1000000) (disch := first | omega | rfl | (simp only [zL, two63, room] <;> omega) | fail) only [↓reduceIte, ↓zP, zW, WOp, evOp, evBin, binI, binSh, binS, evNil, keyIs, keyEq, mkv, AV.cells, AV.sc, optv, bnd, env, put, Env.get, Env.set, Env.del, Env.dels, Env.init, res1, resL, resV, fillP, splice, newRow, Nat.reduceEqDiff, Nat.reduceLT, Nat.reduceLeDiff, Nat.reduceAdd, Nat.reduceMul, Nat.reduceSub, Nat.reduceBEq, reduceCtorEq, ↓zR, zQ, Tr, StA, StT, k0]
    refine w_drw ?_
    simp (maxSteps := 1000000) (disch := first | omega | rfl | (simp only [zL, two63, room] <;> omega) | fail) only [↓reduceIte, ↓zP, zW, WOp, evOp, evBin, binI, binSh, binS, evNil, keyIs, keyEq, mkv, AV.cells, AV.sc, optv, bnd, env, put, Env.get, Env.set, Env.del, Env.dels, Env.init, res1, resL, resV, fillP, splice, newRow, Nat.reduceEqDiff, Nat.reduceLT, Nat.reduceLeDiff, Nat.reduceAdd, Nat.reduceMul, Nat.reduceSub, Nat.reduceBEq, reduceCtorEq, ↓zR, zQ, Tr, StA, StT, k0]
    refine c_pzValue kd 0 w hs hw (fun e => absurd e k0) ?_
    intro h2 hp2
    have q1 := rdRow_pre hp2 r1
    simp (maxSteps := 1000000) (disch := first | omega | rfl | (simp only [zL, two63, room] <;> omega) | fail) only [↓reduceIte, ↓zP, zW, WOp, evOp, evBin, binI, binSh, binS, evNil, keyIs, keyEq, mkv, AV.cells, AV.sc, optv, bnd, env, put, Env.get, Env.set, Env.del, Env.dels, Env.init, res1, resL, resV, fillP, splice, newRow, Nat.reduceEqDiff, Nat.reduceLT, Nat.reduceLeDiff, Nat.reduceAdd, Nat.reduceMul, Nat.reduceSub, Nat.reduceBEq, reduceCtorEq, ↓zR, zQ, Tr, StA, StT, q1]
    exact hp h2 (pre_of_last hp2)

theorem pzI_sign {b : UInt8} (hb : isSign b = true) : pzI [46, 70, 84] b = Go.Lib.indexByte [46, 70, 84] b := by
  simp only [isSign, Bool.or_eq_true, beq_iff_eq] at hb
  rcases hb with (rfl | rfl) | rfl <;> decide
theorem pzI_out (a b : Bool) : pzI [49, 50, 70, 84] ((outcS a b).getD 0 0) = Go.Lib.indexByte [49, 50, 70, 84] ((outcS a b).getD 0 0) := by cases a <;> cases b <;> decide
theorem fit_eq {n : Int} {kd a b cell : Int} {w : List UInt8} (hs : w.all isSign = true) (hn : n = w.length) (hc : clueOk n (kd, a, b) = true) (hcell : kd = 0 → cell = a) : seqL [0, 0, 0] (encC (clueB kd cell w)) (encC (kd, a, b)) = some (fitB (kd, a, b) w) := by
  have key : ∀ x y z : Int, seqL [0, 0, 0] (encC (x, y, z)) (encC (kd, a, b)) = some ((x == kd) && ((y == a) && (z == b))) := by
    intro x y z
    simp [seqL, keyIs, keyEq]
  unfold fitB clueB valB
  by_cases k0 : kd = 0
  · subst k0
    have := hcell rfl
    subst this
    simp only [if_true]
    simp only [clueOk, if_true, Bool.and_eq_true, decide_eq_true_eq] at hc
    rw [key, pzI_sign (sign_at hs (by omega))]
    simp
  have hb : b = 0 := by
    simp only [clueOk, if_neg k0, Bool.and_eq_true, decide_eq_true_eq] at hc
    exact hc.1
  subst hb
  simp only [if_neg k0]
  by_cases k1 : kd = 1
  · subst k1; rw [if_pos rfl, if_pos rfl, key]; simp
  rw [if_neg k1, if_neg k1]
  by_cases k2 : kd = 2
  · subst k2; rw [if_pos rfl, if_pos rfl, key]; simp
  rw [if_neg k2, if_neg k2]
  by_cases k3 : kd = 3
  · subst k3; rw [if_pos rfl, if_pos rfl, key]; simp
  rw [if_neg k3, if_neg k3]
  by_cases k4 : kd = 4
  · subst k4; rw [if_pos rfl, if_pos rfl, key]; simp
  rw [if_neg k4, if_neg k4]
  have k5 : kd = 5 := by
    simp [clueOk, k0, k1, k2, k3, k4] at hc
    exact hc.1
  subst k5
  rw [key, pzI_out]
  simp
theorem c_fits (kd a b : Int) (w : List UInt8) (hs : w.all isSign = true) (hw : w.length < 1073741824) (hc : clueOk w.length (kd, a, b) = true) {h : AH} {post : AV → AH → Prop} (hp : ∀ h', Pre h h' → post (.bool (fitB (kd, a, b) w)) h') : S 186 [.agg (encC (kd, a, b)), .str w] h post k := by
  have hcell : kd = 0 → 0 ≤ a ∧ a < w.length := by
    rintro rfl
    simp only [clueOk, if_true, Bool.and_eq_true, decide_eq_true_eq] at hc
    omega
  refine S_of rfl T186 ?_; unfold fi186
  have r0 : rdRow (h ++ [AO.row [.int .i64 kd, .int .i64 a, .int .i64 b] 0 0 false]) h.length 0 0 3 = some [.int .i64 kd, .int .i64 a, .int .i64 b] := by simp (maxSteps := 1000000) (disch := first | omega | rfl | (simp only [zL, two63, room] <;> omega) | fail) only [↓reduceIte, ↓zP, zW, WOp, evOp, evBin, binI, binSh, binS, evNil, keyIs, keyEq, mkv, AV.cells, AV.sc, optv, bnd, env, put, Env.get, Env.set, Env.del, Env.dels, Env.init, res1, resL, resV, fillP, splice, newRow, Nat.reduceEqDiff, Nat.reduceLT, Nat.reduceLeDiff, Nat.reduceAdd, Nat.reduceMul, Nat.reduceSub, Nat.reduceBEq, reduceCtorEq, ↓zR, zQ, Tr, StA, StT]
  simp (maxSteps := 1000000) (disch := first | omega | rfl | (simp only [zL, two63, room] <;> omega) | fail) only [↓reduceIte, ↓zP, zW, WOp, evOp, evBin, binI, binSh, binS, evNil, keyIs, keyEq, mkv, AV.cells, AV.sc, optv, bnd, env, put, Env.get, Env.set, Env.del, Env.dels, Env.init, res1, resL, resV, fillP, splice, newRow, Nat.reduceEqDiff, Nat.reduceLT, Nat.reduceLeDiff, Nat.reduceAdd, Nat.reduceMul, Nat.reduceSub, Nat.reduceBEq, reduceCtorEq, ↓zR, zQ, Tr, StA, StT]
  refine w_drw ?_
  simp (maxSteps := 1000000) (disch := first | omega | rfl | (simp only [zL, two63, room] <;> omega) | fail) only [↓reduceIte, ↓zP, zW, WOp, evOp, evBin, binI, binSh, binS, evNil, keyIs, keyEq, mkv, AV.cells, AV.sc, optv, bnd, env, put, Env.get, Env.set, Env.del, Env.dels, Env.init, res1, resL, resV, fillP, splice, newRow, Nat.reduceEqDiff, Nat.reduceLT, Nat.reduceLeDiff, Nat.reduceAdd, Nat.reduceMul, Nat.reduceSub, Nat.reduceBEq, reduceCtorEq, ↓zR, zQ, Tr, StA, StT]
  refine c_clueOf kd a w hw hcell ?_
  intro h2 hp2
  have q0 := rdRow_pre hp2 r0
  have hf := fit_eq (cell := a) hs rfl hc (fun _ => rfl)
  unfold encC at hf
  simp (maxSteps := 1000000) (disch := first | omega | rfl | (simp only [zL, two63, room] <;> omega) | fail) only [↓reduceIte, ↓zP, zW, WOp, evOp, evBin, binI, binSh, binS, evNil, keyIs, keyEq, mkv, AV.cells, AV.sc, optv, bnd, env, put, Env.get, Env.set, Env.del, Env.dels, Env.init, res1, resL, resV, fillP, splice, newRow, Nat.reduceEqDiff, Nat.reduceLT, Nat.reduceLeDiff, Nat.reduceAdd, Nat.reduceMul, Nat.reduceSub, Nat.reduceBEq, reduceCtorEq, ↓zR, zQ, Tr, StA, StT, q0, hf]
  exact hp h2 (pre_of_last hp2)
theorem c_DoesFit (kd a b : Int) (w : List UInt8) (hs : w.all isSign = true) (hl : 1 ≤ w.length ∧ w.length ≤ 5) (hc : clueOk w.length (kd, a, b) = true) {h : AH} {post : AV → AH → Prop} (hp : ∀ h', Pre h h' → post (.tup [.bool (fitB (kd, a, b) w), .bool true]) h') : S 185 [.agg (encC (kd, a, b)), .str w] h post k := by
  refine S_of rfl T185 ?_; unfold fi185
  have r0 : rdRow (h ++ [AO.row [.int .i64 kd, .int .i64 a, .int .i64 b] 0 0 false]) h.length 0 0 3 = some [.int .i64 kd, .int .i64 a, .int .i64 b] := by simp (maxSteps := 1000000) (disch := first | omega | rfl | (simp only [zL, two63, room] <;> omega) | fail) only [↓reduceIte, ↓zP, zW, WOp, evOp, evBin, binI, binSh, binS, evNil, keyIs, keyEq, mkv, AV.cells, AV.sc, optv, bnd, env, put, Env.get, Env.set, Env.del, Env.dels, Env.init, res1, resL, resV, fillP, splice, newRow, Nat.reduceEqDiff, Nat.reduceLT, Nat.reduceLeDiff, Nat.reduceAdd, Nat.reduceMul, Nat.reduceSub, Nat.reduceBEq, reduceCtorEq, ↓zR, zQ, Tr, StA, StT]
  have r1 : rdRow (h ++ [AO.row [.int .i64 kd, .int .i64 a, .int .i64 b] 0 0 false]) h.length 0 0 1 = some [.int .i64 kd] := by simp (maxSteps := 1000000) (disch := first | omega | rfl | (simp only [zL, two63, room] <;> omega) | fail) only [↓reduceIte, ↓zP, zW, WOp, evOp, evBin, binI, binSh, binS, evNil, keyIs, keyEq, mkv, AV.cells, AV.sc, optv, bnd, env, put, Env.get, Env.set, Env.del, Env.dels, Env.init, res1, resL, resV, fillP, splice, newRow, Nat.reduceEqDiff, Nat.reduceLT, Nat.reduceLeDiff, Nat.reduceAdd, Nat.reduceMul, Nat.reduceSub, Nat.reduceBEq, reduceCtorEq, ↓zR, zQ, Tr, StA, StT]
  simp (maxSteps := 1000000) (disch := first | omega | rfl | (simp only [zL, two63, room] <;> omega) | fail) only [↓reduceIte, ↓zP, zW, WOp, evOp, evBin, binI, binSh, binS, evNil, keyIs, keyEq, mkv, AV.cells, AV.sc, optv, bnd, env, put, Env.get, Env.set, Env.del, Env.dels, Env.init, res1, resL, resV, fillP, splice, newRow, Nat.reduceEqDiff, Nat.reduceLT, Nat.reduceLeDiff, Nat.reduceAdd, Nat.reduceMul, Nat.reduceSub, Nat.reduceBEq, reduceCtorEq, ↓zR, zQ, Tr, StA, StT]
  refine c_isLineOf w 5 (by omega) (by omega) ?_
  have hl2 : (1 : Int) ≤ w.length ∧ (w.length : Int) ≤ 5 := by omega
  simp (maxSteps := 1000000) (disch := first | omega | rfl | (simp only [zL, two63, room] <;> omega) | fail) only [↓reduceIte, ↓zP, zW, WOp, evOp, evBin, binI, binSh, binS, evNil, keyIs, keyEq, mkv, AV.cells, AV.sc, optv, bnd, env, put, Env.get, Env.set, Env.del, Env.dels, Env.init, res1, resL, resV, fillP, splice, newRow, Nat.reduceEqDiff, Nat.reduceLT, Nat.reduceLeDiff, Nat.reduceAdd, Nat.reduceMul, Nat.reduceSub, Nat.reduceBEq, reduceCtorEq, ↓zR, zQ, Tr, StA, StT, hl2, hs]
  refine c_IsClue w.length kd a b (by omega) ?_
  intro h2 hp2
  have q0 := rdRow_pre hp2 r0
  have q1 := rdRow_pre hp2 r1
  by_cases k0 : kd = 0
  · subst k0
    simp (maxSteps := 1000000) (disch := first | omega | rfl | (simp only [zL, two63, room] <;> omega) | fail) only [↓reduceIte, ↓zP, zW, WOp, evOp, evBin, binI, binSh, binS, evNil, keyIs, keyEq, mkv, AV.cells, AV.sc, optv, bnd, env, put, Env.get, Env.set, Env.del, Env.dels, Env.init, res1, resL, resV, fillP, splice, newRow, Nat.reduceEqDiff, Nat.reduceLT, Nat.reduceLeDiff, Nat.reduceAdd, Nat.reduceMul, Nat.reduceSub, Nat.reduceBEq, reduceCtorEq, ↓zR, zQ, Tr, StA, StT, hl2, hc, q0, q1]
    refine c_fits 0 a b w hs (by omega) hc ?_
    intro h3 hp3
    simp (maxSteps := 1000000) (disch := first | omega | rfl | (simp only [zL, two63, room] <;> omega) | fail) only [↓reduceIte, ↓zP, zW, WOp, evOp, evBin, binI, binSh, binS, evNil, keyIs, keyEq, mkv, AV.cells, AV.sc, optv, bnd, env, put, Env.get, Env.set, Env.del, Env.dels, Env.init, res1, resL, resV, fillP, splice, newRow, Nat.reduceEqDiff, Nat.reduceLT, Nat.reduceLeDiff, Nat.reduceAdd, Nat.reduceMul, Nat.reduceSub, Nat.reduceBEq, reduceCtorEq, ↓zR, zQ, Tr, StA, StT]
    exact hp h3 ((pre_of_last hp2).trans hp3)
  · simp (maxSteps := 1000000) (disch := first | omega | rfl | (simp only [zL, two63, room] <;> omega) | fail) only [↓reduceIte, ↓zP, zW, WOp, evOp, evBin, binI, binSh, binS, evNil, keyIs, keyEq, mkv, AV.cells, AV.sc, optv, bnd, env, put, Env.get, Env.set, Env.del, Env.dels, Env.init, res1, resL, resV, fillP, splice, newRow, Nat.reduceEqDiff, Nat.reduceLT, Nat.reduceLeDiff, Nat.reduceAdd, Nat.reduceMul, Nat.reduceSub, Nat.reduceBEq, reduceCtorEq, ↓zR, zQ, Tr, StA, StT, hl2, hc, q0, q1, k0]
    refine w_drw ?_
    simp (maxSteps := 1000000) (disch := first | omega | rfl | (simp only [zL, two63, room] <;> omega) | fail) only [↓reduceIte, ↓zP, zW, WOp, evOp, evBin, binI, binSh, binS, evNil, keyIs, keyEq, mkv, AV.cells, AV.sc, optv, bnd, env, put, Env.get, Env.set, Env.del, Env.dels, Env.init, res1, resL, resV, fillP, splice, newRow, Nat.reduceEqDiff, Nat.reduceLT, Nat.reduceLeDiff, Nat.reduceAdd, Nat.reduceMul, Nat.reduceSub, Nat.reduceBEq, reduceCtorEq, ↓zR, zQ, Tr, StA, StT, q0, q1]
    refine c_clueOf kd 0 w (by omega) (fun e => absurd e k0) ?_
    intro h3 hp3
    have s0 := rdRow_pre hp3 q0
    have hf := fit_eq (cell := 0) hs rfl hc (fun e => absurd e k0)
    unfold encC at hf
    simp (maxSteps := 1000000) (disch := first | omega | rfl | (simp only [zL, two63, room] <;> omega) | fail) only [↓reduceIte, ↓zP, zW, WOp, evOp, evBin, binI, binSh, binS, evNil, keyIs, keyEq, mkv, AV.cells, AV.sc, optv, bnd, env, put, Env.get, Env.set, Env.del, Env.dels, Env.init, res1, resL, resV, fillP, splice, newRow, Nat.reduceEqDiff, Nat.reduceLT, Nat.reduceLeDiff, Nat.reduceAdd, Nat.reduceMul, Nat.reduceSub, Nat.reduceBEq, reduceCtorEq, ↓zR, zQ, Tr, StA, StT, q0, s0, hf]
    exact hp h3 ((pre_of_last hp2).trans hp3)
end Go.Proofs.YtnkkgghpfgihfaaDoor.Ab

/- PLAIN: all lines of so many cells, in order. -/
namespace Go.Proofs.YtnkkgghpfgihfaaDoor.Ab

def ext3 (w : List UInt8) : List (List UInt8) := [w ++ [46], w ++ [70], w ++ [84]]
def allL : Nat → List (List UInt8)
  | 0 => [[]]
  | n + 1 => (allL n).flatMap ext3
/-- All that go on so many cells. -/
def goOn : Nat → List UInt8 → List (List UInt8)
  | 0, w => [w]
  | n + 1, w => goOn n (w ++ [46]) ++ goOn n (w ++ [70]) ++ goOn n (w ++ [84])
theorem goOn_succ : ∀ (n : Nat) (w : List UInt8), goOn (n + 1) w = (goOn n w).flatMap ext3
  | 0, w => by simp [goOn, ext3]
  | n + 1, w => by
    rw [goOn, goOn_succ n, goOn_succ n, goOn_succ n]
    conv => rhs; rw [goOn]
    simp only [List.flatMap_append]
theorem goOn_all : ∀ n : Nat, goOn n [] = allL n
  | 0 => rfl
  | n + 1 => by rw [goOn_succ, goOn_all n]; rfl
theorem allL_good : ∀ (n : Nat) (w : List UInt8), w ∈ allL n → w.length = n ∧ w.all isSign = true
  | 0, w, h => by simp [allL] at h; subst h; exact ⟨rfl, rfl⟩
  | n + 1, w, h => by
    simp only [allL, List.mem_flatMap] at h
    obtain ⟨v, hv, h⟩ := h
    obtain ⟨h1, h2⟩ := allL_good n v hv
    simp only [ext3, List.mem_cons, List.not_mem_nil, or_false] at h
    rcases h with rfl | rfl | rfl <;> simp [h1, h2, isSign, List.all_append]
theorem allL_length : ∀ n : Nat, (allL n).length = 3 ^ n
  | 0 => rfl
  | n + 1 => by
    have key : ∀ l : List (List UInt8), (l.flatMap ext3).length = l.length * 3 := by
      intro l
      induction l with
      | nil => rfl
      | cons a l ih => rw [List.flatMap_cons, List.length_append, ih]; simp [ext3]; omega
    rw [allL, key, allL_length n, Nat.pow_succ]
end Go.Proofs.YtnkkgghpfgihfaaDoor.Ab

/- A CELL that holds a slice of one's own, to which is appended through a pointer. -/
namespace Go.Proofs.YtnkkgghpfgihfaaDoor.Ab
open Go
set_option maxRecDepth 100000
set_option maxHeartbeats 4000000

/-- Rows that belong to a cell: its own, and those of the slices that it holds. -/
def grc (c : Nat) (h : AH) (i : Nat) : Prop := i = c ∨ ∃ cs ver fl ro, h[c]? = some (.row cs ver fl ro) ∧ ∃ v ∈ cs, rowOf v = some i
def FrC (c : Nat) (h h' : AH) : Prop := h.length ≤ h'.length ∧ ∀ i, i < h.length → ¬ grc c h i → h'[i]? = h[i]? ∧ ¬ grc c h' i
theorem FrC.refl (c : Nat) (h : AH) : FrC c h h := ⟨Nat.le_refl _, fun _ _ hg => ⟨rfl, hg⟩⟩
theorem FrC.trans {c : Nat} {x y z : AH} (p : FrC c x y) (q : FrC c y z) : FrC c x z := ⟨Nat.le_trans p.1 q.1, fun i hi hg => by
  obtain ⟨h1, h2⟩ := p.2 i hi hg
  obtain ⟨h3, h4⟩ := q.2 i (Nat.lt_of_lt_of_le hi p.1) h2
  exact ⟨by rw [h3, h1], h4⟩⟩
theorem grc_pre {c : Nat} {h h' : AH} (hp : Pre h h') (hc : c < h.length) (i : Nat) : grc c h' i ↔ grc c h i := by
  unfold grc; rw [hp.2 c hc]
theorem Pre.frc {c : Nat} {h h' : AH} (hp : Pre h h') (hc : c < h.length) : FrC c h h' := ⟨hp.1, fun i hi hg => ⟨hp.2 i hi, by rw [grc_pre hp hc]; exact hg⟩⟩
theorem rd_frc {c : Nat} {h h' : AH} (hf : FrC c h h') {r k o n : Nat} {cs : List AV} (hg : ¬ grc c h r) (hr : rdRow h r k o n = some cs) : rdRow h' r k o n = some cs := by
  have := rd_lt hr
  unfold rdRow at hr ⊢
  rw [(hf.2 r this hg).1]; exact hr
/-- A slice that is read, and does not belong to the cell. -/
def SlcC {α : Type} (esz : Nat) (enc : α → List AV) (c : Nat) (h : AH) (v : AV) (L : List α) : Prop := Slc esz enc h v L ∧ ∀ r, rowOf v = some r → ¬ grc c h r
theorem SlcC.fr {α : Type} {esz : Nat} {enc : α → List AV} {c : Nat} {h h' : AH} {v : AV} {L : List α} (hs : SlcC esz enc c h v L) (hf : FrC c h h') : SlcC esz enc c h' v L := by
  obtain ⟨h1, h2⟩ := hs
  unfold SlcC Slc Sl at *
  cases v <;> simp only [rowOf] at * <;> first
    | (exact ⟨h1, fun r hr => by cases hr⟩)
    | (obtain ⟨k1, k2, k3, k4⟩ := h1
       exact ⟨⟨k1, k2, k3, rd_frc hf (h2 _ rfl) k4⟩, fun r hr => by cases hr; exact (hf.2 _ (rd_lt k4) (h2 _ rfl)).2⟩)
section
variable {α : Type} {esz : Nat} {enc : α → List AV}
/-- The cell r holds a slice of one's own. -/
def OutP (esz : Nat) (enc : α → List AV) (r : Nat) (b h : AH) (l : List α) : Prop := ∃ vo, h[r]? = some (.row [vo] 0 0 false) ∧ OwL esz enc b h vo l ∧ rowOf vo ≠ some r
theorem OutP.lt {r : Nat} {b h : AH} {l : List α} (ho : OutP esz enc r b h l) : r < h.length := by
  obtain ⟨vo, h1, _⟩ := ho
  exact (List.getElem?_eq_some_iff.1 h1).1
theorem OutP.pre {r : Nat} {b h h' : AH} {l : List α} (ho : OutP esz enc r b h l) (hp : Pre h h') : OutP esz enc r b h' l := by
  have := ho.lt
  obtain ⟨vo, h1, h2, h3⟩ := ho
  exact ⟨vo, by rw [hp.2 r this]; exact h1, h2.pre hp, h3⟩
theorem OutP.grc_lt {r : Nat} {b h : AH} {l : List α} (ho : OutP esz enc r b h l) {i : Nat} (hg : grc r h i) : i < h.length := by
  have hlt := ho.lt
  obtain ⟨vo, h1, h2, h3⟩ := ho
  rcases hg with rfl | ⟨cs, ver, fl, ro, h4, v, hv, h5⟩
  · exact hlt
  · rw [h1] at h4
    simp only [Option.some.injEq, AO.row.injEq] at h4
    obtain ⟨rfl, _⟩ := h4
    simp at hv
    subst hv
    exact own_lt h2 h5
theorem OutP.fresh {r : Nat} {b h h' : AH} {l : List α} (ho : OutP esz enc r b h l) (hp : Pre h h') {i : Nat} (hi : h.length ≤ i) : ¬ grc r h' i := by
  rw [grc_pre hp ho.lt]
  intro hg
  have := ho.grc_lt hg
  omega
theorem OutP.rd {r : Nat} {b h : AH} {l : List α} (ho : OutP esz enc r b h l) : ∃ vo, rdRow h r 0 0 1 = some [vo] ∧ OwL esz enc b h vo l := by
  obtain ⟨vo, h1, h2, _⟩ := ho
  exact ⟨vo, by simp [rdRow, h1], h2⟩
theorem OutP.push (hl : ∀ x, (enc x).length = esz) (hsc : ∀ x, (enc x).all AV.sc = true) {r : Nat} {b h : AH} {l : List α} (ho : OutP esz enc r b h l) (hb : b.length ≤ h.length) (x : α) (hr : l.length + 1 ≤ 1099511627776) :
    ∃ vo v' h3, rdRow h r 0 0 1 = some [vo] ∧ rdRow (h ++ [AO.row (enc x) 0 0 false]) h.length 0 0 esz = some (enc x) ∧ apRow (h ++ [AO.row (enc x) 0 0 false]) esz vo 1 (enc x) = some (v', h3) ∧ v'.cells = [v'] ∧ v'.sc = true ∧
      wrRow h3 r 0 0 [v'] = some (h3.set r (.row [v'] 0 0 false)) ∧ OutP esz enc r b (h3.set r (.row [v'] 0 0 false)) (l ++ [x]) ∧ FrC r h (h3.set r (.row [v'] 0 0 false)) := by
  have hlt := ho.lt
  obtain ⟨vo, h1, h2, h3⟩ := ho
  have hpush := Pre.push h (AO.row (enc x) 0 0 false)
  obtain ⟨v', g, ha, ho', hag⟩ := apA hl hsc (h2.pre hpush) (by simp; omega) x hr
  obtain ⟨f1, f2, f3⟩ := apRow_fr ha
  have hll : (h ++ [AO.row (enc x) 0 0 false]).length = h.length + 1 := by simp
  have hrg : g[r]? = some (.row [vo] 0 0 false) := by rw [f1 r (by omega) h3, hpush.2 r hlt, h1]
  have hlg : r < g.length := by omega
  have n1 : rowOf v' ≠ some r := fun e => by
    rcases f3 r e with h4 | h4
    · exact h3 h4
    · omega
  have hrx : rdRow (h ++ [AO.row (enc x) 0 0 false]) h.length 0 0 esz = some (enc x) := by
    rw [rd_last, if_pos (by rw [hl]; omega), List.drop_zero, List.take_of_length_le (by rw [hl]; exact Nat.le_refl _)]
  refine ⟨vo, v', g, by simp [rdRow, h1], hrx, ha, ho'.cells, ho'.sc1, ?_, ?_, ?_⟩
  · simp [wrRow, hrg, splice, ho'.sc1]
  · refine ⟨v', by rw [List.getElem?_set, if_pos rfl, if_pos hlg], own_row ho' fun i hi => ?_, n1⟩
    rw [List.getElem?_set, if_neg (by rintro rfl; exact n1 hi)]
  · refine ⟨by simp; omega, fun i hi hg => ?_⟩
    have g1 : i ≠ r := fun e => hg (.inl e)
    have g2 : rowOf vo ≠ some i := fun e => hg (.inr ⟨_, _, _, _, h1, vo, by simp, e⟩)
    refine ⟨by rw [List.getElem?_set, if_neg (Ne.symm g1), f1 i (by omega) g2, hpush.2 i hi], ?_⟩
    rintro (e | ⟨cs, ver, fl, ro, e1, v, hv, e2⟩)
    · exact g1 e
    · rw [List.getElem?_set, if_pos rfl, if_pos hlg] at e1
      simp only [Option.some.injEq, AO.row.injEq] at e1
      obtain ⟨rfl, _⟩ := e1
      simp at hv
      subst hv
      rcases f3 i e2 with h4 | h4
      · exact g2 h4
      · omega
theorem OwL.slcC {esz' : Nat} {β : Type} {enc' : β → List AV} {r : Nat} {b h h' : AH} {l : List α} {v : AV} {L : List β} (ho : OwL esz' enc' h h' v L) (hk : OutP esz enc r b h l) (hp : Pre h h') : SlcC esz' enc' r h' v L :=
  ⟨ho.slc, fun _ hr => hk.fresh hp (own_ge ho hr)⟩
end
end Go.Proofs.YtnkkgghpfgihfaaDoor.Ab

/- PUZZLES: all lines, and those that fit. -/
namespace Go.Proofs.YtnkkgghpfgihfaaDoor.Ab
open Go
set_option maxRecDepth 100000
set_option maxHeartbeats 4000000

theorem dec3 (i : Nat) (h : i < 3) : dec [46, 70, 84] i = (((([46, 70, 84] : List UInt8).getD i 0).toNat : Int), 1) := dec_low h (by
  have : ∀ i, i < 3 → (([46, 70, 84] : List UInt8).getD i 0).toNat < 128 := by decide
  exact this i h)
theorem enc3 : ∀ b : UInt8, b = 46 ∨ b = 70 ∨ b = 84 → (Utf8.encode (b.toNat : Int)).data.toList = [b] := by
  rintro b (rfl | rfl | rfl) <;> decide +kernel
theorem own_ne_iter {esz : Nat} {b h : AH} {v : AV} {n : Nat} {cs : List AV} (ho : Own esz b h v n cs) {c : Nat} {s : List UInt8} {p : Nat} (hc : h[c]? = some (.iter s p)) : rowOf v ≠ some c := by
  unfold Own at ho
  intro hr
  cases v <;> simp only [rowOf] at ho hr <;> first
    | (cases hr; done)
    | (cases hr
       obtain ⟨_, _, _, _, cells, fl, h5, _⟩ := ho
       rw [hc] at h5; cases h5)
theorem lp_hidden2 (w : List UInt8) (hw : w.length < 2 ^ 20) (b : AH) (c : Nat) (hcb : b.length ≤ c) (n10 i11 v14 n15 i16 : AV) {R : X → Env → AH → Prop} : ∀ (d i : Nat) (o : AV) (l : List (List UInt8)) (h : AH), i + d = 3 → OwL 1 encS b h o l → h[c]? = some (.iter [46, 70, 84] i) → l.length + d ≤ 2 ^ 33 →
    (∀ o' h', OwL 1 encS b h' o' (l ++ (([46, 70, 84] : List UInt8).drop i).map fun x => w ++ [x]) → Ag b.length h h' → R (.exit 4) [(4, o'), (10, n10), (11, i11), (14, v14), (15, n15), (16, i16)] h') →
    Cx (.loop lp178_2) [(4, o), (6, .str w), (10, n10), (11, i11), (14, v14), (15, n15), (16, i16), (20, .iter c)] h R k k
  | 0, i, o, l, h, hd, ho, hc, hl, hR => by
    obtain rfl : i = 3 := by omega
    rw [w_loopb (c := lp178_2) (d := lb178_2) rfl]; unfold lb178_2
    simp (maxSteps := 1000000) (disch := first | omega | rfl | (simp only [zL, two63, room] <;> omega) | fail) only [↓reduceIte, ↓zP, zW, WOp, evOp, evBin, binI, binSh, binS, evNil, keyIs, keyEq, mkv, AV.cells, AV.sc, optv, bnd, env, put, Env.get, Env.set, Env.del, Env.dels, Env.init, res1, resL, resV, fillP, splice, newRow, Nat.reduceEqDiff, Nat.reduceLT, Nat.reduceLeDiff, Nat.reduceAdd, Nat.reduceMul, Nat.reduceSub, Nat.reduceBEq, reduceCtorEq, ↓zR, zQ, Tr, StA, StT, hc]
    exact hR o h (by simpa using ho) (Ag.refl _ _)
  | d + 1, i, o, l, h, hd, ho, hc, hl, hR => by
    have ih := lp_hidden2 w hw b c hcb n10 i11 v14 n15 i16 (R := R) d (i + 1)
    have hi : i < 3 := by omega
    have hdec := dec3 i hi
    have hd1 : (dec [46, 70, 84] i).1 = (((([46, 70, 84] : List UInt8).getD i 0).toNat : Int)) := by rw [hdec]
    have hd2 : (dec [46, 70, 84] i).2 = 1 := by rw [hdec]
    have hx : ([46, 70, 84] : List UInt8).getD i 0 = 46 ∨ ([46, 70, 84] : List UInt8).getD i 0 = 70 ∨ ([46, 70, 84] : List UInt8).getD i 0 = 84 := by
      have : ∀ i, i < 3 → ([46, 70, 84] : List UInt8).getD i 0 = 46 ∨ ([46, 70, 84] : List UInt8).getD i 0 = 70 ∨ ([46, 70, 84] : List UInt8).getD i 0 = 84 := by decide
      exact this i hi
    have hdrop : ([46, 70, 84] : List UInt8).drop i = ([46, 70, 84] : List UInt8).getD i 0 :: ([46, 70, 84] : List UInt8).drop (i + 1) := by
      have : ∀ i, i < 3 → ([46, 70, 84] : List UInt8).drop i = ([46, 70, 84] : List UInt8).getD i 0 :: ([46, 70, 84] : List UInt8).drop (i + 1) := by decide
      exact this i hi
    rw [hdrop] at hR
    generalize ([46, 70, 84] : List UInt8).getD i 0 = x at *
    have henc := enc3 x hx
    have hlt : i < ([46, 70, 84] : List UInt8).length := hi
    have hcl := (List.getElem?_eq_some_iff.1 hc).1
    obtain ⟨o2, h3, ha, ho3, hag⟩ := apA hlS scS ((show OwL 1 encS b (h.set c (.iter [46, 70, 84] (i + 1))) o l from own_iter ho hc).pre (Pre.push (h.set c (.iter [46, 70, 84] (i + 1))) (AO.row [.str (w ++ [x])] 0 0 false))) (by simp; omega) (w ++ [x]) (by omega)
    rw [w_loopb (c := lp178_2) (d := lb178_2) rfl]; unfold lb178_2
    simp (maxSteps := 1000000) (disch := first | omega | rfl | (simp only [zL, two63, room] <;> omega) | fail) only [↓reduceIte, ↓zP, zW, WOp, evOp, evBin, binI, binSh, binS, evNil, keyIs, keyEq, mkv, AV.cells, AV.sc, optv, bnd, env, put, Env.get, Env.set, Env.del, Env.dels, Env.init, res1, resL, resV, fillP, splice, newRow, Nat.reduceEqDiff, Nat.reduceLT, Nat.reduceLeDiff, Nat.reduceAdd, Nat.reduceMul, Nat.reduceSub, Nat.reduceBEq, reduceCtorEq, ↓zR, zQ, Tr, StA, StT, hc, hi, hd1, hd2, henc, ha]
    rw [w_loopn (c := lp178_2) rfl]
    simp (maxSteps := 1000000) (disch := first | omega | rfl | (simp only [zL, two63, room] <;> omega) | fail) only [↓reduceIte, ↓zP, zW, WOp, evOp, evBin, binI, binSh, binS, evNil, keyIs, keyEq, mkv, AV.cells, AV.sc, optv, bnd, env, put, Env.get, Env.set, Env.del, Env.dels, Env.init, res1, resL, resV, fillP, splice, newRow, Nat.reduceEqDiff, Nat.reduceLT, Nat.reduceLeDiff, Nat.reduceAdd, Nat.reduceMul, Nat.reduceSub, Nat.reduceBEq, reduceCtorEq, ↓zR, zQ, Tr, StA, StT]
    have hpush := Pre.push (h.set c (.iter [46, 70, 84] (i + 1))) (AO.row [.str (w ++ [x])] 0 0 false)
    have hag2 : Ag b.length h h3 := ((Ag.refl b.length h).set hcb).trans ((hpush.ag (by simp; omega)).trans hag)
    refine ih o2 (l ++ [w ++ [x]]) h3 (by omega) ho3 ?_ (by simp; omega) ?_
    · have ho2 : OwL 1 encS b (h.set c (.iter [46, 70, 84] (i + 1))) o l := own_iter ho hc
      have hc2 : (h.set c (.iter [46, 70, 84] (i + 1)))[c]? = some (.iter [46, 70, 84] (i + 1)) := by rw [List.getElem?_set, if_pos rfl, if_pos hcl]
      rw [(apRow_fr ha).1 c (by simp; omega) (own_ne_iter ho2 hc2), hpush.2 c (by simpa using hcl), hc2]
    · intro o' h' ho' ha'
      exact hR o' h' (by simpa using ho') (hag2.trans ha')

theorem lp_hidden1 (b : AH) (n10 i11 : AV) {v : AV} {L : List (List UInt8)} (hL : L.length < 2 ^ 30) (hw : ∀ w ∈ L, w.length < 2 ^ 20) (hs : Slc 1 encS b v L) {R : X → Env → AH → Prop} : ∀ (rest pre : List (List UInt8)) (o : AV) (l : List (List UInt8)) (h : AH), L = pre ++ rest → OwL 1 encS b h o l → Ag b.length b h → l.length = 3 * pre.length →
    (∀ o' h', OwL 1 encS b h' o' (l ++ rest.flatMap ext3) → Ag b.length b h' → R (.exit 2) [(4, o'), (10, n10), (11, i11)] h') →
    Cx (.loop lp178_1) [(4, o), (10, n10), (11, i11), (14, v), (15, .int .i64 L.length), (16, .int .i64 pre.length)] h R k k
  | [], pre, o, l, h, hpre, ho, hag, hl, hR => by
    subst hpre
    rw [w_loopb (c := lp178_1) (d := lb178_1) rfl]; unfold lb178_1
    simp only [List.append_nil]
    simp (maxSteps := 1000000) (disch := first | omega | rfl | (simp only [zL, two63, room] <;> omega) | fail) only [↓reduceIte, ↓zP, zW, WOp, evOp, evBin, binI, binSh, binS, evNil, keyIs, keyEq, mkv, AV.cells, AV.sc, optv, bnd, env, put, Env.get, Env.set, Env.del, Env.dels, Env.init, res1, resL, resV, fillP, splice, newRow, Nat.reduceEqDiff, Nat.reduceLT, Nat.reduceLeDiff, Nat.reduceAdd, Nat.reduceMul, Nat.reduceSub, Nat.reduceBEq, reduceCtorEq, ↓zR, zQ, Tr, StA, StT]
    exact hR o h (by simpa using ho) hag
  | w :: rest, pre, o, l, h, hpre, ho, hag, hl, hR => by
    have ih := lp_hidden1 b n10 i11 hL hw hs (R := R) rest (pre ++ [w])
    have hlen : L.length = pre.length + 1 + rest.length := by rw [hpre]; simp; omega
    have hww := hw w (by rw [hpre]; simp)
    have hs' := hs.pre (hag.pre (Nat.le_refl _))
    rw [hpre] at hs'
    obtain ⟨c, kk, off, hv, hr⟩ := hs'.at hlS
    rw [← hpre, hlen] at hv
    subst hv
    rw [hlen] at ih hL ⊢
    have hlt : (pre.length : Int) < ((pre.length + 1 + rest.length : Nat) : Int) := by omega
    have hw1 : (pre.length : Int) + 1 = ((pre ++ [w]).length : Int) := by simp
    rw [w_loopb (c := lp178_1) (d := lb178_1) rfl]; unfold lb178_1
    simp (maxSteps := 1000000) (disch := first | omega | rfl | (simp only [zL, two63, room] <;> omega) | fail) only [↓reduceIte, ↓zP, zW, WOp, evOp, evBin, binI, binSh, binS, evNil, keyIs, keyEq, mkv, AV.cells, AV.sc, optv, bnd, env, put, Env.get, Env.set, Env.del, Env.dels, Env.init, res1, resL, resV, fillP, splice, newRow, Nat.reduceEqDiff, Nat.reduceLT, Nat.reduceLeDiff, Nat.reduceAdd, Nat.reduceMul, Nat.reduceSub, Nat.reduceBEq, reduceCtorEq, ↓zR, zQ, Tr, StA, StT, hlt, hr]
    refine lp_hidden2 w hww b h.length hag.1 _ _ _ _ _ 3 0 o l _ (by omega) (ho.pre (Pre.push _ _)) (by simp) (by omega) ?_
    intro o2 h2 ho2 hag2
    simp (maxSteps := 1000000) (disch := first | omega | rfl | (simp only [zL, two63, room] <;> omega) | fail) only [↓reduceIte, ↓zP, zW, WOp, evOp, evBin, binI, binSh, binS, evNil, keyIs, keyEq, mkv, AV.cells, AV.sc, optv, bnd, env, put, Env.get, Env.set, Env.del, Env.dels, Env.init, res1, resL, resV, fillP, splice, newRow, Nat.reduceEqDiff, Nat.reduceLT, Nat.reduceLeDiff, Nat.reduceAdd, Nat.reduceMul, Nat.reduceSub, Nat.reduceBEq, reduceCtorEq, ↓zR, zQ, Tr, StA, StT, hw1]
    rw [w_loopn (c := lp178_1) rfl]
    simp (maxSteps := 1000000) (disch := first | omega | rfl | (simp only [zL, two63, room] <;> omega) | fail) only [↓reduceIte, ↓zP, zW, WOp, evOp, evBin, binI, binSh, binS, evNil, keyIs, keyEq, mkv, AV.cells, AV.sc, optv, bnd, env, put, Env.get, Env.set, Env.del, Env.dels, Env.init, res1, resL, resV, fillP, splice, newRow, Nat.reduceEqDiff, Nat.reduceLT, Nat.reduceLeDiff, Nat.reduceAdd, Nat.reduceMul, Nat.reduceSub, Nat.reduceBEq, reduceCtorEq, ↓zR, zQ, Tr, StA, StT]
    refine ih o2 _ h2 (by rw [hpre]; simp) ho2 ((hag.trans ((Pre.push h (.iter [46, 70, 84] 0)).ag hag.1)).trans hag2) (by simp; omega) ?_
    intro o' h' ho' ha'
    exact hR o' h' (by simpa [ext3] using ho') ha'
theorem lp_hidden0 (n : Nat) (hn : n ≤ 5) (h0 : AH) {R : X → Env → AH → Prop} : ∀ (d i : Nat) (v : AV) (h : AH), i + d = n → OwL 1 encS h0 h v (allL i) → Pre h0 h →
    (∀ v' h', OwL 1 encS h0 h' v' (allL n) → Pre h0 h' → R (.exit 0) [(3, v')] h') →
    Cx (.loop lp178_0) [(3, v), (10, .int .i64 n), (11, .int .i64 i)] h R k k
  | 0, i, v, h, hi, ho, hp, hR => by
    obtain rfl : i = n := by omega
    rw [w_loopb (c := lp178_0) (d := lb178_0) rfl]; unfold lb178_0
    simp (maxSteps := 1000000) (disch := first | omega | rfl | (simp only [zL, two63, room] <;> omega) | fail) only [↓reduceIte, ↓zP, zW, WOp, evOp, evBin, binI, binSh, binS, evNil, keyIs, keyEq, mkv, AV.cells, AV.sc, optv, bnd, env, put, Env.get, Env.set, Env.del, Env.dels, Env.init, res1, resL, resV, fillP, splice, newRow, Nat.reduceEqDiff, Nat.reduceLT, Nat.reduceLeDiff, Nat.reduceAdd, Nat.reduceMul, Nat.reduceSub, Nat.reduceBEq, reduceCtorEq, ↓zR, zQ, Tr, StA, StT]
    exact hR v h ho hp
  | d + 1, i, v, h, hi, ho, hp, hR => by
    have ih := lp_hidden0 n hn h0 (R := R) d (i + 1)
    have hlt : (i : Int) < (n : Int) := by omega
    have hw1 : (i : Int) + 1 = ((i + 1 : Nat) : Int) := by omega
    have hlen := allL_length i
    have hpow : 3 ^ i ≤ 3 ^ 5 := Nat.pow_le_pow_right (by omega) (by omega)
    rw [w_loopb (c := lp178_0) (d := lb178_0) rfl]; unfold lb178_0
    have hv := fun g => Slc.lenV (ho.slc) (g := g) (ρ := fun _ => _) (x := .t 0) rfl; simp only [evOp] at hv
    simp (maxSteps := 1000000) (disch := first | omega | rfl | (simp only [zL, two63, room] <;> omega) | fail) only [↓reduceIte, ↓zP, zW, WOp, evOp, evBin, binI, binSh, binS, evNil, keyIs, keyEq, mkv, AV.cells, AV.sc, optv, bnd, env, put, Env.get, Env.set, Env.del, Env.dels, Env.init, res1, resL, resV, fillP, splice, newRow, Nat.reduceEqDiff, Nat.reduceLT, Nat.reduceLeDiff, Nat.reduceAdd, Nat.reduceMul, Nat.reduceSub, Nat.reduceBEq, reduceCtorEq, ↓zR, zQ, Tr, StA, StT, hlt, hv]
    refine lp_hidden1 h _ _ (by rw [hlen]; omega) (fun w hw => by rw [(allL_good i w hw).1]; omega) ho.slc (allL i) [] .empS [] h rfl OwL.emp (Ag.refl _ _) rfl ?_
    intro o2 h2 ho2 hag
    simp (maxSteps := 1000000) (disch := first | omega | rfl | (simp only [zL, two63, room] <;> omega) | fail) only [↓reduceIte, ↓zP, zW, WOp, evOp, evBin, binI, binSh, binS, evNil, keyIs, keyEq, mkv, AV.cells, AV.sc, optv, bnd, env, put, Env.get, Env.set, Env.del, Env.dels, Env.init, res1, resL, resV, fillP, splice, newRow, Nat.reduceEqDiff, Nat.reduceLT, Nat.reduceLeDiff, Nat.reduceAdd, Nat.reduceMul, Nat.reduceSub, Nat.reduceBEq, reduceCtorEq, ↓zR, zQ, Tr, StA, StT, hw1]
    rw [w_loopn (c := lp178_0) rfl]
    simp (maxSteps := 1000000) (disch := first | omega | rfl | (simp only [zL, two63, room] <;> omega) | fail) only [↓reduceIte, ↓zP, zW, WOp, evOp, evBin, binI, binSh, binS, evNil, keyIs, keyEq, mkv, AV.cells, AV.sc, optv, bnd, env, put, Env.get, Env.set, Env.del, Env.dels, Env.init, res1, resL, resV, fillP, splice, newRow, Nat.reduceEqDiff, Nat.reduceLT, Nat.reduceLeDiff, Nat.reduceAdd, Nat.reduceMul, Nat.reduceSub, Nat.reduceBEq, reduceCtorEq, ↓zR, zQ, Tr, StA, StT]
    exact ih o2 h2 (by omega) (OwL.old ho2 hp.1) (hp.trans (hag.pre (Nat.le_refl _))) hR
theorem c_hidden (n : Nat) (hn : n ≤ 5) {h : AH} {post : AV → AH → Prop} (hp : ∀ v h', OwL 1 encS h h' v (allL n) → Pre h h' → post v h') : S 178 [.int .i64 n] h post k := by
  refine S_of rfl T178 ?_; unfold fi178
  simp (maxSteps := 1000000) (disch := first | omega | rfl | (simp only [zL, two63, room] <;> omega) | fail) only [↓reduceIte, ↓zP, zW, WOp, evOp, evBin, binI, binSh, binS, evNil, keyIs, keyEq, mkv, AV.cells, AV.sc, optv, bnd, env, put, Env.get, Env.set, Env.del, Env.dels, Env.init, res1, resL, resV, fillP, splice, newRow, Nat.reduceEqDiff, Nat.reduceLT, Nat.reduceLeDiff, Nat.reduceAdd, Nat.reduceMul, Nat.reduceSub, Nat.reduceBEq, reduceCtorEq, ↓zR, zQ, Tr, StA, StT]
  refine lp_hidden0 n hn h n 0 _ _ (by omega) ?_ (Pre.push _ _) ?_
  · unfold OwL Own
    exact ⟨rfl, rfl, rfl, Nat.le_refl _, [.str []], 0, by simp, Nat.le_refl _, rfl, rfl⟩
  · intro v' h' ho hp'
    simp (maxSteps := 1000000) (disch := first | omega | rfl | (simp only [zL, two63, room] <;> omega) | fail) only [↓reduceIte, ↓zP, zW, WOp, evOp, evBin, binI, binSh, binS, evNil, keyIs, keyEq, mkv, AV.cells, AV.sc, optv, bnd, env, put, Env.get, Env.set, Env.del, Env.dels, Env.init, res1, resL, resV, fillP, splice, newRow, Nat.reduceEqDiff, Nat.reduceLT, Nat.reduceLeDiff, Nat.reduceAdd, Nat.reduceMul, Nat.reduceSub, Nat.reduceBEq, reduceCtorEq, ↓zR, zQ, Tr, StA, StT]
    exact hp v' h' ho hp'

abbrev Clu := Int × Int × Int
theorem c_solve1 (c : Clu) (x : List UInt8) (hs : x.all isSign = true) (hl : 1 ≤ x.length ∧ x.length ≤ 5) (hc : clueOk x.length c = true) {r : Nat} {h : AH} (hr : rdRow h r 0 0 3 = some (encC c)) {post : AV → AH → Prop} (hp : ∀ h', Pre h h' → post (.bool (!fitB c x)) h') : S 179 [.str x, .ptr r 0 0 3] h post k := by
  refine S_of rfl T179 ?_; unfold fi179
  simp (maxSteps := 1000000) (disch := first | omega | rfl | (simp only [zL, two63, room] <;> omega) | fail) only [↓reduceIte, ↓zP, zW, WOp, evOp, evBin, binI, binSh, binS, evNil, keyIs, keyEq, mkv, AV.cells, AV.sc, optv, bnd, env, put, Env.get, Env.set, Env.del, Env.dels, Env.init, res1, resL, resV, fillP, splice, newRow, Nat.reduceEqDiff, Nat.reduceLT, Nat.reduceLeDiff, Nat.reduceAdd, Nat.reduceMul, Nat.reduceSub, Nat.reduceBEq, reduceCtorEq, ↓zR, zQ, Tr, StA, StT, hr]
  refine c_DoesFit c.1 c.2.1 c.2.2 x hs hl hc ?_
  intro h2 hp2
  simp (maxSteps := 1000000) (disch := first | omega | rfl | (simp only [zL, two63, room] <;> omega) | fail) only [↓reduceIte, ↓zP, zW, WOp, evOp, evBin, binI, binSh, binS, evNil, keyIs, keyEq, mkv, AV.cells, AV.sc, optv, bnd, env, put, Env.get, Env.set, Env.del, Env.dels, Env.init, res1, resL, resV, fillP, splice, newRow, Nat.reduceEqDiff, Nat.reduceLT, Nat.reduceLeDiff, Nat.reduceAdd, Nat.reduceMul, Nat.reduceSub, Nat.reduceBEq, reduceCtorEq, ↓zR, zQ, Tr, StA, StT]
  exact hp h2 hp2
/-- All lines that fit. -/
def fitL (n : Nat) (cs : List Clu) : List (List UInt8) := (allL n).filter fun w => cs.all fun c => fitB c w
theorem lp_solve (n : Nat) (hn : 1 ≤ n ∧ n ≤ 5) {v : AV} {cs : List Clu} (hlen : cs.length < 2 ^ 30) (hok : ∀ c ∈ cs, clueOk n c = true) {h0 : AH} (hs : Slc 3 encC h0 v cs) {R : X → Env → AH → Prop} : ∀ (rest pre : List Clu) (o : AV) (h : AH), cs = pre ++ rest → OwW 1 encS h0 h o ((allL n).filter fun w => pre.all fun c => fitB c w) → Pre h0 h →
    (∀ o' h', OwW 1 encS h0 h' o' (fitL n cs) → Pre h0 h' → R (.exit 0) [(5, o')] h') →
    Cx (.loop lp167_0) [(5, o), (10, v), (11, .int .i64 cs.length), (12, .int .i64 pre.length)] h R k k
  | [], pre, o, h, hpre, ho, hp, hR => by
    subst hpre
    rw [w_loopb (c := lp167_0) (d := lb167_0) rfl]; unfold lb167_0
    simp only [List.append_nil]
    simp (maxSteps := 1000000) (disch := first | omega | rfl | (simp only [zL, two63, room] <;> omega) | fail) only [↓reduceIte, ↓zP, zW, WOp, evOp, evBin, binI, binSh, binS, evNil, keyIs, keyEq, mkv, AV.cells, AV.sc, optv, bnd, env, put, Env.get, Env.set, Env.del, Env.dels, Env.init, res1, resL, resV, fillP, splice, newRow, Nat.reduceEqDiff, Nat.reduceLT, Nat.reduceLeDiff, Nat.reduceAdd, Nat.reduceMul, Nat.reduceSub, Nat.reduceBEq, reduceCtorEq, ↓zR, zQ, Tr, StA, StT]
    exact hR o h (by simpa [fitL] using ho) hp
  | c :: rest, pre, o, h, hpre, ho, hp, hR => by
    have ih := lp_solve n hn hlen hok hs (R := R) rest (pre ++ [c])
    have hll : cs.length = pre.length + 1 + rest.length := by rw [hpre]; simp; omega
    have hck := hok c (by rw [hpre]; simp)
    have hs' := hs.pre hp
    rw [hpre] at hs'
    obtain ⟨r1, k1, o1, hv, hr⟩ := hs'.at hlC
    rw [← hpre, hll] at hv
    subst hv
    rw [hll] at ih hlen ⊢
    have hlt : (pre.length : Int) < ((pre.length + 1 + rest.length : Nat) : Int) := by omega
    have hw1 : (pre.length : Int) + 1 = ((pre ++ [c]).length : Int) := by simp
    have hpow : 3 ^ n ≤ 3 ^ 5 := Nat.pow_le_pow_right (by omega) hn.2
    have hal := allL_length n
    have hpush := Pre.push h (AO.row (encC c) 0 0 false)
    have hrd : rdRow (h ++ [AO.row (encC c) 0 0 false]) h.length 0 0 3 = some (encC c) := rd_lasT ⟨by simp, by simp, by simp⟩
    rw [w_loopb (c := lp167_0) (d := lb167_0) rfl]; unfold lb167_0
    simp (maxSteps := 1000000) (disch := first | omega | rfl | (simp only [zL, two63, room] <;> omega) | fail) only [↓reduceIte, ↓zP, zW, WOp, evOp, evBin, binI, binSh, binS, evNil, keyIs, keyEq, mkv, AV.cells, AV.sc, optv, bnd, env, put, Env.get, Env.set, Env.del, Env.dels, Env.init, res1, resL, resV, fillP, splice, newRow, Nat.reduceEqDiff, Nat.reduceLT, Nat.reduceLeDiff, Nat.reduceAdd, Nat.reduceMul, Nat.reduceSub, Nat.reduceBEq, reduceCtorEq, ↓zR, zQ, Tr, StA, StT, hlt, hr]
    refine c_DeleteFuncS _ _ (fun w => !fitB c w) (ho.pre hpush) ?_ ?_ ?_
    · have := List.length_filter_le (fun w => pre.all fun c => fitB c w) (allL n)
      omega
    · intro x hx h' hpv post hpost
      have hxg := allL_good n x (List.mem_filter.1 hx).1
      have hrd2 : rdRow h' h.length 0 0 3 = some (encC c) := by
        unfold rdRow at hrd ⊢
        rw [hpv.2 h.length (by simp) ?_]
        · exact hrd
        · rintro c' k' o' n' e' rfl
          unfold OwW at ho
          obtain ⟨_, _, _, A, Z, fl, h4, _⟩ := ho
          have := (List.getElem?_eq_some_iff.1 h4).1
          omega
      exact c_solve1 c x hxg.2 (by rw [hxg.1]; exact hn) (by rw [hxg.1]; exact hck) hrd2 hpost
    · intro o2 h2 ho2 hpv2
      have hf : ((allL n).filter fun w => pre.all fun c => fitB c w).filter (fun x => !!fitB c x) = (allL n).filter fun w => (pre ++ [c]).all fun c => fitB c w := by
        rw [List.filter_filter]
        apply List.filter_congr
        intro w _
        simp [Bool.and_comm]
      rw [hf] at ho2
      simp (maxSteps := 1000000) (disch := first | omega | rfl | (simp only [zL, two63, room] <;> omega) | fail) only [↓reduceIte, ↓zP, zW, WOp, evOp, evBin, binI, binSh, binS, evNil, keyIs, keyEq, mkv, AV.cells, AV.sc, optv, bnd, env, put, Env.get, Env.set, Env.del, Env.dels, Env.init, res1, resL, resV, fillP, splice, newRow, Nat.reduceEqDiff, Nat.reduceLT, Nat.reduceLeDiff, Nat.reduceAdd, Nat.reduceMul, Nat.reduceSub, Nat.reduceBEq, reduceCtorEq, ↓zR, zQ, Tr, StA, StT, hw1]
      rw [w_loopn (c := lp167_0) rfl]
      simp (maxSteps := 1000000) (disch := first | omega | rfl | (simp only [zL, two63, room] <;> omega) | fail) only [↓reduceIte, ↓zP, zW, WOp, evOp, evBin, binI, binSh, binS, evNil, keyIs, keyEq, mkv, AV.cells, AV.sc, optv, bnd, env, put, Env.get, Env.set, Env.del, Env.dels, Env.init, res1, resL, resV, fillP, splice, newRow, Nat.reduceEqDiff, Nat.reduceLT, Nat.reduceLeDiff, Nat.reduceAdd, Nat.reduceMul, Nat.reduceSub, Nat.reduceBEq, reduceCtorEq, ↓zR, zQ, Tr, StA, StT]
      refine ih o2 h2 (by rw [hpre]; simp) ho2 ?_ hR
      refine ⟨Nat.le_trans hp.1 (Nat.le_trans hpush.1 hpv2.1), fun i hi => ?_⟩
      rw [hpv2.2 i (by have := hp.1; simp; omega) ?_, hpush.2 i (Nat.lt_of_lt_of_le hi hp.1), hp.2 i hi]
      rintro c' k' o' n' e' rfl
      unfold OwW at ho
      obtain ⟨_, _, h3, _⟩ := ho
      omega
theorem c_solve (n : Nat) (hn : 1 ≤ n ∧ n ≤ 5) {v : AV} {cs : List Clu} (hlen : cs.length < 2 ^ 30) (hok : ∀ c ∈ cs, clueOk n c = true) {h : AH} (hs : Slc 3 encC h v cs) {post : AV → AH → Prop} (hp : ∀ o' h', OwW 1 encS h h' o' (fitL n cs) → Pre h h' → post o' h') : S 167 [.int .i64 n, v] h post k := by
  refine S_of rfl T167 ?_; unfold fi167
  simp (maxSteps := 1000000) (disch := first | omega | rfl | (simp only [zL, two63, room] <;> omega) | fail) only [↓reduceIte, ↓zP, zW, WOp, evOp, evBin, binI, binSh, binS, evNil, keyIs, keyEq, mkv, AV.cells, AV.sc, optv, bnd, env, put, Env.get, Env.set, Env.del, Env.dels, Env.init, res1, resL, resV, fillP, splice, newRow, Nat.reduceEqDiff, Nat.reduceLT, Nat.reduceLeDiff, Nat.reduceAdd, Nat.reduceMul, Nat.reduceSub, Nat.reduceBEq, reduceCtorEq, ↓zR, zQ, Tr, StA, StT]
  refine c_hidden n hn.2 ?_
  intro o h2 ho hp2
  have hv := fun g => Slc.lenV (hs) (g := g) (ρ := fun _ => _) (x := .t 0) rfl; simp only [evOp] at hv
  simp (maxSteps := 1000000) (disch := first | omega | rfl | (simp only [zL, two63, room] <;> omega) | fail) only [↓reduceIte, ↓zP, zW, WOp, evOp, evBin, binI, binSh, binS, evNil, keyIs, keyEq, mkv, AV.cells, AV.sc, optv, bnd, env, put, Env.get, Env.set, Env.del, Env.dels, Env.init, res1, resL, resV, fillP, splice, newRow, Nat.reduceEqDiff, Nat.reduceLT, Nat.reduceLeDiff, Nat.reduceAdd, Nat.reduceMul, Nat.reduceSub, Nat.reduceBEq, reduceCtorEq, ↓zR, zQ, Tr, StA, StT, hv]
  refine lp_solve n hn hlen hok hs cs [] o h2 rfl ?_ hp2 ?_
  · have : ((allL n).filter fun w => ([] : List Clu).all fun c => fitB c w) = allL n := List.filter_eq_self.2 (by simp)
    rw [this]
    exact ho.w
  · intro o' h' ho' hp'
    simp (maxSteps := 1000000) (disch := first | omega | rfl | (simp only [zL, two63, room] <;> omega) | fail) only [↓reduceIte, ↓zP, zW, WOp, evOp, evBin, binI, binSh, binS, evNil, keyIs, keyEq, mkv, AV.cells, AV.sc, optv, bnd, env, put, Env.get, Env.set, Env.del, Env.dels, Env.init, res1, resL, resV, fillP, splice, newRow, Nat.reduceEqDiff, Nat.reduceLT, Nat.reduceLeDiff, Nat.reduceAdd, Nat.reduceMul, Nat.reduceSub, Nat.reduceBEq, reduceCtorEq, ↓zR, zQ, Tr, StA, StT]
    exact hp o' h' ho' hp'

/-! ### The reference's search -/
theorem lp_pzLook0 {v : AV} {cs : List Clu} {h0 : AH} (hs : Slc 3 encC h0 v cs) (hlen : cs.length < 2 ^ 30) (w : List UInt8) (hw : w.all isSign = true) (hl : w.length ≤ 12) (hok : ∀ c ∈ cs, clueOk w.length c = true) (p : AV) {R : X → Env → AH → Prop} : ∀ (rest pre : List Clu) (h : AH), cs = pre ++ rest → Pre h0 h →
    (∀ h', Pre h0 h' → (rest.all fun c => fitB c w) = true → R (.exit 0) [(2, .str w), (3, p)] h') → (∀ h', Pre h0 h' → (rest.all fun c => fitB c w) = false → R .ret [] h') →
    Cx (.loop lp173_0) [(2, .str w), (3, p), (16, v), (17, .int .i64 cs.length), (18, .int .i64 pre.length)] h R k k
  | [], pre, h, hpre, hp, h1, h2 => by
    subst hpre
    rw [w_loopb (c := lp173_0) (d := lb173_0) rfl]; unfold lb173_0
    simp only [List.append_nil]
    simp (maxSteps := 1000000) (disch := first | omega | rfl | (simp only [zL, two63, room] <;> omega) | fail) only [↓reduceIte, ↓zP, zW, WOp, evOp, evBin, binI, binSh, binS, evNil, keyIs, keyEq, mkv, AV.cells, AV.sc, optv, bnd, env, put, Env.get, Env.set, Env.del, Env.dels, Env.init, res1, resL, resV, fillP, splice, newRow, Nat.reduceEqDiff, Nat.reduceLT, Nat.reduceLeDiff, Nat.reduceAdd, Nat.reduceMul, Nat.reduceSub, Nat.reduceBEq, reduceCtorEq, ↓zR, zQ, Tr, StA, StT]
    exact h1 h hp rfl
  | c :: rest, pre, h, hpre, hp, h1, h2 => by
    have ih := lp_pzLook0 hs hlen w hw hl hok p (R := R) rest (pre ++ [c])
    have hll : cs.length = pre.length + 1 + rest.length := by rw [hpre]; simp; omega
    have hck := hok c (by rw [hpre]; simp)
    have hs' := hs.pre hp
    rw [hpre] at hs'
    obtain ⟨r1, k1, o1, hv, hr⟩ := hs'.at hlC
    rw [← hpre, hll] at hv
    subst hv
    rw [hll] at ih hlen ⊢
    have hlt : (pre.length : Int) < ((pre.length + 1 + rest.length : Nat) : Int) := by omega
    have hw1 : (pre.length : Int) + 1 = ((pre ++ [c]).length : Int) := by simp
    have hcell : c.1 = 0 → 0 ≤ c.2.1 ∧ c.2.1 < w.length := by
      intro e
      simp only [clueOk, if_pos e, Bool.and_eq_true, decide_eq_true_eq] at hck
      omega
    have hpush := Pre.push h (AO.row (encC c) 0 0 false)
    rw [w_loopb (c := lp173_0) (d := lb173_0) rfl]; unfold lb173_0
    simp (maxSteps := 1000000) (disch := first | omega | rfl | (simp only [zL, two63, room] <;> omega) | fail) only [↓reduceIte, ↓zP, zW, WOp, evOp, evBin, binI, binSh, binS, evNil, keyIs, keyEq, mkv, AV.cells, AV.sc, optv, bnd, env, put, Env.get, Env.set, Env.del, Env.dels, Env.init, res1, resL, resV, fillP, splice, newRow, Nat.reduceEqDiff, Nat.reduceLT, Nat.reduceLeDiff, Nat.reduceAdd, Nat.reduceMul, Nat.reduceSub, Nat.reduceBEq, reduceCtorEq, ↓zR, zQ, Tr, StA, StT, hlt, hr]
    refine c_pzFits c.1 c.2.1 c.2.2 w hw hl hcell ?_
    intro h3 hp3
    have hpp : Pre h0 h3 := hp.trans (hpush.trans hp3)
    cases e : fitB c w
    · simp (maxSteps := 1000000) (disch := first | omega | rfl | (simp only [zL, two63, room] <;> omega) | fail) only [↓reduceIte, ↓zP, zW, WOp, evOp, evBin, binI, binSh, binS, evNil, keyIs, keyEq, mkv, AV.cells, AV.sc, optv, bnd, env, put, Env.get, Env.set, Env.del, Env.dels, Env.init, res1, resL, resV, fillP, splice, newRow, Nat.reduceEqDiff, Nat.reduceLT, Nat.reduceLeDiff, Nat.reduceAdd, Nat.reduceMul, Nat.reduceSub, Nat.reduceBEq, reduceCtorEq, ↓zR, zQ, Tr, StA, StT, e]
      exact h2 h3 hpp (by rw [List.all_cons, e]; rfl)
    · simp (maxSteps := 1000000) (disch := first | omega | rfl | (simp only [zL, two63, room] <;> omega) | fail) only [↓reduceIte, ↓zP, zW, WOp, evOp, evBin, binI, binSh, binS, evNil, keyIs, keyEq, mkv, AV.cells, AV.sc, optv, bnd, env, put, Env.get, Env.set, Env.del, Env.dels, Env.init, res1, resL, resV, fillP, splice, newRow, Nat.reduceEqDiff, Nat.reduceLT, Nat.reduceLeDiff, Nat.reduceAdd, Nat.reduceMul, Nat.reduceSub, Nat.reduceBEq, reduceCtorEq, ↓zR, zQ, Tr, StA, StT, e, hw1]
      rw [w_loopn (c := lp173_0) rfl]
      simp (maxSteps := 1000000) (disch := first | omega | rfl | (simp only [zL, two63, room] <;> omega) | fail) only [↓reduceIte, ↓zP, zW, WOp, evOp, evBin, binI, binSh, binS, evNil, keyIs, keyEq, mkv, AV.cells, AV.sc, optv, bnd, env, put, Env.get, Env.set, Env.del, Env.dels, Env.init, res1, resL, resV, fillP, splice, newRow, Nat.reduceEqDiff, Nat.reduceLT, Nat.reduceLeDiff, Nat.reduceAdd, Nat.reduceMul, Nat.reduceSub, Nat.reduceBEq, reduceCtorEq, ↓zR, zQ, Tr, StA, StT]
      exact ih h3 (by rw [hpre]; simp) hpp (fun h' q1 q2 => h1 h' q1 (by rw [List.all_cons, e, q2]; rfl)) (fun h' q1 q2 => h2 h' q1 (by rw [List.all_cons, e, q2]; rfl))
def LookAt (n : Nat) (v : AV) (cs : List Clu) (b : AH) (r : Nat) (d : Nat) : Prop := ∀ (w : List UInt8) (h : AH) (l : List (List UInt8)), w.length + d = n → w.all isSign = true → OutP 1 encS r b h l → b.length ≤ h.length → SlcC 3 encC r h v cs → l.length + 3 ^ d ≤ 2 ^ 30 → ∀ post : AV → AH → Prop,
  (∀ h', OutP 1 encS r b h' (l ++ (goOn d w).filter fun w => cs.all fun c => fitB c w) → FrC r h h' → post (.tup []) h') → S 173 [.int .i64 n, v, .str w, .ptr r 0 0 1] h post k
theorem goOn_length : ∀ (d : Nat) (w : List UInt8), (goOn d w).length = 3 ^ d
  | 0, _ => rfl
  | d + 1, w => by simp only [goOn, List.length_append, goOn_length d]; rw [Nat.pow_succ]; omega
abbrev S3 : List (List UInt8) := [[46], [70], [84]]
theorem lp_pzLook1 {n : Nat} {v : AV} {cs : List Clu} {b : AH} {r d : Nat} (ih : LookAt n v cs b r d) (hn : n ≤ 5) (w : List UInt8) (hwd : w.length + (d + 1) = n) (hw : w.all isSign = true) (vs : AV) {h0 : AH} {R : X → Env → AH → Prop} : ∀ (rest pre : List (List UInt8)) (l : List (List UInt8)) (h : AH), S3 = pre ++ rest → OutP 1 encS r b h l → b.length ≤ h.length → SlcC 3 encC r h v cs → SlcC 1 encS r h vs S3 → FrC r h0 h → l.length + rest.length * 3 ^ d ≤ 2 ^ 30 →
    (∀ h', OutP 1 encS r b h' (l ++ rest.flatMap fun s => (goOn d (w ++ s)).filter fun w => cs.all fun c => fitB c w) → FrC r h0 h' → R (.exit 2) [] h') →
    Cx (.loop lp173_1) [(0, .int .i64 n), (1, v), (2, .str w), (3, .ptr r 0 0 1), (35, vs), (36, .int .i64 3), (37, .int .i64 pre.length)] h R k k
  | [], pre, l, h, hpre, ho, hb, hs, hss, hf, hl, hR => by
    have hll : pre.length = 3 := by have := congrArg List.length hpre; simp at this; omega
    rw [w_loopb (c := lp173_1) (d := lb173_1) rfl]; unfold lb173_1
    simp (maxSteps := 1000000) (disch := first | omega | rfl | (simp only [zL, two63, room] <;> omega) | fail) only [↓reduceIte, ↓zP, zW, WOp, evOp, evBin, binI, binSh, binS, evNil, keyIs, keyEq, mkv, AV.cells, AV.sc, optv, bnd, env, put, Env.get, Env.set, Env.del, Env.dels, Env.init, res1, resL, resV, fillP, splice, newRow, Nat.reduceEqDiff, Nat.reduceLT, Nat.reduceLeDiff, Nat.reduceAdd, Nat.reduceMul, Nat.reduceSub, Nat.reduceBEq, reduceCtorEq, ↓zR, zQ, Tr, StA, StT, hll]
    exact hR h (by simpa using ho) hf
  | s :: rest, pre, l, h, hpre, ho, hb, hs, hss, hf, hl, hR => by
    have ihl := lp_pzLook1 ih hn w hwd hw vs (h0 := h0) (R := R) rest (pre ++ [s])
    have hll : pre.length + 1 + rest.length = 3 := by have := congrArg List.length hpre; simp at this; omega
    have hs3 : s ∈ S3 := by rw [hpre]; simp
    have hsg : s.length = 1 ∧ s.all isSign = true := by
      simp only [List.mem_cons, List.not_mem_nil, or_false] at hs3
      rcases hs3 with rfl | rfl | rfl <;> exact ⟨rfl, rfl⟩
    have hss' := hss
    rw [hpre] at hss'
    obtain ⟨c1, k1, o1, hv, hr⟩ := hss'.1.at hlS
    rw [← hpre] at hv
    subst hv
    have hlt : (pre.length : Int) < 3 := by omega
    have hw1 : (pre.length : Int) + 1 = ((pre ++ [s]).length : Int) := by simp
    have hlS3 : (S3.length : Nat) = 3 := rfl
    rw [w_loopb (c := lp173_1) (d := lb173_1) rfl]; unfold lb173_1
    simp (maxSteps := 1000000) (disch := first | omega | rfl | (simp only [zL, two63, room] <;> omega) | fail) only [↓reduceIte, ↓zP, zW, WOp, evOp, evBin, binI, binSh, binS, evNil, keyIs, keyEq, mkv, AV.cells, AV.sc, optv, bnd, env, put, Env.get, Env.set, Env.del, Env.dels, Env.init, res1, resL, resV, fillP, splice, newRow, Nat.reduceEqDiff, Nat.reduceLT, Nat.reduceLeDiff, Nat.reduceAdd, Nat.reduceMul, Nat.reduceSub, Nat.reduceBEq, reduceCtorEq, ↓zR, zQ, Tr, StA, StT, hlt, hr, hlS3]
    simp only [List.length_cons] at hl
    rw [Nat.succ_mul] at hl
    refine ih (w ++ s) h l (by simp; omega) (by simp [hw, hsg.2]) ho hb hs (by omega) _ ?_
    intro h2 ho2 hf2
    have hfl : ((goOn d (w ++ s)).filter fun w => cs.all fun c => fitB c w).length ≤ 3 ^ d := by rw [← goOn_length d (w ++ s)]; exact List.length_filter_le _ _
    simp (maxSteps := 1000000) (disch := first | omega | rfl | (simp only [zL, two63, room] <;> omega) | fail) only [↓reduceIte, ↓zP, zW, WOp, evOp, evBin, binI, binSh, binS, evNil, keyIs, keyEq, mkv, AV.cells, AV.sc, optv, bnd, env, put, Env.get, Env.set, Env.del, Env.dels, Env.init, res1, resL, resV, fillP, splice, newRow, Nat.reduceEqDiff, Nat.reduceLT, Nat.reduceLeDiff, Nat.reduceAdd, Nat.reduceMul, Nat.reduceSub, Nat.reduceBEq, reduceCtorEq, ↓zR, zQ, Tr, StA, StT, hw1]
    rw [w_loopn (c := lp173_1) rfl]
    simp (maxSteps := 1000000) (disch := first | omega | rfl | (simp only [zL, two63, room] <;> omega) | fail) only [↓reduceIte, ↓zP, zW, WOp, evOp, evBin, binI, binSh, binS, evNil, keyIs, keyEq, mkv, AV.cells, AV.sc, optv, bnd, env, put, Env.get, Env.set, Env.del, Env.dels, Env.init, res1, resL, resV, fillP, splice, newRow, Nat.reduceEqDiff, Nat.reduceLT, Nat.reduceLeDiff, Nat.reduceAdd, Nat.reduceMul, Nat.reduceSub, Nat.reduceBEq, reduceCtorEq, ↓zR, zQ, Tr, StA, StT]
    refine ihl _ h2 (by rw [hpre]; simp) ho2 (Nat.le_trans hb hf2.1) (hs.fr hf2) (hss.fr hf2) (hf.trans hf2) (by simp; omega) ?_
    intro h' ho' hf'
    exact hR h' (by simpa using ho') hf'
theorem c_pzLook {n : Nat} (hn : n ≤ 5) {v : AV} {cs : List Clu} (hlen : cs.length < 2 ^ 30) (hok : ∀ c ∈ cs, clueOk n c = true) {b : AH} {r : Nat} : ∀ d : Nat, LookAt n v cs b r d
  | 0 => by
    intro w h l hwd hw ho hb hs hl post hp
    have hlw : w.length = n := by omega
    refine S_of rfl T173 ?_; unfold fi173
    have hv := fun g => Slc.lenV (hs.1) (g := g) (ρ := fun _ => _) (x := .t 0) rfl; simp only [evOp] at hv
    simp (maxSteps := 1000000) (disch := first | omega | rfl | (simp only [zL, two63, room] <;> omega) | fail) only [↓reduceIte, ↓zP, zW, WOp, evOp, evBin, binI, binSh, binS, evNil, keyIs, keyEq, mkv, AV.cells, AV.sc, optv, bnd, env, put, Env.get, Env.set, Env.del, Env.dels, Env.init, res1, resL, resV, fillP, splice, newRow, Nat.reduceEqDiff, Nat.reduceLT, Nat.reduceLeDiff, Nat.reduceAdd, Nat.reduceMul, Nat.reduceSub, Nat.reduceBEq, reduceCtorEq, ↓zR, zQ, Tr, StA, StT, hlw, hv]
    refine lp_pzLook0 hs.1 hlen w hw (by omega) (by rw [hlw]; exact hok) _ cs [] h rfl (Pre.refl _) ?_ ?_
    · intro h2 hp2 hall
      obtain ⟨vo, v', h3, r1, r2, r3, r4, r5, r6, r7, r8⟩ := (ho.pre hp2).push hlS scS (Nat.le_trans hb hp2.1) w (by omega)
      simp only [AV.cells] at r4
      simp (maxSteps := 1000000) (disch := first | omega | rfl | (simp only [zL, two63, room] <;> omega) | fail) only [↓reduceIte, ↓zP, zW, WOp, evOp, evBin, binI, binSh, binS, evNil, keyIs, keyEq, mkv, AV.cells, AV.sc, optv, bnd, env, put, Env.get, Env.set, Env.del, Env.dels, Env.init, res1, resL, resV, fillP, splice, newRow, Nat.reduceEqDiff, Nat.reduceLT, Nat.reduceLeDiff, Nat.reduceAdd, Nat.reduceMul, Nat.reduceSub, Nat.reduceBEq, reduceCtorEq, ↓zR, zQ, Tr, StA, StT, r1, r2, r3, r4, r6]
      have hg : (goOn 0 w).filter (fun w => cs.all fun c => fitB c w) = [w] := by simp [goOn, hall]
      rw [hg] at hp
      exact hp _ r7 ((hp2.frc ho.lt).trans r8)
    · intro h2 hp2 hall
      have hg : (goOn 0 w).filter (fun w => cs.all fun c => fitB c w) = [] := by simp [goOn, hall]
      rw [hg, List.append_nil] at hp
      simp (maxSteps := 1000000) (disch := first | omega | rfl | (simp only [zL, two63, room] <;> omega) | fail) only [↓reduceIte, ↓zP, zW, WOp, evOp, evBin, binI, binSh, binS, evNil, keyIs, keyEq, mkv, AV.cells, AV.sc, optv, bnd, env, put, Env.get, Env.set, Env.del, Env.dels, Env.init, res1, resL, resV, fillP, splice, newRow, Nat.reduceEqDiff, Nat.reduceLT, Nat.reduceLeDiff, Nat.reduceAdd, Nat.reduceMul, Nat.reduceSub, Nat.reduceBEq, reduceCtorEq, ↓zR, zQ, Tr, StA, StT]
      exact hp _ (ho.pre hp2) (hp2.frc ho.lt)
  | d + 1 => by
    intro w h l hwd hw ho hb hs hl post hp
    have ih := c_pzLook hn (v := v) hlen hok (b := b) (r := r) d
    have hne : ((w.length : Int) == (n : Int)) = false := by simp; omega
    refine S_of rfl T173 ?_; unfold fi173
    simp (maxSteps := 1000000) (disch := first | omega | rfl | (simp only [zL, two63, room] <;> omega) | fail) only [↓reduceIte, ↓zP, zW, WOp, evOp, evBin, binI, binSh, binS, evNil, keyIs, keyEq, mkv, AV.cells, AV.sc, optv, bnd, env, put, Env.get, Env.set, Env.del, Env.dels, Env.init, res1, resL, resV, fillP, splice, newRow, Nat.reduceEqDiff, Nat.reduceLT, Nat.reduceLeDiff, Nat.reduceAdd, Nat.reduceMul, Nat.reduceSub, Nat.reduceBEq, reduceCtorEq, ↓zR, zQ, Tr, StA, StT, hne]
    have hp2 := Pre.push h (AO.row [.str [46], .str [70], .str [84]] 0 0 false)
    have hs3 : SlcC 1 encS r (h ++ [AO.row [.str [46], .str [70], .str [84]] 0 0 false]) (.slice h.length 0 0 3 1) S3 := by
      refine ⟨⟨rfl, rfl, rfl, rd_lasT ⟨Nat.le_refl _, Nat.le_refl _, Nat.le_refl _⟩⟩, fun i hi => ?_⟩
      simp only [rowOf, Option.some.injEq] at hi
      exact ho.fresh hp2 (by omega)
    have hf2 := hp2.frc (c := r) ho.lt
    refine lp_pzLook1 ih hn w hwd hw _ (h0 := h) S3 [] l _ rfl (ho.pre hp2) (Nat.le_trans hb hp2.1) (hs.fr hf2) hs3 hf2 ?_ ?_
    · simp only [List.length_cons, List.length_nil]; rw [Nat.pow_succ] at hl; omega
    · intro h' ho' hf'
      simp (maxSteps := 1000000) (disch := first | omega | rfl | (simp only [zL, two63, room] <;> omega) | fail) only [↓reduceIte, ↓zP, zW, WOp, evOp, evBin, binI, binSh, binS, evNil, keyIs, keyEq, mkv, AV.cells, AV.sc, optv, bnd, env, put, Env.get, Env.set, Env.del, Env.dels, Env.init, res1, resL, resV, fillP, splice, newRow, Nat.reduceEqDiff, Nat.reduceLT, Nat.reduceLeDiff, Nat.reduceAdd, Nat.reduceMul, Nat.reduceSub, Nat.reduceBEq, reduceCtorEq, ↓zR, zQ, Tr, StA, StT]
      refine hp h' ?_ hf'
      simpa [goOn] using ho'
theorem c_pzAll (n : Nat) (hn : n ≤ 5) {v : AV} {cs : List Clu} (hlen : cs.length < 2 ^ 30) (hok : ∀ c ∈ cs, clueOk n c = true) {h : AH} (hs : Slc 3 encC h v cs) {post : AV → AH → Prop} (hp : ∀ o' h', OwL 1 encS h h' o' (fitL n cs) → Pre h h' → post o' h') : S 161 [.int .i64 n, v] h post k := by
  have hpush := Pre.push h (AO.row [.nilS] 0 0 false)
  have ho : OutP 1 encS h.length h (h ++ [AO.row [.nilS] 0 0 false]) [] := ⟨.nilS, by simp, OwL.nil, by simp [rowOf]⟩
  have hng : ∀ i, i < h.length → ¬ grc h.length (h ++ [AO.row [.nilS] 0 0 false]) i := by
    rintro i hi (rfl | ⟨cs, ver, fl, ro, e1, v, hv, e2⟩)
    · exact Nat.lt_irrefl _ hi
    · simp at e1
      obtain ⟨rfl, _⟩ := e1
      simp at hv
      subst hv
      simp [rowOf] at e2
  have hs1 : SlcC 3 encC h.length (h ++ [AO.row [.nilS] 0 0 false]) v cs := by
    refine ⟨hs.pre hpush, fun i hi => hng i ?_⟩
    unfold Slc Sl at hs
    cases v <;> simp only [rowOf] at hi hs <;> first
      | (cases hi; done)
      | (cases hi; exact rd_lt hs.2.2.2)
  have hpow : 3 ^ n ≤ 3 ^ 5 := Nat.pow_le_pow_right (by omega) hn
  refine S_of rfl T161 ?_; unfold fi161
  simp (maxSteps := 1000000) (disch := first | omega | rfl | (simp only [zL, two63, room] <;> omega) | fail) only [↓reduceIte, ↓zP, zW, WOp, evOp, evBin, binI, binSh, binS, evNil, keyIs, keyEq, mkv, AV.cells, AV.sc, optv, bnd, env, put, Env.get, Env.set, Env.del, Env.dels, Env.init, res1, resL, resV, fillP, splice, newRow, Nat.reduceEqDiff, Nat.reduceLT, Nat.reduceLeDiff, Nat.reduceAdd, Nat.reduceMul, Nat.reduceSub, Nat.reduceBEq, reduceCtorEq, ↓zR, zQ, Tr, StA, StT]
  refine c_pzLook hn hlen hok n [] _ [] (by simp) rfl ho hpush.1 hs1 (by simp; omega) _ ?_
  intro h2 ho2 hf2
  rw [goOn_all, List.nil_append] at ho2
  obtain ⟨vo, hr, hown⟩ := ho2.rd
  simp (maxSteps := 1000000) (disch := first | omega | rfl | (simp only [zL, two63, room] <;> omega) | fail) only [↓reduceIte, ↓zP, zW, WOp, evOp, evBin, binI, binSh, binS, evNil, keyIs, keyEq, mkv, AV.cells, AV.sc, optv, bnd, env, put, Env.get, Env.set, Env.del, Env.dels, Env.init, res1, resL, resV, fillP, splice, newRow, Nat.reduceEqDiff, Nat.reduceLT, Nat.reduceLeDiff, Nat.reduceAdd, Nat.reduceMul, Nat.reduceSub, Nat.reduceBEq, reduceCtorEq, ↓zR, zQ, Tr, StA, StT, hr]
  refine hp vo h2 hown ⟨by have := hf2.1; simp at this; omega, fun i hi => ?_⟩
  rw [(hf2.2 i (by simp; omega) (hng i hi)).1, hpush.2 i hi]
end Go.Proofs.YtnkkgghpfgihfaaDoor.Ab

/- PUZZLES: which there are, their solutions; the law's helpers. -/
namespace Go.Proofs.YtnkkgghpfgihfaaDoor.Ab
open Go
set_option maxRecDepth 100000
set_option maxHeartbeats 4000000

def goodP (n : Int) (cs : List Clu) : Bool := decide (1 ≤ n ∧ n ≤ 5) && (decide (cs.length ≤ 6) && cs.all fun c => clueOk n c)
theorem goodP_iff {n : Int} {cs : List Clu} (h : goodP n cs = true) : ∃ m : Nat, n = m ∧ 1 ≤ m ∧ m ≤ 5 ∧ cs.length ≤ 6 ∧ ∀ c ∈ cs, clueOk n c = true := by
  simp only [goodP, Bool.and_eq_true, decide_eq_true_eq, List.all_eq_true] at h
  obtain ⟨⟨h1, h2⟩, h3, h4⟩ := h
  exact ⟨n.toNat, by omega, by omega, by omega, h3, h4⟩
theorem lp_pzGood (n : Int) (hn : 1 ≤ n ∧ n ≤ 5) {v : AV} {cs : List Clu} (hlen : cs.length < 2 ^ 30) {h0 : AH} {r : Nat} (hr0 : rdRow h0 r 0 0 1 = some [.int .i64 n]) (hs : Slc 3 encC h0 v cs) {R : X → Env → AH → Prop} : ∀ (rest pre : List Clu) (h : AH), cs = pre ++ rest → Pre h0 h →
    (∀ h', Pre h0 h' → (rest.all fun c => clueOk n c) = true → R (.exit 0) [] h') → (∀ h', Pre h0 h' → (rest.all fun c => clueOk n c) = false → R .ret [(2, .bool false)] h') →
    Cx (.loop lp160_0) [(1, .ptr r 0 0 2), (16, v), (17, .int .i64 cs.length), (18, .int .i64 pre.length)] h R k k
  | [], pre, h, hpre, hp, h1, h2 => by
    subst hpre
    rw [w_loopb (c := lp160_0) (d := lb160_0) rfl]; unfold lb160_0
    simp only [List.append_nil]
    simp (maxSteps := 1000000) (disch := first | omega | rfl | (simp only [zL, two63, room] <;> omega) | fail) only [↓reduceIte, ↓zP, zW, WOp, evOp, evBin, binI, binSh, binS, evNil, keyIs, keyEq, mkv, AV.cells, AV.sc, optv, bnd, env, put, Env.get, Env.set, Env.del, Env.dels, Env.init, res1, resL, resV, fillP, splice, newRow, Nat.reduceEqDiff, Nat.reduceLT, Nat.reduceLeDiff, Nat.reduceAdd, Nat.reduceMul, Nat.reduceSub, Nat.reduceBEq, reduceCtorEq, ↓zR, zQ, Tr, StA, StT]
    exact h1 h hp rfl
  | c :: rest, pre, h, hpre, hp, h1, h2 => by
    have ih := lp_pzGood n hn hlen hr0 hs (R := R) rest (pre ++ [c])
    have hll : cs.length = pre.length + 1 + rest.length := by rw [hpre]; simp; omega
    have hs' := hs.pre hp
    rw [hpre] at hs'
    obtain ⟨r1, k1, o1, hv, hr⟩ := hs'.at hlC
    rw [← hpre, hll] at hv
    subst hv
    rw [hll] at ih hlen ⊢
    have hlt : (pre.length : Int) < ((pre.length + 1 + rest.length : Nat) : Int) := by omega
    have hw1 : (pre.length : Int) + 1 = ((pre ++ [c]).length : Int) := by simp
    have hrr := rdRow_pre hp hr0
    have hrl := rd_lt hrr
    have hpush := Pre.push h (AO.row (encC c) 0 0 false)
    rw [w_loopb (c := lp160_0) (d := lb160_0) rfl]; unfold lb160_0
    simp (maxSteps := 1000000) (disch := first | omega | rfl | (simp only [zL, two63, room] <;> omega) | fail) only [↓reduceIte, ↓zP, zW, WOp, evOp, evBin, binI, binSh, binS, evNil, keyIs, keyEq, mkv, AV.cells, AV.sc, optv, bnd, env, put, Env.get, Env.set, Env.del, Env.dels, Env.init, res1, resL, resV, fillP, splice, newRow, Nat.reduceEqDiff, Nat.reduceLT, Nat.reduceLeDiff, Nat.reduceAdd, Nat.reduceMul, Nat.reduceSub, Nat.reduceBEq, reduceCtorEq, ↓zR, zQ, Tr, StA, StT, hlt, hr, hrr]
    refine c_pzClue n c.1 c.2.1 c.2.2 (by omega) ?_
    intro h3 hp3
    have hpp : Pre h0 h3 := hp.trans (hpush.trans hp3)
    cases e : clueOk n c
    · simp (maxSteps := 1000000) (disch := first | omega | rfl | (simp only [zL, two63, room] <;> omega) | fail) only [↓reduceIte, ↓zP, zW, WOp, evOp, evBin, binI, binSh, binS, evNil, keyIs, keyEq, mkv, AV.cells, AV.sc, optv, bnd, env, put, Env.get, Env.set, Env.del, Env.dels, Env.init, res1, resL, resV, fillP, splice, newRow, Nat.reduceEqDiff, Nat.reduceLT, Nat.reduceLeDiff, Nat.reduceAdd, Nat.reduceMul, Nat.reduceSub, Nat.reduceBEq, reduceCtorEq, ↓zR, zQ, Tr, StA, StT, e]
      exact h2 h3 hpp (by rw [List.all_cons, e]; rfl)
    · simp (maxSteps := 1000000) (disch := first | omega | rfl | (simp only [zL, two63, room] <;> omega) | fail) only [↓reduceIte, ↓zP, zW, WOp, evOp, evBin, binI, binSh, binS, evNil, keyIs, keyEq, mkv, AV.cells, AV.sc, optv, bnd, env, put, Env.get, Env.set, Env.del, Env.dels, Env.init, res1, resL, resV, fillP, splice, newRow, Nat.reduceEqDiff, Nat.reduceLT, Nat.reduceLeDiff, Nat.reduceAdd, Nat.reduceMul, Nat.reduceSub, Nat.reduceBEq, reduceCtorEq, ↓zR, zQ, Tr, StA, StT, e, hw1]
      rw [w_loopn (c := lp160_0) rfl]
      simp (maxSteps := 1000000) (disch := first | omega | rfl | (simp only [zL, two63, room] <;> omega) | fail) only [↓reduceIte, ↓zP, zW, WOp, evOp, evBin, binI, binSh, binS, evNil, keyIs, keyEq, mkv, AV.cells, AV.sc, optv, bnd, env, put, Env.get, Env.set, Env.del, Env.dels, Env.init, res1, resL, resV, fillP, splice, newRow, Nat.reduceEqDiff, Nat.reduceLT, Nat.reduceLeDiff, Nat.reduceAdd, Nat.reduceMul, Nat.reduceSub, Nat.reduceBEq, reduceCtorEq, ↓zR, zQ, Tr, StA, StT]
      exact ih h3 (by rw [hpre]; simp) hpp (fun h' q1 q2 => h1 h' q1 (by rw [List.all_cons, e, q2]; rfl)) (fun h' q1 q2 => h2 h' q1 (by rw [List.all_cons, e, q2]; rfl))
abbrev pzV (n : Int) (v : AV) : AV := .agg [.int .i64 n, v]
theorem sl_cells {α : Type} {esz : Nat} {enc : α → List AV} {h : AH} {v : AV} {L : List α} (hs : Slc esz enc h v L) : v.cells = [v] ∧ v.sc = true := by
  unfold Slc Sl at hs
  cases v <;> simp only at hs <;> first
    | exact ⟨rfl, rfl⟩
    | (exact hs.elim)
theorem c_pzGood (n : Int) {v : AV} {cs : List Clu} (hlen : cs.length < 2 ^ 30) {h : AH} (hs : Slc 3 encC h v cs) {post : AV → AH → Prop} (hp : ∀ h', Pre h h' → post (.bool (goodP n cs)) h') : S 160 [pzV n v] h post k := by
  have hpush := Pre.push h (AO.row [.int .i64 n, v] 0 0 false)
  have hsc := (sl_cells hs).2
  unfold AV.sc at hsc
  refine S_of rfl T160 ?_; unfold fi160
  unfold goodP at hp
  have hv := fun g => Slc.lenV (hs) (g := g) (ρ := fun _ => _) (x := .t 0) rfl; simp only [evOp] at hv
  by_cases h5 : 1 ≤ n ∧ n ≤ 5
  case neg =>
    simp (maxSteps := 1000000) (disch := first | omega | rfl | (simp only [zL, two63, room] <;> omega) | fail) only [↓reduceIte, ↓zP, zW, WOp, evOp, evBin, binI, binSh, binS, evNil, keyIs, keyEq, mkv, AV.cells, AV.sc, optv, bnd, env, put, Env.get, Env.set, Env.del, Env.dels, Env.init, res1, resL, resV, fillP, splice, newRow, Nat.reduceEqDiff, Nat.reduceLT, Nat.reduceLeDiff, Nat.reduceAdd, Nat.reduceMul, Nat.reduceSub, Nat.reduceBEq, reduceCtorEq, ↓zR, zQ, Tr, StA, StT, e_pzCells, h5, hsc]
    simpa [h5] using hp _ hpush
  by_cases h6 : cs.length ≤ 6
  case neg =>
    have h6' : (cs.length : Int) > 6 := by omega
    simp (maxSteps := 1000000) (disch := first | omega | rfl | (simp only [zL, two63, room] <;> omega) | fail) only [↓reduceIte, ↓zP, zW, WOp, evOp, evBin, binI, binSh, binS, evNil, keyIs, keyEq, mkv, AV.cells, AV.sc, optv, bnd, env, put, Env.get, Env.set, Env.del, Env.dels, Env.init, res1, resL, resV, fillP, splice, newRow, Nat.reduceEqDiff, Nat.reduceLT, Nat.reduceLeDiff, Nat.reduceAdd, Nat.reduceMul, Nat.reduceSub, Nat.reduceBEq, reduceCtorEq, ↓zR, zQ, Tr, StA, StT, e_pzCells, h5, hv, h6', hsc]
    simpa [h6] using hp _ hpush
  have h6' : ¬ ((cs.length : Int) > 6) := by omega
  simp (maxSteps := 1000000) (disch := first | omega | rfl | (simp only [zL, two63, room] <;> omega) | fail) only [↓reduceIte, ↓zP, zW, WOp, evOp, evBin, binI, binSh, binS, evNil, keyIs, keyEq, mkv, AV.cells, AV.sc, optv, bnd, env, put, Env.get, Env.set, Env.del, Env.dels, Env.init, res1, resL, resV, fillP, splice, newRow, Nat.reduceEqDiff, Nat.reduceLT, Nat.reduceLeDiff, Nat.reduceAdd, Nat.reduceMul, Nat.reduceSub, Nat.reduceBEq, reduceCtorEq, ↓zR, zQ, Tr, StA, StT, e_pzCells, h5, hv, h6', hsc]
  refine lp_pzGood n h5 hlen (r := h.length) ?_ (hs.pre hpush) cs [] _ rfl (Pre.refl _) ?_ ?_
  · rw [rd_last, if_pos (by simp)]; simp
  · intro h' hp' hall
    simp (maxSteps := 1000000) (disch := first | omega | rfl | (simp only [zL, two63, room] <;> omega) | fail) only [↓reduceIte, ↓zP, zW, WOp, evOp, evBin, binI, binSh, binS, evNil, keyIs, keyEq, mkv, AV.cells, AV.sc, optv, bnd, env, put, Env.get, Env.set, Env.del, Env.dels, Env.init, res1, resL, resV, fillP, splice, newRow, Nat.reduceEqDiff, Nat.reduceLT, Nat.reduceLeDiff, Nat.reduceAdd, Nat.reduceMul, Nat.reduceSub, Nat.reduceBEq, reduceCtorEq, ↓zR, zQ, Tr, StA, StT]
    simpa [h5, h6, hall] using hp h' (hpush.trans hp')
  · intro h' hp' hall
    simp (maxSteps := 1000000) (disch := first | omega | rfl | (simp only [zL, two63, room] <;> omega) | fail) only [↓reduceIte, ↓zP, zW, WOp, evOp, evBin, binI, binSh, binS, evNil, keyIs, keyEq, mkv, AV.cells, AV.sc, optv, bnd, env, put, Env.get, Env.set, Env.del, Env.dels, Env.init, res1, resL, resV, fillP, splice, newRow, Nat.reduceEqDiff, Nat.reduceLT, Nat.reduceLeDiff, Nat.reduceAdd, Nat.reduceMul, Nat.reduceSub, Nat.reduceBEq, reduceCtorEq, ↓zR, zQ, Tr, StA, StT]
    simpa [h5, h6, hall] using hp h' (hpush.trans hp')
theorem c_IsPuzzle1 (n : Int) (h5 : 1 ≤ n ∧ n ≤ 5) (c : Clu) {h : AH} {r : Nat} (hr : rdRow h r 0 0 1 = some [.int .i64 n]) {post : AV → AH → Prop} (hp : ∀ h', Pre h h' → post (.bool (!clueOk n c)) h') : S 176 [.agg (encC c), .ptr r 0 0 2] h post k := by
  have hpush := Pre.push h (AO.row (encC c) 0 0 false)
  have hrl := rd_lt hr
  refine S_of rfl T176 ?_; unfold fi176
  simp (maxSteps := 1000000) (disch := first | omega | rfl | (simp only [zL, two63, room] <;> omega) | fail) only [↓reduceIte, ↓zP, zW, WOp, evOp, evBin, binI, binSh, binS, evNil, keyIs, keyEq, mkv, AV.cells, AV.sc, optv, bnd, env, put, Env.get, Env.set, Env.del, Env.dels, Env.init, res1, resL, resV, fillP, splice, newRow, Nat.reduceEqDiff, Nat.reduceLT, Nat.reduceLeDiff, Nat.reduceAdd, Nat.reduceMul, Nat.reduceSub, Nat.reduceBEq, reduceCtorEq, ↓zR, zQ, Tr, StA, StT, hr]
  refine c_IsClue n c.1 c.2.1 c.2.2 (by omega) ?_
  intro h2 hp2
  have := hp h2 (hpush.trans hp2)
  simp (maxSteps := 1000000) (disch := first | omega | rfl | (simp only [zL, two63, room] <;> omega) | fail) only [↓reduceIte, ↓zP, zW, WOp, evOp, evBin, binI, binSh, binS, evNil, keyIs, keyEq, mkv, AV.cells, AV.sc, optv, bnd, env, put, Env.get, Env.set, Env.del, Env.dels, Env.init, res1, resL, resV, fillP, splice, newRow, Nat.reduceEqDiff, Nat.reduceLT, Nat.reduceLeDiff, Nat.reduceAdd, Nat.reduceMul, Nat.reduceSub, Nat.reduceBEq, reduceCtorEq, ↓zR, zQ, Tr, StA, StT, h5]
  exact this
theorem c_IsPuzzle (n : Int) {v : AV} {cs : List Clu} (hlen : cs.length < 2 ^ 30) {h : AH} (hs : Slc 3 encC h v cs) {post : AV → AH → Prop} (hp : ∀ h', Pre h h' → post (.bool (goodP n cs)) h') : S 166 [pzV n v] h post k := by
  have hpush := Pre.push h (AO.row [.int .i64 n, v] 0 0 false)
  have hsc := (sl_cells hs).2
  unfold AV.sc at hsc
  refine S_of rfl T166 ?_; unfold fi166
  unfold goodP at hp
  have hv := fun g => Slc.lenV (hs) (g := g) (ρ := fun _ => _) (x := .t 0) rfl; simp only [evOp] at hv
  by_cases h5 : 1 ≤ n ∧ n ≤ 5
  case neg =>
    simp (maxSteps := 1000000) (disch := first | omega | rfl | (simp only [zL, two63, room] <;> omega) | fail) only [↓reduceIte, ↓zP, zW, WOp, evOp, evBin, binI, binSh, binS, evNil, keyIs, keyEq, mkv, AV.cells, AV.sc, optv, bnd, env, put, Env.get, Env.set, Env.del, Env.dels, Env.init, res1, resL, resV, fillP, splice, newRow, Nat.reduceEqDiff, Nat.reduceLT, Nat.reduceLeDiff, Nat.reduceAdd, Nat.reduceMul, Nat.reduceSub, Nat.reduceBEq, reduceCtorEq, ↓zR, zQ, Tr, StA, StT, e_within, h5, hsc]
    simpa [h5] using hp _ hpush
  by_cases h6 : cs.length ≤ 6
  case neg =>
    have h6' : ¬ ((cs.length : Int) ≤ 6) := by omega
    simp (maxSteps := 1000000) (disch := first | omega | rfl | (simp only [zL, two63, room] <;> omega) | fail) only [↓reduceIte, ↓zP, zW, WOp, evOp, evBin, binI, binSh, binS, evNil, keyIs, keyEq, mkv, AV.cells, AV.sc, optv, bnd, env, put, Env.get, Env.set, Env.del, Env.dels, Env.init, res1, resL, resV, fillP, splice, newRow, Nat.reduceEqDiff, Nat.reduceLT, Nat.reduceLeDiff, Nat.reduceAdd, Nat.reduceMul, Nat.reduceSub, Nat.reduceBEq, reduceCtorEq, ↓zR, zQ, Tr, StA, StT, e_within, h5, hv, h6', hsc]
    simpa [h6] using hp _ hpush
  have h6' : (cs.length : Int) ≤ 6 := by omega
  simp (maxSteps := 1000000) (disch := first | omega | rfl | (simp only [zL, two63, room] <;> omega) | fail) only [↓reduceIte, ↓zP, zW, WOp, evOp, evBin, binI, binSh, binS, evNil, keyIs, keyEq, mkv, AV.cells, AV.sc, optv, bnd, env, put, Env.get, Env.set, Env.del, Env.dels, Env.init, res1, resL, resV, fillP, splice, newRow, Nat.reduceEqDiff, Nat.reduceLT, Nat.reduceLeDiff, Nat.reduceAdd, Nat.reduceMul, Nat.reduceSub, Nat.reduceBEq, reduceCtorEq, ↓zR, zQ, Tr, StA, StT, e_within, h5, hv, h6', hsc]
  refine c_ContainsFuncC _ _ (fun c => !clueOk n c) (fun h' => Pre (h ++ [AO.row [.int .i64 n, v] 0 0 false]) h') (v := v) (L := cs) (by omega) (fun h' hp' => (hs.pre hpush).pre hp') ?_ (Pre.refl _) ?_
  · intro c hc h' hp' post hpost
    refine c_IsPuzzle1 n h5 c (r := h.length) ?_ fun h'' hp'' => hpost h'' (hp'.trans hp'')
    refine rdRow_pre hp' ?_
    rw [rd_last, if_pos (by simp)]; simp
  · intro h' hp'
    have := hp h' (hpush.trans hp')
    have e : (cs.all fun c => clueOk n c) = !(cs.any fun c => !clueOk n c) := by
      rw [Bool.eq_iff_iff]; simp
    rw [e] at this
    simp (maxSteps := 1000000) (disch := first | omega | rfl | (simp only [zL, two63, room] <;> omega) | fail) only [↓reduceIte, ↓zP, zW, WOp, evOp, evBin, binI, binSh, binS, evNil, keyIs, keyEq, mkv, AV.cells, AV.sc, optv, bnd, env, put, Env.get, Env.set, Env.del, Env.dels, Env.init, res1, resL, resV, fillP, splice, newRow, Nat.reduceEqDiff, Nat.reduceLT, Nat.reduceLeDiff, Nat.reduceAdd, Nat.reduceMul, Nat.reduceSub, Nat.reduceBEq, reduceCtorEq, ↓zR, zQ, Tr, StA, StT]
    simpa [h5, h6] using this

def solN (n : Int) (cs : List Clu) : List (List UInt8) := fitL n.toNat cs
theorem c_Solutions (n : Int) {v : AV} {cs : List Clu} (hlen : cs.length < 2 ^ 30) {h : AH} (hs : Slc 3 encC h v cs) {post : AV → AH → Prop} (hp : ∀ v' h', OwW 1 encS h h' v' (if goodP n cs then solN n cs else []) → Pre h h' → post (.tup [v', .bool (goodP n cs)]) h') : S 163 [pzV n v] h post k := by
  have hpush := Pre.push h (AO.row [.int .i64 n, v] 0 0 false)
  have hsc := (sl_cells hs).2
  unfold AV.sc at hsc
  have r2 : rdRow (h ++ [AO.row [.int .i64 n, v] 0 0 false]) h.length 0 0 2 = some [.int .i64 n, v] := by rw [rd_last, if_pos (by simp)]; simp
  have r0 : rdRow (h ++ [AO.row [.int .i64 n, v] 0 0 false]) h.length 0 0 1 = some [.int .i64 n] := by rw [rd_last, if_pos (by simp)]; simp
  have r1 : rdRow (h ++ [AO.row [.int .i64 n, v] 0 0 false]) h.length 0 1 1 = some [v] := by rw [rd_last, if_pos (by simp)]; simp
  refine S_of rfl T163 ?_; unfold fi163
  simp (maxSteps := 1000000) (disch := first | omega | rfl | (simp only [zL, two63, room] <;> omega) | fail) only [↓reduceIte, ↓zP, zW, WOp, evOp, evBin, binI, binSh, binS, evNil, keyIs, keyEq, mkv, AV.cells, AV.sc, optv, bnd, env, put, Env.get, Env.set, Env.del, Env.dels, Env.init, res1, resL, resV, fillP, splice, newRow, Nat.reduceEqDiff, Nat.reduceLT, Nat.reduceLeDiff, Nat.reduceAdd, Nat.reduceMul, Nat.reduceSub, Nat.reduceBEq, reduceCtorEq, ↓zR, zQ, Tr, StA, StT, hsc]
  refine c_IsPuzzle n hlen (hs.pre hpush) ?_
  intro h2 hp2
  have q0 := rdRow_pre hp2 r0
  have q1 := rdRow_pre hp2 r1
  cases e : goodP n cs
  · rw [e] at hp
    simp (maxSteps := 1000000) (disch := first | omega | rfl | (simp only [zL, two63, room] <;> omega) | fail) only [↓reduceIte, ↓zP, zW, WOp, evOp, evBin, binI, binSh, binS, evNil, keyIs, keyEq, mkv, AV.cells, AV.sc, optv, bnd, env, put, Env.get, Env.set, Env.del, Env.dels, Env.init, res1, resL, resV, fillP, splice, newRow, Nat.reduceEqDiff, Nat.reduceLT, Nat.reduceLeDiff, Nat.reduceAdd, Nat.reduceMul, Nat.reduceSub, Nat.reduceBEq, reduceCtorEq, ↓zR, zQ, Tr, StA, StT]
    exact hp .nilS h2 rfl (hpush.trans hp2)
  · rw [e] at hp
    obtain ⟨m, rfl, m1, m5, m6, mok⟩ := goodP_iff e
    simp (maxSteps := 1000000) (disch := first | omega | rfl | (simp only [zL, two63, room] <;> omega) | fail) only [↓reduceIte, ↓zP, zW, WOp, evOp, evBin, binI, binSh, binS, evNil, keyIs, keyEq, mkv, AV.cells, AV.sc, optv, bnd, env, put, Env.get, Env.set, Env.del, Env.dels, Env.init, res1, resL, resV, fillP, splice, newRow, Nat.reduceEqDiff, Nat.reduceLT, Nat.reduceLeDiff, Nat.reduceAdd, Nat.reduceMul, Nat.reduceSub, Nat.reduceBEq, reduceCtorEq, ↓zR, zQ, Tr, StA, StT, q0, q1]
    refine c_solve m ⟨m1, m5⟩ hlen mok ((hs.pre hpush).pre hp2) ?_
    intro v' h3 ho hp3
    simp (maxSteps := 1000000) (disch := first | omega | rfl | (simp only [zL, two63, room] <;> omega) | fail) only [↓reduceIte, ↓zP, zW, WOp, evOp, evBin, binI, binSh, binS, evNil, keyIs, keyEq, mkv, AV.cells, AV.sc, optv, bnd, env, put, Env.get, Env.set, Env.del, Env.dels, Env.init, res1, resL, resV, fillP, splice, newRow, Nat.reduceEqDiff, Nat.reduceLT, Nat.reduceLeDiff, Nat.reduceAdd, Nat.reduceMul, Nat.reduceSub, Nat.reduceBEq, reduceCtorEq, ↓zR, zQ, Tr, StA, StT]
    refine hp v' h3 ?_ ((hpush.trans hp2).trans hp3)
    rw [if_pos rfl]
    exact ho.base (hpush.trans hp2).1
def countP (n : Int) (cs : List Clu) : Int := if goodP n cs then (solN n cs).length else 0
theorem c_CountSolutions (n : Int) {v : AV} {cs : List Clu} (hlen : cs.length < 2 ^ 30) {h : AH} (hs : Slc 3 encC h v cs) {post : AV → AH → Prop} (hp : ∀ h', Pre h h' → post (.tup [.int .i64 (countP n cs), .bool (goodP n cs)]) h') : S 138 [pzV n v] h post k := by
  have hpush := Pre.push h (AO.row [.int .i64 n, v] 0 0 false)
  have hsc := (sl_cells hs).2
  unfold AV.sc at hsc
  refine S_of rfl T138 ?_; unfold fi138
  simp (maxSteps := 1000000) (disch := first | omega | rfl | (simp only [zL, two63, room] <;> omega) | fail) only [↓reduceIte, ↓zP, zW, WOp, evOp, evBin, binI, binSh, binS, evNil, keyIs, keyEq, mkv, AV.cells, AV.sc, optv, bnd, env, put, Env.get, Env.set, Env.del, Env.dels, Env.init, res1, resL, resV, fillP, splice, newRow, Nat.reduceEqDiff, Nat.reduceLT, Nat.reduceLeDiff, Nat.reduceAdd, Nat.reduceMul, Nat.reduceSub, Nat.reduceBEq, reduceCtorEq, ↓zR, zQ, Tr, StA, StT, hsc]
  refine c_Solutions n hlen (hs.pre hpush) ?_
  intro v' h2 ho hp2
  have := hp h2 (hpush.trans hp2)
  have hsl := ho.slc hlS
  have hv := fun g => Slc.lenV (hsl) (g := g) (ρ := fun _ => _) (x := .t 0) rfl; simp only [evOp] at hv
  simp (maxSteps := 1000000) (disch := first | omega | rfl | (simp only [zL, two63, room] <;> omega) | fail) only [↓reduceIte, ↓zP, zW, WOp, evOp, evBin, binI, binSh, binS, evNil, keyIs, keyEq, mkv, AV.cells, AV.sc, optv, bnd, env, put, Env.get, Env.set, Env.del, Env.dels, Env.init, res1, resL, resV, fillP, splice, newRow, Nat.reduceEqDiff, Nat.reduceLT, Nat.reduceLeDiff, Nat.reduceAdd, Nat.reduceMul, Nat.reduceSub, Nat.reduceBEq, reduceCtorEq, ↓zR, zQ, Tr, StA, StT, hv]
  unfold countP at this
  cases e : goodP n cs <;> simpa [e] using this
theorem c_sCountSolutions (n : Int) {v : AV} {cs : List Clu} (hlen : cs.length < 2 ^ 30) {h : AH} (hs : Slc 3 encC h v cs) {post : AV → AH → Prop} (hp : ∀ h', Pre h h' → post (.tup [.int .i64 (countP n cs), .bool (goodP n cs)]) h') : S 137 [pzV n v] h post k := by
  have hpush := Pre.push h (AO.row [.int .i64 n, v] 0 0 false)
  have hsc := (sl_cells hs).2
  unfold AV.sc at hsc
  have r2 : rdRow (h ++ [AO.row [.int .i64 n, v] 0 0 false]) h.length 0 0 2 = some [.int .i64 n, v] := by rw [rd_last, if_pos (by simp)]; simp
  have r0 : rdRow (h ++ [AO.row [.int .i64 n, v] 0 0 false]) h.length 0 0 1 = some [.int .i64 n] := by rw [rd_last, if_pos (by simp)]; simp
  have r1 : rdRow (h ++ [AO.row [.int .i64 n, v] 0 0 false]) h.length 0 1 1 = some [v] := by rw [rd_last, if_pos (by simp)]; simp
  refine S_of rfl T137 ?_; unfold fi137
  simp (maxSteps := 1000000) (disch := first | omega | rfl | (simp only [zL, two63, room] <;> omega) | fail) only [↓reduceIte, ↓zP, zW, WOp, evOp, evBin, binI, binSh, binS, evNil, keyIs, keyEq, mkv, AV.cells, AV.sc, optv, bnd, env, put, Env.get, Env.set, Env.del, Env.dels, Env.init, res1, resL, resV, fillP, splice, newRow, Nat.reduceEqDiff, Nat.reduceLT, Nat.reduceLeDiff, Nat.reduceAdd, Nat.reduceMul, Nat.reduceSub, Nat.reduceBEq, reduceCtorEq, ↓zR, zQ, Tr, StA, StT, hsc]
  refine c_pzGood n hlen (hs.pre hpush) ?_
  intro h2 hp2
  have q0 := rdRow_pre hp2 r0
  have q1 := rdRow_pre hp2 r1
  unfold countP at hp
  cases e : goodP n cs
  · rw [e] at hp
    simp (maxSteps := 1000000) (disch := first | omega | rfl | (simp only [zL, two63, room] <;> omega) | fail) only [↓reduceIte, ↓zP, zW, WOp, evOp, evBin, binI, binSh, binS, evNil, keyIs, keyEq, mkv, AV.cells, AV.sc, optv, bnd, env, put, Env.get, Env.set, Env.del, Env.dels, Env.init, res1, resL, resV, fillP, splice, newRow, Nat.reduceEqDiff, Nat.reduceLT, Nat.reduceLeDiff, Nat.reduceAdd, Nat.reduceMul, Nat.reduceSub, Nat.reduceBEq, reduceCtorEq, ↓zR, zQ, Tr, StA, StT]
    exact hp h2 (hpush.trans hp2)
  · rw [e] at hp
    obtain ⟨m, rfl, m1, m5, m6, mok⟩ := goodP_iff e
    simp (maxSteps := 1000000) (disch := first | omega | rfl | (simp only [zL, two63, room] <;> omega) | fail) only [↓reduceIte, ↓zP, zW, WOp, evOp, evBin, binI, binSh, binS, evNil, keyIs, keyEq, mkv, AV.cells, AV.sc, optv, bnd, env, put, Env.get, Env.set, Env.del, Env.dels, Env.init, res1, resL, resV, fillP, splice, newRow, Nat.reduceEqDiff, Nat.reduceLT, Nat.reduceLeDiff, Nat.reduceAdd, Nat.reduceMul, Nat.reduceSub, Nat.reduceBEq, reduceCtorEq, ↓zR, zQ, Tr, StA, StT, q0, q1]
    refine c_pzAll m m5 hlen mok ((hs.pre hpush).pre hp2) ?_
    intro v' h3 ho hp3
    have hv := fun g => Slc.lenV (ho.slc) (g := g) (ρ := fun _ => _) (x := .t 0) rfl; simp only [evOp] at hv
    simp (maxSteps := 1000000) (disch := first | omega | rfl | (simp only [zL, two63, room] <;> omega) | fail) only [↓reduceIte, ↓zP, zW, WOp, evOp, evBin, binI, binSh, binS, evNil, keyIs, keyEq, mkv, AV.cells, AV.sc, optv, bnd, env, put, Env.get, Env.set, Env.del, Env.dels, Env.init, res1, resL, resV, fillP, splice, newRow, Nat.reduceEqDiff, Nat.reduceLT, Nat.reduceLeDiff, Nat.reduceAdd, Nat.reduceMul, Nat.reduceSub, Nat.reduceBEq, reduceCtorEq, ↓zR, zQ, Tr, StA, StT, hv]
    exact hp h3 ((hpush.trans hp2).trans hp3)

/-! ### The law's helpers -/
theorem c_szPuzzle (n : Int) {v : AV} {cs : List Clu} (hlen : cs.length < 2 ^ 63) {h : AH} (hs : Slc 3 encC h v cs) {post : AV → AH → Prop} (hp : ∀ h', Pre h h' → post (.int .i64 (if cs.length ≤ 1048576 then 1048576 - (cs.length : Int) else -1)) h') : S 135 [pzV n v, .int .i64 1048576] h post k := by
  have hpush := Pre.push h (AO.row [.int .i64 n, v] 0 0 false)
  have hsc := (sl_cells hs).2
  unfold AV.sc at hsc
  have hq := hp _ hpush
  have hv := fun g => Slc.lenV (hs) (g := g) (ρ := fun _ => _) (x := .t 0) rfl; simp only [evOp] at hv
  have e1 : S 159 [v, .int .i64 1048576] (h ++ [AO.row [.int .i64 n, v] 0 0 false]) = S 159 [v, .int .i64 1048576] (h ++ [AO.row [.int .i64 n, v] 0 0 false]) := rfl
  refine S_of rfl T135 ?_; unfold fi135
  by_cases hl : cs.length ≤ 1048576
  · rw [if_pos hl] at hq
    simp (maxSteps := 1000000) (disch := first | omega | rfl | (simp only [zL, two63, room] <;> omega) | fail) only [↓reduceIte, ↓zP, zW, WOp, evOp, evBin, binI, binSh, binS, evNil, keyIs, keyEq, mkv, AV.cells, AV.sc, optv, bnd, env, put, Env.get, Env.set, Env.del, Env.dels, Env.init, res1, resL, resV, fillP, splice, newRow, Nat.reduceEqDiff, Nat.reduceLT, Nat.reduceLeDiff, Nat.reduceAdd, Nat.reduceMul, Nat.reduceSub, Nat.reduceBEq, reduceCtorEq, ↓zR, zQ, Tr, StA, StT, hsc]
    refine S_of rfl T159 ?_; unfold fi159
    simp (maxSteps := 1000000) (disch := first | omega | rfl | (simp only [zL, two63, room] <;> omega) | fail) only [↓reduceIte, ↓zP, zW, WOp, evOp, evBin, binI, binSh, binS, evNil, keyIs, keyEq, mkv, AV.cells, AV.sc, optv, bnd, env, put, Env.get, Env.set, Env.del, Env.dels, Env.init, res1, resL, resV, fillP, splice, newRow, Nat.reduceEqDiff, Nat.reduceLT, Nat.reduceLeDiff, Nat.reduceAdd, Nat.reduceMul, Nat.reduceSub, Nat.reduceBEq, reduceCtorEq, ↓zR, zQ, Tr, StA, StT, hv]
    exact hq
  · rw [if_neg hl] at hq
    simp (maxSteps := 1000000) (disch := first | omega | rfl | (simp only [zL, two63, room] <;> omega) | fail) only [↓reduceIte, ↓zP, zW, WOp, evOp, evBin, binI, binSh, binS, evNil, keyIs, keyEq, mkv, AV.cells, AV.sc, optv, bnd, env, put, Env.get, Env.set, Env.del, Env.dels, Env.init, res1, resL, resV, fillP, splice, newRow, Nat.reduceEqDiff, Nat.reduceLT, Nat.reduceLeDiff, Nat.reduceAdd, Nat.reduceMul, Nat.reduceSub, Nat.reduceBEq, reduceCtorEq, ↓zR, zQ, Tr, StA, StT, hsc]
    refine S_of rfl T159 ?_; unfold fi159
    simp (maxSteps := 1000000) (disch := first | omega | rfl | (simp only [zL, two63, room] <;> omega) | fail) only [↓reduceIte, ↓zP, zW, WOp, evOp, evBin, binI, binSh, binS, evNil, keyIs, keyEq, mkv, AV.cells, AV.sc, optv, bnd, env, put, Env.get, Env.set, Env.del, Env.dels, Env.init, res1, resL, resV, fillP, splice, newRow, Nat.reduceEqDiff, Nat.reduceLT, Nat.reduceLeDiff, Nat.reduceAdd, Nat.reduceMul, Nat.reduceSub, Nat.reduceBEq, reduceCtorEq, ↓zR, zQ, Tr, StA, StT, hv]
    exact hq
theorem c_toClue (c : Clu) {h : AH} {post : AV → AH → Prop} (hp : ∀ h', Pre h h' → post (.agg (encC c)) h') : S 174 [.agg (encC c)] h post k := by
  refine S_of rfl T174 ?_; unfold fi174
  simp (maxSteps := 1000000) (disch := first | omega | rfl | (simp only [zL, two63, room] <;> omega) | fail) only [↓reduceIte, ↓zP, zW, WOp, evOp, evBin, binI, binSh, binS, evNil, keyIs, keyEq, mkv, AV.cells, AV.sc, optv, bnd, env, put, Env.get, Env.set, Env.del, Env.dels, Env.init, res1, resL, resV, fillP, splice, newRow, Nat.reduceEqDiff, Nat.reduceLT, Nat.reduceLeDiff, Nat.reduceAdd, Nat.reduceMul, Nat.reduceSub, Nat.reduceBEq, reduceCtorEq, ↓zR, zQ, Tr, StA, StT]
  exact hp _ ((Pre.push _ _).trans ((Pre.push _ _).trans (Pre.push _ _)))
theorem rep_flat (n : Nat) : (List.replicate n [AV.int .i64 0, AV.int .i64 0, AV.int .i64 0]).flatten = (List.replicate n ((0, 0, 0) : Clu)).flatMap encC := by
  induction n with
  | zero => rfl
  | succ n ih => rw [List.replicate_succ, List.replicate_succ, List.flatten_cons, List.flatMap_cons, ih]
theorem lp_toClueS {v : AV} {cs : List Clu} (hlen : cs.length < 2 ^ 30) {b : AH} (hs : Slc 3 encC b v cs) {R : X → Env → AH → Prop} : ∀ (rest pre : List Clu) (o : AV) (h : AH), cs = pre ++ rest → OwL 3 encC b h o (pre ++ List.replicate rest.length (0, 0, 0)) → Pre b h →
    (∀ o' h', OwL 3 encC b h' o' cs → Pre b h' → R (.exit 0) [(3, o')] h') → Cx (.loop lp162_0) [(0, v), (3, o), (4, .int .i64 pre.length)] h R k k
  | [], pre, o, h, hpre, ho, hp, hR => by
    rw [w_loopb (c := lp162_0) (d := lb162_0) rfl]; unfold lb162_0
    have hv := fun g => Slc.lenV ((hs.pre hp)) (g := g) (ρ := fun _ => _) (x := .t 0) rfl; simp only [evOp] at hv
    have hl : cs.length = pre.length := by rw [hpre]; simp
    simp (maxSteps := 1000000) (disch := first | omega | rfl | (simp only [zL, two63, room] <;> omega) | fail) only [↓reduceIte, ↓zP, zW, WOp, evOp, evBin, binI, binSh, binS, evNil, keyIs, keyEq, mkv, AV.cells, AV.sc, optv, bnd, env, put, Env.get, Env.set, Env.del, Env.dels, Env.init, res1, resL, resV, fillP, splice, newRow, Nat.reduceEqDiff, Nat.reduceLT, Nat.reduceLeDiff, Nat.reduceAdd, Nat.reduceMul, Nat.reduceSub, Nat.reduceBEq, reduceCtorEq, ↓zR, zQ, Tr, StA, StT, hv, hl]
    refine hR o h ?_ hp
    rw [hpre]
    simpa using ho
  | c :: rest, pre, o, h, hpre, ho, hp, hR => by
    have ih := lp_toClueS hlen hs (R := R) rest (pre ++ [c])
    have hv := fun g => Slc.lenV ((hs.pre hp)) (g := g) (ρ := fun _ => _) (x := .t 0) rfl; simp only [evOp] at hv
    have hll : cs.length = pre.length + 1 + rest.length := by rw [hpre]; simp; omega
    have hs' := hs.pre hp
    rw [hpre] at hs'
    obtain ⟨r1, k1, o1, hve, hr⟩ := hs'.at hlC
    rw [← hpre, hll] at hve
    subst hve
    have hlt : (pre.length : Int) < ((pre.length + 1 + rest.length : Nat) : Int) := by omega
    have hw1 : (pre.length : Int) + 1 = ((pre ++ [c]).length : Int) := by simp
    rw [List.length_cons, List.replicate_succ] at ho
    rw [w_loopb (c := lp162_0) (d := lb162_0) rfl]; unfold lb162_0
    simp (maxSteps := 1000000) (disch := first | omega | rfl | (simp only [zL, two63, room] <;> omega) | fail) only [↓reduceIte, ↓zP, zW, WOp, evOp, evBin, binI, binSh, binS, evNil, keyIs, keyEq, mkv, AV.cells, AV.sc, optv, bnd, env, put, Env.get, Env.set, Env.del, Env.dels, Env.init, res1, resL, resV, fillP, splice, newRow, Nat.reduceEqDiff, Nat.reduceLT, Nat.reduceLeDiff, Nat.reduceAdd, Nat.reduceMul, Nat.reduceSub, Nat.reduceBEq, reduceCtorEq, ↓zR, zQ, Tr, StA, StT, hlt, hr]
    refine c_toClue c ?_
    intro h2 hp2
    obtain ⟨r2, k2, o2, h3, rfl, hw, ho3, hb, hl3, hag⟩ := (ho.pre hp2).store hlC scC c
    have hlt2 : (pre.length : Int) < ((pre ++ ((0, 0, 0) : Clu) :: List.replicate rest.length ((0, 0, 0) : Clu)).length : Int) := by simp; omega
    simp (maxSteps := 1000000) (disch := first | omega | rfl | (simp only [zL, two63, room] <;> omega) | fail) only [↓reduceIte, ↓zP, zW, WOp, evOp, evBin, binI, binSh, binS, evNil, keyIs, keyEq, mkv, AV.cells, AV.sc, optv, bnd, env, put, Env.get, Env.set, Env.del, Env.dels, Env.init, res1, resL, resV, fillP, splice, newRow, Nat.reduceEqDiff, Nat.reduceLT, Nat.reduceLeDiff, Nat.reduceAdd, Nat.reduceMul, Nat.reduceSub, Nat.reduceBEq, reduceCtorEq, ↓zR, zQ, Tr, StA, StT, hlt2, hw, hw1]
    rw [w_loopn (c := lp162_0) rfl]
    simp (maxSteps := 1000000) (disch := first | omega | rfl | (simp only [zL, two63, room] <;> omega) | fail) only [↓reduceIte, ↓zP, zW, WOp, evOp, evBin, binI, binSh, binS, evNil, keyIs, keyEq, mkv, AV.cells, AV.sc, optv, bnd, env, put, Env.get, Env.set, Env.del, Env.dels, Env.init, res1, resL, resV, fillP, splice, newRow, Nat.reduceEqDiff, Nat.reduceLT, Nat.reduceLeDiff, Nat.reduceAdd, Nat.reduceMul, Nat.reduceSub, Nat.reduceBEq, reduceCtorEq, ↓zR, zQ, Tr, StA, StT]
    refine ih _ h3 (by rw [hpre]; simp) (by simpa using ho3) ?_ hR
    exact ⟨by rw [hl3]; exact Nat.le_trans hp.1 hp2.1, fun i hi => by rw [hag i (by omega), hp2.2 i (Nat.lt_of_lt_of_le hi hp.1), hp.2 i hi]⟩
theorem c_toClueS {v : AV} {cs : List Clu} (hlen : cs.length < 2 ^ 30) {h : AH} (hs : Slc 3 encC h v cs) {post : AV → AH → Prop} (hp : ∀ o' h', OwL 3 encC h h' o' cs → Pre h h' → post o' h') : S 162 [v] h post k := by
  refine S_of rfl T162 ?_; unfold fi162
  have hv := fun g => Slc.lenV (hs) (g := g) (ρ := fun _ => _) (x := .t 0) rfl; simp only [evOp] at hv
  have hr : (cs.length : Int) ≤ 1099511627776 := by omega
  have hroom : ((room : Nat) : Int) = 1099511627776 := rfl
  have hsc : ((List.replicate cs.length ((0, 0, 0) : Clu)).flatMap encC).all AV.sc = true := by
    rw [List.all_eq_true]
    intro x hx
    obtain ⟨c, _, hc⟩ := List.mem_flatMap.1 hx
    exact List.all_eq_true.1 (scC c) x hc
  simp (maxSteps := 1000000) (disch := first | omega | rfl | (simp only [zL, two63, room] <;> omega) | fail) only [↓reduceIte, ↓zP, zW, WOp, evOp, evBin, binI, binSh, binS, evNil, keyIs, keyEq, mkv, AV.cells, AV.sc, optv, bnd, env, put, Env.get, Env.set, Env.del, Env.dels, Env.init, res1, resL, resV, fillP, splice, newRow, Nat.reduceEqDiff, Nat.reduceLT, Nat.reduceLeDiff, Nat.reduceAdd, Nat.reduceMul, Nat.reduceSub, Nat.reduceBEq, reduceCtorEq, ↓zR, zQ, Tr, StA, StT, hv, hroom, rep_flat, hsc]
  refine lp_toClueS hlen (b := h) hs cs [] _ _ rfl ?_ (Pre.push _ _) ?_
  · unfold OwL Own
    exact ⟨rfl, by simp, by (rw [flat_len hlC]; try simp), Nat.le_refl _, (List.replicate cs.length ((0, 0, 0) : Clu)).flatMap encC, 0, by simp, Nat.le_refl _, by rw [flat_len hlC]; simp, by simp⟩
  · intro o' h' ho hp'
    simp (maxSteps := 1000000) (disch := first | omega | rfl | (simp only [zL, two63, room] <;> omega) | fail) only [↓reduceIte, ↓zP, zW, WOp, evOp, evBin, binI, binSh, binS, evNil, keyIs, keyEq, mkv, AV.cells, AV.sc, optv, bnd, env, put, Env.get, Env.set, Env.del, Env.dels, Env.init, res1, resL, resV, fillP, splice, newRow, Nat.reduceEqDiff, Nat.reduceLT, Nat.reduceLeDiff, Nat.reduceAdd, Nat.reduceMul, Nat.reduceSub, Nat.reduceBEq, reduceCtorEq, ↓zR, zQ, Tr, StA, StT]
    exact hp o' h' ho hp'
theorem c_toPuzzle (n : Int) {v : AV} {cs : List Clu} (hlen : cs.length < 2 ^ 30) {h : AH} (hs : Slc 3 encC h v cs) {post : AV → AH → Prop} (hp : ∀ o' h', OwL 3 encC h h' o' cs → Pre h h' → post (pzV n o') h') : S 136 [pzV n v] h post k := by
  have hsc := (sl_cells hs).2
  unfold AV.sc at hsc
  have hpre3 := (Pre.push h (AO.row [.int .i64 n, v] 0 0 false)).trans ((Pre.push _ (AO.row [.int .i64 0, .nilS] 0 0 false)).trans (Pre.push _ (AO.row [.int .i64 n, .nilS] 0 0 false)))
  refine S_of rfl T136 ?_; unfold fi136
  simp (maxSteps := 1000000) (disch := first | omega | rfl | (simp only [zL, two63, room] <;> omega) | fail) only [↓reduceIte, ↓zP, zW, WOp, evOp, evBin, binI, binSh, binS, evNil, keyIs, keyEq, mkv, AV.cells, AV.sc, optv, bnd, env, put, Env.get, Env.set, Env.del, Env.dels, Env.init, res1, resL, resV, fillP, splice, newRow, Nat.reduceEqDiff, Nat.reduceLT, Nat.reduceLeDiff, Nat.reduceAdd, Nat.reduceMul, Nat.reduceSub, Nat.reduceBEq, reduceCtorEq, ↓zR, zQ, Tr, StA, StT, hsc]
  generalize hg : h ++ [AO.row [.int .i64 n, v] 0 0 false] ++ [AO.row [.int .i64 0, .nilS] 0 0 false] = g1 at *
  refine c_toClueS hlen (hs.pre hpre3) ?_
  intro o h2 ho hp2
  have q1 := (sl_cells ho.slc).1
  have q2 := (sl_cells ho.slc).2
  simp only [AV.cells] at q1
  unfold AV.sc at q2
  have hb := pre_last hp2
  have hgl : g1.length = h.length + 2 := by rw [← hg]; simp
  have hb2 : h2[h.length + 1]? = some (AO.row [.int .i64 0, .nilS] 0 0 false) := by
    rw [hp2.2 _ (by simp; omega), List.getElem?_append_left (by omega), ← hg, List.getElem?_append_right (by simp)]
    simp
  have hlt := (List.getElem?_eq_some_iff.1 hb).1
  have hb3 : ∀ o' : AO, (h2.set g1.length o')[h.length + 1]? = some (AO.row [.int .i64 0, .nilS] 0 0 false) := fun o' => by rw [List.getElem?_set, if_neg (by omega), hb2]
  have hcl : (h ++ [AO.row [.int .i64 n, v] 0 0 false]).length = h.length + 1 := by simp
  rw [hcl]
  have hlt2 : h.length + 1 < h2.length := by omega
  simp (maxSteps := 1000000) (disch := first | omega | rfl | (simp only [zL, two63, room] <;> omega) | fail) only [↓reduceIte, ↓zP, zW, WOp, evOp, evBin, binI, binSh, binS, evNil, keyIs, keyEq, mkv, AV.cells, AV.sc, optv, bnd, env, put, Env.get, Env.set, Env.del, Env.dels, Env.init, res1, resL, resV, fillP, splice, newRow, Nat.reduceEqDiff, Nat.reduceLT, Nat.reduceLeDiff, Nat.reduceAdd, Nat.reduceMul, Nat.reduceSub, Nat.reduceBEq, reduceCtorEq, ↓zR, zQ, Tr, StA, StT, wr_of hb, wr_of (hb3 _), q1, q2, List.length_set]
  refine hp o _ ?_ ?_
  · refine own_base (b := g1 ++ [AO.row [.int .i64 n, .nilS] 0 0 false]) ?_ (by simp; omega)
    exact own_set (own_set ho (by simp)) (by simp; omega)
  · have := hpre3.trans hp2
    exact (this.set (by omega)).set (by omega)
theorem e_eqClue0 (c d : Clu) {h : AH} {post : AV → AH → Prop} (hp : ∀ h', Pre h h' → post (.bool (c == d)) h') : S 175 [.agg (encC c), .agg (encC d)] h post k := by
  obtain ⟨a1, a2, a3⟩ := c
  obtain ⟨b1, b2, b3⟩ := d
  have hq := hp _ ((Pre.push h (AO.row (encC (a1, a2, a3)) 0 0 false)).trans (Pre.push _ (AO.row (encC (b1, b2, b3)) 0 0 false)))
  have hb : (((a1, a2, a3) : Clu) == (b1, b2, b3)) = (a1 == b1 && (a2 == b2 && a3 == b3)) := rfl
  rw [hb] at hq
  refine S_of rfl T175 ?_; unfold fi175
  by_cases h1 : a1 = b1
  · by_cases h2 : a2 = b2
    · by_cases h3 : a3 = b3
      · simp (maxSteps := 1000000) (disch := first | omega | rfl | (simp only [zL, two63, room] <;> omega) | fail) only [↓reduceIte, ↓zP, zW, WOp, evOp, evBin, binI, binSh, binS, evNil, keyIs, keyEq, mkv, AV.cells, AV.sc, optv, bnd, env, put, Env.get, Env.set, Env.del, Env.dels, Env.init, res1, resL, resV, fillP, splice, newRow, Nat.reduceEqDiff, Nat.reduceLT, Nat.reduceLeDiff, Nat.reduceAdd, Nat.reduceMul, Nat.reduceSub, Nat.reduceBEq, reduceCtorEq, ↓zR, zQ, Tr, StA, StT]
        simpa [h1, h2, h3] using hq
      · simp (maxSteps := 1000000) (disch := first | omega | rfl | (simp only [zL, two63, room] <;> omega) | fail) only [↓reduceIte, ↓zP, zW, WOp, evOp, evBin, binI, binSh, binS, evNil, keyIs, keyEq, mkv, AV.cells, AV.sc, optv, bnd, env, put, Env.get, Env.set, Env.del, Env.dels, Env.init, res1, resL, resV, fillP, splice, newRow, Nat.reduceEqDiff, Nat.reduceLT, Nat.reduceLeDiff, Nat.reduceAdd, Nat.reduceMul, Nat.reduceSub, Nat.reduceBEq, reduceCtorEq, ↓zR, zQ, Tr, StA, StT]
        have e3 : (a3 == b3) = false := beq_eq_false_iff_ne.2 h3
        simpa [h1, h2, e3] using hq
    · simp (maxSteps := 1000000) (disch := first | omega | rfl | (simp only [zL, two63, room] <;> omega) | fail) only [↓reduceIte, ↓zP, zW, WOp, evOp, evBin, binI, binSh, binS, evNil, keyIs, keyEq, mkv, AV.cells, AV.sc, optv, bnd, env, put, Env.get, Env.set, Env.del, Env.dels, Env.init, res1, resL, resV, fillP, splice, newRow, Nat.reduceEqDiff, Nat.reduceLT, Nat.reduceLeDiff, Nat.reduceAdd, Nat.reduceMul, Nat.reduceSub, Nat.reduceBEq, reduceCtorEq, ↓zR, zQ, Tr, StA, StT]
      have e2 : (a2 == b2) = false := beq_eq_false_iff_ne.2 h2
      simpa [h1, e2] using hq
  · simp (maxSteps := 1000000) (disch := first | omega | rfl | (simp only [zL, two63, room] <;> omega) | fail) only [↓reduceIte, ↓zP, zW, WOp, evOp, evBin, binI, binSh, binS, evNil, keyIs, keyEq, mkv, AV.cells, AV.sc, optv, bnd, env, put, Env.get, Env.set, Env.del, Env.dels, Env.init, res1, resL, resV, fillP, splice, newRow, Nat.reduceEqDiff, Nat.reduceLT, Nat.reduceLeDiff, Nat.reduceAdd, Nat.reduceMul, Nat.reduceSub, Nat.reduceBEq, reduceCtorEq, ↓zR, zQ, Tr, StA, StT]
    have e1 : (a1 == b1) = false := beq_eq_false_iff_ne.2 h1
    simpa [e1] using hq
theorem beq_cc {α : Type} [BEq α] (x y : α) (l l' : List α) : (x :: l == y :: l') = (x == y && l == l') := rfl
theorem lp_eqClueS {v u : AV} {L M : List Clu} (hlen : L.length < 2 ^ 30) {b : AH} (hs : Slc 3 encC b v L) (ht : Slc 3 encC b u M) (hll : L.length = M.length) {R : X → Env → AH → Prop} : ∀ (rest rest' pre pre' : List Clu) (h : AH), L = pre ++ rest → M = pre' ++ rest' → pre.length = pre'.length → Pre b h →
    (∀ h', Pre b h' → (rest == rest') = true → R (.exit 0) [] h') → (∀ h', Pre b h' → (rest == rest') = false → R .ret [(4, .bool false)] h') → Cx (.loop lp164_0) [(0, v), (1, u), (5, .int .i64 pre.length)] h R k k
  | [], rest', pre, pre', h, hL, hM, hpp, hp, h1, h2 => by
    have : rest' = [] := by
      have e1 := congrArg List.length hL
      have e2 := congrArg List.length hM
      simp at e1 e2
      exact List.eq_nil_of_length_eq_zero (by omega)
    subst this
    rw [w_loopb (c := lp164_0) (d := lb164_0) rfl]; unfold lb164_0
    have hv := fun g => Slc.lenV ((hs.pre hp)) (g := g) (ρ := fun _ => _) (x := .t 0) rfl; simp only [evOp] at hv
    have hl : L.length = pre.length := by rw [hL]; simp
    simp (maxSteps := 1000000) (disch := first | omega | rfl | (simp only [zL, two63, room] <;> omega) | fail) only [↓reduceIte, ↓zP, zW, WOp, evOp, evBin, binI, binSh, binS, evNil, keyIs, keyEq, mkv, AV.cells, AV.sc, optv, bnd, env, put, Env.get, Env.set, Env.del, Env.dels, Env.init, res1, resL, resV, fillP, splice, newRow, Nat.reduceEqDiff, Nat.reduceLT, Nat.reduceLeDiff, Nat.reduceAdd, Nat.reduceMul, Nat.reduceSub, Nat.reduceBEq, reduceCtorEq, ↓zR, zQ, Tr, StA, StT, hv, hl]
    exact h1 h hp rfl
  | x :: rest, [], pre, pre', h, hL, hM, hpp, hp, h1, h2 => by
    have e1 := congrArg List.length hL
    have e2 := congrArg List.length hM
    simp at e1 e2
    omega
  | x :: rest, y :: rest', pre, pre', h, hL, hM, hpp, hp, h1, h2 => by
    have ih := lp_eqClueS hlen hs ht hll (R := R) rest rest' (pre ++ [x]) (pre' ++ [y])
    have hv := fun g => Slc.lenV ((hs.pre hp)) (g := g) (ρ := fun _ => _) (x := .t 0) rfl; simp only [evOp] at hv
    have hl : L.length = pre.length + 1 + rest.length := by rw [hL]; simp; omega
    have hm : M.length = pre.length + 1 + rest'.length := by rw [hM, hpp]; simp; omega
    have hs' := hs.pre hp
    have ht' := ht.pre hp
    rw [hL] at hs'
    rw [hM] at ht'
    obtain ⟨r1, k1, o1, hve, hr⟩ := hs'.at hlC
    obtain ⟨r2, k2, o2, hue, hr2⟩ := ht'.at hlC
    rw [← hL, hl] at hve
    rw [← hM, hm] at hue
    rw [← hpp] at hr2
    subst hve
    subst hue
    have hlt : (pre.length : Int) < ((pre.length + 1 + rest.length : Nat) : Int) := by omega
    have hlt2 : (pre.length : Int) < ((pre.length + 1 + rest'.length : Nat) : Int) := by omega
    have hw1 : (pre.length : Int) + 1 = ((pre ++ [x]).length : Int) := by simp
    rw [w_loopb (c := lp164_0) (d := lb164_0) rfl]; unfold lb164_0
    simp (maxSteps := 1000000) (disch := first | omega | rfl | (simp only [zL, two63, room] <;> omega) | fail) only [↓reduceIte, ↓zP, zW, WOp, evOp, evBin, binI, binSh, binS, evNil, keyIs, keyEq, mkv, AV.cells, AV.sc, optv, bnd, env, put, Env.get, Env.set, Env.del, Env.dels, Env.init, res1, resL, resV, fillP, splice, newRow, Nat.reduceEqDiff, Nat.reduceLT, Nat.reduceLeDiff, Nat.reduceAdd, Nat.reduceMul, Nat.reduceSub, Nat.reduceBEq, reduceCtorEq, ↓zR, zQ, Tr, StA, StT, hlt, hlt2, hr, hr2]
    refine e_eqClue0 x y ?_
    intro h3 hp3
    cases e : (x == y)
    · simp (maxSteps := 1000000) (disch := first | omega | rfl | (simp only [zL, two63, room] <;> omega) | fail) only [↓reduceIte, ↓zP, zW, WOp, evOp, evBin, binI, binSh, binS, evNil, keyIs, keyEq, mkv, AV.cells, AV.sc, optv, bnd, env, put, Env.get, Env.set, Env.del, Env.dels, Env.init, res1, resL, resV, fillP, splice, newRow, Nat.reduceEqDiff, Nat.reduceLT, Nat.reduceLeDiff, Nat.reduceAdd, Nat.reduceMul, Nat.reduceSub, Nat.reduceBEq, reduceCtorEq, ↓zR, zQ, Tr, StA, StT]
      exact h2 h3 (hp.trans hp3) (by rw [beq_cc, e]; rfl)
    · simp (maxSteps := 1000000) (disch := first | omega | rfl | (simp only [zL, two63, room] <;> omega) | fail) only [↓reduceIte, ↓zP, zW, WOp, evOp, evBin, binI, binSh, binS, evNil, keyIs, keyEq, mkv, AV.cells, AV.sc, optv, bnd, env, put, Env.get, Env.set, Env.del, Env.dels, Env.init, res1, resL, resV, fillP, splice, newRow, Nat.reduceEqDiff, Nat.reduceLT, Nat.reduceLeDiff, Nat.reduceAdd, Nat.reduceMul, Nat.reduceSub, Nat.reduceBEq, reduceCtorEq, ↓zR, zQ, Tr, StA, StT, hw1]
      rw [w_loopn (c := lp164_0) rfl]
      simp (maxSteps := 1000000) (disch := first | omega | rfl | (simp only [zL, two63, room] <;> omega) | fail) only [↓reduceIte, ↓zP, zW, WOp, evOp, evBin, binI, binSh, binS, evNil, keyIs, keyEq, mkv, AV.cells, AV.sc, optv, bnd, env, put, Env.get, Env.set, Env.del, Env.dels, Env.init, res1, resL, resV, fillP, splice, newRow, Nat.reduceEqDiff, Nat.reduceLT, Nat.reduceLeDiff, Nat.reduceAdd, Nat.reduceMul, Nat.reduceSub, Nat.reduceBEq, reduceCtorEq, ↓zR, zQ, Tr, StA, StT]
      refine ih h3 (by rw [hL]; simp) (by rw [hM]; simp) (by simp [hpp]) (hp.trans hp3) (fun h' q1 q2 => h1 h' q1 (by rw [beq_cc, e, q2]; rfl)) (fun h' q1 q2 => h2 h' q1 (by rw [beq_cc, e, q2]; rfl))
theorem c_eqClueS {v u : AV} {L M : List Clu} (hlen : L.length < 2 ^ 30) {h : AH} (hs : Slc 3 encC h v L) (ht : Slc 3 encC h u M) {post : AV → AH → Prop} (hp : ∀ h', Pre h h' → post (.bool (L == M)) h') : S 164 [v, u] h post k := by
  refine S_of rfl T164 ?_; unfold fi164
  have hv := fun g => Slc.lenV (hs) (g := g) (ρ := fun _ => _) (x := .t 0) rfl; simp only [evOp] at hv
  have hu := fun g => Slc.lenV (ht) (g := g) (ρ := fun _ => _) (x := .t 0) rfl; simp only [evOp] at hu
  by_cases hl : L.length = M.length
  · simp (maxSteps := 1000000) (disch := first | omega | rfl | (simp only [zL, two63, room] <;> omega) | fail) only [↓reduceIte, ↓zP, zW, WOp, evOp, evBin, binI, binSh, binS, evNil, keyIs, keyEq, mkv, AV.cells, AV.sc, optv, bnd, env, put, Env.get, Env.set, Env.del, Env.dels, Env.init, res1, resL, resV, fillP, splice, newRow, Nat.reduceEqDiff, Nat.reduceLT, Nat.reduceLeDiff, Nat.reduceAdd, Nat.reduceMul, Nat.reduceSub, Nat.reduceBEq, reduceCtorEq, ↓zR, zQ, Tr, StA, StT, hv, hu, hl]
    refine lp_eqClueS hlen hs ht hl L M [] [] h rfl rfl rfl (Pre.refl _) ?_ ?_
    · intro h' hp' e
      simp (maxSteps := 1000000) (disch := first | omega | rfl | (simp only [zL, two63, room] <;> omega) | fail) only [↓reduceIte, ↓zP, zW, WOp, evOp, evBin, binI, binSh, binS, evNil, keyIs, keyEq, mkv, AV.cells, AV.sc, optv, bnd, env, put, Env.get, Env.set, Env.del, Env.dels, Env.init, res1, resL, resV, fillP, splice, newRow, Nat.reduceEqDiff, Nat.reduceLT, Nat.reduceLeDiff, Nat.reduceAdd, Nat.reduceMul, Nat.reduceSub, Nat.reduceBEq, reduceCtorEq, ↓zR, zQ, Tr, StA, StT]
      exact e ▸ hp h' hp'
    · intro h' hp' e
      simp (maxSteps := 1000000) (disch := first | omega | rfl | (simp only [zL, two63, room] <;> omega) | fail) only [↓reduceIte, ↓zP, zW, WOp, evOp, evBin, binI, binSh, binS, evNil, keyIs, keyEq, mkv, AV.cells, AV.sc, optv, bnd, env, put, Env.get, Env.set, Env.del, Env.dels, Env.init, res1, resL, resV, fillP, splice, newRow, Nat.reduceEqDiff, Nat.reduceLT, Nat.reduceLeDiff, Nat.reduceAdd, Nat.reduceMul, Nat.reduceSub, Nat.reduceBEq, reduceCtorEq, ↓zR, zQ, Tr, StA, StT]
      exact e ▸ hp h' hp'
  · have hne : ((L.length : Int) != (M.length : Int)) = true := by simp; omega
    simp (maxSteps := 1000000) (disch := first | omega | rfl | (simp only [zL, two63, room] <;> omega) | fail) only [↓reduceIte, ↓zP, zW, WOp, evOp, evBin, binI, binSh, binS, evNil, keyIs, keyEq, mkv, AV.cells, AV.sc, optv, bnd, env, put, Env.get, Env.set, Env.del, Env.dels, Env.init, res1, resL, resV, fillP, splice, newRow, Nat.reduceEqDiff, Nat.reduceLT, Nat.reduceLeDiff, Nat.reduceAdd, Nat.reduceMul, Nat.reduceSub, Nat.reduceBEq, reduceCtorEq, ↓zR, zQ, Tr, StA, StT, hv, hu, hne]
    have : (L == M) = false := by
      rw [beq_eq_false_iff_ne]; rintro rfl; exact hl rfl
    exact this ▸ hp h (Pre.refl _)
theorem c_eqPuzzle (n m : Int) {v u : AV} {L M : List Clu} (hlen : L.length < 2 ^ 30) {h : AH} (hs : Slc 3 encC h v L) (ht : Slc 3 encC h u M) {post : AV → AH → Prop} (hp : ∀ h', Pre h h' → post (.bool (n == m && L == M)) h') : S 139 [pzV n v, pzV m u] h post k := by
  have hsc := (sl_cells hs).2
  have hsu := (sl_cells ht).2
  unfold AV.sc at hsc hsu
  have hpp := (Pre.push h (AO.row [.int .i64 n, v] 0 0 false)).trans (Pre.push _ (AO.row [.int .i64 m, u] 0 0 false))
  have hq := hp _ hpp
  refine S_of rfl T139 ?_; unfold fi139
  by_cases h1 : n = m
  · subst h1
    simp (maxSteps := 1000000) (disch := first | omega | rfl | (simp only [zL, two63, room] <;> omega) | fail) only [↓reduceIte, ↓zP, zW, WOp, evOp, evBin, binI, binSh, binS, evNil, keyIs, keyEq, mkv, AV.cells, AV.sc, optv, bnd, env, put, Env.get, Env.set, Env.del, Env.dels, Env.init, res1, resL, resV, fillP, splice, newRow, Nat.reduceEqDiff, Nat.reduceLT, Nat.reduceLeDiff, Nat.reduceAdd, Nat.reduceMul, Nat.reduceSub, Nat.reduceBEq, reduceCtorEq, ↓zR, zQ, Tr, StA, StT, hsc, hsu]
    refine c_eqClueS hlen (hs.pre hpp) (ht.pre hpp) ?_
    intro h' hp'
    have := hp h' (hpp.trans hp')
    cases e : (L == M) <;> simp (maxSteps := 1000000) (disch := first | omega | rfl | (simp only [zL, two63, room] <;> omega) | fail) only [↓reduceIte, ↓zP, zW, WOp, evOp, evBin, binI, binSh, binS, evNil, keyIs, keyEq, mkv, AV.cells, AV.sc, optv, bnd, env, put, Env.get, Env.set, Env.del, Env.dels, Env.init, res1, resL, resV, fillP, splice, newRow, Nat.reduceEqDiff, Nat.reduceLT, Nat.reduceLeDiff, Nat.reduceAdd, Nat.reduceMul, Nat.reduceSub, Nat.reduceBEq, reduceCtorEq, ↓zR, zQ, Tr, StA, StT] <;> simpa [e] using this
  · simp (maxSteps := 1000000) (disch := first | omega | rfl | (simp only [zL, two63, room] <;> omega) | fail) only [↓reduceIte, ↓zP, zW, WOp, evOp, evBin, binI, binSh, binS, evNil, keyIs, keyEq, mkv, AV.cells, AV.sc, optv, bnd, env, put, Env.get, Env.set, Env.del, Env.dels, Env.init, res1, resL, resV, fillP, splice, newRow, Nat.reduceEqDiff, Nat.reduceLT, Nat.reduceLeDiff, Nat.reduceAdd, Nat.reduceMul, Nat.reduceSub, Nat.reduceBEq, reduceCtorEq, ↓zR, zQ, Tr, StA, StT, hsc, hsu]
    have e1 : (n == m) = false := beq_eq_false_iff_ne.2 h1
    simpa [e1] using hq

theorem law_CountSolutions (n : Int) {v : AV} {cs : List Clu} (hlen : cs.length < 2 ^ 63) {h : AH} (hs : Slc 3 encC h v cs) : S 134 [pzV n v] h (fun r _ => r = .bool true) k := by
  have hpush := Pre.push h (AO.row [.int .i64 n, v] 0 0 false)
  have hsc := (sl_cells hs).2
  unfold AV.sc at hsc
  have r2 : rdRow (h ++ [AO.row [.int .i64 n, v] 0 0 false]) h.length 0 0 2 = some [.int .i64 n, v] := by rw [rd_last, if_pos (by simp)]; simp
  refine S_of rfl T134 ?_; unfold fi134
  simp (maxSteps := 1000000) (disch := first | omega | rfl | (simp only [zL, two63, room] <;> omega) | fail) only [↓reduceIte, ↓zP, zW, WOp, evOp, evBin, binI, binSh, binS, evNil, keyIs, keyEq, mkv, AV.cells, AV.sc, optv, bnd, env, put, Env.get, Env.set, Env.del, Env.dels, Env.init, res1, resL, resV, fillP, splice, newRow, Nat.reduceEqDiff, Nat.reduceLT, Nat.reduceLeDiff, Nat.reduceAdd, Nat.reduceMul, Nat.reduceSub, Nat.reduceBEq, reduceCtorEq, ↓zR, zQ, Tr, StA, StT, hsc]
  refine c_szPuzzle n hlen (hs.pre hpush) ?_
  intro h1 p1
  have P1 := hpush.trans p1
  have q1 := rdRow_pre p1 r2
  by_cases hl : cs.length ≤ 1048576
  case neg =>
    simp only [if_neg hl]
    simp (maxSteps := 1000000) (disch := first | omega | rfl | (simp only [zL, two63, room] <;> omega) | fail) only [↓reduceIte, ↓zP, zW, WOp, evOp, evBin, binI, binSh, binS, evNil, keyIs, keyEq, mkv, AV.cells, AV.sc, optv, bnd, env, put, Env.get, Env.set, Env.del, Env.dels, Env.init, res1, resL, resV, fillP, splice, newRow, Nat.reduceEqDiff, Nat.reduceLT, Nat.reduceLeDiff, Nat.reduceAdd, Nat.reduceMul, Nat.reduceSub, Nat.reduceBEq, reduceCtorEq, ↓zR, zQ, Tr, StA, StT]
  simp only [if_pos hl]
  simp (maxSteps := 1000000) (disch := first | omega | rfl | (simp only [zL, two63, room] <;> omega) | fail) only [↓reduceIte, ↓zP, zW, WOp, evOp, evBin, binI, binSh, binS, evNil, keyIs, keyEq, mkv, AV.cells, AV.sc, optv, bnd, env, put, Env.get, Env.set, Env.del, Env.dels, Env.init, res1, resL, resV, fillP, splice, newRow, Nat.reduceEqDiff, Nat.reduceLT, Nat.reduceLeDiff, Nat.reduceAdd, Nat.reduceMul, Nat.reduceSub, Nat.reduceBEq, reduceCtorEq, ↓zR, zQ, Tr, StA, StT, q1]
  have hlen' : cs.length < 2 ^ 30 := by omega
  refine c_toPuzzle n hlen' (hs.pre P1) ?_
  intro o2 h2 ho2 p2
  have P2 := P1.trans p2
  have q2 := rdRow_pre p2 q1
  simp (maxSteps := 1000000) (disch := first | omega | rfl | (simp only [zL, two63, room] <;> omega) | fail) only [↓reduceIte, ↓zP, zW, WOp, evOp, evBin, binI, binSh, binS, evNil, keyIs, keyEq, mkv, AV.cells, AV.sc, optv, bnd, env, put, Env.get, Env.set, Env.del, Env.dels, Env.init, res1, resL, resV, fillP, splice, newRow, Nat.reduceEqDiff, Nat.reduceLT, Nat.reduceLeDiff, Nat.reduceAdd, Nat.reduceMul, Nat.reduceSub, Nat.reduceBEq, reduceCtorEq, ↓zR, zQ, Tr, StA, StT]
  refine c_sCountSolutions n hlen' ho2.slc ?_
  intro h3 p3
  have P3 := P2.trans p3
  have q3 := rdRow_pre p3 q2
  simp (maxSteps := 1000000) (disch := first | omega | rfl | (simp only [zL, two63, room] <;> omega) | fail) only [↓reduceIte, ↓zP, zW, WOp, evOp, evBin, binI, binSh, binS, evNil, keyIs, keyEq, mkv, AV.cells, AV.sc, optv, bnd, env, put, Env.get, Env.set, Env.del, Env.dels, Env.init, res1, resL, resV, fillP, splice, newRow, Nat.reduceEqDiff, Nat.reduceLT, Nat.reduceLeDiff, Nat.reduceAdd, Nat.reduceMul, Nat.reduceSub, Nat.reduceBEq, reduceCtorEq, ↓zR, zQ, Tr, StA, StT, q3]
  refine c_toPuzzle n hlen' (hs.pre P3) ?_
  intro o4 h4 ho4 p4
  have P4 := P3.trans p4
  have q4 := rdRow_pre p4 q3
  have hsc4 := (sl_cells ho4.slc).2
  unfold AV.sc at hsc4
  have r5 : rdRow (h4 ++ [AO.row [.int .i64 n, o4] 0 0 false]) h4.length 0 0 2 = some [.int .i64 n, o4] := by rw [rd_last, if_pos (by simp)]; simp
  have p5 := Pre.push h4 (AO.row [.int .i64 n, o4] 0 0 false)
  simp (maxSteps := 1000000) (disch := first | omega | rfl | (simp only [zL, two63, room] <;> omega) | fail) only [↓reduceIte, ↓zP, zW, WOp, evOp, evBin, binI, binSh, binS, evNil, keyIs, keyEq, mkv, AV.cells, AV.sc, optv, bnd, env, put, Env.get, Env.set, Env.del, Env.dels, Env.init, res1, resL, resV, fillP, splice, newRow, Nat.reduceEqDiff, Nat.reduceLT, Nat.reduceLeDiff, Nat.reduceAdd, Nat.reduceMul, Nat.reduceSub, Nat.reduceBEq, reduceCtorEq, ↓zR, zQ, Tr, StA, StT, hsc4]
  refine c_CountSolutions n hlen' (ho4.slc.pre p5) ?_
  intro h6 p6
  have P6 := P4.trans (p5.trans p6)
  have q6 := rdRow_pre (p5.trans p6) q4
  have s6 := rdRow_pre p6 r5
  simp (maxSteps := 1000000) (disch := first | omega | rfl | (simp only [zL, two63, room] <;> omega) | fail) only [↓reduceIte, ↓zP, zW, WOp, evOp, evBin, binI, binSh, binS, evNil, keyIs, keyEq, mkv, AV.cells, AV.sc, optv, bnd, env, put, Env.get, Env.set, Env.del, Env.dels, Env.init, res1, resL, resV, fillP, splice, newRow, Nat.reduceEqDiff, Nat.reduceLT, Nat.reduceLeDiff, Nat.reduceAdd, Nat.reduceMul, Nat.reduceSub, Nat.reduceBEq, reduceCtorEq, ↓zR, zQ, Tr, StA, StT, q6, s6]
  refine w_drw ?_
  simp (maxSteps := 1000000) (disch := first | omega | rfl | (simp only [zL, two63, room] <;> omega) | fail) only [↓reduceIte, ↓zP, zW, WOp, evOp, evBin, binI, binSh, binS, evNil, keyIs, keyEq, mkv, AV.cells, AV.sc, optv, bnd, env, put, Env.get, Env.set, Env.del, Env.dels, Env.init, res1, resL, resV, fillP, splice, newRow, Nat.reduceEqDiff, Nat.reduceLT, Nat.reduceLeDiff, Nat.reduceAdd, Nat.reduceMul, Nat.reduceSub, Nat.reduceBEq, reduceCtorEq, ↓zR, zQ, Tr, StA, StT, q6, s6]
  refine c_toPuzzle n hlen' (hs.pre P6) ?_
  intro o7 h7 ho7 p7
  have s7 := rdRow_pre p7 s6
  simp (maxSteps := 1000000) (disch := first | omega | rfl | (simp only [zL, two63, room] <;> omega) | fail) only [↓reduceIte, ↓zP, zW, WOp, evOp, evBin, binI, binSh, binS, evNil, keyIs, keyEq, mkv, AV.cells, AV.sc, optv, bnd, env, put, Env.get, Env.set, Env.del, Env.dels, Env.init, res1, resL, resV, fillP, splice, newRow, Nat.reduceEqDiff, Nat.reduceLT, Nat.reduceLeDiff, Nat.reduceAdd, Nat.reduceMul, Nat.reduceSub, Nat.reduceBEq, reduceCtorEq, ↓zR, zQ, Tr, StA, StT, s6, s7]
  refine c_eqPuzzle n n hlen' (ho4.slc.pre ((p5.trans p6).trans p7)) ho7.slc ?_
  intro h8 p8
  have s8 := rdRow_pre p8 s7
  simp (maxSteps := 1000000) (disch := first | omega | rfl | (simp only [zL, two63, room] <;> omega) | fail) only [↓reduceIte, ↓zP, zW, WOp, evOp, evBin, binI, binSh, binS, evNil, keyIs, keyEq, mkv, AV.cells, AV.sc, optv, bnd, env, put, Env.get, Env.set, Env.del, Env.dels, Env.init, res1, resL, resV, fillP, splice, newRow, Nat.reduceEqDiff, Nat.reduceLT, Nat.reduceLeDiff, Nat.reduceAdd, Nat.reduceMul, Nat.reduceSub, Nat.reduceBEq, reduceCtorEq, ↓zR, zQ, Tr, StA, StT, s6, s7, s8]
end Go.Proofs.YtnkkgghpfgihfaaDoor.Ab

/- PUZZLES: the first solution, whether one alone is left; their laws. -/
namespace Go.Proofs.YtnkkgghpfgihfaaDoor.Ab
open Go
set_option maxRecDepth 100000
set_option maxHeartbeats 4000000

def solP (n : Int) (cs : List Clu) : List (List UInt8) := if goodP n cs then solN n cs else []

theorem c_FirstSolution (n : Int) {v : AV} {cs : List Clu} (hlen : cs.length < 2 ^ 30) {h : AH} (hs : Slc 3 encC h v cs) {post : AV → AH → Prop} (hp : ∀ h', Pre h h' → post (.tup [.str ((solP n cs).headD []), .bool (!(solP n cs).isEmpty)]) h') : S 145 [pzV n v] h post k := by
  have hpush := Pre.push h (AO.row [.int .i64 n, v] 0 0 false)
  have hsc := (sl_cells hs).2
  unfold AV.sc at hsc
  refine S_of rfl T145 ?_; unfold fi145
  simp (maxSteps := 1000000) (disch := first | omega | rfl | (simp only [zL, two63, room] <;> omega) | fail) only [↓reduceIte, ↓zP, zW, WOp, evOp, evBin, binI, binSh, binS, evNil, keyIs, keyEq, mkv, AV.cells, AV.sc, optv, bnd, env, put, Env.get, Env.set, Env.del, Env.dels, Env.init, res1, resL, resV, fillP, splice, newRow, Nat.reduceEqDiff, Nat.reduceLT, Nat.reduceLeDiff, Nat.reduceAdd, Nat.reduceMul, Nat.reduceSub, Nat.reduceBEq, reduceCtorEq, ↓zR, zQ, Tr, StA, StT, hsc]
  refine c_Solutions n hlen (hs.pre hpush) ?_
  intro v' h2 ho hp2
  have := hp h2 (hpush.trans hp2)
  have hsl := ho.slc hlS
  unfold solP at this
  generalize (if goodP n cs then solN n cs else []) = L at hsl this
  have hv := fun g => Slc.lenV (hsl) (g := g) (ρ := fun _ => _) (x := .t 0) rfl; simp only [evOp] at hv
  cases L with
  | nil => simp (maxSteps := 1000000) (disch := first | omega | rfl | (simp only [zL, two63, room] <;> omega) | fail) only [↓reduceIte, ↓zP, zW, WOp, evOp, evBin, binI, binSh, binS, evNil, keyIs, keyEq, mkv, AV.cells, AV.sc, optv, bnd, env, put, Env.get, Env.set, Env.del, Env.dels, Env.init, res1, resL, resV, fillP, splice, newRow, Nat.reduceEqDiff, Nat.reduceLT, Nat.reduceLeDiff, Nat.reduceAdd, Nat.reduceMul, Nat.reduceSub, Nat.reduceBEq, reduceCtorEq, ↓zR, zQ, Tr, StA, StT, hv]; exact this
  | cons x rest =>
    obtain ⟨c, kk, off, rfl, hr⟩ := Slc.at (pre := []) hlS hsl
    have h0 : (((rest.length + 1 : Nat) : Int) == 0) = false := by simp; omega
    have hr0 : rdRow h2 c kk (off + Int.toNat 0 * 1) 1 = some (encS x) := hr
    simp (maxSteps := 1000000) (disch := first | omega | rfl | (simp only [zL, two63, room] <;> omega) | fail) only [↓reduceIte, ↓zP, zW, WOp, evOp, evBin, binI, binSh, binS, evNil, keyIs, keyEq, mkv, AV.cells, AV.sc, optv, bnd, env, put, Env.get, Env.set, Env.del, Env.dels, Env.init, res1, resL, resV, fillP, splice, newRow, Nat.reduceEqDiff, Nat.reduceLT, Nat.reduceLeDiff, Nat.reduceAdd, Nat.reduceMul, Nat.reduceSub, Nat.reduceBEq, reduceCtorEq, ↓zR, zQ, Tr, StA, StT, hv, hr0, h0]
    exact this
theorem c_sFirstSolution (n : Int) {v : AV} {cs : List Clu} (hlen : cs.length < 2 ^ 30) {h : AH} (hs : Slc 3 encC h v cs) {post : AV → AH → Prop} (hp : ∀ h', Pre h h' → post (.tup [.str ((solP n cs).headD []), .bool (!(solP n cs).isEmpty)]) h') : S 144 [pzV n v] h post k := by
  have hpush := Pre.push h (AO.row [.int .i64 n, v] 0 0 false)
  have hsc := (sl_cells hs).2
  unfold AV.sc at hsc
  have r2 : rdRow (h ++ [AO.row [.int .i64 n, v] 0 0 false]) h.length 0 0 2 = some [.int .i64 n, v] := by rw [rd_last, if_pos (by simp)]; simp
  have r0 : rdRow (h ++ [AO.row [.int .i64 n, v] 0 0 false]) h.length 0 0 1 = some [.int .i64 n] := by rw [rd_last, if_pos (by simp)]; simp
  have r1 : rdRow (h ++ [AO.row [.int .i64 n, v] 0 0 false]) h.length 0 1 1 = some [v] := by rw [rd_last, if_pos (by simp)]; simp
  refine S_of rfl T144 ?_; unfold fi144
  simp (maxSteps := 1000000) (disch := first | omega | rfl | (simp only [zL, two63, room] <;> omega) | fail) only [↓reduceIte, ↓zP, zW, WOp, evOp, evBin, binI, binSh, binS, evNil, keyIs, keyEq, mkv, AV.cells, AV.sc, optv, bnd, env, put, Env.get, Env.set, Env.del, Env.dels, Env.init, res1, resL, resV, fillP, splice, newRow, Nat.reduceEqDiff, Nat.reduceLT, Nat.reduceLeDiff, Nat.reduceAdd, Nat.reduceMul, Nat.reduceSub, Nat.reduceBEq, reduceCtorEq, ↓zR, zQ, Tr, StA, StT, hsc]
  refine c_pzGood n hlen (hs.pre hpush) ?_
  intro h2 hp2
  have q0 := rdRow_pre hp2 r0
  have q1 := rdRow_pre hp2 r1
  unfold solP at hp
  cases e : goodP n cs
  · rw [e] at hp
    simp (maxSteps := 1000000) (disch := first | omega | rfl | (simp only [zL, two63, room] <;> omega) | fail) only [↓reduceIte, ↓zP, zW, WOp, evOp, evBin, binI, binSh, binS, evNil, keyIs, keyEq, mkv, AV.cells, AV.sc, optv, bnd, env, put, Env.get, Env.set, Env.del, Env.dels, Env.init, res1, resL, resV, fillP, splice, newRow, Nat.reduceEqDiff, Nat.reduceLT, Nat.reduceLeDiff, Nat.reduceAdd, Nat.reduceMul, Nat.reduceSub, Nat.reduceBEq, reduceCtorEq, ↓zR, zQ, Tr, StA, StT]
    exact hp h2 (hpush.trans hp2)
  · rw [e] at hp
    obtain ⟨m, rfl, m1, m5, m6, mok⟩ := goodP_iff e
    simp (maxSteps := 1000000) (disch := first | omega | rfl | (simp only [zL, two63, room] <;> omega) | fail) only [↓reduceIte, ↓zP, zW, WOp, evOp, evBin, binI, binSh, binS, evNil, keyIs, keyEq, mkv, AV.cells, AV.sc, optv, bnd, env, put, Env.get, Env.set, Env.del, Env.dels, Env.init, res1, resL, resV, fillP, splice, newRow, Nat.reduceEqDiff, Nat.reduceLT, Nat.reduceLeDiff, Nat.reduceAdd, Nat.reduceMul, Nat.reduceSub, Nat.reduceBEq, reduceCtorEq, ↓zR, zQ, Tr, StA, StT, q0, q1]
    refine c_pzAll m m5 hlen mok ((hs.pre hpush).pre hp2) ?_
    intro v' h3 ho hp3
    have hsl := ho.slc
    have := hp h3 ((hpush.trans hp2).trans hp3)
    rw [if_pos rfl] at this
    change post (.tup [.str ((fitL m cs).headD []), .bool (!(fitL m cs).isEmpty)]) h3 at this
    generalize fitL m cs = L at hsl this
    have hv := fun g => Slc.lenV (hsl) (g := g) (ρ := fun _ => _) (x := .t 0) rfl; simp only [evOp] at hv
    cases L with
    | nil => simp (maxSteps := 1000000) (disch := first | omega | rfl | (simp only [zL, two63, room] <;> omega) | fail) only [↓reduceIte, ↓zP, zW, WOp, evOp, evBin, binI, binSh, binS, evNil, keyIs, keyEq, mkv, AV.cells, AV.sc, optv, bnd, env, put, Env.get, Env.set, Env.del, Env.dels, Env.init, res1, resL, resV, fillP, splice, newRow, Nat.reduceEqDiff, Nat.reduceLT, Nat.reduceLeDiff, Nat.reduceAdd, Nat.reduceMul, Nat.reduceSub, Nat.reduceBEq, reduceCtorEq, ↓zR, zQ, Tr, StA, StT, hv]; exact this
    | cons x rest =>
      obtain ⟨c, kk, off, rfl, hr⟩ := Slc.at (pre := []) hlS hsl
      have h0 : (((rest.length + 1 : Nat) : Int) == 0) = false := by simp; omega
      have hr0 : rdRow h3 c kk (off + Int.toNat 0 * 1) 1 = some (encS x) := hr
      simp (maxSteps := 1000000) (disch := first | omega | rfl | (simp only [zL, two63, room] <;> omega) | fail) only [↓reduceIte, ↓zP, zW, WOp, evOp, evBin, binI, binSh, binS, evNil, keyIs, keyEq, mkv, AV.cells, AV.sc, optv, bnd, env, put, Env.get, Env.set, Env.del, Env.dels, Env.init, res1, resL, resV, fillP, splice, newRow, Nat.reduceEqDiff, Nat.reduceLT, Nat.reduceLeDiff, Nat.reduceAdd, Nat.reduceMul, Nat.reduceSub, Nat.reduceBEq, reduceCtorEq, ↓zR, zQ, Tr, StA, StT, hv, hr0, h0]
      exact this
theorem c_IsSolved (n : Int) {v : AV} {cs : List Clu} (hlen : cs.length < 2 ^ 30) {h : AH} (hs : Slc 3 encC h v cs) {post : AV → AH → Prop} (hp : ∀ h', Pre h h' → post (.tup [.bool (countP n cs == 1), .bool (goodP n cs)]) h') : S 142 [pzV n v] h post k := by
  have hpush := Pre.push h (AO.row [.int .i64 n, v] 0 0 false)
  have hsc := (sl_cells hs).2
  unfold AV.sc at hsc
  refine S_of rfl T142 ?_; unfold fi142
  simp (maxSteps := 1000000) (disch := first | omega | rfl | (simp only [zL, two63, room] <;> omega) | fail) only [↓reduceIte, ↓zP, zW, WOp, evOp, evBin, binI, binSh, binS, evNil, keyIs, keyEq, mkv, AV.cells, AV.sc, optv, bnd, env, put, Env.get, Env.set, Env.del, Env.dels, Env.init, res1, resL, resV, fillP, splice, newRow, Nat.reduceEqDiff, Nat.reduceLT, Nat.reduceLeDiff, Nat.reduceAdd, Nat.reduceMul, Nat.reduceSub, Nat.reduceBEq, reduceCtorEq, ↓zR, zQ, Tr, StA, StT, hsc]
  refine c_CountSolutions n hlen (hs.pre hpush) ?_
  intro h2 hp2
  simp (maxSteps := 1000000) (disch := first | omega | rfl | (simp only [zL, two63, room] <;> omega) | fail) only [↓reduceIte, ↓zP, zW, WOp, evOp, evBin, binI, binSh, binS, evNil, keyIs, keyEq, mkv, AV.cells, AV.sc, optv, bnd, env, put, Env.get, Env.set, Env.del, Env.dels, Env.init, res1, resL, resV, fillP, splice, newRow, Nat.reduceEqDiff, Nat.reduceLT, Nat.reduceLeDiff, Nat.reduceAdd, Nat.reduceMul, Nat.reduceSub, Nat.reduceBEq, reduceCtorEq, ↓zR, zQ, Tr, StA, StT]
  exact hp h2 (hpush.trans hp2)
theorem c_pzSolved (m : Nat) (m5 : m ≤ 5) {v : AV} {cs : List Clu} (hlen : cs.length < 2 ^ 30) (mok : ∀ c ∈ cs, clueOk m c = true) {h : AH} (hs : Slc 3 encC h v cs) {post : AV → AH → Prop} (hp : ∀ h', Pre h h' → post (.bool (((fitL m cs).length : Int) == 1)) h') : S 165 [.int .i64 m, v] h post k := by
  refine S_of rfl T165 ?_; unfold fi165
  simp (maxSteps := 1000000) (disch := first | omega | rfl | (simp only [zL, two63, room] <;> omega) | fail) only [↓reduceIte, ↓zP, zW, WOp, evOp, evBin, binI, binSh, binS, evNil, keyIs, keyEq, mkv, AV.cells, AV.sc, optv, bnd, env, put, Env.get, Env.set, Env.del, Env.dels, Env.init, res1, resL, resV, fillP, splice, newRow, Nat.reduceEqDiff, Nat.reduceLT, Nat.reduceLeDiff, Nat.reduceAdd, Nat.reduceMul, Nat.reduceSub, Nat.reduceBEq, reduceCtorEq, ↓zR, zQ, Tr, StA, StT]
  refine c_pzAll m m5 hlen mok hs ?_
  intro v' h3 ho hp3
  have hv := fun g => Slc.lenV (ho.slc) (g := g) (ρ := fun _ => _) (x := .t 0) rfl; simp only [evOp] at hv
  simp (maxSteps := 1000000) (disch := first | omega | rfl | (simp only [zL, two63, room] <;> omega) | fail) only [↓reduceIte, ↓zP, zW, WOp, evOp, evBin, binI, binSh, binS, evNil, keyIs, keyEq, mkv, AV.cells, AV.sc, optv, bnd, env, put, Env.get, Env.set, Env.del, Env.dels, Env.init, res1, resL, resV, fillP, splice, newRow, Nat.reduceEqDiff, Nat.reduceLT, Nat.reduceLeDiff, Nat.reduceAdd, Nat.reduceMul, Nat.reduceSub, Nat.reduceBEq, reduceCtorEq, ↓zR, zQ, Tr, StA, StT, hv]
  exact hp h3 hp3
theorem c_sIsSolved (n : Int) {v : AV} {cs : List Clu} (hlen : cs.length < 2 ^ 30) {h : AH} (hs : Slc 3 encC h v cs) {post : AV → AH → Prop} (hp : ∀ h', Pre h h' → post (.tup [.bool (countP n cs == 1), .bool (goodP n cs)]) h') : S 141 [pzV n v] h post k := by
  have hpush := Pre.push h (AO.row [.int .i64 n, v] 0 0 false)
  have hsc := (sl_cells hs).2
  unfold AV.sc at hsc
  have r2 : rdRow (h ++ [AO.row [.int .i64 n, v] 0 0 false]) h.length 0 0 2 = some [.int .i64 n, v] := by rw [rd_last, if_pos (by simp)]; simp
  have r0 : rdRow (h ++ [AO.row [.int .i64 n, v] 0 0 false]) h.length 0 0 1 = some [.int .i64 n] := by rw [rd_last, if_pos (by simp)]; simp
  have r1 : rdRow (h ++ [AO.row [.int .i64 n, v] 0 0 false]) h.length 0 1 1 = some [v] := by rw [rd_last, if_pos (by simp)]; simp
  refine S_of rfl T141 ?_; unfold fi141
  simp (maxSteps := 1000000) (disch := first | omega | rfl | (simp only [zL, two63, room] <;> omega) | fail) only [↓reduceIte, ↓zP, zW, WOp, evOp, evBin, binI, binSh, binS, evNil, keyIs, keyEq, mkv, AV.cells, AV.sc, optv, bnd, env, put, Env.get, Env.set, Env.del, Env.dels, Env.init, res1, resL, resV, fillP, splice, newRow, Nat.reduceEqDiff, Nat.reduceLT, Nat.reduceLeDiff, Nat.reduceAdd, Nat.reduceMul, Nat.reduceSub, Nat.reduceBEq, reduceCtorEq, ↓zR, zQ, Tr, StA, StT, hsc]
  refine c_pzGood n hlen (hs.pre hpush) ?_
  intro h2 hp2
  have q0 := rdRow_pre hp2 r0
  have q1 := rdRow_pre hp2 r1
  unfold countP at hp
  cases e : goodP n cs
  · rw [e] at hp
    simp (maxSteps := 1000000) (disch := first | omega | rfl | (simp only [zL, two63, room] <;> omega) | fail) only [↓reduceIte, ↓zP, zW, WOp, evOp, evBin, binI, binSh, binS, evNil, keyIs, keyEq, mkv, AV.cells, AV.sc, optv, bnd, env, put, Env.get, Env.set, Env.del, Env.dels, Env.init, res1, resL, resV, fillP, splice, newRow, Nat.reduceEqDiff, Nat.reduceLT, Nat.reduceLeDiff, Nat.reduceAdd, Nat.reduceMul, Nat.reduceSub, Nat.reduceBEq, reduceCtorEq, ↓zR, zQ, Tr, StA, StT]
    exact hp h2 (hpush.trans hp2)
  · rw [e] at hp
    obtain ⟨m, rfl, m1, m5, m6, mok⟩ := goodP_iff e
    simp (maxSteps := 1000000) (disch := first | omega | rfl | (simp only [zL, two63, room] <;> omega) | fail) only [↓reduceIte, ↓zP, zW, WOp, evOp, evBin, binI, binSh, binS, evNil, keyIs, keyEq, mkv, AV.cells, AV.sc, optv, bnd, env, put, Env.get, Env.set, Env.del, Env.dels, Env.init, res1, resL, resV, fillP, splice, newRow, Nat.reduceEqDiff, Nat.reduceLT, Nat.reduceLeDiff, Nat.reduceAdd, Nat.reduceMul, Nat.reduceSub, Nat.reduceBEq, reduceCtorEq, ↓zR, zQ, Tr, StA, StT, q0, q1]
    refine c_pzSolved m m5 hlen mok ((hs.pre hpush).pre hp2) ?_
    intro h3 hp3
    simp (maxSteps := 1000000) (disch := first | omega | rfl | (simp only [zL, two63, room] <;> omega) | fail) only [↓reduceIte, ↓zP, zW, WOp, evOp, evBin, binI, binSh, binS, evNil, keyIs, keyEq, mkv, AV.cells, AV.sc, optv, bnd, env, put, Env.get, Env.set, Env.del, Env.dels, Env.init, res1, resL, resV, fillP, splice, newRow, Nat.reduceEqDiff, Nat.reduceLT, Nat.reduceLeDiff, Nat.reduceAdd, Nat.reduceMul, Nat.reduceSub, Nat.reduceBEq, reduceCtorEq, ↓zR, zQ, Tr, StA, StT]
    exact hp h3 ((hpush.trans hp2).trans hp3)

theorem law_IsSolved (n : Int) {v : AV} {cs : List Clu} (hlen : cs.length < 2 ^ 63) {h : AH} (hs : Slc 3 encC h v cs) : S 140 [pzV n v] h (fun r _ => r = .bool true) k := by
  have hpush := Pre.push h (AO.row [.int .i64 n, v] 0 0 false)
  have hsc := (sl_cells hs).2
  unfold AV.sc at hsc
  have r2 : rdRow (h ++ [AO.row [.int .i64 n, v] 0 0 false]) h.length 0 0 2 = some [.int .i64 n, v] := by rw [rd_last, if_pos (by simp)]; simp
  refine S_of rfl T140 ?_; unfold fi140
  simp (maxSteps := 1000000) (disch := first | omega | rfl | (simp only [zL, two63, room] <;> omega) | fail) only [↓reduceIte, ↓zP, zW, WOp, evOp, evBin, binI, binSh, binS, evNil, keyIs, keyEq, mkv, AV.cells, AV.sc, optv, bnd, env, put, Env.get, Env.set, Env.del, Env.dels, Env.init, res1, resL, resV, fillP, splice, newRow, Nat.reduceEqDiff, Nat.reduceLT, Nat.reduceLeDiff, Nat.reduceAdd, Nat.reduceMul, Nat.reduceSub, Nat.reduceBEq, reduceCtorEq, ↓zR, zQ, Tr, StA, StT, hsc]
  refine c_szPuzzle n hlen (hs.pre hpush) ?_
  intro h1 p1
  have P1 := hpush.trans p1
  have q1 := rdRow_pre p1 r2
  by_cases hl : cs.length ≤ 1048576
  case neg =>
    simp only [if_neg hl]
    simp (maxSteps := 1000000) (disch := first | omega | rfl | (simp only [zL, two63, room] <;> omega) | fail) only [↓reduceIte, ↓zP, zW, WOp, evOp, evBin, binI, binSh, binS, evNil, keyIs, keyEq, mkv, AV.cells, AV.sc, optv, bnd, env, put, Env.get, Env.set, Env.del, Env.dels, Env.init, res1, resL, resV, fillP, splice, newRow, Nat.reduceEqDiff, Nat.reduceLT, Nat.reduceLeDiff, Nat.reduceAdd, Nat.reduceMul, Nat.reduceSub, Nat.reduceBEq, reduceCtorEq, ↓zR, zQ, Tr, StA, StT]
  simp only [if_pos hl]
  simp (maxSteps := 1000000) (disch := first | omega | rfl | (simp only [zL, two63, room] <;> omega) | fail) only [↓reduceIte, ↓zP, zW, WOp, evOp, evBin, binI, binSh, binS, evNil, keyIs, keyEq, mkv, AV.cells, AV.sc, optv, bnd, env, put, Env.get, Env.set, Env.del, Env.dels, Env.init, res1, resL, resV, fillP, splice, newRow, Nat.reduceEqDiff, Nat.reduceLT, Nat.reduceLeDiff, Nat.reduceAdd, Nat.reduceMul, Nat.reduceSub, Nat.reduceBEq, reduceCtorEq, ↓zR, zQ, Tr, StA, StT, q1]
  have hlen' : cs.length < 2 ^ 30 := by omega
  refine c_toPuzzle n hlen' (hs.pre P1) ?_
  intro o2 h2 ho2 p2
  have P2 := P1.trans p2
  have q2 := rdRow_pre p2 q1
  simp (maxSteps := 1000000) (disch := first | omega | rfl | (simp only [zL, two63, room] <;> omega) | fail) only [↓reduceIte, ↓zP, zW, WOp, evOp, evBin, binI, binSh, binS, evNil, keyIs, keyEq, mkv, AV.cells, AV.sc, optv, bnd, env, put, Env.get, Env.set, Env.del, Env.dels, Env.init, res1, resL, resV, fillP, splice, newRow, Nat.reduceEqDiff, Nat.reduceLT, Nat.reduceLeDiff, Nat.reduceAdd, Nat.reduceMul, Nat.reduceSub, Nat.reduceBEq, reduceCtorEq, ↓zR, zQ, Tr, StA, StT]
  refine c_sIsSolved n hlen' ho2.slc ?_
  intro h3 p3
  have P3 := P2.trans p3
  have q3 := rdRow_pre p3 q2
  simp (maxSteps := 1000000) (disch := first | omega | rfl | (simp only [zL, two63, room] <;> omega) | fail) only [↓reduceIte, ↓zP, zW, WOp, evOp, evBin, binI, binSh, binS, evNil, keyIs, keyEq, mkv, AV.cells, AV.sc, optv, bnd, env, put, Env.get, Env.set, Env.del, Env.dels, Env.init, res1, resL, resV, fillP, splice, newRow, Nat.reduceEqDiff, Nat.reduceLT, Nat.reduceLeDiff, Nat.reduceAdd, Nat.reduceMul, Nat.reduceSub, Nat.reduceBEq, reduceCtorEq, ↓zR, zQ, Tr, StA, StT, q3]
  refine c_toPuzzle n hlen' (hs.pre P3) ?_
  intro o4 h4 ho4 p4
  have P4 := P3.trans p4
  have q4 := rdRow_pre p4 q3
  have hsc4 := (sl_cells ho4.slc).2
  unfold AV.sc at hsc4
  have r5 : rdRow (h4 ++ [AO.row [.int .i64 n, o4] 0 0 false]) h4.length 0 0 2 = some [.int .i64 n, o4] := by rw [rd_last, if_pos (by simp)]; simp
  have p5 := Pre.push h4 (AO.row [.int .i64 n, o4] 0 0 false)
  simp (maxSteps := 1000000) (disch := first | omega | rfl | (simp only [zL, two63, room] <;> omega) | fail) only [↓reduceIte, ↓zP, zW, WOp, evOp, evBin, binI, binSh, binS, evNil, keyIs, keyEq, mkv, AV.cells, AV.sc, optv, bnd, env, put, Env.get, Env.set, Env.del, Env.dels, Env.init, res1, resL, resV, fillP, splice, newRow, Nat.reduceEqDiff, Nat.reduceLT, Nat.reduceLeDiff, Nat.reduceAdd, Nat.reduceMul, Nat.reduceSub, Nat.reduceBEq, reduceCtorEq, ↓zR, zQ, Tr, StA, StT, hsc4]
  refine c_IsSolved n hlen' (ho4.slc.pre p5) ?_
  intro h6 p6
  have P6 := P4.trans (p5.trans p6)
  have q6 := rdRow_pre (p5.trans p6) q4
  have s6 := rdRow_pre p6 r5
  simp (maxSteps := 1000000) (disch := first | omega | rfl | (simp only [zL, two63, room] <;> omega) | fail) only [↓reduceIte, ↓zP, zW, WOp, evOp, evBin, binI, binSh, binS, evNil, keyIs, keyEq, mkv, AV.cells, AV.sc, optv, bnd, env, put, Env.get, Env.set, Env.del, Env.dels, Env.init, res1, resL, resV, fillP, splice, newRow, Nat.reduceEqDiff, Nat.reduceLT, Nat.reduceLeDiff, Nat.reduceAdd, Nat.reduceMul, Nat.reduceSub, Nat.reduceBEq, reduceCtorEq, ↓zR, zQ, Tr, StA, StT, q6, s6, bne_self_eq_false]
  refine w_drw ?_
  simp (maxSteps := 1000000) (disch := first | omega | rfl | (simp only [zL, two63, room] <;> omega) | fail) only [↓reduceIte, ↓zP, zW, WOp, evOp, evBin, binI, binSh, binS, evNil, keyIs, keyEq, mkv, AV.cells, AV.sc, optv, bnd, env, put, Env.get, Env.set, Env.del, Env.dels, Env.init, res1, resL, resV, fillP, splice, newRow, Nat.reduceEqDiff, Nat.reduceLT, Nat.reduceLeDiff, Nat.reduceAdd, Nat.reduceMul, Nat.reduceSub, Nat.reduceBEq, reduceCtorEq, ↓zR, zQ, Tr, StA, StT, q6, s6]
  refine c_toPuzzle n hlen' (hs.pre P6) ?_
  intro o7 h7 ho7 p7
  have s7 := rdRow_pre p7 s6
  simp (maxSteps := 1000000) (disch := first | omega | rfl | (simp only [zL, two63, room] <;> omega) | fail) only [↓reduceIte, ↓zP, zW, WOp, evOp, evBin, binI, binSh, binS, evNil, keyIs, keyEq, mkv, AV.cells, AV.sc, optv, bnd, env, put, Env.get, Env.set, Env.del, Env.dels, Env.init, res1, resL, resV, fillP, splice, newRow, Nat.reduceEqDiff, Nat.reduceLT, Nat.reduceLeDiff, Nat.reduceAdd, Nat.reduceMul, Nat.reduceSub, Nat.reduceBEq, reduceCtorEq, ↓zR, zQ, Tr, StA, StT, s6, s7]
  refine c_eqPuzzle n n hlen' (ho4.slc.pre ((p5.trans p6).trans p7)) ho7.slc ?_
  intro h8 p8
  have s8 := rdRow_pre p8 s7
  simp (maxSteps := 1000000) (disch := first | omega | rfl | (simp only [zL, two63, room] <;> omega) | fail) only [↓reduceIte, ↓zP, zW, WOp, evOp, evBin, binI, binSh, binS, evNil, keyIs, keyEq, mkv, AV.cells, AV.sc, optv, bnd, env, put, Env.get, Env.set, Env.del, Env.dels, Env.init, res1, resL, resV, fillP, splice, newRow, Nat.reduceEqDiff, Nat.reduceLT, Nat.reduceLeDiff, Nat.reduceAdd, Nat.reduceMul, Nat.reduceSub, Nat.reduceBEq, reduceCtorEq, ↓zR, zQ, Tr, StA, StT, s6, s7, s8]
theorem law_FirstSolution (n : Int) {v : AV} {cs : List Clu} (hlen : cs.length < 2 ^ 63) {h : AH} (hs : Slc 3 encC h v cs) : S 143 [pzV n v] h (fun r _ => r = .bool true) k := by
  have hpush := Pre.push h (AO.row [.int .i64 n, v] 0 0 false)
  have hsc := (sl_cells hs).2
  unfold AV.sc at hsc
  have r2 : rdRow (h ++ [AO.row [.int .i64 n, v] 0 0 false]) h.length 0 0 2 = some [.int .i64 n, v] := by rw [rd_last, if_pos (by simp)]; simp
  refine S_of rfl T143 ?_; unfold fi143
  simp (maxSteps := 1000000) (disch := first | omega | rfl | (simp only [zL, two63, room] <;> omega) | fail) only [↓reduceIte, ↓zP, zW, WOp, evOp, evBin, binI, binSh, binS, evNil, keyIs, keyEq, mkv, AV.cells, AV.sc, optv, bnd, env, put, Env.get, Env.set, Env.del, Env.dels, Env.init, res1, resL, resV, fillP, splice, newRow, Nat.reduceEqDiff, Nat.reduceLT, Nat.reduceLeDiff, Nat.reduceAdd, Nat.reduceMul, Nat.reduceSub, Nat.reduceBEq, reduceCtorEq, ↓zR, zQ, Tr, StA, StT, hsc]
  refine c_szPuzzle n hlen (hs.pre hpush) ?_
  intro h1 p1
  have P1 := hpush.trans p1
  have q1 := rdRow_pre p1 r2
  by_cases hl : cs.length ≤ 1048576
  case neg =>
    simp only [if_neg hl]
    simp (maxSteps := 1000000) (disch := first | omega | rfl | (simp only [zL, two63, room] <;> omega) | fail) only [↓reduceIte, ↓zP, zW, WOp, evOp, evBin, binI, binSh, binS, evNil, keyIs, keyEq, mkv, AV.cells, AV.sc, optv, bnd, env, put, Env.get, Env.set, Env.del, Env.dels, Env.init, res1, resL, resV, fillP, splice, newRow, Nat.reduceEqDiff, Nat.reduceLT, Nat.reduceLeDiff, Nat.reduceAdd, Nat.reduceMul, Nat.reduceSub, Nat.reduceBEq, reduceCtorEq, ↓zR, zQ, Tr, StA, StT]
  simp only [if_pos hl]
  simp (maxSteps := 1000000) (disch := first | omega | rfl | (simp only [zL, two63, room] <;> omega) | fail) only [↓reduceIte, ↓zP, zW, WOp, evOp, evBin, binI, binSh, binS, evNil, keyIs, keyEq, mkv, AV.cells, AV.sc, optv, bnd, env, put, Env.get, Env.set, Env.del, Env.dels, Env.init, res1, resL, resV, fillP, splice, newRow, Nat.reduceEqDiff, Nat.reduceLT, Nat.reduceLeDiff, Nat.reduceAdd, Nat.reduceMul, Nat.reduceSub, Nat.reduceBEq, reduceCtorEq, ↓zR, zQ, Tr, StA, StT, q1]
  have hlen' : cs.length < 2 ^ 30 := by omega
  refine c_toPuzzle n hlen' (hs.pre P1) ?_
  intro o2 h2 ho2 p2
  have P2 := P1.trans p2
  have q2 := rdRow_pre p2 q1
  simp (maxSteps := 1000000) (disch := first | omega | rfl | (simp only [zL, two63, room] <;> omega) | fail) only [↓reduceIte, ↓zP, zW, WOp, evOp, evBin, binI, binSh, binS, evNil, keyIs, keyEq, mkv, AV.cells, AV.sc, optv, bnd, env, put, Env.get, Env.set, Env.del, Env.dels, Env.init, res1, resL, resV, fillP, splice, newRow, Nat.reduceEqDiff, Nat.reduceLT, Nat.reduceLeDiff, Nat.reduceAdd, Nat.reduceMul, Nat.reduceSub, Nat.reduceBEq, reduceCtorEq, ↓zR, zQ, Tr, StA, StT]
  refine c_sFirstSolution n hlen' ho2.slc ?_
  intro h3 p3
  have P3 := P2.trans p3
  have q3 := rdRow_pre p3 q2
  simp (maxSteps := 1000000) (disch := first | omega | rfl | (simp only [zL, two63, room] <;> omega) | fail) only [↓reduceIte, ↓zP, zW, WOp, evOp, evBin, binI, binSh, binS, evNil, keyIs, keyEq, mkv, AV.cells, AV.sc, optv, bnd, env, put, Env.get, Env.set, Env.del, Env.dels, Env.init, res1, resL, resV, fillP, splice, newRow, Nat.reduceEqDiff, Nat.reduceLT, Nat.reduceLeDiff, Nat.reduceAdd, Nat.reduceMul, Nat.reduceSub, Nat.reduceBEq, reduceCtorEq, ↓zR, zQ, Tr, StA, StT, q3]
  refine c_toPuzzle n hlen' (hs.pre P3) ?_
  intro o4 h4 ho4 p4
  have P4 := P3.trans p4
  have q4 := rdRow_pre p4 q3
  have hsc4 := (sl_cells ho4.slc).2
  unfold AV.sc at hsc4
  have r5 : rdRow (h4 ++ [AO.row [.int .i64 n, o4] 0 0 false]) h4.length 0 0 2 = some [.int .i64 n, o4] := by rw [rd_last, if_pos (by simp)]; simp
  have p5 := Pre.push h4 (AO.row [.int .i64 n, o4] 0 0 false)
  simp (maxSteps := 1000000) (disch := first | omega | rfl | (simp only [zL, two63, room] <;> omega) | fail) only [↓reduceIte, ↓zP, zW, WOp, evOp, evBin, binI, binSh, binS, evNil, keyIs, keyEq, mkv, AV.cells, AV.sc, optv, bnd, env, put, Env.get, Env.set, Env.del, Env.dels, Env.init, res1, resL, resV, fillP, splice, newRow, Nat.reduceEqDiff, Nat.reduceLT, Nat.reduceLeDiff, Nat.reduceAdd, Nat.reduceMul, Nat.reduceSub, Nat.reduceBEq, reduceCtorEq, ↓zR, zQ, Tr, StA, StT, hsc4]
  refine c_FirstSolution n hlen' (ho4.slc.pre p5) ?_
  intro h6 p6
  have P6 := P4.trans (p5.trans p6)
  have q6 := rdRow_pre (p5.trans p6) q4
  have s6 := rdRow_pre p6 r5
  simp (maxSteps := 1000000) (disch := first | omega | rfl | (simp only [zL, two63, room] <;> omega) | fail) only [↓reduceIte, ↓zP, zW, WOp, evOp, evBin, binI, binSh, binS, evNil, keyIs, keyEq, mkv, AV.cells, AV.sc, optv, bnd, env, put, Env.get, Env.set, Env.del, Env.dels, Env.init, res1, resL, resV, fillP, splice, newRow, Nat.reduceEqDiff, Nat.reduceLT, Nat.reduceLeDiff, Nat.reduceAdd, Nat.reduceMul, Nat.reduceSub, Nat.reduceBEq, reduceCtorEq, ↓zR, zQ, Tr, StA, StT, q6, s6, bne_self_eq_false]
  refine w_drw ?_
  simp (maxSteps := 1000000) (disch := first | omega | rfl | (simp only [zL, two63, room] <;> omega) | fail) only [↓reduceIte, ↓zP, zW, WOp, evOp, evBin, binI, binSh, binS, evNil, keyIs, keyEq, mkv, AV.cells, AV.sc, optv, bnd, env, put, Env.get, Env.set, Env.del, Env.dels, Env.init, res1, resL, resV, fillP, splice, newRow, Nat.reduceEqDiff, Nat.reduceLT, Nat.reduceLeDiff, Nat.reduceAdd, Nat.reduceMul, Nat.reduceSub, Nat.reduceBEq, reduceCtorEq, ↓zR, zQ, Tr, StA, StT, q6, s6]
  refine c_toPuzzle n hlen' (hs.pre P6) ?_
  intro o7 h7 ho7 p7
  have s7 := rdRow_pre p7 s6
  simp (maxSteps := 1000000) (disch := first | omega | rfl | (simp only [zL, two63, room] <;> omega) | fail) only [↓reduceIte, ↓zP, zW, WOp, evOp, evBin, binI, binSh, binS, evNil, keyIs, keyEq, mkv, AV.cells, AV.sc, optv, bnd, env, put, Env.get, Env.set, Env.del, Env.dels, Env.init, res1, resL, resV, fillP, splice, newRow, Nat.reduceEqDiff, Nat.reduceLT, Nat.reduceLeDiff, Nat.reduceAdd, Nat.reduceMul, Nat.reduceSub, Nat.reduceBEq, reduceCtorEq, ↓zR, zQ, Tr, StA, StT, s6, s7]
  refine c_eqPuzzle n n hlen' (ho4.slc.pre ((p5.trans p6).trans p7)) ho7.slc ?_
  intro h8 p8
  have s8 := rdRow_pre p8 s7
  simp (maxSteps := 1000000) (disch := first | omega | rfl | (simp only [zL, two63, room] <;> omega) | fail) only [↓reduceIte, ↓zP, zW, WOp, evOp, evBin, binI, binSh, binS, evNil, keyIs, keyEq, mkv, AV.cells, AV.sc, optv, bnd, env, put, Env.get, Env.set, Env.del, Env.dels, Env.init, res1, resL, resV, fillP, splice, newRow, Nat.reduceEqDiff, Nat.reduceLT, Nat.reduceLeDiff, Nat.reduceAdd, Nat.reduceMul, Nat.reduceSub, Nat.reduceBEq, reduceCtorEq, ↓zR, zQ, Tr, StA, StT, s6, s7, s8]
end Go.Proofs.YtnkkgghpfgihfaaDoor.Ab

/- MARKS: what the laws' helpers write into a slice and find there again; slices of numbers compared. -/
namespace Go.Proofs.YtnkkgghpfgihfaaDoor.Ab
open Go
set_option maxRecDepth 100000
set_option maxHeartbeats 4000000

theorem splice_in {X vs : List AV} {o : Nat} (h : o + vs.length ≤ X.length) (A Z : List AV) {n : Nat} (hn : n = A.length + o) : splice (A ++ (X ++ Z)) n vs = A ++ (splice X o vs ++ Z) := by
  subst hn
  unfold splice
  rw [List.take_append, List.take_of_length_le (by omega), show A.length + o - A.length = o by omega, List.take_append_of_le_length (by omega),
    List.drop_append, List.drop_of_length_le (by omega), show A.length + o + vs.length - A.length = o + vs.length by omega, List.drop_append_of_le_length (by omega)]
  simp
theorem OwW.store {α : Type} {esz : Nat} {enc : α → List AV} (hl : ∀ x, (enc x).length = esz) {b h : AH} {v : AV} {pre : List α} {x : α} {rest : List α} (ho : OwW esz enc b h v (pre ++ x :: rest)) (y : α) (o : Nat) (vs : List AV) (hvs : o + vs.length ≤ esz) (hsc : vs.all AV.sc = true) (hy : splice (enc x) o vs = enc y) :
    ∃ c kk off h', v = .slice c kk off (pre ++ x :: rest).length esz ∧ wrRow h c kk (off + pre.length * esz + o) vs = some h' ∧ OwW esz enc b h' v (pre ++ y :: rest) ∧ PreV v h h' := by
  unfold OwW at ho
  cases v <;> simp only at ho <;> first
    | (exact ho.elim)
    | (simp at ho; done)
    | skip
  rename_i c kk off len e
  obtain ⟨rfl, rfl, h3, A, Z, fl, h4, h5, h6⟩ := ho
  have hlt := (List.getElem?_eq_some_iff.1 h4).1
  have hpl := flat_len hl pre
  have hrow : A ++ (pre ++ x :: rest).flatMap enc ++ Z = (A ++ pre.flatMap enc) ++ (enc x ++ (rest.flatMap enc ++ Z)) := by simp
  have hsp := splice_in (X := enc x) (vs := vs) (o := o) (by rw [hl]; exact hvs) (A ++ pre.flatMap enc) (rest.flatMap enc ++ Z) (n := off + pre.length * e + o) (by rw [List.length_append, hpl, h6])
  rw [hrow] at h4
  refine ⟨c, kk, off, h.set c (.row (splice ((A ++ pre.flatMap enc) ++ (enc x ++ (rest.flatMap enc ++ Z))) (off + pre.length * e + o) vs) kk kk false), rfl, ?_, ?_, ?_⟩
  · unfold wrRow
    rw [h4]
    simp only
    rw [if_pos ⟨trivial, h5, by simp only [List.length_append, hpl, hl, h6]; omega, hsc⟩]
  · unfold OwW
    simp only
    refine ⟨trivial, by simp, h3, A, Z, kk, ?_, Nat.le_refl _, h6⟩
    rw [List.getElem?_set, if_pos rfl, if_pos hlt, hsp, hy]
    simp
  · exact ⟨by simp, fun i _ hc => by rw [List.getElem?_set, if_neg (hc c kk off _ e rfl ·.symm)]⟩
theorem PreV.trans {v : AV} {a b c : AH} (x : PreV v a b) (y : PreV v b c) : PreV v a c := ⟨Nat.le_trans x.1 y.1, fun i hi hc => by rw [y.2 i (Nat.lt_of_lt_of_le hi x.1) hc, x.2 i hi hc]⟩
theorem PreV.refl (v : AV) (a : AH) : PreV v a a := ⟨Nat.le_refl _, fun _ _ _ => rfl⟩

theorem lp_eqSI {v u : AV} {L M : List Int} (hlen : L.length < 2 ^ 40) {h : AH} (hs : Slc 1 encI h v L) (ht : Slc 1 encI h u M) (hll : L.length = M.length) {R : X → Env → AH → Prop} : ∀ (rest rest' pre pre' : List Int), L = pre ++ rest → M = pre' ++ rest' → pre.length = pre'.length →
    ((rest == rest') = true → R (.exit 0) [] h) → ((rest == rest') = false → R .ret [(4, .bool false)] h) → Cx (.loop lp155_0) [(0, v), (1, u), (5, .int .i64 pre.length)] h R k k
  | [], rest', pre, pre', hL, hM, hpp, h1, h2 => by
    have : rest' = [] := by
      have e1 := congrArg List.length hL
      have e2 := congrArg List.length hM
      simp at e1 e2
      exact List.eq_nil_of_length_eq_zero (by omega)
    subst this
    rw [w_loopb (c := lp155_0) (d := lb155_0) rfl]; unfold lb155_0
    have hv := fun g => Slc.lenV (hs) (g := g) (ρ := fun _ => _) (x := .t 0) rfl; simp only [evOp] at hv
    have hl : L.length = pre.length := by rw [hL]; simp
    simp (maxSteps := 1000000) (disch := first | omega | rfl | (simp only [zL, two63, room] <;> omega) | fail) only [↓reduceIte, ↓zP, zW, WOp, evOp, evBin, binI, binSh, binS, evNil, keyIs, keyEq, mkv, AV.cells, AV.sc, optv, bnd, env, put, Env.get, Env.set, Env.del, Env.dels, Env.init, res1, resL, resV, fillP, splice, newRow, Nat.reduceEqDiff, Nat.reduceLT, Nat.reduceLeDiff, Nat.reduceAdd, Nat.reduceMul, Nat.reduceSub, Nat.reduceBEq, reduceCtorEq, ↓zR, zQ, Tr, StA, StT, hv, hl]
    exact h1 rfl
  | x :: rest, [], pre, pre', hL, hM, hpp, h1, h2 => by
    have e1 := congrArg List.length hL
    have e2 := congrArg List.length hM
    simp at e1 e2
    omega
  | x :: rest, y :: rest', pre, pre', hL, hM, hpp, h1, h2 => by
    have ih := lp_eqSI hlen hs ht hll (R := R) rest rest' (pre ++ [x]) (pre' ++ [y])
    have hv := fun g => Slc.lenV (hs) (g := g) (ρ := fun _ => _) (x := .t 0) rfl; simp only [evOp] at hv
    have hl : L.length = pre.length + 1 + rest.length := by rw [hL]; simp; omega
    have hm : M.length = pre.length + 1 + rest'.length := by rw [hM, hpp]; simp; omega
    have hs' := hs
    have ht' := ht
    rw [hL] at hs'
    rw [hM] at ht'
    obtain ⟨r1, k1, o1, hve, hr⟩ := hs'.at hlI
    obtain ⟨r2, k2, o2, hue, hr2⟩ := ht'.at hlI
    rw [← hL, hl] at hve
    rw [← hM, hm] at hue
    rw [← hpp] at hr2
    subst hve
    subst hue
    have hlt : (pre.length : Int) < ((pre.length + 1 + rest.length : Nat) : Int) := by omega
    have hlt2 : (pre.length : Int) < ((pre.length + 1 + rest'.length : Nat) : Int) := by omega
    have hw1 : (pre.length : Int) + 1 = ((pre ++ [x]).length : Int) := by simp
    rw [w_loopb (c := lp155_0) (d := lb155_0) rfl]; unfold lb155_0
    cases e : (x == y)
    · have en : (x != y) = true := by simp only [bne, e]; rfl
      simp (maxSteps := 1000000) (disch := first | omega | rfl | (simp only [zL, two63, room] <;> omega) | fail) only [↓reduceIte, ↓zP, zW, WOp, evOp, evBin, binI, binSh, binS, evNil, keyIs, keyEq, mkv, AV.cells, AV.sc, optv, bnd, env, put, Env.get, Env.set, Env.del, Env.dels, Env.init, res1, resL, resV, fillP, splice, newRow, Nat.reduceEqDiff, Nat.reduceLT, Nat.reduceLeDiff, Nat.reduceAdd, Nat.reduceMul, Nat.reduceSub, Nat.reduceBEq, reduceCtorEq, ↓zR, zQ, Tr, StA, StT, hlt, hlt2, hr, hr2, en]
      exact h2 (by rw [beq_cc, e]; rfl)
    · have en : (x != y) = false := by simp only [bne, e]; rfl
      simp (maxSteps := 1000000) (disch := first | omega | rfl | (simp only [zL, two63, room] <;> omega) | fail) only [↓reduceIte, ↓zP, zW, WOp, evOp, evBin, binI, binSh, binS, evNil, keyIs, keyEq, mkv, AV.cells, AV.sc, optv, bnd, env, put, Env.get, Env.set, Env.del, Env.dels, Env.init, res1, resL, resV, fillP, splice, newRow, Nat.reduceEqDiff, Nat.reduceLT, Nat.reduceLeDiff, Nat.reduceAdd, Nat.reduceMul, Nat.reduceSub, Nat.reduceBEq, reduceCtorEq, ↓zR, zQ, Tr, StA, StT, hlt, hlt2, hr, hr2, en]
      simp (maxSteps := 1000000) (disch := first | omega | rfl | (simp only [zL, two63, room] <;> omega) | fail) only [↓reduceIte, ↓zP, zW, WOp, evOp, evBin, binI, binSh, binS, evNil, keyIs, keyEq, mkv, AV.cells, AV.sc, optv, bnd, env, put, Env.get, Env.set, Env.del, Env.dels, Env.init, res1, resL, resV, fillP, splice, newRow, Nat.reduceEqDiff, Nat.reduceLT, Nat.reduceLeDiff, Nat.reduceAdd, Nat.reduceMul, Nat.reduceSub, Nat.reduceBEq, reduceCtorEq, ↓zR, zQ, Tr, StA, StT, hw1]
      rw [w_loopn (c := lp155_0) rfl]
      simp (maxSteps := 1000000) (disch := first | omega | rfl | (simp only [zL, two63, room] <;> omega) | fail) only [↓reduceIte, ↓zP, zW, WOp, evOp, evBin, binI, binSh, binS, evNil, keyIs, keyEq, mkv, AV.cells, AV.sc, optv, bnd, env, put, Env.get, Env.set, Env.del, Env.dels, Env.init, res1, resL, resV, fillP, splice, newRow, Nat.reduceEqDiff, Nat.reduceLT, Nat.reduceLeDiff, Nat.reduceAdd, Nat.reduceMul, Nat.reduceSub, Nat.reduceBEq, reduceCtorEq, ↓zR, zQ, Tr, StA, StT]
      exact ih (by rw [hL]; simp) (by rw [hM]; simp) (by simp [hpp]) (fun q => h1 (by rw [beq_cc, e, q]; rfl)) (fun q => h2 (by rw [beq_cc, e, q]; rfl))
theorem c_eqSI {v u : AV} {L M : List Int} (hlen : L.length < 2 ^ 40) {h : AH} (hs : Slc 1 encI h v L) (ht : Slc 1 encI h u M) {post : AV → AH → Prop} (hp : post (.bool (L == M)) h) : S 155 [v, u] h post k := by
  refine S_of rfl T155 ?_; unfold fi155
  have hv := fun g => Slc.lenV (hs) (g := g) (ρ := fun _ => _) (x := .t 0) rfl; simp only [evOp] at hv
  have hu := fun g => Slc.lenV (ht) (g := g) (ρ := fun _ => _) (x := .t 0) rfl; simp only [evOp] at hu
  by_cases hl : L.length = M.length
  · simp (maxSteps := 1000000) (disch := first | omega | rfl | (simp only [zL, two63, room] <;> omega) | fail) only [↓reduceIte, ↓zP, zW, WOp, evOp, evBin, binI, binSh, binS, evNil, keyIs, keyEq, mkv, AV.cells, AV.sc, optv, bnd, env, put, Env.get, Env.set, Env.del, Env.dels, Env.init, res1, resL, resV, fillP, splice, newRow, Nat.reduceEqDiff, Nat.reduceLT, Nat.reduceLeDiff, Nat.reduceAdd, Nat.reduceMul, Nat.reduceSub, Nat.reduceBEq, reduceCtorEq, ↓zR, zQ, Tr, StA, StT, hv, hu, hl]
    refine lp_eqSI hlen hs ht hl L M [] [] rfl rfl rfl ?_ ?_
    · intro e
      simp (maxSteps := 1000000) (disch := first | omega | rfl | (simp only [zL, two63, room] <;> omega) | fail) only [↓reduceIte, ↓zP, zW, WOp, evOp, evBin, binI, binSh, binS, evNil, keyIs, keyEq, mkv, AV.cells, AV.sc, optv, bnd, env, put, Env.get, Env.set, Env.del, Env.dels, Env.init, res1, resL, resV, fillP, splice, newRow, Nat.reduceEqDiff, Nat.reduceLT, Nat.reduceLeDiff, Nat.reduceAdd, Nat.reduceMul, Nat.reduceSub, Nat.reduceBEq, reduceCtorEq, ↓zR, zQ, Tr, StA, StT]
      exact e ▸ hp
    · intro e
      simp (maxSteps := 1000000) (disch := first | omega | rfl | (simp only [zL, two63, room] <;> omega) | fail) only [↓reduceIte, ↓zP, zW, WOp, evOp, evBin, binI, binSh, binS, evNil, keyIs, keyEq, mkv, AV.cells, AV.sc, optv, bnd, env, put, Env.get, Env.set, Env.del, Env.dels, Env.init, res1, resL, resV, fillP, splice, newRow, Nat.reduceEqDiff, Nat.reduceLT, Nat.reduceLeDiff, Nat.reduceAdd, Nat.reduceMul, Nat.reduceSub, Nat.reduceBEq, reduceCtorEq, ↓zR, zQ, Tr, StA, StT]
      exact e ▸ hp
  · have hne : ((L.length : Int) != (M.length : Int)) = true := by simp; omega
    simp (maxSteps := 1000000) (disch := first | omega | rfl | (simp only [zL, two63, room] <;> omega) | fail) only [↓reduceIte, ↓zP, zW, WOp, evOp, evBin, binI, binSh, binS, evNil, keyIs, keyEq, mkv, AV.cells, AV.sc, optv, bnd, env, put, Env.get, Env.set, Env.del, Env.dels, Env.init, res1, resL, resV, fillP, splice, newRow, Nat.reduceEqDiff, Nat.reduceLT, Nat.reduceLeDiff, Nat.reduceAdd, Nat.reduceMul, Nat.reduceSub, Nat.reduceBEq, reduceCtorEq, ↓zR, zQ, Tr, StA, StT, hv, hu, hne]
    have : (L == M) = false := by
      rw [beq_eq_false_iff_ne]; rintro rfl; exact hl rfl
    exact this ▸ hp

/-! ### Marks on numbers -/
def cntL : Int → Nat → List Int
  | _, 0 => []
  | q, n + 1 => q :: cntL (q + 1) n
theorem cntL_len : ∀ (n : Nat) (q : Int), (cntL q n).length = n
  | 0, _ => rfl
  | n + 1, q => by simp [cntL, cntL_len n]
theorem lp_markIntS {b : AH} {v : AV} {R : X → Env → AH → Prop} : ∀ (rest pre : List Int) (q : Int) (h : AH), OwW 1 encI b h v (pre ++ rest) → pre.length + rest.length < 2 ^ 30 → 0 ≤ q → q + rest.length < 2 ^ 40 →
    (∀ h', OwW 1 encI b h' v (pre ++ cntL q rest.length) → PreV v h h' → R (.exit 0) [(1, .int .i64 (q + rest.length))] h') → Cx (.loop lp157_0) [(0, v), (1, .int .i64 q), (5, .int .i64 pre.length)] h R k k
  | [], pre, q, h, ho, hb, h0, hq, hR => by
    rw [w_loopb (c := lp157_0) (d := lb157_0) rfl]; unfold lb157_0
    have hv := fun g => Slc.lenV ((ho.slc hlI)) (g := g) (ρ := fun _ => _) (x := .t 0) rfl; simp only [evOp] at hv
    simp only [List.append_nil] at hv
    simp (maxSteps := 1000000) (disch := first | omega | rfl | (simp only [zL, two63, room] <;> omega) | fail) only [↓reduceIte, ↓zP, zW, WOp, evOp, evBin, binI, binSh, binS, evNil, keyIs, keyEq, mkv, AV.cells, AV.sc, optv, bnd, env, put, Env.get, Env.set, Env.del, Env.dels, Env.init, res1, resL, resV, fillP, splice, newRow, Nat.reduceEqDiff, Nat.reduceLT, Nat.reduceLeDiff, Nat.reduceAdd, Nat.reduceMul, Nat.reduceSub, Nat.reduceBEq, reduceCtorEq, ↓zR, zQ, Tr, StA, StT, hv]
    have := hR h ho (PreV.refl _ _)
    simpa using this
  | x :: rest, pre, q, h, ho, hb, h0, hq, hR => by
    have ih := lp_markIntS (b := b) (v := v) (R := R) rest (pre ++ [q]) (q + 1)
    obtain ⟨c, kk, off, h', hve, hw, ho', hpv⟩ := ho.store hlI q 0 [.int .i64 q] (by simp) rfl rfl
    rw [Nat.add_zero] at hw
    have hl : (pre ++ x :: rest).length = pre.length + 1 + rest.length := by simp; omega
    have hv := fun g => Slc.lenV ((ho.slc hlI)) (g := g) (ρ := fun _ => _) (x := .t 0) rfl; simp only [evOp] at hv
    rw [hl] at hve hv
    subst hve
    simp only [List.length_cons] at hb hq
    have hlt : (pre.length : Int) < ((pre.length + 1 + rest.length : Nat) : Int) := by omega
    have hw1 : (pre.length : Int) + 1 = ((pre ++ [q]).length : Int) := by simp
    rw [w_loopb (c := lp157_0) (d := lb157_0) rfl]; unfold lb157_0
    simp (maxSteps := 1000000) (disch := first | omega | rfl | (simp only [zL, two63, room] <;> omega) | fail) only [↓reduceIte, ↓zP, zW, WOp, evOp, evBin, binI, binSh, binS, evNil, keyIs, keyEq, mkv, AV.cells, AV.sc, optv, bnd, env, put, Env.get, Env.set, Env.del, Env.dels, Env.init, res1, resL, resV, fillP, splice, newRow, Nat.reduceEqDiff, Nat.reduceLT, Nat.reduceLeDiff, Nat.reduceAdd, Nat.reduceMul, Nat.reduceSub, Nat.reduceBEq, reduceCtorEq, ↓zR, zQ, Tr, StA, StT, hv, hlt, hw]
    simp (maxSteps := 1000000) (disch := first | omega | rfl | (simp only [zL, two63, room] <;> omega) | fail) only [↓reduceIte, ↓zP, zW, WOp, evOp, evBin, binI, binSh, binS, evNil, keyIs, keyEq, mkv, AV.cells, AV.sc, optv, bnd, env, put, Env.get, Env.set, Env.del, Env.dels, Env.init, res1, resL, resV, fillP, splice, newRow, Nat.reduceEqDiff, Nat.reduceLT, Nat.reduceLeDiff, Nat.reduceAdd, Nat.reduceMul, Nat.reduceSub, Nat.reduceBEq, reduceCtorEq, ↓zR, zQ, Tr, StA, StT, hw1]
    rw [w_loopn (c := lp157_0) rfl]
    simp (maxSteps := 1000000) (disch := first | omega | rfl | (simp only [zL, two63, room] <;> omega) | fail) only [↓reduceIte, ↓zP, zW, WOp, evOp, evBin, binI, binSh, binS, evNil, keyIs, keyEq, mkv, AV.cells, AV.sc, optv, bnd, env, put, Env.get, Env.set, Env.del, Env.dels, Env.init, res1, resL, resV, fillP, splice, newRow, Nat.reduceEqDiff, Nat.reduceLT, Nat.reduceLeDiff, Nat.reduceAdd, Nat.reduceMul, Nat.reduceSub, Nat.reduceBEq, reduceCtorEq, ↓zR, zQ, Tr, StA, StT]
    refine ih h' (by simpa using ho') (by simp; omega) (by omega) (by omega) ?_
    intro h2 ho2 hpv2
    have := hR h2 (by simpa [cntL] using ho2) (hpv.trans hpv2)
    rw [show q + ((x :: rest).length : Int) = q + 1 + (rest.length : Int) by simp; omega] at this
    exact this
theorem c_markIntS {b h : AH} {v : AV} {L : List Int} (ho : OwW 1 encI b h v L) (q : Int) (hL : L.length < 2 ^ 30) (hq : 0 ≤ q ∧ q < 2 ^ 30) {post : AV → AH → Prop} (hp : ∀ h', OwW 1 encI b h' v (cntL q L.length) → PreV v h h' → post (.int .i64 (q + L.length)) h') : S 157 [v, .int .i64 q] h post k := by
  refine S_of rfl T157 ?_; unfold fi157
  simp (maxSteps := 1000000) (disch := first | omega | rfl | (simp only [zL, two63, room] <;> omega) | fail) only [↓reduceIte, ↓zP, zW, WOp, evOp, evBin, binI, binSh, binS, evNil, keyIs, keyEq, mkv, AV.cells, AV.sc, optv, bnd, env, put, Env.get, Env.set, Env.del, Env.dels, Env.init, res1, resL, resV, fillP, splice, newRow, Nat.reduceEqDiff, Nat.reduceLT, Nat.reduceLeDiff, Nat.reduceAdd, Nat.reduceMul, Nat.reduceSub, Nat.reduceBEq, reduceCtorEq, ↓zR, zQ, Tr, StA, StT]
  refine lp_markIntS (b := b) L [] q h ho (by simpa using hL) hq.1 (by omega) ?_
  intro h' ho' hpv
  simp (maxSteps := 1000000) (disch := first | omega | rfl | (simp only [zL, two63, room] <;> omega) | fail) only [↓reduceIte, ↓zP, zW, WOp, evOp, evBin, binI, binSh, binS, evNil, keyIs, keyEq, mkv, AV.cells, AV.sc, optv, bnd, env, put, Env.get, Env.set, Env.del, Env.dels, Env.init, res1, resL, resV, fillP, splice, newRow, Nat.reduceEqDiff, Nat.reduceLT, Nat.reduceLeDiff, Nat.reduceAdd, Nat.reduceMul, Nat.reduceSub, Nat.reduceBEq, reduceCtorEq, ↓zR, zQ, Tr, StA, StT]
  exact hp h' ho' hpv
theorem lp_heldIntS {v : AV} {h : AH} {n : Nat} (hn : n < 2 ^ 30) {R : X → Env → AH → Prop} : ∀ (d : Nat) (pre : List Int) (q : Int), Slc 1 encI h v (pre ++ cntL q d) → pre.length + d = n → 0 ≤ q → q + d < 2 ^ 40 →
    R (.exit 0) [(1, .int .i64 (q + d))] h → Cx (.loop lp158_0) [(0, v), (1, .int .i64 q), (5, .int .i64 pre.length)] h R k k
  | 0, pre, q, hs, hd, h0, hq, hR => by
    rw [w_loopb (c := lp158_0) (d := lb158_0) rfl]; unfold lb158_0
    have hv := fun g => Slc.lenV (hs) (g := g) (ρ := fun _ => _) (x := .t 0) rfl; simp only [evOp] at hv
    simp only [cntL, List.append_nil] at hv
    simp (maxSteps := 1000000) (disch := first | omega | rfl | (simp only [zL, two63, room] <;> omega) | fail) only [↓reduceIte, ↓zP, zW, WOp, evOp, evBin, binI, binSh, binS, evNil, keyIs, keyEq, mkv, AV.cells, AV.sc, optv, bnd, env, put, Env.get, Env.set, Env.del, Env.dels, Env.init, res1, resL, resV, fillP, splice, newRow, Nat.reduceEqDiff, Nat.reduceLT, Nat.reduceLeDiff, Nat.reduceAdd, Nat.reduceMul, Nat.reduceSub, Nat.reduceBEq, reduceCtorEq, ↓zR, zQ, Tr, StA, StT, hv]
    simpa using hR
  | d + 1, pre, q, hs, hd, h0, hq, hR => by
    have ih := lp_heldIntS (v := v) (h := h) hn (R := R) d (pre ++ [q]) (q + 1)
    have hv := fun g => Slc.lenV (hs) (g := g) (ρ := fun _ => _) (x := .t 0) rfl; simp only [evOp] at hv
    simp only [cntL] at hs hv
    have hl : (pre ++ q :: cntL (q + 1) d).length = pre.length + 1 + d := by simp [cntL_len]; omega
    obtain ⟨c, kk, off, hve, hr⟩ := hs.at hlI
    rw [hl] at hve hv
    subst hve
    have hlt : (pre.length : Int) < ((pre.length + 1 + d : Nat) : Int) := by omega
    have hw1 : (pre.length : Int) + 1 = ((pre ++ [q]).length : Int) := by simp
    rw [w_loopb (c := lp158_0) (d := lb158_0) rfl]; unfold lb158_0
    simp (maxSteps := 1000000) (disch := first | omega | rfl | (simp only [zL, two63, room] <;> omega) | fail) only [↓reduceIte, ↓zP, zW, WOp, evOp, evBin, binI, binSh, binS, evNil, keyIs, keyEq, mkv, AV.cells, AV.sc, optv, bnd, env, put, Env.get, Env.set, Env.del, Env.dels, Env.init, res1, resL, resV, fillP, splice, newRow, Nat.reduceEqDiff, Nat.reduceLT, Nat.reduceLeDiff, Nat.reduceAdd, Nat.reduceMul, Nat.reduceSub, Nat.reduceBEq, reduceCtorEq, ↓zR, zQ, Tr, StA, StT, hv, hlt, hr]
    simp (maxSteps := 1000000) (disch := first | omega | rfl | (simp only [zL, two63, room] <;> omega) | fail) only [↓reduceIte, ↓zP, zW, WOp, evOp, evBin, binI, binSh, binS, evNil, keyIs, keyEq, mkv, AV.cells, AV.sc, optv, bnd, env, put, Env.get, Env.set, Env.del, Env.dels, Env.init, res1, resL, resV, fillP, splice, newRow, Nat.reduceEqDiff, Nat.reduceLT, Nat.reduceLeDiff, Nat.reduceAdd, Nat.reduceMul, Nat.reduceSub, Nat.reduceBEq, reduceCtorEq, ↓zR, zQ, Tr, StA, StT, hw1]
    rw [w_loopn (c := lp158_0) rfl]
    simp (maxSteps := 1000000) (disch := first | omega | rfl | (simp only [zL, two63, room] <;> omega) | fail) only [↓reduceIte, ↓zP, zW, WOp, evOp, evBin, binI, binSh, binS, evNil, keyIs, keyEq, mkv, AV.cells, AV.sc, optv, bnd, env, put, Env.get, Env.set, Env.del, Env.dels, Env.init, res1, resL, resV, fillP, splice, newRow, Nat.reduceEqDiff, Nat.reduceLT, Nat.reduceLeDiff, Nat.reduceAdd, Nat.reduceMul, Nat.reduceSub, Nat.reduceBEq, reduceCtorEq, ↓zR, zQ, Tr, StA, StT]
    refine ih (by simpa using hs) (by simp; omega) (by omega) (by omega) ?_
    rw [show q + 1 + (d : Int) = q + ((d + 1 : Nat) : Int) by omega]
    exact hR
theorem c_heldIntS {h : AH} {v : AV} (q : Int) (n : Nat) (hn : n < 2 ^ 30) (hq : 0 ≤ q ∧ q < 2 ^ 30) (hs : Slc 1 encI h v (cntL q n)) {post : AV → AH → Prop} (hp : post (.int .i64 (q + n)) h) : S 158 [v, .int .i64 q] h post k := by
  refine S_of rfl T158 ?_; unfold fi158
  simp (maxSteps := 1000000) (disch := first | omega | rfl | (simp only [zL, two63, room] <;> omega) | fail) only [↓reduceIte, ↓zP, zW, WOp, evOp, evBin, binI, binSh, binS, evNil, keyIs, keyEq, mkv, AV.cells, AV.sc, optv, bnd, env, put, Env.get, Env.set, Env.del, Env.dels, Env.init, res1, resL, resV, fillP, splice, newRow, Nat.reduceEqDiff, Nat.reduceLT, Nat.reduceLeDiff, Nat.reduceAdd, Nat.reduceMul, Nat.reduceSub, Nat.reduceBEq, reduceCtorEq, ↓zR, zQ, Tr, StA, StT]
  refine lp_heldIntS hn n [] q hs (by simp) hq.1 (by omega) ?_
  simp (maxSteps := 1000000) (disch := first | omega | rfl | (simp only [zL, two63, room] <;> omega) | fail) only [↓reduceIte, ↓zP, zW, WOp, evOp, evBin, binI, binSh, binS, evNil, keyIs, keyEq, mkv, AV.cells, AV.sc, optv, bnd, env, put, Env.get, Env.set, Env.del, Env.dels, Env.init, res1, resL, resV, fillP, splice, newRow, Nat.reduceEqDiff, Nat.reduceLT, Nat.reduceLeDiff, Nat.reduceAdd, Nat.reduceMul, Nat.reduceSub, Nat.reduceBEq, reduceCtorEq, ↓zR, zQ, Tr, StA, StT]
  exact hp

/-! ### Marks on clues -/
theorem lp_markClueS {b : AH} {v : AV} {R : X → Env → AH → Prop} : ∀ (rest pre : List Clu) (q : Int) (h : AH), OwW 3 encC b h v (pre ++ rest) → pre.length + rest.length < 2 ^ 30 → 0 ≤ q → q + 3 * rest.length < 2 ^ 40 →
    (∀ h', PreV v h h' → R (.exit 0) [(1, .int .i64 (q + 3 * rest.length))] h') → Cx (.loop lp170_0) [(0, v), (1, .int .i64 q), (5, .int .i64 pre.length)] h R k k
  | [], pre, q, h, ho, hb, h0, hq, hR => by
    rw [w_loopb (c := lp170_0) (d := lb170_0) rfl]; unfold lb170_0
    have hv := fun g => Slc.lenV ((ho.slc hlC)) (g := g) (ρ := fun _ => _) (x := .t 0) rfl; simp only [evOp] at hv
    simp only [List.append_nil] at hv
    simp (maxSteps := 1000000) (disch := first | omega | rfl | (simp only [zL, two63, room] <;> omega) | fail) only [↓reduceIte, ↓zP, zW, WOp, evOp, evBin, binI, binSh, binS, evNil, keyIs, keyEq, mkv, AV.cells, AV.sc, optv, bnd, env, put, Env.get, Env.set, Env.del, Env.dels, Env.init, res1, resL, resV, fillP, splice, newRow, Nat.reduceEqDiff, Nat.reduceLT, Nat.reduceLeDiff, Nat.reduceAdd, Nat.reduceMul, Nat.reduceSub, Nat.reduceBEq, reduceCtorEq, ↓zR, zQ, Tr, StA, StT, hv]
    have := hR h (PreV.refl _ _)
    simpa using this
  | (x1, x2, x3) :: rest, pre, q, h, ho, hb, h0, hq, hR => by
    have ih := lp_markClueS (b := b) (v := v) (R := R) rest (pre ++ [(q, q + 1, q + 2)]) (q + 3)
    obtain ⟨c, kk, off, h1, hve, hw, ho1, hpv1⟩ := ho.store hlC (q, x2, x3) 0 [.int .i64 q] (by simp) rfl rfl
    obtain ⟨c', kk', off', h2, hve2, hw2, ho2, hpv2⟩ := ho1.store hlC (q, q + 1, x3) 1 [.int .i64 (q + 1)] (by simp) rfl rfl
    obtain ⟨c'', kk'', off'', h3, hve3, hw3, ho3, hpv3⟩ := ho2.store hlC (q, q + 1, q + 2) 2 [.int .i64 (q + 2)] (by simp) rfl rfl
    rw [hve] at hve2 hve3
    simp only [AV.slice.injEq] at hve2 hve3
    obtain ⟨rfl, rfl, rfl, -⟩ := hve2
    obtain ⟨rfl, rfl, rfl, -⟩ := hve3
    have hl : (pre ++ (x1, x2, x3) :: rest).length = pre.length + 1 + rest.length := by simp; omega
    have hv := fun g => Slc.lenV ((ho.slc hlC)) (g := g) (ρ := fun _ => _) (x := .t 0) rfl; simp only [evOp] at hv
    rw [hl] at hve hv
    subst hve
    simp only [List.length_cons] at hb hq
    have hlt : (pre.length : Int) < ((pre.length + 1 + rest.length : Nat) : Int) := by omega
    have hw1 : (pre.length : Int) + 1 = ((pre ++ [((q, q + 1, q + 2) : Clu)]).length : Int) := by simp
    have hq2 : q + 1 + 1 = q + 2 := by omega
    have hq3 : q + 2 + 1 = q + 3 := by omega
    rw [w_loopb (c := lp170_0) (d := lb170_0) rfl]; unfold lb170_0
    simp (maxSteps := 1000000) (disch := first | omega | rfl | (simp only [zL, two63, room] <;> omega) | fail) only [↓reduceIte, ↓zP, zW, WOp, evOp, evBin, binI, binSh, binS, evNil, keyIs, keyEq, mkv, AV.cells, AV.sc, optv, bnd, env, put, Env.get, Env.set, Env.del, Env.dels, Env.init, res1, resL, resV, fillP, splice, newRow, Nat.reduceEqDiff, Nat.reduceLT, Nat.reduceLeDiff, Nat.reduceAdd, Nat.reduceMul, Nat.reduceSub, Nat.reduceBEq, reduceCtorEq, ↓zR, zQ, Tr, StA, StT, hv, hlt, hw, hw2, hw3, hq2, hq3]
    simp (maxSteps := 1000000) (disch := first | omega | rfl | (simp only [zL, two63, room] <;> omega) | fail) only [↓reduceIte, ↓zP, zW, WOp, evOp, evBin, binI, binSh, binS, evNil, keyIs, keyEq, mkv, AV.cells, AV.sc, optv, bnd, env, put, Env.get, Env.set, Env.del, Env.dels, Env.init, res1, resL, resV, fillP, splice, newRow, Nat.reduceEqDiff, Nat.reduceLT, Nat.reduceLeDiff, Nat.reduceAdd, Nat.reduceMul, Nat.reduceSub, Nat.reduceBEq, reduceCtorEq, ↓zR, zQ, Tr, StA, StT, hw1]
    rw [w_loopn (c := lp170_0) rfl]
    simp (maxSteps := 1000000) (disch := first | omega | rfl | (simp only [zL, two63, room] <;> omega) | fail) only [↓reduceIte, ↓zP, zW, WOp, evOp, evBin, binI, binSh, binS, evNil, keyIs, keyEq, mkv, AV.cells, AV.sc, optv, bnd, env, put, Env.get, Env.set, Env.del, Env.dels, Env.init, res1, resL, resV, fillP, splice, newRow, Nat.reduceEqDiff, Nat.reduceLT, Nat.reduceLeDiff, Nat.reduceAdd, Nat.reduceMul, Nat.reduceSub, Nat.reduceBEq, reduceCtorEq, ↓zR, zQ, Tr, StA, StT]
    refine ih h3 (by simpa using ho3) (by simp; omega) (by omega) (by omega) ?_
    intro h4 hpv4
    have := hR h4 (((hpv1.trans hpv2).trans hpv3).trans hpv4)
    rw [show q + 3 * (((x1, x2, x3) :: rest).length : Int) = q + 3 + 3 * (rest.length : Int) by simp; omega] at this
    exact this
theorem c_markClueS {b h : AH} {v : AV} {L : List Clu} (ho : OwW 3 encC b h v L) (q : Int) (hL : L.length < 2 ^ 30) (hq : 0 ≤ q ∧ q < 2 ^ 30) {post : AV → AH → Prop} (hp : ∀ h', PreV v h h' → post (.int .i64 (q + 3 * L.length)) h') : S 170 [v, .int .i64 q] h post k := by
  refine S_of rfl T170 ?_; unfold fi170
  simp (maxSteps := 1000000) (disch := first | omega | rfl | (simp only [zL, two63, room] <;> omega) | fail) only [↓reduceIte, ↓zP, zW, WOp, evOp, evBin, binI, binSh, binS, evNil, keyIs, keyEq, mkv, AV.cells, AV.sc, optv, bnd, env, put, Env.get, Env.set, Env.del, Env.dels, Env.init, res1, resL, resV, fillP, splice, newRow, Nat.reduceEqDiff, Nat.reduceLT, Nat.reduceLeDiff, Nat.reduceAdd, Nat.reduceMul, Nat.reduceSub, Nat.reduceBEq, reduceCtorEq, ↓zR, zQ, Tr, StA, StT]
  refine lp_markClueS (b := b) L [] q h ho (by simpa using hL) hq.1 (by omega) ?_
  intro h' hpv
  simp (maxSteps := 1000000) (disch := first | omega | rfl | (simp only [zL, two63, room] <;> omega) | fail) only [↓reduceIte, ↓zP, zW, WOp, evOp, evBin, binI, binSh, binS, evNil, keyIs, keyEq, mkv, AV.cells, AV.sc, optv, bnd, env, put, Env.get, Env.set, Env.del, Env.dels, Env.init, res1, resL, resV, fillP, splice, newRow, Nat.reduceEqDiff, Nat.reduceLT, Nat.reduceLeDiff, Nat.reduceAdd, Nat.reduceMul, Nat.reduceSub, Nat.reduceBEq, reduceCtorEq, ↓zR, zQ, Tr, StA, StT]
  exact hp h' hpv
theorem c_markPuzzle (n : Int) {b h : AH} {v : AV} {L : List Clu} (ho : OwW 3 encC b h v L) (q : Int) (hL : L.length < 2 ^ 30) (hq : 0 ≤ q ∧ q < 2 ^ 30) {post : AV → AH → Prop} (hp : ∀ h', PreV v h h' → post (.int .i64 (q + 3 * L.length)) h') : S 156 [pzV n v, .int .i64 q] h post k := by
  have hpush := Pre.push h (AO.row [.int .i64 n, v] 0 0 false)
  have hsc := (sl_cells (ho.slc hlC)).2
  unfold AV.sc at hsc
  have r1 : rdRow (h ++ [AO.row [.int .i64 n, v] 0 0 false]) h.length 0 1 1 = some [v] := by rw [rd_last, if_pos (by simp)]; simp
  refine S_of rfl T156 ?_; unfold fi156
  simp (maxSteps := 1000000) (disch := first | omega | rfl | (simp only [zL, two63, room] <;> omega) | fail) only [↓reduceIte, ↓zP, zW, WOp, evOp, evBin, binI, binSh, binS, evNil, keyIs, keyEq, mkv, AV.cells, AV.sc, optv, bnd, env, put, Env.get, Env.set, Env.del, Env.dels, Env.init, res1, resL, resV, fillP, splice, newRow, Nat.reduceEqDiff, Nat.reduceLT, Nat.reduceLeDiff, Nat.reduceAdd, Nat.reduceMul, Nat.reduceSub, Nat.reduceBEq, reduceCtorEq, ↓zR, zQ, Tr, StA, StT, hsc, r1]
  refine c_markClueS (ho.pre hpush) q hL hq ?_
  intro h' hpv
  simp (maxSteps := 1000000) (disch := first | omega | rfl | (simp only [zL, two63, room] <;> omega) | fail) only [↓reduceIte, ↓zP, zW, WOp, evOp, evBin, binI, binSh, binS, evNil, keyIs, keyEq, mkv, AV.cells, AV.sc, optv, bnd, env, put, Env.get, Env.set, Env.del, Env.dels, Env.init, res1, resL, resV, fillP, splice, newRow, Nat.reduceEqDiff, Nat.reduceLT, Nat.reduceLeDiff, Nat.reduceAdd, Nat.reduceMul, Nat.reduceSub, Nat.reduceBEq, reduceCtorEq, ↓zR, zQ, Tr, StA, StT]
  exact hp h' ((hpush.v v).trans hpv)

/-! ### What a mark leaves as it was -/
theorem PreV.keep {α : Type} {esz : Nat} {enc : α → List AV} {a b h h' : AH} {v : AV} {L : List α} (hp : PreV v h h') (ho : OwW esz enc b h v L) (ha : Pre a h) (hab : a.length ≤ b.length) : Pre a h' :=
  ⟨Nat.le_trans ha.1 hp.1, fun i hi => by
    rw [hp.2 i (Nat.lt_of_lt_of_le hi ha.1) (fun c kk off n e hv => by
      subst hv
      unfold OwW at ho
      have := ho.2.2.1
      omega), ha.2 i hi]⟩
theorem Slc.row_lt {α : Type} {esz : Nat} {enc : α → List AV} {h : AH} {v : AV} {L : List α} (hs : Slc esz enc h v L) : ∀ c kk off n e, v = .slice c kk off n e → c < h.length := by
  rintro c kk off n e rfl
  exact rd_lt hs.all.2.2
theorem OwW.keep {α : Type} {esz : Nat} {enc : α → List AV} {b h h' : AH} {v u : AV} {L : List α} (ho : OwW esz enc b h v L) (hp : PreV u h h') (hu : ∀ c kk off n e, u = .slice c kk off n e → c < b.length) : OwW esz enc b h' v L := by
  unfold OwW at ho ⊢
  cases v <;> simp only at ho ⊢ <;> first
    | exact ho
    | (obtain ⟨h1, h2, h3, A, Z, fl, h4, h5⟩ := ho
       exact ⟨h1, h2, h3, A, Z, fl, by rw [hp.2 _ (List.getElem?_eq_some_iff.1 h4).1 (fun c kk off n e hv => by have := hu c kk off n e hv; omega)]; exact h4, h5⟩)
end Go.Proofs.YtnkkgghpfgihfaaDoor.Ab
