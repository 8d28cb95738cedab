/- Part 6 of the proof of a law of the given program: the rules that it leans on, and what the functions that it reaches answer; the conditions stand with each theorem. -/
import Derived.Test.YtoacbgjdflcceaaGreatDoorQ4
set_option linter.unusedSimpArgs false
set_option linter.unusedVariables false
/- GAMES of the program: who wins a sum. -/
namespace Go.Proofs.YtoacbgjdflcceaaGreatDoor.Ab
open Go
set_option maxRecDepth 100000
set_option maxHeartbeats 4000000

theorem e_kindOf (t : Bool) {h : AH} {post : AV → AH → Prop} : S 200 [.bool t] h post k = post (.str (kindS t)) h := S_eq fun _ hp => c_kindOf t hp
theorem kindS_len (t : Bool) : (kindS t).length = 1 := by cases t <;> rfl
def winK (s : List UInt8 × Bool) : List UInt8 := kindS s.2 ++ s.1
def winV (s : List UInt8 × Bool) : AV := .bool (winB s.1 s.2)
theorem winK_inj (s s' : List UInt8 × Bool) (h : winK s = winK s') : winV s = winV s' := by
  obtain ⟨w, t⟩ := s
  obtain ⟨w', t'⟩ := s'
  cases t <;> cases t' <;> simp [winK, kindS] at h ⊢ <;> subst h <;> rfl

theorem c_newGames {h : AH} {post : AV → AH → Prop} (hp : ∀ c h', Pre h h' → h.length ≤ c → Mh winK winV c h' → post (.agg [.map c]) h') : S 192 [] h post k := by
  refine S_of rfl T192 ?_; unfold fi192
  simp (maxSteps := 1000000) (disch := first | omega | rfl | (simp only [zL, two63, room] <;> omega) | fail) only [↓reduceIte, ↓zP, zW, WOp, evOp, evBin, binI, binSh, binS, evNil, keyIs, keyEq, mkv, AV.cells, AV.sc, optv, bnd, env, put, Env.get, Env.set, Env.del, Env.dels, Env.init, res1, resL, resV, fillP, splice, newRow, Nat.reduceEqDiff, Nat.reduceLT, Nat.reduceLeDiff, Nat.reduceAdd, Nat.reduceMul, Nat.reduceSub, Nat.reduceBEq, reduceCtorEq, ↓zR, zQ, Tr, StA, StT]
  exact hp _ _ (((Pre.push _ _).trans (Pre.push _ _))) (by simp) (Mh.new' (by simp))

def WinAt (n : Nat) : Prop := ∀ (w : List UInt8) (t : Bool) (c : Nat) (h : AH), mu w < n → w.length < 2 ^ 30 → Mh winK winV c h → ∀ post : AV → AH → Prop, (∀ h', PreX c h h' → Mh winK winV c h' → post (.bool (winB w t)) h') → S 198 [.agg [.map c], .str w, .bool t] h post k
theorem c_win1 {n : Nat} (ih : WinAt n) {w : List UInt8} {t : Bool} (hn : mu w < n + 1) (hw : w.length < 2 ^ 30) {c c3 c4 c5 : Nat} {h : AH} (hm : Mh winK winV c h) (r3 : rdRow h c3 0 0 1 = some [.map c]) (r4 : rdRow h c4 0 0 1 = some [.str w]) (r5 : rdRow h c5 0 0 1 = some [.bool t])
    {m : Int × Int} (hmm : m ∈ movesB w (kindS t)) {post : AV → AH → Prop} (hp : ∀ h', PreX c h h' → Mh winK winV c h' → post (.bool (!winB (madeB w m.1.toNat m.2.toNat) (!t))) h') :
    S 201 [.agg (encM m), .ptr c3 0 0 1, .ptr c4 0 0 1, .ptr c5 0 0 1] h post k := by
  obtain ⟨i, t', rfl, hmv⟩ := movesB_mv hmm
  refine S_of rfl T201 ?_; unfold fi201
  have hlt3 : c3 < h.length := rd_lt r3
  have hlt4 : c4 < h.length := rd_lt r4
  have hlt5 : c5 < h.length := rd_lt r5
  simp (maxSteps := 1000000) (disch := first | omega | rfl | (simp only [zL, two63, room] <;> omega) | fail) only [↓reduceIte, ↓zP, zW, WOp, evOp, evBin, binI, binSh, binS, evNil, keyIs, keyEq, mkv, AV.cells, AV.sc, optv, bnd, env, put, Env.get, Env.set, Env.del, Env.dels, Env.init, res1, resL, resV, fillP, splice, newRow, Nat.reduceEqDiff, Nat.reduceLT, Nat.reduceLeDiff, Nat.reduceAdd, Nat.reduceMul, Nat.reduceSub, Nat.reduceBEq, reduceCtorEq, ↓zR, zQ, Tr, StA, StT, r3, r4, r5]
  refine w_drw ?_
  simp (maxSteps := 1000000) (disch := first | omega | rfl | (simp only [zL, two63, room] <;> omega) | fail) only [↓reduceIte, ↓zP, zW, WOp, evOp, evBin, binI, binSh, binS, evNil, keyIs, keyEq, mkv, AV.cells, AV.sc, optv, bnd, env, put, Env.get, Env.set, Env.del, Env.dels, Env.init, res1, resL, resV, fillP, splice, newRow, Nat.reduceEqDiff, Nat.reduceLT, Nat.reduceLeDiff, Nat.reduceAdd, Nat.reduceMul, Nat.reduceSub, Nat.reduceBEq, reduceCtorEq, ↓zR, zQ, Tr, StA, StT, r3, r4, r5]
  refine c_made w i t' hmv.fst hmv.snd hw ?_
  intro h2 hp2
  have hp1 := (Pre.push h (AO.row (encM ((i : Int), (t' : Int))) 0 0 false)).trans hp2
  have q5 := rdRow_pre hp1 r5
  have q3 := rdRow_pre hp1 r3
  simp (maxSteps := 1000000) (disch := first | omega | rfl | (simp only [zL, two63, room] <;> omega) | fail) only [↓reduceIte, ↓zP, zW, WOp, evOp, evBin, binI, binSh, binS, evNil, keyIs, keyEq, mkv, AV.cells, AV.sc, optv, bnd, env, put, Env.get, Env.set, Env.del, Env.dels, Env.init, res1, resL, resV, fillP, splice, newRow, Nat.reduceEqDiff, Nat.reduceLT, Nat.reduceLeDiff, Nat.reduceAdd, Nat.reduceMul, Nat.reduceSub, Nat.reduceBEq, reduceCtorEq, ↓zR, zQ, Tr, StA, StT, r3, r4, r5, q3, q5]
  refine ih _ _ _ _ ?_ ?_ (hm.pre hp1) _ ?_
  · have := mu_made hmv; omega
  · rw [madeB_length]; exact hw
  intro h3 hp3 hm3
  simp (maxSteps := 1000000) (disch := first | omega | rfl | (simp only [zL, two63, room] <;> omega) | fail) only [↓reduceIte, ↓zP, zW, WOp, evOp, evBin, binI, binSh, binS, evNil, keyIs, keyEq, mkv, AV.cells, AV.sc, optv, bnd, env, put, Env.get, Env.set, Env.del, Env.dels, Env.init, res1, resL, resV, fillP, splice, newRow, Nat.reduceEqDiff, Nat.reduceLT, Nat.reduceLeDiff, Nat.reduceAdd, Nat.reduceMul, Nat.reduceSub, Nat.reduceBEq, reduceCtorEq, ↓zR, zQ, Tr, StA, StT, r3, r4, r5, q3, q5]
  exact hp _ ((hp1.x c).trans hp3) hm3

theorem c_win : ∀ n : Nat, WinAt n
  | 0 => fun w t c h hn _ _ _ _ => by omega
  | n + 1 => by
    intro w t c h hn hw hm post hp
    have ih := c_win n
    refine S_of rfl T198 ?_; unfold fi198
    have hk := kindS_len t
    have hlt := hm.lt
    have hm0 := hm
    obtain ⟨es, he, hks, hgood⟩ := hm
    have hp1 : Pre h (h ++ [AO.row [.map c] 0 0 false] ++ [AO.row [.str w] 0 0 false] ++ [AO.row [.bool t] 0 0 false]) := (Pre.push h _).trans ((Pre.push _ _).trans (Pre.push _ _))
    have hm1 : (h ++ [AO.row [.map c] 0 0 false] ++ [AO.row [.str w] 0 0 false] ++ [AO.row [.bool t] 0 0 false])[c]? = some (.map es) := by rw [hp1.2 c hlt, he]
    simp (maxSteps := 1000000) (disch := first | omega | rfl | (simp only [zL, two63, room] <;> omega) | fail) only [↓reduceIte, ↓zP, zW, WOp, evOp, evBin, binI, binSh, binS, evNil, keyIs, keyEq, mkv, AV.cells, AV.sc, optv, bnd, env, put, Env.get, Env.set, Env.del, Env.dels, Env.init, res1, resL, resV, fillP, splice, newRow, Nat.reduceEqDiff, Nat.reduceLT, Nat.reduceLeDiff, Nat.reduceAdd, Nat.reduceMul, Nat.reduceSub, Nat.reduceBEq, reduceCtorEq, ↓zR, zQ, Tr, StA, StT]
    refine w_drw ?_
    obtain ⟨o, ho⟩ := mfind_some hks (kindS t ++ w)
    cases o with
    | some v =>
      obtain rfl : v = .bool (winB w t) := hgood (w, t) v ho
      simp (maxSteps := 1000000) (disch := first | omega | rfl | (simp only [zL, two63, room] <;> omega) | fail) only [↓reduceIte, ↓zP, zW, WOp, evOp, evBin, binI, binSh, binS, evNil, keyIs, keyEq, mkv, AV.cells, AV.sc, optv, bnd, env, put, Env.get, Env.set, Env.del, Env.dels, Env.init, res1, resL, resV, fillP, splice, newRow, Nat.reduceEqDiff, Nat.reduceLT, Nat.reduceLeDiff, Nat.reduceAdd, Nat.reduceMul, Nat.reduceSub, Nat.reduceBEq, reduceCtorEq, ↓zR, zQ, Tr, StA, StT, e_kindOf, hm1, ho]
      exact hp _ (hp1.x c) (hm0.pre hp1)
    | none =>
      simp (maxSteps := 1000000) (disch := first | omega | rfl | (simp only [zL, two63, room] <;> omega) | fail) only [↓reduceIte, ↓zP, zW, WOp, evOp, evBin, binI, binSh, binS, evNil, keyIs, keyEq, mkv, AV.cells, AV.sc, optv, bnd, env, put, Env.get, Env.set, Env.del, Env.dels, Env.init, res1, resL, resV, fillP, splice, newRow, Nat.reduceEqDiff, Nat.reduceLT, Nat.reduceLeDiff, Nat.reduceAdd, Nat.reduceMul, Nat.reduceSub, Nat.reduceBEq, reduceCtorEq, ↓zR, zQ, Tr, StA, StT, e_kindOf, hm1, ho]
      refine w_drw ?_
      simp (maxSteps := 1000000) (disch := first | omega | rfl | (simp only [zL, two63, room] <;> omega) | fail) only [↓reduceIte, ↓zP, zW, WOp, evOp, evBin, binI, binSh, binS, evNil, keyIs, keyEq, mkv, AV.cells, AV.sc, optv, bnd, env, put, Env.get, Env.set, Env.del, Env.dels, Env.init, res1, resL, resV, fillP, splice, newRow, Nat.reduceEqDiff, Nat.reduceLT, Nat.reduceLeDiff, Nat.reduceAdd, Nat.reduceMul, Nat.reduceSub, Nat.reduceBEq, reduceCtorEq, ↓zR, zQ, Tr, StA, StT, e_kindOf, hm1, ho]
      have q3 : rdRow (h ++ [AO.row [.map c] 0 0 false] ++ [AO.row [.str w] 0 0 false] ++ [AO.row [.bool t] 0 0 false]) h.length 0 0 1 = some [.map c] := by simp (maxSteps := 1000000) (disch := first | omega | rfl | (simp only [zL, two63, room] <;> omega) | fail) only [↓reduceIte, ↓zP, zW, WOp, evOp, evBin, binI, binSh, binS, evNil, keyIs, keyEq, mkv, AV.cells, AV.sc, optv, bnd, env, put, Env.get, Env.set, Env.del, Env.dels, Env.init, res1, resL, resV, fillP, splice, newRow, Nat.reduceEqDiff, Nat.reduceLT, Nat.reduceLeDiff, Nat.reduceAdd, Nat.reduceMul, Nat.reduceSub, Nat.reduceBEq, reduceCtorEq, ↓zR, zQ, Tr, StA, StT]
      have q4 : rdRow (h ++ [AO.row [.map c] 0 0 false] ++ [AO.row [.str w] 0 0 false] ++ [AO.row [.bool t] 0 0 false]) (h ++ [AO.row [.map c] 0 0 false]).length 0 0 1 = some [.str w] := by simp (maxSteps := 1000000) (disch := first | omega | rfl | (simp only [zL, two63, room] <;> omega) | fail) only [↓reduceIte, ↓zP, zW, WOp, evOp, evBin, binI, binSh, binS, evNil, keyIs, keyEq, mkv, AV.cells, AV.sc, optv, bnd, env, put, Env.get, Env.set, Env.del, Env.dels, Env.init, res1, resL, resV, fillP, splice, newRow, Nat.reduceEqDiff, Nat.reduceLT, Nat.reduceLeDiff, Nat.reduceAdd, Nat.reduceMul, Nat.reduceSub, Nat.reduceBEq, reduceCtorEq, ↓zR, zQ, Tr, StA, StT]
      have q5 : rdRow (h ++ [AO.row [.map c] 0 0 false] ++ [AO.row [.str w] 0 0 false] ++ [AO.row [.bool t] 0 0 false]) (h ++ [AO.row [.map c] 0 0 false] ++ [AO.row [.str w] 0 0 false]).length 0 0 1 = some [.bool t] := by simp (maxSteps := 1000000) (disch := first | omega | rfl | (simp only [zL, two63, room] <;> omega) | fail) only [↓reduceIte, ↓zP, zW, WOp, evOp, evBin, binI, binSh, binS, evNil, keyIs, keyEq, mkv, AV.cells, AV.sc, optv, bnd, env, put, Env.get, Env.set, Env.del, Env.dels, Env.init, res1, resL, resV, fillP, splice, newRow, Nat.reduceEqDiff, Nat.reduceLT, Nat.reduceLeDiff, Nat.reduceAdd, Nat.reduceMul, Nat.reduceSub, Nat.reduceBEq, reduceCtorEq, ↓zR, zQ, Tr, StA, StT]
      generalize hg : h ++ [AO.row [.map c] 0 0 false] ++ [AO.row [.str w] 0 0 false] ++ [AO.row [.bool t] 0 0 false] = h1 at *
      generalize hc4 : (h ++ [AO.row [.map c] 0 0 false]).length = c4 at *
      generalize hc5 : (h ++ [AO.row [.map c] 0 0 false] ++ [AO.row [.str w] 0 0 false]).length = c5 at *
      refine c_moves w (kindS t) hw ?_
      intro v h2 ho2 hp2
      simp (maxSteps := 1000000) (disch := first | omega | rfl | (simp only [zL, two63, room] <;> omega) | fail) only [↓reduceIte, ↓zP, zW, WOp, evOp, evBin, binI, binSh, binS, evNil, keyIs, keyEq, mkv, AV.cells, AV.sc, optv, bnd, env, put, Env.get, Env.set, Env.del, Env.dels, Env.init, res1, resL, resV, fillP, splice, newRow, Nat.reduceEqDiff, Nat.reduceLT, Nat.reduceLeDiff, Nat.reduceAdd, Nat.reduceMul, Nat.reduceSub, Nat.reduceBEq, reduceCtorEq, ↓zR, zQ, Tr, StA, StT, q3, q4, q5]
      have hs2 : Slc 2 encM h2 v (movesB w (kindS t)) := ho2.sl
      refine c_ContainsFuncM (v := v) (L := movesB w (kindS t)) _ _ (fun m => !winB (madeB w m.1.toNat m.2.toNat) (!t)) (fun h' => PreX c h2 h' ∧ Mh winK winV c h') ?_ ?_ ?_ ⟨PreX.refl _ _, hm0.pre (hp1.trans hp2)⟩ ?_
      · have := movesB_len w (kindS t); omega
      · intro h' hh; exact OwL.slc_prex (h0 := h1) ho2 hh.1 (Nat.lt_of_lt_of_le hlt hp1.1)
      · intro m hm h' hh post hpost
        have hpx := (hp2.x c).trans hh.1
        refine c_win1 ih hn hw hh.2 (rdRow_prex hpx ?_ q3) (rdRow_prex hpx ?_ q4) (rdRow_prex hpx ?_ q5) hm ?_
        · omega
        · subst hc4; simp; omega
        · subst hc5; simp; omega
        · intro h3 hp3 hm3
          exact hpost h3 ⟨hh.1.trans hp3, hm3⟩
      · intro h3 hh3
        have k3 := rdRow_prex ((hp2.x c).trans hh3.1) (by omega) q3
        obtain ⟨es3, e1, ⟨o3, e2⟩, hm4⟩ := hh3.2.put winK_inj (w, t)
        unfold winK at e2
        simp (maxSteps := 1000000) (disch := first | omega | rfl | (simp only [zL, two63, room] <;> omega) | fail) only [↓reduceIte, ↓zP, zW, WOp, evOp, evBin, binI, binSh, binS, evNil, keyIs, keyEq, mkv, AV.cells, AV.sc, optv, bnd, env, put, Env.get, Env.set, Env.del, Env.dels, Env.init, res1, resL, resV, fillP, splice, newRow, Nat.reduceEqDiff, Nat.reduceLT, Nat.reduceLeDiff, Nat.reduceAdd, Nat.reduceMul, Nat.reduceSub, Nat.reduceBEq, reduceCtorEq, ↓zR, zQ, Tr, StA, StT, k3, e1, e2]
        have hv : ((movesB w (kindS t)).any fun m => !winB (madeB w m.fst.toNat m.snd.toNat) !t) = winB w t := (winB_eq w t).symm
        rw [hv]
        exact hp _ (((hp1.trans hp2).x c).trans (hh3.1.trans (PreX.refl c h3).set)) hm4
end Go.Proofs.YtoacbgjdflcceaaGreatDoor.Ab

/- PUZZLES: clues. -/
namespace Go.Proofs.YtoacbgjdflcceaaGreatDoor.Ab
open Go
set_option maxRecDepth 100000
set_option maxHeartbeats 4000000

theorem c_outcome (w : List UInt8) (hw : w.length < 2 ^ 30) {c : Nat} {h : AH} (hm : Mh winK winV c h) {post : AV → AH → Prop} (hp : ∀ h', PreX c h h' → post (.str (outcS (winB w true) (winB w false))) h') : S 193 [.agg [.map c], .str w] h post k := by
  refine S_of rfl T193 ?_; unfold fi193
  simp (maxSteps := 1000000) (disch := first | omega | rfl | (simp only [zL, two63, room] <;> omega) | fail) only [↓reduceIte, ↓zP, zW, WOp, evOp, evBin, binI, binSh, binS, evNil, keyIs, keyEq, mkv, AV.cells, AV.sc, optv, bnd, env, put, Env.get, Env.set, Env.del, Env.dels, Env.init, res1, resL, resV, fillP, splice, newRow, Nat.reduceEqDiff, Nat.reduceLT, Nat.reduceLeDiff, Nat.reduceAdd, Nat.reduceMul, Nat.reduceSub, Nat.reduceBEq, reduceCtorEq, ↓zR, zQ, Tr, StA, StT]
  refine w_drw ?_
  have hlt := hm.lt
  have r0 : rdRow (h ++ [AO.row [.map c] 0 0 false]) h.length 0 0 1 = some [.map c] := by simp (maxSteps := 1000000) (disch := first | omega | rfl | (simp only [zL, two63, room] <;> omega) | fail) only [↓reduceIte, ↓zP, zW, WOp, evOp, evBin, binI, binSh, binS, evNil, keyIs, keyEq, mkv, AV.cells, AV.sc, optv, bnd, env, put, Env.get, Env.set, Env.del, Env.dels, Env.init, res1, resL, resV, fillP, splice, newRow, Nat.reduceEqDiff, Nat.reduceLT, Nat.reduceLeDiff, Nat.reduceAdd, Nat.reduceMul, Nat.reduceSub, Nat.reduceBEq, reduceCtorEq, ↓zR, zQ, Tr, StA, StT]
  simp (maxSteps := 1000000) (disch := first | omega | rfl | (simp only [zL, two63, room] <;> omega) | fail) only [↓reduceIte, ↓zP, zW, WOp, evOp, evBin, binI, binSh, binS, evNil, keyIs, keyEq, mkv, AV.cells, AV.sc, optv, bnd, env, put, Env.get, Env.set, Env.del, Env.dels, Env.init, res1, resL, resV, fillP, splice, newRow, Nat.reduceEqDiff, Nat.reduceLT, Nat.reduceLeDiff, Nat.reduceAdd, Nat.reduceMul, Nat.reduceSub, Nat.reduceBEq, reduceCtorEq, ↓zR, zQ, Tr, StA, StT]
  refine c_win (mu w + 1) w true c _ (by omega) hw (hm.pre (Pre.push _ _)) _ ?_
  intro h2 hp2 hm2
  have r2 := rdRow_prex hp2 (by omega) r0
  simp (maxSteps := 1000000) (disch := first | omega | rfl | (simp only [zL, two63, room] <;> omega) | fail) only [↓reduceIte, ↓zP, zW, WOp, evOp, evBin, binI, binSh, binS, evNil, keyIs, keyEq, mkv, AV.cells, AV.sc, optv, bnd, env, put, Env.get, Env.set, Env.del, Env.dels, Env.init, res1, resL, resV, fillP, splice, newRow, Nat.reduceEqDiff, Nat.reduceLT, Nat.reduceLeDiff, Nat.reduceAdd, Nat.reduceMul, Nat.reduceSub, Nat.reduceBEq, reduceCtorEq, ↓zR, zQ, Tr, StA, StT, r0, r2]
  refine c_win (mu w + 1) w false c _ (by omega) hw hm2 _ ?_
  intro h3 hp3 hm3
  have hq := hp h3 (((Pre.push h (AO.row [.map c] 0 0 false)).x c).trans (hp2.trans hp3))
  cases e1 : winB w true <;> cases e2 : winB w false <;> simp only [e1, e2, outcS, Bool.and_true, Bool.and_false, if_true, if_false, Bool.false_eq_true] at hq <;> simp (maxSteps := 1000000) (disch := first | omega | rfl | (simp only [zL, two63, room] <;> omega) | fail) only [↓reduceIte, ↓zP, zW, WOp, evOp, evBin, binI, binSh, binS, evNil, keyIs, keyEq, mkv, AV.cells, AV.sc, optv, bnd, env, put, Env.get, Env.set, Env.del, Env.dels, Env.init, res1, resL, resV, fillP, splice, newRow, Nat.reduceEqDiff, Nat.reduceLT, Nat.reduceLeDiff, Nat.reduceAdd, Nat.reduceMul, Nat.reduceSub, Nat.reduceBEq, reduceCtorEq, ↓zR, zQ, Tr, StA, StT, r0, r2] <;> exact hq

theorem lp_liCount (w : List UInt8) (b : UInt8) (hw : w.length < 2 ^ 30) {h : AH} {R : X → Env → AH → Prop} : ∀ (rest pre : List UInt8) (n : Nat), w = pre ++ rest → n ≤ pre.length → R (.exit 0) [(5, .int .i64 ((n + rest.count b : Nat) : Int))] h →
    Cx (.loop lp116_0) [(0, .str w), (1, by8 b), (5, .int .i64 n), (6, .int .i64 pre.length)] h R k k
  | [], pre, n, hpre, hn, hR => by
    rw [w_loopb (c := lp116_0) (d := lb116_0) rfl]; unfold lb116_0
    have hl : w.length = pre.length := by rw [hpre]; simp
    simp (maxSteps := 1000000) (disch := first | omega | rfl | (simp only [zL, two63, room] <;> omega) | fail) only [↓reduceIte, ↓zP, zW, WOp, evOp, evBin, binI, binSh, binS, evNil, keyIs, keyEq, mkv, AV.cells, AV.sc, optv, bnd, env, put, Env.get, Env.set, Env.del, Env.dels, Env.init, res1, resL, resV, fillP, splice, newRow, Nat.reduceEqDiff, Nat.reduceLT, Nat.reduceLeDiff, Nat.reduceAdd, Nat.reduceMul, Nat.reduceSub, Nat.reduceBEq, reduceCtorEq, ↓zR, zQ, Tr, StA, StT, hl]
    simpa using hR
  | x :: rest, pre, n, hpre, hn, hR => by
    have ih := lp_liCount w b hw (h := h) (R := R) rest (pre ++ [x])
    have hl : w.length = pre.length + 1 + rest.length := by rw [hpre]; simp; omega
    have hx : w.getD pre.length 0 = x := by rw [hpre]; simp [List.getD_eq_getElem?_getD]
    rw [w_loopb (c := lp116_0) (d := lb116_0) rfl]; unfold lb116_0
    have w1 : (pre.length : Int) + 1 = ((pre ++ [x]).length : Int) := by simp
    have w2 : (n : Int) + 1 = ((n + 1 : Nat) : Int) := by omega
    cases e : (x == b)
    · simp (maxSteps := 1000000) (disch := first | omega | rfl | (simp only [zL, two63, room] <;> omega) | fail) only [↓reduceIte, ↓zP, zW, WOp, evOp, evBin, binI, binSh, binS, evNil, keyIs, keyEq, mkv, AV.cells, AV.sc, optv, bnd, env, put, Env.get, Env.set, Env.del, Env.dels, Env.init, res1, resL, resV, fillP, splice, newRow, Nat.reduceEqDiff, Nat.reduceLT, Nat.reduceLeDiff, Nat.reduceAdd, Nat.reduceMul, Nat.reduceSub, Nat.reduceBEq, reduceCtorEq, ↓zR, zQ, Tr, StA, StT, hx, e, w1]
      rw [w_loopn (c := lp116_0) rfl]
      simp (maxSteps := 1000000) (disch := first | omega | rfl | (simp only [zL, two63, room] <;> omega) | fail) only [↓reduceIte, ↓zP, zW, WOp, evOp, evBin, binI, binSh, binS, evNil, keyIs, keyEq, mkv, AV.cells, AV.sc, optv, bnd, env, put, Env.get, Env.set, Env.del, Env.dels, Env.init, res1, resL, resV, fillP, splice, newRow, Nat.reduceEqDiff, Nat.reduceLT, Nat.reduceLeDiff, Nat.reduceAdd, Nat.reduceMul, Nat.reduceSub, Nat.reduceBEq, reduceCtorEq, ↓zR, zQ, Tr, StA, StT]
      exact ih n (by rw [hpre]; simp) (by simp; omega) (by rw [List.count_cons, e] at hR; simpa using hR)
    · simp (maxSteps := 1000000) (disch := first | omega | rfl | (simp only [zL, two63, room] <;> omega) | fail) only [↓reduceIte, ↓zP, zW, WOp, evOp, evBin, binI, binSh, binS, evNil, keyIs, keyEq, mkv, AV.cells, AV.sc, optv, bnd, env, put, Env.get, Env.set, Env.del, Env.dels, Env.init, res1, resL, resV, fillP, splice, newRow, Nat.reduceEqDiff, Nat.reduceLT, Nat.reduceLeDiff, Nat.reduceAdd, Nat.reduceMul, Nat.reduceSub, Nat.reduceBEq, reduceCtorEq, ↓zR, zQ, Tr, StA, StT, hx, e, w1, w2]
      rw [w_loopn (c := lp116_0) rfl]
      simp (maxSteps := 1000000) (disch := first | omega | rfl | (simp only [zL, two63, room] <;> omega) | fail) only [↓reduceIte, ↓zP, zW, WOp, evOp, evBin, binI, binSh, binS, evNil, keyIs, keyEq, mkv, AV.cells, AV.sc, optv, bnd, env, put, Env.get, Env.set, Env.del, Env.dels, Env.init, res1, resL, resV, fillP, splice, newRow, Nat.reduceEqDiff, Nat.reduceLT, Nat.reduceLeDiff, Nat.reduceAdd, Nat.reduceMul, Nat.reduceSub, Nat.reduceBEq, reduceCtorEq, ↓zR, zQ, Tr, StA, StT]
      exact ih (n + 1) (by rw [hpre]; simp) (by simp; omega) (by rw [List.count_cons, e] at hR; simpa [Nat.add_assoc, Nat.add_comm 1] using hR)
theorem e_liCount (w : List UInt8) (b : UInt8) (hw : w.length < 1073741824) {h : AH} {post : AV → AH → Prop} : S 116 [.str w, by8 b] h post k = post (.int .i64 (w.count b : Nat)) h := by
  refine S_eq fun post hp => ?_
  refine S_of rfl T116 ?_; unfold fi116
  simp (maxSteps := 1000000) (disch := first | omega | rfl | (simp only [zL, two63, room] <;> omega) | fail) only [↓reduceIte, ↓zP, zW, WOp, evOp, evBin, binI, binSh, binS, evNil, keyIs, keyEq, mkv, AV.cells, AV.sc, optv, bnd, env, put, Env.get, Env.set, Env.del, Env.dels, Env.init, res1, resL, resV, fillP, splice, newRow, Nat.reduceEqDiff, Nat.reduceLT, Nat.reduceLeDiff, Nat.reduceAdd, Nat.reduceMul, Nat.reduceSub, Nat.reduceBEq, reduceCtorEq, ↓zR, zQ, Tr, StA, StT]
  refine lp_liCount w b hw w [] 0 rfl (by simp) ?_
  simp (maxSteps := 1000000) (disch := first | omega | rfl | (simp only [zL, two63, room] <;> omega) | fail) only [↓reduceIte, ↓zP, zW, WOp, evOp, evBin, binI, binSh, binS, evNil, keyIs, keyEq, mkv, AV.cells, AV.sc, optv, bnd, env, put, Env.get, Env.set, Env.del, Env.dels, Env.init, res1, resL, resV, fillP, splice, newRow, Nat.reduceEqDiff, Nat.reduceLT, Nat.reduceLeDiff, Nat.reduceAdd, Nat.reduceMul, Nat.reduceSub, Nat.reduceBEq, reduceCtorEq, ↓zR, zQ, Tr, StA, StT]
  simpa using hp
theorem e_liCountT (w : List UInt8) (hw : w.length < 1073741824) {h : AH} {post : AV → AH → Prop} : S 116 [.str w, .int .u8 84] h post k = post (.int .i64 (w.count 84 : Nat)) h := e_liCount w 84 hw
theorem e_liCountF (w : List UInt8) (hw : w.length < 1073741824) {h : AH} {post : AV → AH → Prop} : S 116 [.str w, .int .u8 70] h post k = post (.int .i64 (w.count 70 : Nat)) h := e_liCount w 70 hw
theorem e_liCountD (w : List UInt8) (hw : w.length < 1073741824) {h : AH} {post : AV → AH → Prop} : S 116 [.str w, .int .u8 46] h post k = post (.int .i64 (w.count 46 : Nat)) h := e_liCount w 46 hw
theorem e_count (w : List UInt8) {h : AH} {post : AV → AH → Prop} : S 189 [.str w] h post k = post (.tup [.int .i64 (w.count 84 : Nat), .int .i64 (w.count 46 : Nat), .int .i64 (w.count 70 : Nat)]) h := S_eq fun _ => c_count w
theorem e_pairs (w : List UInt8) (hw : w.length < 1073741824) {h : AH} {post : AV → AH → Prop} : S 191 [.str w] h post k = post (.int .i64 (pairsB w)) h := S_eq fun _ => c_pairs w hw

theorem lp_liPairs (w : List UInt8) (hw : w.length < 1073741824) {h : AH} {R : X → Env → AH → Prop} : ∀ (rest pre : List UInt8) (t sum : Nat), w = pre ++ rest → t ≤ pre.length → sum ≤ pre.length * 1073741824 →
    R (.exit 0) [(3, .int .i64 (pairsL rest t sum))] h → Cx (.loop lp196_0) [(0, .str w), (3, .int .i64 sum), (4, .int .i64 t), (5, .int .i64 pre.length)] h R k k
  | [], pre, t, sum, hpre, ht, hsum, hR => by
    rw [w_loopb (c := lp196_0) (d := lb196_0) rfl]; unfold lb196_0
    have hl : w.length = pre.length := by rw [hpre]; simp
    simp (maxSteps := 1000000) (disch := first | omega | rfl | (simp only [zL, two63, room] <;> omega) | fail) only [↓reduceIte, ↓zP, zW, WOp, evOp, evBin, binI, binSh, binS, evNil, keyIs, keyEq, mkv, AV.cells, AV.sc, optv, bnd, env, put, Env.get, Env.set, Env.del, Env.dels, Env.init, res1, resL, resV, fillP, splice, newRow, Nat.reduceEqDiff, Nat.reduceLT, Nat.reduceLeDiff, Nat.reduceAdd, Nat.reduceMul, Nat.reduceSub, Nat.reduceBEq, reduceCtorEq, ↓zR, zQ, Tr, StA, StT, hl]
    simpa [pairsL] using hR
  | x :: rest, pre, t, sum, hpre, ht, hsum, hR => by
    have ih := lp_liPairs w hw (h := h) (R := R) rest (pre ++ [x])
    have hl : w.length = pre.length + 1 + rest.length := by rw [hpre]; simp; omega
    have hx : w.getD pre.length 0 = x := by rw [hpre]; simp [List.getD_eq_getElem?_getD]
    rw [w_loopb (c := lp196_0) (d := lb196_0) rfl]; unfold lb196_0
    have w1 : (pre.length : Int) + 1 = ((pre ++ [x]).length : Int) := by simp
    have w2 : (t : Int) + 1 = ((t + 1 : Nat) : Int) := by omega
    have w3 : (sum : Int) + (t : Int) = ((sum + t : Nat) : Int) := by omega
    have hs1 : sum ≤ (pre ++ [x]).length * 1073741824 := Nat.le_trans hsum (Nat.mul_le_mul_right _ (by simp))
    have hs2 : sum + t ≤ (pre ++ [x]).length * 1073741824 := by
      rw [List.length_append, List.length_singleton, Nat.succ_mul]
      exact Nat.add_le_add hsum (by omega)
    have hpre' : w = (pre ++ [x]) ++ rest := by rw [hpre]; simp
    cases e1 : (x == 84)
    · cases e2 : (x == 70)
      · simp (maxSteps := 1000000) (disch := first | omega | rfl | (simp only [zL, two63, room] <;> omega) | fail) only [↓reduceIte, ↓zP, zW, WOp, evOp, evBin, binI, binSh, binS, evNil, keyIs, keyEq, mkv, AV.cells, AV.sc, optv, bnd, env, put, Env.get, Env.set, Env.del, Env.dels, Env.init, res1, resL, resV, fillP, splice, newRow, Nat.reduceEqDiff, Nat.reduceLT, Nat.reduceLeDiff, Nat.reduceAdd, Nat.reduceMul, Nat.reduceSub, Nat.reduceBEq, reduceCtorEq, ↓zR, zQ, Tr, StA, StT, hx, e1, e2, w1]
        rw [w_loopn (c := lp196_0) rfl]
        simp (maxSteps := 1000000) (disch := first | omega | rfl | (simp only [zL, two63, room] <;> omega) | fail) only [↓reduceIte, ↓zP, zW, WOp, evOp, evBin, binI, binSh, binS, evNil, keyIs, keyEq, mkv, AV.cells, AV.sc, optv, bnd, env, put, Env.get, Env.set, Env.del, Env.dels, Env.init, res1, resL, resV, fillP, splice, newRow, Nat.reduceEqDiff, Nat.reduceLT, Nat.reduceLeDiff, Nat.reduceAdd, Nat.reduceMul, Nat.reduceSub, Nat.reduceBEq, reduceCtorEq, ↓zR, zQ, Tr, StA, StT]
        simp only [pairsL, e1, e2, if_true, if_false, Bool.false_eq_true] at hR
        exact ih t sum hpre' (by simp; omega) hs1 hR
      · simp (maxSteps := 1000000) (disch := first | omega | rfl | (simp only [zL, two63, room] <;> omega) | fail) only [↓reduceIte, ↓zP, zW, WOp, evOp, evBin, binI, binSh, binS, evNil, keyIs, keyEq, mkv, AV.cells, AV.sc, optv, bnd, env, put, Env.get, Env.set, Env.del, Env.dels, Env.init, res1, resL, resV, fillP, splice, newRow, Nat.reduceEqDiff, Nat.reduceLT, Nat.reduceLeDiff, Nat.reduceAdd, Nat.reduceMul, Nat.reduceSub, Nat.reduceBEq, reduceCtorEq, ↓zR, zQ, Tr, StA, StT, hx, e1, e2, w1, w3]
        rw [w_loopn (c := lp196_0) rfl]
        simp (maxSteps := 1000000) (disch := first | omega | rfl | (simp only [zL, two63, room] <;> omega) | fail) only [↓reduceIte, ↓zP, zW, WOp, evOp, evBin, binI, binSh, binS, evNil, keyIs, keyEq, mkv, AV.cells, AV.sc, optv, bnd, env, put, Env.get, Env.set, Env.del, Env.dels, Env.init, res1, resL, resV, fillP, splice, newRow, Nat.reduceEqDiff, Nat.reduceLT, Nat.reduceLeDiff, Nat.reduceAdd, Nat.reduceMul, Nat.reduceSub, Nat.reduceBEq, reduceCtorEq, ↓zR, zQ, Tr, StA, StT]
        simp only [pairsL, e1, e2, if_true, if_false, Bool.false_eq_true] at hR
        exact ih t (sum + t) hpre' (by simp; omega) hs2 hR
    · simp (maxSteps := 1000000) (disch := first | omega | rfl | (simp only [zL, two63, room] <;> omega) | fail) only [↓reduceIte, ↓zP, zW, WOp, evOp, evBin, binI, binSh, binS, evNil, keyIs, keyEq, mkv, AV.cells, AV.sc, optv, bnd, env, put, Env.get, Env.set, Env.del, Env.dels, Env.init, res1, resL, resV, fillP, splice, newRow, Nat.reduceEqDiff, Nat.reduceLT, Nat.reduceLeDiff, Nat.reduceAdd, Nat.reduceMul, Nat.reduceSub, Nat.reduceBEq, reduceCtorEq, ↓zR, zQ, Tr, StA, StT, hx, e1, w1, w2]
      rw [w_loopn (c := lp196_0) rfl]
      simp (maxSteps := 1000000) (disch := first | omega | rfl | (simp only [zL, two63, room] <;> omega) | fail) only [↓reduceIte, ↓zP, zW, WOp, evOp, evBin, binI, binSh, binS, evNil, keyIs, keyEq, mkv, AV.cells, AV.sc, optv, bnd, env, put, Env.get, Env.set, Env.del, Env.dels, Env.init, res1, resL, resV, fillP, splice, newRow, Nat.reduceEqDiff, Nat.reduceLT, Nat.reduceLeDiff, Nat.reduceAdd, Nat.reduceMul, Nat.reduceSub, Nat.reduceBEq, reduceCtorEq, ↓zR, zQ, Tr, StA, StT]
      simp only [pairsL, e1, if_true] at hR
      exact ih (t + 1) sum hpre' (by simp; omega) hs1 hR
theorem e_liPairs (w : List UInt8) (hw : w.length < 1073741824) {h : AH} {post : AV → AH → Prop} : S 196 [.str w] h post k = post (.int .i64 (pairsB w)) h := by
  refine S_eq fun post hp => ?_
  refine S_of rfl T196 ?_; unfold fi196
  simp (maxSteps := 1000000) (disch := first | omega | rfl | (simp only [zL, two63, room] <;> omega) | fail) only [↓reduceIte, ↓zP, zW, WOp, evOp, evBin, binI, binSh, binS, evNil, keyIs, keyEq, mkv, AV.cells, AV.sc, optv, bnd, env, put, Env.get, Env.set, Env.del, Env.dels, Env.init, res1, resL, resV, fillP, splice, newRow, Nat.reduceEqDiff, Nat.reduceLT, Nat.reduceLeDiff, Nat.reduceAdd, Nat.reduceMul, Nat.reduceSub, Nat.reduceBEq, reduceCtorEq, ↓zR, zQ, Tr, StA, StT]
  refine lp_liPairs w hw w [] 0 0 rfl (by simp) (by simp) ?_
  simp (maxSteps := 1000000) (disch := first | omega | rfl | (simp only [zL, two63, room] <;> omega) | fail) only [↓reduceIte, ↓zP, zW, WOp, evOp, evBin, binI, binSh, binS, evNil, keyIs, keyEq, mkv, AV.cells, AV.sc, optv, bnd, env, put, Env.get, Env.set, Env.del, Env.dels, Env.init, res1, resL, resV, fillP, splice, newRow, Nat.reduceEqDiff, Nat.reduceLT, Nat.reduceLeDiff, Nat.reduceAdd, Nat.reduceMul, Nat.reduceSub, Nat.reduceBEq, reduceCtorEq, ↓zR, zQ, Tr, StA, StT]
  exact hp

/-! ### Which clues there are -/
def clueOk (n : Int) (c : Int × Int × Int) : Bool :=
  if c.1 = 0 then decide (0 ≤ c.2.1 ∧ c.2.1 ≤ n - 1) && decide (0 ≤ c.2.2 ∧ c.2.2 ≤ 2) else
  decide (c.2.2 = 0) && (if c.1 = 1 ∨ c.1 = 2 then decide (0 ≤ c.2.1 ∧ c.2.1 ≤ n) else if c.1 = 3 then decide (0 ≤ c.2.1 ∧ c.2.1 ≤ 2 * n) else if c.1 = 4 then decide (0 ≤ c.2.1 ∧ c.2.1 ≤ 10) else if c.1 = 5 then decide (0 ≤ c.2.1 ∧ c.2.1 ≤ 3) else false)
def clueB (kd cell : Int) (w : List UInt8) : Int × Int × Int :=
  if kd = 0 then (0, cell, Go.Lib.indexByte [46, 70, 84] (w.getD cell.toNat 0)) else if kd = 1 then (1, w.count 84, 0) else if kd = 2 then (2, w.count 70, 0) else if kd = 3 then (3, (movesB w [84, 70]).length, 0) else if kd = 4 then (4, pairsB w, 0) else
  (5, Go.Lib.indexByte [49, 50, 70, 84] ((outcS (winB w true) (winB w false)).getD 0 0), 0)
theorem outcS_one (a b : Bool) : outcS a b = [(outcS a b).getD 0 0] := by cases a <;> cases b <;> rfl
end Go.Proofs.YtoacbgjdflcceaaGreatDoor.Ab

/- PUZZLES: which lines fit a clue. -/
namespace Go.Proofs.YtoacbgjdflcceaaGreatDoor.Ab
open Go
set_option maxRecDepth 100000
set_option maxHeartbeats 4000000

theorem idx_cons (x : UInt8) (l : List UInt8) (b : UInt8) : Go.Lib.indexByte (x :: l) b = if x == b then 0 else if Go.Lib.indexByte l b == -1 then -1 else Go.Lib.indexByte l b + 1 := rfl
def pzI (s : List UInt8) (b : UInt8) : Int := if Go.Lib.indexByte s b = -1 then 0 else Go.Lib.indexByte s b
def valB (kd at' : Int) (w : List UInt8) : Int :=
  if kd = 0 then pzI [46, 70, 84] (w.getD at'.toNat 0) else if kd = 1 then w.count 84 else if kd = 2 then w.count 70 else if kd = 3 then (movesB w [84, 70]).length else if kd = 4 then pairsB w else
  pzI [49, 50, 70, 84] ((outcS (winB w true) (winB w false)).getD 0 0)
def fitB (c : Int × Int × Int) (w : List UInt8) : Bool := if c.1 = 0 then valB 0 c.2.1 w == c.2.2 else valB c.1 0 w == c.2.1
theorem pzI_sign {b : UInt8} (hb : isSign b = true) : pzI [46, 70, 84] b = Go.Lib.indexByte [46, 70, 84] b := by
  simp only [isSign, Bool.or_eq_true, beq_iff_eq] at hb
  rcases hb with (rfl | rfl) | rfl <;> decide
theorem pzI_out (a b : Bool) : pzI [49, 50, 70, 84] ((outcS a b).getD 0 0) = Go.Lib.indexByte [49, 50, 70, 84] ((outcS a b).getD 0 0) := by cases a <;> cases b <;> decide
theorem fit_eq {n : Int} {kd a b cell : Int} {w : List UInt8} (hs : w.all isSign = true) (hn : n = w.length) (hc : clueOk n (kd, a, b) = true) (hcell : kd = 0 → cell = a) : seqL [0, 0, 0] (encC (clueB kd cell w)) (encC (kd, a, b)) = some (fitB (kd, a, b) w) := by
  have key : ∀ x y z : Int, seqL [0, 0, 0] (encC (x, y, z)) (encC (kd, a, b)) = some ((x == kd) && ((y == a) && (z == b))) := by
    intro x y z
    simp [seqL, keyIs, keyEq]
  unfold fitB clueB valB
  by_cases k0 : kd = 0
  · subst k0
    have := hcell rfl
    subst this
    simp only [if_true]
    simp only [clueOk, if_true, Bool.and_eq_true, decide_eq_true_eq] at hc
    rw [key, pzI_sign (sign_at hs (by omega))]
    simp
  have hb : b = 0 := by
    simp only [clueOk, if_neg k0, Bool.and_eq_true, decide_eq_true_eq] at hc
    exact hc.1
  subst hb
  simp only [if_neg k0]
  by_cases k1 : kd = 1
  · subst k1; rw [if_pos rfl, if_pos rfl, key]; simp
  rw [if_neg k1, if_neg k1]
  by_cases k2 : kd = 2
  · subst k2; rw [if_pos rfl, if_pos rfl, key]; simp
  rw [if_neg k2, if_neg k2]
  by_cases k3 : kd = 3
  · subst k3; rw [if_pos rfl, if_pos rfl, key]; simp
  rw [if_neg k3, if_neg k3]
  by_cases k4 : kd = 4
  · subst k4; rw [if_pos rfl, if_pos rfl, key]; simp
  rw [if_neg k4, if_neg k4]
  have k5 : kd = 5 := by
    simp [clueOk, k0, k1, k2, k3, k4] at hc
    exact hc.1
  subst k5
  rw [key, pzI_out]
  simp
end Go.Proofs.YtoacbgjdflcceaaGreatDoor.Ab

/- PLAIN: all lines of so many cells, in order. -/
namespace Go.Proofs.YtoacbgjdflcceaaGreatDoor.Ab

def ext3 (w : List UInt8) : List (List UInt8) := [w ++ [46], w ++ [70], w ++ [84]]
def allL : Nat → List (List UInt8)
  | 0 => [[]]
  | n + 1 => (allL n).flatMap ext3
/-- All that go on so many cells. -/
def goOn : Nat → List UInt8 → List (List UInt8)
  | 0, w => [w]
  | n + 1, w => goOn n (w ++ [46]) ++ goOn n (w ++ [70]) ++ goOn n (w ++ [84])
theorem goOn_succ : ∀ (n : Nat) (w : List UInt8), goOn (n + 1) w = (goOn n w).flatMap ext3
  | 0, w => by simp [goOn, ext3]
  | n + 1, w => by
    rw [goOn, goOn_succ n, goOn_succ n, goOn_succ n]
    conv => rhs; rw [goOn]
    simp only [List.flatMap_append]
theorem goOn_all : ∀ n : Nat, goOn n [] = allL n
  | 0 => rfl
  | n + 1 => by rw [goOn_succ, goOn_all n]; rfl
theorem allL_good : ∀ (n : Nat) (w : List UInt8), w ∈ allL n → w.length = n ∧ w.all isSign = true
  | 0, w, h => by simp [allL] at h; subst h; exact ⟨rfl, rfl⟩
  | n + 1, w, h => by
    simp only [allL, List.mem_flatMap] at h
    obtain ⟨v, hv, h⟩ := h
    obtain ⟨h1, h2⟩ := allL_good n v hv
    simp only [ext3, List.mem_cons, List.not_mem_nil, or_false] at h
    rcases h with rfl | rfl | rfl <;> simp [h1, h2, isSign, List.all_append]
theorem allL_length : ∀ n : Nat, (allL n).length = 3 ^ n
  | 0 => rfl
  | n + 1 => by
    have key : ∀ l : List (List UInt8), (l.flatMap ext3).length = l.length * 3 := by
      intro l
      induction l with
      | nil => rfl
      | cons a l ih => rw [List.flatMap_cons, List.length_append, ih]; simp [ext3]; omega
    rw [allL, key, allL_length n, Nat.pow_succ]
end Go.Proofs.YtoacbgjdflcceaaGreatDoor.Ab

/- A CELL that holds a slice of one's own, to which is appended through a pointer. -/
namespace Go.Proofs.YtoacbgjdflcceaaGreatDoor.Ab
open Go
set_option maxRecDepth 100000
set_option maxHeartbeats 4000000

/-- Rows that belong to a cell: its own, and those of the slices that it holds. -/
def grc (c : Nat) (h : AH) (i : Nat) : Prop := i = c ∨ ∃ cs ver fl ro, h[c]? = some (.row cs ver fl ro) ∧ ∃ v ∈ cs, rowOf v = some i
def FrC (c : Nat) (h h' : AH) : Prop := h.length ≤ h'.length ∧ ∀ i, i < h.length → ¬ grc c h i → h'[i]? = h[i]? ∧ ¬ grc c h' i
theorem FrC.refl (c : Nat) (h : AH) : FrC c h h := ⟨Nat.le_refl _, fun _ _ hg => ⟨rfl, hg⟩⟩
theorem FrC.trans {c : Nat} {x y z : AH} (p : FrC c x y) (q : FrC c y z) : FrC c x z := ⟨Nat.le_trans p.1 q.1, fun i hi hg => by
  obtain ⟨h1, h2⟩ := p.2 i hi hg
  obtain ⟨h3, h4⟩ := q.2 i (Nat.lt_of_lt_of_le hi p.1) h2
  exact ⟨by rw [h3, h1], h4⟩⟩
theorem grc_pre {c : Nat} {h h' : AH} (hp : Pre h h') (hc : c < h.length) (i : Nat) : grc c h' i ↔ grc c h i := by
  unfold grc; rw [hp.2 c hc]
theorem Pre.frc {c : Nat} {h h' : AH} (hp : Pre h h') (hc : c < h.length) : FrC c h h' := ⟨hp.1, fun i hi hg => ⟨hp.2 i hi, by rw [grc_pre hp hc]; exact hg⟩⟩
theorem rd_frc {c : Nat} {h h' : AH} (hf : FrC c h h') {r k o n : Nat} {cs : List AV} (hg : ¬ grc c h r) (hr : rdRow h r k o n = some cs) : rdRow h' r k o n = some cs := by
  have := rd_lt hr
  unfold rdRow at hr ⊢
  rw [(hf.2 r this hg).1]; exact hr
/-- A slice that is read, and does not belong to the cell. -/
def SlcC {α : Type} (esz : Nat) (enc : α → List AV) (c : Nat) (h : AH) (v : AV) (L : List α) : Prop := Slc esz enc h v L ∧ ∀ r, rowOf v = some r → ¬ grc c h r
theorem SlcC.fr {α : Type} {esz : Nat} {enc : α → List AV} {c : Nat} {h h' : AH} {v : AV} {L : List α} (hs : SlcC esz enc c h v L) (hf : FrC c h h') : SlcC esz enc c h' v L := by
  obtain ⟨h1, h2⟩ := hs
  unfold SlcC Slc Sl at *
  cases v <;> simp only [rowOf] at * <;> first
    | (exact ⟨h1, fun r hr => by cases hr⟩)
    | (obtain ⟨k1, k2, k3, k4⟩ := h1
       exact ⟨⟨k1, k2, k3, rd_frc hf (h2 _ rfl) k4⟩, fun r hr => by cases hr; exact (hf.2 _ (rd_lt k4) (h2 _ rfl)).2⟩)
section
variable {α : Type} {esz : Nat} {enc : α → List AV}
/-- The cell r holds a slice of one's own. -/
def OutP (esz : Nat) (enc : α → List AV) (r : Nat) (b h : AH) (l : List α) : Prop := ∃ vo, h[r]? = some (.row [vo] 0 0 false) ∧ OwL esz enc b h vo l ∧ rowOf vo ≠ some r
theorem OutP.lt {r : Nat} {b h : AH} {l : List α} (ho : OutP esz enc r b h l) : r < h.length := by
  obtain ⟨vo, h1, _⟩ := ho
  exact (List.getElem?_eq_some_iff.1 h1).1
theorem OutP.pre {r : Nat} {b h h' : AH} {l : List α} (ho : OutP esz enc r b h l) (hp : Pre h h') : OutP esz enc r b h' l := by
  have := ho.lt
  obtain ⟨vo, h1, h2, h3⟩ := ho
  exact ⟨vo, by rw [hp.2 r this]; exact h1, h2.pre hp, h3⟩
theorem OutP.grc_lt {r : Nat} {b h : AH} {l : List α} (ho : OutP esz enc r b h l) {i : Nat} (hg : grc r h i) : i < h.length := by
  have hlt := ho.lt
  obtain ⟨vo, h1, h2, h3⟩ := ho
  rcases hg with rfl | ⟨cs, ver, fl, ro, h4, v, hv, h5⟩
  · exact hlt
  · rw [h1] at h4
    simp only [Option.some.injEq, AO.row.injEq] at h4
    obtain ⟨rfl, _⟩ := h4
    simp at hv
    subst hv
    exact own_lt h2 h5
theorem OutP.fresh {r : Nat} {b h h' : AH} {l : List α} (ho : OutP esz enc r b h l) (hp : Pre h h') {i : Nat} (hi : h.length ≤ i) : ¬ grc r h' i := by
  rw [grc_pre hp ho.lt]
  intro hg
  have := ho.grc_lt hg
  omega
theorem OutP.rd {r : Nat} {b h : AH} {l : List α} (ho : OutP esz enc r b h l) : ∃ vo, rdRow h r 0 0 1 = some [vo] ∧ OwL esz enc b h vo l := by
  obtain ⟨vo, h1, h2, _⟩ := ho
  exact ⟨vo, by simp [rdRow, h1], h2⟩
theorem OutP.push (hl : ∀ x, (enc x).length = esz) (hsc : ∀ x, (enc x).all AV.sc = true) {r : Nat} {b h : AH} {l : List α} (ho : OutP esz enc r b h l) (hb : b.length ≤ h.length) (x : α) (hr : l.length + 1 ≤ 1099511627776) :
    ∃ vo v' h3, rdRow h r 0 0 1 = some [vo] ∧ rdRow (h ++ [AO.row (enc x) 0 0 false]) h.length 0 0 esz = some (enc x) ∧ apRow (h ++ [AO.row (enc x) 0 0 false]) esz vo 1 (enc x) = some (v', h3) ∧ v'.cells = [v'] ∧ v'.sc = true ∧
      wrRow h3 r 0 0 [v'] = some (h3.set r (.row [v'] 0 0 false)) ∧ OutP esz enc r b (h3.set r (.row [v'] 0 0 false)) (l ++ [x]) ∧ FrC r h (h3.set r (.row [v'] 0 0 false)) := by
  have hlt := ho.lt
  obtain ⟨vo, h1, h2, h3⟩ := ho
  have hpush := Pre.push h (AO.row (enc x) 0 0 false)
  obtain ⟨v', g, ha, ho', hag⟩ := apA hl hsc (h2.pre hpush) (by simp; omega) x hr
  obtain ⟨f1, f2, f3⟩ := apRow_fr ha
  have hll : (h ++ [AO.row (enc x) 0 0 false]).length = h.length + 1 := by simp
  have hrg : g[r]? = some (.row [vo] 0 0 false) := by rw [f1 r (by omega) h3, hpush.2 r hlt, h1]
  have hlg : r < g.length := by omega
  have n1 : rowOf v' ≠ some r := fun e => by
    rcases f3 r e with h4 | h4
    · exact h3 h4
    · omega
  have hrx : rdRow (h ++ [AO.row (enc x) 0 0 false]) h.length 0 0 esz = some (enc x) := by
    rw [rd_last, if_pos (by rw [hl]; omega), List.drop_zero, List.take_of_length_le (by rw [hl]; exact Nat.le_refl _)]
  refine ⟨vo, v', g, by simp [rdRow, h1], hrx, ha, ho'.cells, ho'.sc1, ?_, ?_, ?_⟩
  · simp [wrRow, hrg, splice, ho'.sc1]
  · refine ⟨v', by rw [List.getElem?_set, if_pos rfl, if_pos hlg], own_row ho' fun i hi => ?_, n1⟩
    rw [List.getElem?_set, if_neg (by rintro rfl; exact n1 hi)]
  · refine ⟨by simp; omega, fun i hi hg => ?_⟩
    have g1 : i ≠ r := fun e => hg (.inl e)
    have g2 : rowOf vo ≠ some i := fun e => hg (.inr ⟨_, _, _, _, h1, vo, by simp, e⟩)
    refine ⟨by rw [List.getElem?_set, if_neg (Ne.symm g1), f1 i (by omega) g2, hpush.2 i hi], ?_⟩
    rintro (e | ⟨cs, ver, fl, ro, e1, v, hv, e2⟩)
    · exact g1 e
    · rw [List.getElem?_set, if_pos rfl, if_pos hlg] at e1
      simp only [Option.some.injEq, AO.row.injEq] at e1
      obtain ⟨rfl, _⟩ := e1
      simp at hv
      subst hv
      rcases f3 i e2 with h4 | h4
      · exact g2 h4
      · omega
theorem OwL.slcC {esz' : Nat} {β : Type} {enc' : β → List AV} {r : Nat} {b h h' : AH} {l : List α} {v : AV} {L : List β} (ho : OwL esz' enc' h h' v L) (hk : OutP esz enc r b h l) (hp : Pre h h') : SlcC esz' enc' r h' v L :=
  ⟨ho.slc, fun _ hr => hk.fresh hp (own_ge ho hr)⟩
end
end Go.Proofs.YtoacbgjdflcceaaGreatDoor.Ab

/- PUZZLES: all lines, and those that fit. -/
namespace Go.Proofs.YtoacbgjdflcceaaGreatDoor.Ab
open Go
set_option maxRecDepth 100000
set_option maxHeartbeats 4000000

theorem dec3 (i : Nat) (h : i < 3) : dec [46, 70, 84] i = (((([46, 70, 84] : List UInt8).getD i 0).toNat : Int), 1) := dec_low h (by
  have : ∀ i, i < 3 → (([46, 70, 84] : List UInt8).getD i 0).toNat < 128 := by decide
  exact this i h)
theorem enc3 : ∀ b : UInt8, b = 46 ∨ b = 70 ∨ b = 84 → (Utf8.encode (b.toNat : Int)).data.toList = [b] := by
  rintro b (rfl | rfl | rfl) <;> decide +kernel
theorem own_ne_iter {esz : Nat} {b h : AH} {v : AV} {n : Nat} {cs : List AV} (ho : Own esz b h v n cs) {c : Nat} {s : List UInt8} {p : Nat} (hc : h[c]? = some (.iter s p)) : rowOf v ≠ some c := by
  unfold Own at ho
  intro hr
  cases v <;> simp only [rowOf] at ho hr <;> first
    | (cases hr; done)
    | (cases hr
       obtain ⟨_, _, _, _, cells, fl, h5, _⟩ := ho
       rw [hc] at h5; cases h5)
abbrev Clu := Int × Int × Int
/-- All lines that fit. -/
def fitL (n : Nat) (cs : List Clu) : List (List UInt8) := (allL n).filter fun w => cs.all fun c => fitB c w
theorem goOn_length : ∀ (d : Nat) (w : List UInt8), (goOn d w).length = 3 ^ d
  | 0, _ => rfl
  | d + 1, w => by simp only [goOn, List.length_append, goOn_length d]; rw [Nat.pow_succ]; omega
abbrev S3 : List (List UInt8) := [[46], [70], [84]]
end Go.Proofs.YtoacbgjdflcceaaGreatDoor.Ab

/- PUZZLES: which there are, their solutions; the law's helpers. -/
namespace Go.Proofs.YtoacbgjdflcceaaGreatDoor.Ab
open Go
set_option maxRecDepth 100000
set_option maxHeartbeats 4000000

def goodP (n : Int) (cs : List Clu) : Bool := decide (1 ≤ n ∧ n ≤ 5) && (decide (cs.length ≤ 6) && cs.all fun c => clueOk n c)
theorem goodP_iff {n : Int} {cs : List Clu} (h : goodP n cs = true) : ∃ m : Nat, n = m ∧ 1 ≤ m ∧ m ≤ 5 ∧ cs.length ≤ 6 ∧ ∀ c ∈ cs, clueOk n c = true := by
  simp only [goodP, Bool.and_eq_true, decide_eq_true_eq, List.all_eq_true] at h
  obtain ⟨⟨h1, h2⟩, h3, h4⟩ := h
  exact ⟨n.toNat, by omega, by omega, by omega, h3, h4⟩
abbrev pzV (n : Int) (v : AV) : AV := .agg [.int .i64 n, v]
theorem sl_cells {α : Type} {esz : Nat} {enc : α → List AV} {h : AH} {v : AV} {L : List α} (hs : Slc esz enc h v L) : v.cells = [v] ∧ v.sc = true := by
  unfold Slc Sl at hs
  cases v <;> simp only at hs <;> first
    | exact ⟨rfl, rfl⟩
    | (exact hs.elim)
def solN (n : Int) (cs : List Clu) : List (List UInt8) := fitL n.toNat cs
def countP (n : Int) (cs : List Clu) : Int := if goodP n cs then (solN n cs).length else 0
theorem rep_flat (n : Nat) : (List.replicate n [AV.int .i64 0, AV.int .i64 0, AV.int .i64 0]).flatten = (List.replicate n ((0, 0, 0) : Clu)).flatMap encC := by
  induction n with
  | zero => rfl
  | succ n ih => rw [List.replicate_succ, List.replicate_succ, List.flatten_cons, List.flatMap_cons, ih]
theorem beq_cc {α : Type} [BEq α] (x y : α) (l l' : List α) : (x :: l == y :: l') = (x == y && l == l') := rfl
end Go.Proofs.YtoacbgjdflcceaaGreatDoor.Ab

/- PUZZLES: the first solution, whether one alone is left; their laws. -/
namespace Go.Proofs.YtoacbgjdflcceaaGreatDoor.Ab
open Go
set_option maxRecDepth 100000
set_option maxHeartbeats 4000000

def solP (n : Int) (cs : List Clu) : List (List UInt8) := if goodP n cs then solN n cs else []

end Go.Proofs.YtoacbgjdflcceaaGreatDoor.Ab

/- MARKS: what the laws' helpers write into a slice and find there again; slices of numbers compared. -/
namespace Go.Proofs.YtoacbgjdflcceaaGreatDoor.Ab
open Go
set_option maxRecDepth 100000
set_option maxHeartbeats 4000000

theorem splice_in {X vs : List AV} {o : Nat} (h : o + vs.length ≤ X.length) (A Z : List AV) {n : Nat} (hn : n = A.length + o) : splice (A ++ (X ++ Z)) n vs = A ++ (splice X o vs ++ Z) := by
  subst hn
  unfold splice
  rw [List.take_append, List.take_of_length_le (by omega), show A.length + o - A.length = o by omega, List.take_append_of_le_length (by omega),
    List.drop_append, List.drop_of_length_le (by omega), show A.length + o + vs.length - A.length = o + vs.length by omega, List.drop_append_of_le_length (by omega)]
  simp
theorem OwW.store {α : Type} {esz : Nat} {enc : α → List AV} (hl : ∀ x, (enc x).length = esz) {b h : AH} {v : AV} {pre : List α} {x : α} {rest : List α} (ho : OwW esz enc b h v (pre ++ x :: rest)) (y : α) (o : Nat) (vs : List AV) (hvs : o + vs.length ≤ esz) (hsc : vs.all AV.sc = true) (hy : splice (enc x) o vs = enc y) :
    ∃ c kk off h', v = .slice c kk off (pre ++ x :: rest).length esz ∧ wrRow h c kk (off + pre.length * esz + o) vs = some h' ∧ OwW esz enc b h' v (pre ++ y :: rest) ∧ PreV v h h' := by
  unfold OwW at ho
  cases v <;> simp only at ho <;> first
    | (exact ho.elim)
    | (simp at ho; done)
    | skip
  rename_i c kk off len e
  obtain ⟨rfl, rfl, h3, A, Z, fl, h4, h5, h6⟩ := ho
  have hlt := (List.getElem?_eq_some_iff.1 h4).1
  have hpl := flat_len hl pre
  have hrow : A ++ (pre ++ x :: rest).flatMap enc ++ Z = (A ++ pre.flatMap enc) ++ (enc x ++ (rest.flatMap enc ++ Z)) := by simp
  have hsp := splice_in (X := enc x) (vs := vs) (o := o) (by rw [hl]; exact hvs) (A ++ pre.flatMap enc) (rest.flatMap enc ++ Z) (n := off + pre.length * e + o) (by rw [List.length_append, hpl, h6])
  rw [hrow] at h4
  refine ⟨c, kk, off, h.set c (.row (splice ((A ++ pre.flatMap enc) ++ (enc x ++ (rest.flatMap enc ++ Z))) (off + pre.length * e + o) vs) kk kk false), rfl, ?_, ?_, ?_⟩
  · unfold wrRow
    rw [h4]
    simp only
    rw [if_pos ⟨trivial, h5, by simp only [List.length_append, hpl, hl, h6]; omega, hsc⟩]
  · unfold OwW
    simp only
    refine ⟨trivial, by simp, h3, A, Z, kk, ?_, Nat.le_refl _, h6⟩
    rw [List.getElem?_set, if_pos rfl, if_pos hlt, hsp, hy]
    simp
  · exact ⟨by simp, fun i _ hc => by rw [List.getElem?_set, if_neg (hc c kk off _ e rfl ·.symm)]⟩
theorem PreV.trans {v : AV} {a b c : AH} (x : PreV v a b) (y : PreV v b c) : PreV v a c := ⟨Nat.le_trans x.1 y.1, fun i hi hc => by rw [y.2 i (Nat.lt_of_lt_of_le hi x.1) hc, x.2 i hi hc]⟩
theorem PreV.refl (v : AV) (a : AH) : PreV v a a := ⟨Nat.le_refl _, fun _ _ _ => rfl⟩

def cntL : Int → Nat → List Int
  | _, 0 => []
  | q, n + 1 => q :: cntL (q + 1) n
theorem cntL_len : ∀ (n : Nat) (q : Int), (cntL q n).length = n
  | 0, _ => rfl
  | n + 1, q => by simp [cntL, cntL_len n]
def cntC : Int → Nat → List Clu
  | _, 0 => []
  | q, n + 1 => (q, q + 1, q + 2) :: cntC (q + 3) n
theorem cntC_len : ∀ (n : Nat) (q : Int), (cntC q n).length = n
  | 0, _ => rfl
  | n + 1, q => by simp [cntC, cntC_len n]
theorem PreV.keep {α : Type} {esz : Nat} {enc : α → List AV} {a b h h' : AH} {v : AV} {L : List α} (hp : PreV v h h') (ho : OwW esz enc b h v L) (ha : Pre a h) (hab : a.length ≤ b.length) : Pre a h' :=
  ⟨Nat.le_trans ha.1 hp.1, fun i hi => by
    rw [hp.2 i (Nat.lt_of_lt_of_le hi ha.1) (fun c kk off n e hv => by
      subst hv
      unfold OwW at ho
      have := ho.2.2.1
      omega), ha.2 i hi]⟩
theorem Slc.row_lt {α : Type} {esz : Nat} {enc : α → List AV} {h : AH} {v : AV} {L : List α} (hs : Slc esz enc h v L) : ∀ c kk off n e, v = .slice c kk off n e → c < h.length := by
  rintro c kk off n e rfl
  exact rd_lt hs.all.2.2
theorem OwW.keep {α : Type} {esz : Nat} {enc : α → List AV} {b h h' : AH} {v u : AV} {L : List α} (ho : OwW esz enc b h v L) (hp : PreV u h h') (hu : ∀ c kk off n e, u = .slice c kk off n e → c < b.length) : OwW esz enc b h' v L := by
  unfold OwW at ho ⊢
  cases v <;> simp only at ho ⊢ <;> first
    | exact ho
    | (obtain ⟨h1, h2, h3, A, Z, fl, h4, h5⟩ := ho
       exact ⟨h1, h2, h3, A, Z, fl, by rw [hp.2 _ (List.getElem?_eq_some_iff.1 h4).1 (fun c kk off n e hv => by have := hu c kk off n e hv; omega)]; exact h4, h5⟩)
end Go.Proofs.YtoacbgjdflcceaaGreatDoor.Ab

/- PUZZLES: the cells that all solutions share; the law of SureCells. -/
namespace Go.Proofs.YtoacbgjdflcceaaGreatDoor.Ab
open Go
set_option maxRecDepth 100000
set_option maxHeartbeats 4000000

abbrev encU (b : UInt8) : List AV := [.int .u8 b.toNat]
theorem hlU (s : UInt8) : (encU s).length = 1 := rfl
theorem flatU : ∀ s : List UInt8, s.flatMap encU = s.map fun b => AV.int .u8 b.toNat
  | [] => rfl
  | b :: s => by rw [List.flatMap_cons, flatU s]; rfl
def mg (c x : UInt8) : UInt8 := if x == c then c else 63
def mgL (cur w : List UInt8) : List UInt8 := List.zipWith mg cur w
theorem mgL_len (cur w : List UInt8) (h : w.length = cur.length) : (mgL cur w).length = cur.length := by unfold mgL; rw [List.length_zipWith, h]; omega
def sg (L : List (List UInt8)) (hd : List UInt8) (i : Nat) : List UInt8 := if L.all (fun w => (w.drop i).take 1 == (hd.drop i).take 1) then (hd.drop i).take 1 else [63]
def acc (L : List (List UInt8)) (hd : List UInt8) (i : Nat) : List UInt8 := (List.range i).flatMap (sg L hd)
theorem sg_len (L : List (List UInt8)) (hd : List UInt8) (i : Nat) : (sg L hd i).length ≤ 1 := by unfold sg; split <;> simp; omega
theorem acc_succ (L : List (List UInt8)) (hd : List UInt8) (i : Nat) : acc L hd (i + 1) = acc L hd i ++ sg L hd i := by unfold acc; rw [List.range_succ, List.flatMap_append]; simp
theorem acc_len (L : List (List UInt8)) (hd : List UInt8) : ∀ i, (acc L hd i).length ≤ i
  | 0 => by simp [acc]
  | i + 1 => by have := acc_len L hd i; have := sg_len L hd i; rw [acc_succ, List.length_append]; omega
theorem tk1 (w : List UInt8) (i : Nat) (h : i < w.length) : (w.drop i).take 1 = [w.getD i 0] := by
  rw [List.drop_eq_getElem_cons h, List.take_succ_cons, List.take_zero]
  simp [List.getD, h]
theorem mgL_at (cur w : List UInt8) (i : Nat) (h : i < cur.length) (hw : w.length = cur.length) : (mgL cur w).getD i 0 = mg (cur.getD i 0) (w.getD i 0) := by
  have h2 : i < w.length := by omega
  have h3 : i < (List.zipWith mg cur w).length := by simp; omega
  unfold mgL
  simp only [List.getD, List.getElem?_eq_getElem h, List.getElem?_eq_getElem h2, List.getElem?_eq_getElem h3, Option.getD_some, List.getElem_zipWith]
theorem fold_at (n : Nat) : ∀ (L : List (List UInt8)) (cur : List UInt8), cur.length = n → (∀ w ∈ L, w.length = n) →
    L.foldl mgL cur = (List.range n).map fun i => if L.all (fun w => w.getD i 0 == cur.getD i 0) then cur.getD i 0 else 63
  | [], cur, hc, _ => by
    simp only [List.foldl_nil, List.all_nil, if_true]
    apply List.ext_getElem
    · simp [hc]
    · intro i h1 h2
      simp [List.getD, h1]
  | w :: L, cur, hc, hw => by
    have hwl := hw w (by simp)
    rw [List.foldl_cons, fold_at n L (mgL cur w) (by rw [mgL_len _ _ (by omega), hc]) (fun x hx => hw x (by simp [hx]))]
    apply List.map_congr_left
    intro i hi
    have hi := List.mem_range.1 hi
    rw [mgL_at cur w i (by omega) (by omega)]
    simp only [List.all_cons]
    unfold mg
    by_cases e : (w.getD i 0 == cur.getD i 0) = true
    · simp only [e, if_true, Bool.true_and]
    · rw [Bool.not_eq_true] at e
      simp only [e, Bool.false_and, Bool.false_eq_true, if_false]
      split <;> rfl
theorem acc_eq (n : Nat) (L : List (List UInt8)) (hd : List UInt8) (hn : hd.length = n) (hw : ∀ w ∈ L, w.length = n) : acc L hd n = L.foldl mgL hd := by
  rw [fold_at n L hd hn hw]
  unfold acc
  rw [List.map_eq_flatMap]
  have : ∀ (R : List Nat), (∀ i ∈ R, i < n) → R.flatMap (sg L hd) = R.flatMap fun i => [if L.all (fun w => w.getD i 0 == hd.getD i 0) then hd.getD i 0 else 63] := by
    intro R hR
    induction R with
    | nil => rfl
    | cons i R ih =>
      rw [List.flatMap_cons, List.flatMap_cons, ih fun j hj => hR j (by simp [hj])]
      congr 1
      have hi := hR i (by simp)
      unfold sg
      rw [tk1 hd i (by omega)]
      have hall : (L.all fun w => (w.drop i).take 1 == [hd.getD i 0]) = L.all fun w => w.getD i 0 == hd.getD i 0 := by
        rw [Bool.eq_iff_iff, List.all_eq_true, List.all_eq_true]
        constructor
        · intro h x hx
          have := h x hx
          rw [tk1 x i (by rw [hw x hx]; exact hi)] at this
          simpa using this
        · intro h x hx
          have := h x hx
          rw [tk1 x i (by rw [hw x hx]; exact hi)]
          simpa using this
      rw [hall]
      split <;> rfl
  exact this _ fun i hi => List.mem_range.1 hi

/-! ### The program's -/
def sureP (n : Int) (cs : List Clu) : List UInt8 := (solP n cs).foldl mgL ((solP n cs).headD [])
theorem solP_word (n : Int) (cs : List Clu) : ∀ w ∈ solP n cs, w.length = n.toNat ∧ n.toNat ≤ 5 := by
  unfold solP
  intro w hw
  cases e : goodP n cs
  · rw [e] at hw; simp at hw
  · obtain ⟨m, rfl, m1, m5, _⟩ := goodP_iff e
    rw [e] at hw
    exact ⟨(allL_good m w (List.mem_filter.1 hw).1).1, m5⟩
theorem solP_len (n : Int) (cs : List Clu) : (solP n cs).length ≤ 243 := by
  unfold solP
  cases e : goodP n cs
  · simp
  · obtain ⟨m, rfl, m1, m5, _⟩ := goodP_iff e
    have h1 := List.length_filter_le (fun w => cs.all fun c => fitB c w) (allL m)
    have h2 := allL_length m
    have h3 : 3 ^ m ≤ 3 ^ 5 := Nat.pow_le_pow_right (by omega) m5
    have h4 : (solN (m : Int) cs).length ≤ (allL m).length := h1
    simp only [if_true]
    omega
theorem ownU {h : AH} (s : List UInt8) : OwW 1 encU h (h ++ [AO.row (s.map fun b => AV.int .u8 b.toNat) 0 0 false]) (.slice h.length 0 0 s.length 1) s := by
  unfold OwW
  simp only
  refine ⟨trivial, trivial, Nat.le_refl _, [], [], 0, ?_, Nat.le_refl _, rfl⟩
  rw [List.getElem?_append_right (Nat.le_refl _), flatU]
  simp
end Go.Proofs.YtoacbgjdflcceaaGreatDoor.Ab

/- ARGUMENTS: slices of bytes, one behind the other; they may share a row. -/
namespace Go.Proofs.YtoacbgjdflcceaaGreatDoor.Ab
open Go Go.RowKit Go.ChangeShapes Go.WideShapes Go.Deep Go.Joins
set_option maxRecDepth 100000

/-- One more row that is read alone. -/
theorem rel_more {F : Nat → Nat} {W : World} {m : Emb} {h : AH} (hr : RelH F W.heap.size m h W) {p : Place} {cs : List AV} {C : Array Value} {e : TypeId} {fr : Nat × Nat} (hb : W.heap[p.blk]? = some (.cells C e fr)) (hs : C.size = p.siz) (hlo : p.lo = 0) (hext : p.ext = cs.length) (hle : p.base + p.ext ≤ p.siz)
    (hv : ∀ j x, cs[j]? = some x → ∃ v, C[p.base + j]? = some v ∧ RelV F m x v) : m.le (m.addRow h.length 0 p) ∧ RelH F W.heap.size (m.addRow h.length 0 p) (h ++ [.row cs 0 0 true]) W := by
  have hlt : p.blk < W.heap.size := (Array.getElem?_eq_some_iff.1 hb).1
  have hnone : ∀ k, m.row h.length k = none := by
    intro k
    cases hk : m.row h.length k with
    | none => rfl
    | some p => obtain ⟨o, ho, _⟩ := hr.rowc _ _ _ hk; simp at ho
  have hm : m.le (m.addRow h.length 0 p) := Emb.le_addRow (hnone 0)
  have hobj : ∀ c b, m.obj c = some b → W.heap.size ≤ b := by
    intro c b hb
    obtain ⟨o, ho, hi⟩ := hr.objc c b hb
    have := hr.ob c o ho
    cases o with
    | row cs ver fl ro => cases hi
    | map es => exact (this b hb).1
    | iter s pos => exact (this b hb).1
    | mit cm since seen => exact (this b hb).1
  refine ⟨hm, ?_, ?_, ?_, ?_, hr.injo, ?_, ?_, hr.lto, ?_, Nat.le_refl _⟩
  · intro c k q hq
    rcases Emb.addRow_inv hq with ⟨rfl, _, _⟩ | hq
    · exact ⟨.row cs 0 0 true, by simp, rfl⟩
    · obtain ⟨o, ho, hi⟩ := hr.rowc c k q hq
      exact ⟨o, by rw [List.getElem?_append_left (by have := List.getElem?_eq_some_iff.1 ho; exact this.1)]; exact ho, hi⟩
  · intro c b hb
    obtain ⟨o, ho, hi⟩ := hr.objc c b hb
    exact ⟨o, by rw [List.getElem?_append_left (by have := List.getElem?_eq_some_iff.1 ho; exact this.1)]; exact ho, hi⟩
  · intro c o hc
    by_cases hlt' : c < h.length
    · rw [List.getElem?_append_left hlt'] at hc
      refine ObjRel.keep (hr.ob c o hc) hm ?_ (fun b hb => hb) (fun _ _ _ => rfl) (fun _ _ => rfl)
      intro k q hq
      rcases Emb.addRow_inv hq with ⟨rfl, _, _⟩ | hq
      · omega
      · exact hq
    · rw [List.getElem?_append_right (by omega)] at hc
      have hce : c = h.length := by
        by_cases he : c = h.length
        · exact he
        · rw [List.getElem?_eq_none (by simp; omega)] at hc; cases hc
      subst hce
      simp only [Nat.sub_self, List.getElem?_cons_zero, Option.some.injEq] at hc
      subst hc
      intro k q hq hk
      rcases Emb.addRow_inv hq with ⟨_, rfl, rfl⟩ | hq
      · refine ⟨Nat.le_refl _, by omega, fun _ => hext, (fun h => by cases h), C, e, fr, hb, hs, by omega, (fun h => by cases h), ?_⟩
        intro j h1 h2
        have hj : j < cs.length := by omega
        obtain ⟨v, h3, h4⟩ := hv j cs[j] (by simp)
        exact ⟨cs[j], v, by simp, by rw [hlo]; simpa using h3, RelV.mono hm _ _ h4⟩
      · rw [hnone k] at hq; cases hq
  · intro c k q c' k' q' hq hq' hb he
    rcases Emb.addRow_inv hq with ⟨rfl, rfl, rfl⟩ | hq
    · omega
    · rcases Emb.addRow_inv hq' with ⟨rfl, rfl, rfl⟩ | hq'
      · omega
      · exact hr.inj c k q c' k' q' hq hq' hb he
  · intro c k q c' b hq hb' e
    rcases Emb.addRow_inv hq with ⟨rfl, rfl, rfl⟩ | hq
    · have := hobj c' b hb'; omega
    · exact hr.injr c k q c' b hq hb' e
  · intro c k q hq
    rcases Emb.addRow_inv hq with ⟨rfl, rfl, rfl⟩ | hq
    · exact hlt
    · exact hr.ltr c k q hq
  · intro c cs' ver fl ro k q hc hq
    rcases Emb.addRow_inv hq with ⟨_, rfl, _⟩ | hq
    · omega
    · obtain ⟨o, ho, _⟩ := hr.rowc c k q hq
      have hlt' := (List.getElem?_eq_some_iff.1 ho).1
      rw [List.getElem?_append_left hlt'] at hc
      exact hr.vers c cs' ver fl ro k q hc hq

section
variable {H : Type} {enc : TypeId × Value → H} {P : Program}
theorem open_u8 {W : World} {b0 fuel : Nat} {sp : Nat → Bool} {hd : Bool} {t : TypeId} (ht : P.underlying t = some (.int .u8)) {cs : List Value} {y : DataW H × List MemPlace} (h : DataW.trod enc P W b0 sp hd fuel t cs = some y) : ∃ b : UInt8, cs = [.int .u8 b.toNat] := by
  obtain ⟨n, h1, _, hw⟩ := DataW.trod_int ht h
  have hr : 0 ≤ n ∧ n < 256 := by
    have h2 : IntKind.u8.min ≤ n ∧ n ≤ IntKind.u8.max := by simpa [Lit.wf] using hw
    have h3 : IntKind.u8.min = 0 := rfl
    have h4 : IntKind.u8.max = 255 := rfl
    omega
  refine ⟨UInt8.ofNat n.toNat, ?_⟩
  rw [h1]
  have : (UInt8.ofNat n.toNat).toNat = n.toNat := by
    rw [UInt8.toNat_ofNat']; omega
  rw [this, Int.toNat_of_nonneg hr.1]
/-- A slice of bytes, behind what has been opened. -/
theorem open_bytes0 {F : Nat → Nat} {W : World} {m0 : Emb} {g0 : AH} (hrel : RelH F W.heap.size m0 g0 W) {fuel : Nat} {t e : TypeId} (ht : P.underlying t = some (.slice e)) (he : P.underlying e = some (.int .u8)) (hC : P.cellsOf e = 1)
    {v : Value} {x : DataW H × List MemPlace} (h : DataW.trod enc P W 0 (fun _ => true) true fuel t [v] = some x) :
    ∃ (cs : List UInt8) (m : Emb) (g : AH) (a : AV), m0.le m ∧ Pre g0 g ∧ Slc 1 encU g a cs ∧ RelV F m a v ∧ RelH F W.heap.size m g W := by
  rcases open_slice ht h with ⟨hv, _⟩ | ⟨a, len, cap, m, n, D, Pl, hv, hb, hl, hmax, hm, hx, hi⟩
  · simp at hv
    subst hv
    exact ⟨[], m0, g0, .nilS, Emb.le_refl _, Pre.refl _, Slc.nil, by simp only [RelV], hrel⟩
  · simp at hv
    subst hv
    simp only [if_true] at hm
    subst hm
    rw [hC] at hi
    have hcell : ∀ i, i < m → ∃ b : UInt8, W.cell? (a.add (i * 1)) = some (.int .u8 b.toNat) := by
      intro i him
      obtain ⟨cs', hc, ht'⟩ := hi i him
      obtain ⟨_, hcl, hat⟩ := World.cells?_some hc
      obtain ⟨b, rfl⟩ := open_u8 he ht'
      exact ⟨b, by simpa [Addr.add] using hat 0 (by omega)⟩
    by_cases hz : m = 0
    · subst hz
      obtain rfl : len = 0 := by omega
      exact ⟨[], m0, g0, .empS, Emb.le_refl _, Pre.refl _, Slc.emp, by simp only [RelV]; exact ⟨a, rfl⟩, hrel⟩
    · obtain ⟨c0, q0⟩ := hcell 0 (by omega)
      have hspot : a.spot = none := by
        unfold World.cell? at q0
        split at q0
        · split at q0
          · cases q0
          · rename_i hs; simpa [Addr.add] using hs
        · cases q0
      obtain ⟨blk, off, spot⟩ := a
      simp only at hspot
      subst hspot
      obtain ⟨C, ee, fr, hblk⟩ : ∃ C ee fr, W.heap[blk]? = some (.cells C ee fr) := by
        unfold World.cell? at q0
        split at q0
        · rename_i C ee fr hh; exact ⟨C, ee, fr, hh⟩
        · cases q0
      have hC' : ∀ i, i < m → ∃ b : UInt8, C[off + i]? = some (.int .u8 b.toNat) := by
        intro i him
        obtain ⟨b, e1⟩ := hcell i him
        rw [cell_atA hblk, Nat.mul_one] at e1
        exact ⟨b, e1⟩
      have hsize : off + m ≤ C.size := by
        obtain ⟨c, e3⟩ := hC' (m - 1) (by omega)
        have := (Array.getElem?_eq_some_iff.1 e3).1
        omega
      have hel : ∀ l, l ≤ m → ∃ cs : List UInt8, cs.length = l ∧ ∀ j x, (cs.flatMap encU)[j]? = some x → ∃ v, C[off + j]? = some v ∧ ∀ F m', RelV F m' x v := by
        intro l
        induction l with
        | zero => intro _; exact ⟨[], rfl, fun j x hx => by simp at hx⟩
        | succ l ih =>
          intro hlm
          obtain ⟨cs, hcs, hh⟩ := ih (by omega)
          obtain ⟨c, e1⟩ := hC' l (by omega)
          refine ⟨cs ++ [c], by simp [hcs], ?_⟩
          intro j x hx
          have hfl : (cs.flatMap encU).length = l * 1 := by rw [flat_len hlU, hcs]
          rw [List.flatMap_append] at hx
          by_cases hj : j < l
          · rw [List.getElem?_append_left (by omega)] at hx
            exact hh j x hx
          · rw [List.getElem?_append_right (by omega), hfl] at hx
            simp only [List.flatMap_cons, List.flatMap_nil, List.append_nil, encU] at hx
            have hj3 : j - l * 1 = 0 := by
              have := (List.getElem?_eq_some_iff.1 hx).1
              simp at this
              omega
            rw [hj3] at hx
            simp at hx
            subst hx
            exact ⟨_, (by rw [show off + j = off + l by omega]; exact e1), fun F m' => by simp only [RelV]⟩
      obtain ⟨cs, hcs, hh⟩ := hel len hl
      have hfl : (cs.flatMap encU).length = len * 1 := by rw [flat_len hlU, hcs]
      obtain ⟨hle, hr'⟩ := rel_more hrel (p := ⟨blk, off, 0, len * 1, C.size⟩) (cs := cs.flatMap encU) (C := C) hblk rfl rfl hfl.symm (by simp only; omega) (fun j x hx => by
        obtain ⟨v, h3, h4⟩ := hh j x hx
        exact ⟨v, h3, h4 _ _⟩)
      refine ⟨cs, _, g0 ++ [.row (cs.flatMap encU) 0 0 true], .slice g0.length 0 0 len 1, hle, Pre.push _ _, ?_, ?_, hr'⟩
      · unfold Slc Sl
        refine ⟨rfl, hcs.symm, by rw [hfl, hcs], ?_⟩
        exact rdRow_push g0 _ true (by rw [hfl, hcs])
      · simp only [RelV]
        exact ⟨⟨blk, off, 0, len * 1, C.size⟩, off, m, Emb.addRow_at _ _ _ _, rfl, hl, .inr ⟨Nat.le_refl _, by simp, by simp, by simp; omega⟩⟩
theorem open_bytes {F : Nat → Nat} {W : World} {m0 : Emb} {g0 : AH} (hrel : RelH F W.heap.size m0 g0 W) {base : Nat} {t e : TypeId} (ht : P.underlying t = some (.slice e)) (he : P.underlying e = some (.int .u8)) (hC : P.cellsOf e = 1)
    {v : Value} {d : DataW H} {p : List MemPlace} (hval : Value.okWide P W .any base t v) (h : DataW.Trod enc P W 0 (fun _ => true) true t v d p) :
    ∃ (cs : List UInt8) (m : Emb) (g : AH) (a : AV), m0.le m ∧ Pre g0 g ∧ Slc 1 encU g a cs ∧ RelV F m a v ∧ RelH F W.heap.size m g W := by
  obtain ⟨fuel, h⟩ := h
  obtain ⟨a, len, cap, rfl⟩ := okWide_slice ht hval
  exact open_bytes0 hrel ht he hC h
end
end Go.Proofs.YtoacbgjdflcceaaGreatDoor.Ab

/- PLAIN: a sum of two lines as one text with a blank between them: who wins is the same. -/
namespace Go.Proofs.YtoacbgjdflcceaaGreatDoor.Ab
set_option maxHeartbeats 1000000

theorem gJ1 {w v : List UInt8} {x : Nat} (h : x < w.length) : (w ++ 32 :: v).getD x 0 = w.getD x 0 := by
  simp [List.getD, List.getElem?_append_left h]
theorem gJ2 {w v : List UInt8} : (w ++ 32 :: v).getD w.length 0 = 32 := by simp [List.getD]
theorem gJ3 {w v : List UInt8} (j : Nat) : (w ++ 32 :: v).getD (w.length + 1 + j) 0 = v.getD j 0 := by
  simp only [List.getD]
  rw [List.getElem?_append_right (by omega), show w.length + 1 + j - w.length = j + 1 by omega, List.getElem?_cons_succ]
theorem jL (w v : List UInt8) : (w ++ 32 :: v).length = w.length + 1 + v.length := by simp; omega
theorem mv_l {w v : List UInt8} {i t : Nat} (h : Mv w i t) : Mv (w ++ 32 :: v) i t := by
  obtain ⟨h1, h2, h3, h4⟩ := h
  refine ⟨by rw [jL]; omega, by rw [jL]; omega, by rw [gJ1 h2]; exact h3, ?_⟩
  rw [gJ1 h1]
  rcases h4 with ⟨e, h4 | ⟨h4, h5⟩⟩ | ⟨e, h4 | ⟨h4, h5⟩⟩
  · exact .inl ⟨e, .inl h4⟩
  · exact .inl ⟨e, .inr ⟨h4, by rw [gJ1 (by omega)]; exact h5⟩⟩
  · exact .inr ⟨e, .inl h4⟩
  · exact .inr ⟨e, .inr ⟨h4, by rw [gJ1 (by omega)]; exact h5⟩⟩
theorem mv_r {w v : List UInt8} {i t : Nat} (h : Mv v i t) : Mv (w ++ 32 :: v) (w.length + 1 + i) (w.length + 1 + t) := by
  obtain ⟨h1, h2, h3, h4⟩ := h
  refine ⟨by rw [jL]; omega, by rw [jL]; omega, by rw [gJ3]; exact h3, ?_⟩
  rw [gJ3]
  rcases h4 with ⟨e, h4 | ⟨h4, h5⟩⟩ | ⟨e, h4 | ⟨h4, h5⟩⟩
  · exact .inl ⟨e, .inl (by omega)⟩
  · exact .inl ⟨e, .inr ⟨by omega, by rw [show w.length + 1 + i + 1 = w.length + 1 + (i + 1) by omega, gJ3]; exact h5⟩⟩
  · exact .inr ⟨e, .inl (by omega)⟩
  · exact .inr ⟨e, .inr ⟨by omega, by rw [show w.length + 1 + i - 1 = w.length + 1 + (i - 1) by omega, gJ3]; exact h5⟩⟩
theorem mv_inv {w v : List UInt8} {i t : Nat} (h : Mv (w ++ 32 :: v) i t) : Mv w i t ∨ ∃ i' t', i = w.length + 1 + i' ∧ t = w.length + 1 + t' ∧ Mv v i' t' := by
  obtain ⟨h1, h2, h3, h4⟩ := h
  rw [jL] at h1 h2
  have ht : t ≠ w.length := by rintro rfl; rw [gJ2] at h3; cases h3
  have hi : i ≠ w.length := by
    rintro rfl
    rw [gJ2] at h4
    rcases h4 with ⟨e, _⟩ | ⟨e, _⟩ <;> cases e
  by_cases hil : i < w.length
  · left
    rw [gJ1 hil] at h4
    have htl : t < w.length := by
      rcases h4 with ⟨e, h4 | ⟨h4, h5⟩⟩ | ⟨e, h4 | ⟨h4, h5⟩⟩
      · omega
      · by_cases hx : i + 1 = w.length
        · rw [hx, gJ2] at h5; cases h5
        · omega
      · omega
      · omega
    rw [gJ1 htl] at h3
    refine ⟨hil, htl, h3, ?_⟩
    rcases h4 with ⟨e, h4 | ⟨h4, h5⟩⟩ | ⟨e, h4 | ⟨h4, h5⟩⟩
    · exact .inl ⟨e, .inl h4⟩
    · exact .inl ⟨e, .inr ⟨h4, by rw [gJ1 (by omega)] at h5; exact h5⟩⟩
    · exact .inr ⟨e, .inl h4⟩
    · exact .inr ⟨e, .inr ⟨h4, by rw [gJ1 (by omega)] at h5; exact h5⟩⟩
  · right
    obtain ⟨i', rfl⟩ : ∃ i', i = w.length + 1 + i' := ⟨i - w.length - 1, by omega⟩
    rw [gJ3] at h4
    have htl : w.length < t := by
      rcases h4 with ⟨e, h4 | ⟨h4, h5⟩⟩ | ⟨e, h4 | ⟨h4, h5⟩⟩
      · omega
      · omega
      · omega
      · by_cases hx : w.length + 1 + i' - 1 = w.length
        · rw [hx, gJ2] at h5; cases h5
        · omega
    obtain ⟨t', rfl⟩ : ∃ t', t = w.length + 1 + t' := ⟨t - w.length - 1, by omega⟩
    rw [gJ3] at h3
    refine ⟨i', t', rfl, rfl, by omega, by omega, h3, ?_⟩
    rcases h4 with ⟨e, h4 | ⟨h4, h5⟩⟩ | ⟨e, h4 | ⟨h4, h5⟩⟩
    · exact .inl ⟨e, .inl (by omega)⟩
    · exact .inl ⟨e, .inr ⟨by omega, by rw [show w.length + 1 + i' + 1 = w.length + 1 + (i' + 1) by omega, gJ3] at h5; exact h5⟩⟩
    · exact .inr ⟨e, .inl (by omega)⟩
    · exact .inr ⟨e, .inr ⟨by omega, by rw [show w.length + 1 + i' - 1 = w.length + 1 + (i' - 1) by omega, gJ3] at h5; exact h5⟩⟩
theorem goal_l {w v : List UInt8} {i : Nat} (hi : i < w.length) : goalB (w ++ 32 :: v) i = goalB w i := by
  cases h : goalB w i with
  | some t =>
    obtain ⟨t', rfl, hm⟩ := goalB_mv hi h
    exact mv_goalB (mv_l hm)
  | none =>
    cases h2 : goalB (w ++ 32 :: v) i with
    | none => rfl
    | some t =>
      obtain ⟨t', rfl, hm⟩ := goalB_mv (by rw [jL]; omega) h2
      rcases mv_inv hm with hm | ⟨i', _, e, _⟩
      · rw [mv_goalB hm] at h; cases h
      · omega
theorem goal_m {w v : List UInt8} : goalB (w ++ 32 :: v) w.length = none := by
  cases h2 : goalB (w ++ 32 :: v) w.length with
  | none => rfl
  | some t =>
    obtain ⟨t', rfl, hm⟩ := goalB_mv (by rw [jL]; omega) h2
    rcases mv_inv hm with hm | ⟨i', _, e, _⟩
    · exact absurd hm.1 (by omega)
    · omega
theorem goal_r {w v : List UInt8} {j : Nat} (hj : j < v.length) : goalB (w ++ 32 :: v) (w.length + 1 + j) = (goalB v j).map fun t => ((w.length + 1 : Nat) : Int) + t := by
  cases h : goalB v j with
  | some t =>
    obtain ⟨t', rfl, hm⟩ := goalB_mv hj h
    rw [mv_goalB (mv_r hm)]
    simp only [Option.map_some]
    congr 1
  | none =>
    cases h2 : goalB (w ++ 32 :: v) (w.length + 1 + j) with
    | none => rfl
    | some t =>
      obtain ⟨t', rfl, hm⟩ := goalB_mv (by rw [jL]; omega) h2
      rcases mv_inv hm with hm | ⟨i', t2, e, _, hm⟩
      · exact absurd hm.1 (by omega)
      · obtain rfl : j = i' := by omega
        rw [mv_goalB hm] at h; cases h
def shB (n : Nat) (m : Int × Int) : Int × Int := (((n : Nat) : Int) + m.1, ((n : Nat) : Int) + m.2)
theorem moves_join (w v kd : List UInt8) : movesB (w ++ 32 :: v) kd = movesB w kd ++ (movesB v kd).map (shB (w.length + 1)) := by
  unfold movesB
  rw [jL, List.range_add, List.range_succ, List.flatMap_append, List.flatMap_append, List.append_assoc]
  congr 1
  · apply flatMap_congr'
    intro i hi
    have hi := List.mem_range.1 hi
    unfold moveB
    rw [goal_l hi, gJ1 hi]
  · have hm : moveB (w ++ 32 :: v) kd w.length = [] := by unfold moveB; rw [goal_m]
    rw [List.flatMap_cons, hm, List.flatMap_nil, List.append_nil, List.nil_append, List.flatMap_map, List.map_flatMap]
    apply flatMap_congr'
    intro j hj
    have hj := List.mem_range.1 hj
    unfold moveB
    rw [goal_r hj, gJ3]
    cases goalB v j with
    | none => rfl
    | some t =>
      simp only [Option.map_some]
      split
      · simp [shB]
      · rfl
theorem next_join (w v kd : List UInt8) : nextB (w ++ 32 :: v) kd = (nextB w kd).map (fun x => x ++ 32 :: v) ++ (nextB v kd).map (fun x => w ++ 32 :: x) := by
  unfold nextB
  rw [moves_join, List.map_append, List.map_map, List.map_map, List.map_map]
  congr 1
  · apply List.map_congr_left
    intro m hm
    obtain ⟨i, t, rfl, hmv⟩ := movesB_mv hm
    simp only [Function.comp, Int.toNat_natCast, madeB]
    rw [gJ1 hmv.fst, List.set_append_left _ _ hmv.snd, List.set_append_left _ _ (by rw [List.length_set]; exact hmv.fst)]
  · apply List.map_congr_left
    intro m hm
    obtain ⟨i, t, rfl, hmv⟩ := movesB_mv hm
    have e1 : (((w.length + 1 : Nat) : Int) + (i : Int)).toNat = w.length + 1 + i := by omega
    have e2 : (((w.length + 1 : Nat) : Int) + (t : Int)).toNat = w.length + 1 + t := by omega
    simp only [Function.comp, shB, Int.toNat_natCast, madeB]
    rw [e1, e2, gJ3, List.set_append_right _ _ (by omega), show w.length + 1 + t - w.length = t + 1 by omega, List.set_cons_succ,
      List.set_append_right _ _ (by omega), show w.length + 1 + i - w.length = i + 1 by omega, List.set_cons_succ]
theorem winB_next (w : List UInt8) (t : Bool) : winB w t = (nextB w (kindS t)).any fun x => !winB x (!t) := by
  rw [winB_eq]; unfold nextB; rw [List.any_map]; rfl
theorem winL_pair : ∀ (n : Nat) (w v : List UInt8) (t : Bool), mu w + mu v < n → winL [w, v] t = winB (w ++ 32 :: v) t
  | 0, _, _, _, h => by omega
  | n + 1, w, v, t, h => by
    rw [winL_eq, winB_next, next_join]
    simp only [nextZ, List.append_nil, List.nil_append, List.any_append, List.any_map, List.cons_append]
    congr 1
    · apply any_congr'
      intro x hx
      have := nextB_mu hx
      simp only [Function.comp]
      rw [winL_pair n _ _ _ (by omega)]
    · apply any_congr'
      intro x hx
      have := nextB_mu hx
      simp only [Function.comp]
      rw [winL_pair n _ _ _ (by omega)]
end Go.Proofs.YtoacbgjdflcceaaGreatDoor.Ab

/- LINES from the other side, sums of two lines, whole values: what both sides' functions answer. -/
namespace Go.Proofs.YtoacbgjdflcceaaGreatDoor.Ab
open Go
set_option maxRecDepth 100000
set_option maxHeartbeats 4000000

def otherL (w : List UInt8) : List UInt8 := (w.map otherB).reverse
theorem otherL_len (w : List UInt8) : (otherL w).length = w.length := by simp [otherL]
theorem otherB_sign {b : UInt8} (h : isSign b = true) : isSign (otherB b) = true := by
  unfold isSign at h
  simp only [Bool.or_eq_true, beq_iff_eq] at h
  rcases h with (rfl | rfl) | rfl <;> rfl
theorem otherL_signs {w : List UInt8} (h : signs w) : signs (otherL w) := by
  unfold signs otherL at *
  rw [List.all_eq_true] at h ⊢
  intro x hx
  simp only [List.mem_reverse, List.mem_map] at hx
  obtain ⟨b, hb, rfl⟩ := hx
  exact otherB_sign (h b hb)
theorem lp_Reverse {b : AH} {v : AV} {R : X → Env → AH → Prop} : ∀ (d : Nat) (M A S : List UInt8) (h : AH), M.length ≤ d → A.length = S.length → A.length + M.length + S.length < 2 ^ 30 → OwW 1 encU b h v (A ++ (M ++ S)) →
    (∀ h', OwW 1 encU b h' v (A ++ (M.reverse ++ S)) → PreV v h h' → R (.exit 0) [] h') →
    Cx (.loop lp110_0) [(0, v), (2, .int .i64 A.length), (3, .int .i64 ((A.length : Int) + M.length - 1))] h R k k
  | d, [], A, S, h, hd, hl, hb, ho, hR => by
    have hn : ¬ ((A.length : Int) < (A.length : Int) + (([] : List UInt8).length : Int) - 1) := by simp only [List.length_nil]; omega
    rw [w_loopb (c := lp110_0) (d := lb110_0) rfl]; unfold lb110_0
    simp (maxSteps := 1000000) (disch := first | omega | rfl | (simp only [zL, two63, room] <;> omega) | fail) only [↓reduceIte, ↓zP, zW, WOp, evOp, evBin, binI, binSh, binS, evNil, keyIs, keyEq, mkv, AV.cells, AV.sc, optv, bnd, env, put, Env.get, Env.set, Env.del, Env.dels, Env.init, res1, resL, resV, fillP, splice, newRow, Nat.reduceEqDiff, Nat.reduceLT, Nat.reduceLeDiff, Nat.reduceAdd, Nat.reduceMul, Nat.reduceSub, Nat.reduceBEq, reduceCtorEq, ↓zR, zQ, Tr, StA, StT, hn]
    exact hR h (by simpa using ho) (PreV.refl _ _)
  | d, [x], A, S, h, hd, hl, hb, ho, hR => by
    have hn : ¬ ((A.length : Int) < (A.length : Int) + ((1 : Nat) : Int) - 1) := by omega
    rw [w_loopb (c := lp110_0) (d := lb110_0) rfl]; unfold lb110_0
    simp (maxSteps := 1000000) (disch := first | omega | rfl | (simp only [zL, two63, room] <;> omega) | fail) only [↓reduceIte, ↓zP, zW, WOp, evOp, evBin, binI, binSh, binS, evNil, keyIs, keyEq, mkv, AV.cells, AV.sc, optv, bnd, env, put, Env.get, Env.set, Env.del, Env.dels, Env.init, res1, resL, resV, fillP, splice, newRow, Nat.reduceEqDiff, Nat.reduceLT, Nat.reduceLeDiff, Nat.reduceAdd, Nat.reduceMul, Nat.reduceSub, Nat.reduceBEq, reduceCtorEq, ↓zR, zQ, Tr, StA, StT, hn]
    exact hR h (by simpa using ho) (PreV.refl _ _)
  | 0, x :: y :: M, A, S, h, hd, hl, hb, ho, hR => by simp at hd
  | d + 1, x :: y :: M, A, S, h, hd, hl, hb, ho, hR => by
    obtain ⟨M', z, hM⟩ : ∃ M' z, y :: M = M' ++ [z] := ⟨(y :: M).dropLast, (y :: M).getLast (by simp), (List.dropLast_concat_getLast (by simp)).symm⟩
    rw [hM] at hd hb ho hR ⊢
    simp only [List.length_cons, List.length_append, List.length_nil] at hd hb
    have ih := lp_Reverse (b := b) (v := v) (R := R) d M' (A ++ [z]) (x :: S)
    have ho1 : OwW 1 encU b h v (A ++ x :: (M' ++ (z :: S))) := by simpa using ho
    have ho2 : OwW 1 encU b h v ((A ++ x :: M') ++ z :: S) := by simpa using ho
    obtain ⟨c, kk, off, hve, hr1⟩ := (ho1.slc hlU).at hlU
    obtain ⟨c2, kk2, off2, hve2, hr2⟩ := (ho2.slc hlU).at hlU
    obtain ⟨c3, kk3, off3, h3, hve3, hw3, ho3, hpv3⟩ := ho1.store hlU z 0 [.int .u8 z.toNat] (by simp) rfl rfl
    have ho3' : OwW 1 encU b h3 v ((A ++ z :: M') ++ z :: S) := by simpa using ho3
    obtain ⟨c4, kk4, off4, h4, hve4, hw4, ho4, hpv4⟩ := ho3'.store hlU x 0 [.int .u8 x.toNat] (by simp) rfl rfl
    rw [hve] at hve2 hve3 hve4
    simp only [AV.slice.injEq] at hve2 hve3 hve4
    obtain ⟨rfl, rfl, rfl, -⟩ := hve2
    obtain ⟨rfl, rfl, rfl, -⟩ := hve3
    obtain ⟨rfl, rfl, rfl, -⟩ := hve4
    have hl1 : (A ++ x :: (M' ++ (z :: S))).length = A.length + M'.length + S.length + 2 := by simp; omega
    have hl2 : (A ++ x :: M').length = A.length + M'.length + 1 := by simp; omega
    have hl4 : (A ++ z :: M').length = A.length + M'.length + 1 := by simp; omega
    rw [hl1] at hve
    rw [hl2] at hr2
    rw [hl4] at hw4
    rw [Nat.add_zero] at hw3 hw4
    subst hve
    have hlm : ((x :: (M' ++ [z])).length : Int) = ((M'.length + 2 : Nat) : Int) := by simp; omega
    rw [hlm]
    have hj : (A.length : Int) + ((M'.length + 2 : Nat) : Int) - 1 = ((A.length + M'.length + 1 : Nat) : Int) := by omega
    rw [hj]
    have hlt : (A.length : Int) < ((A.length + M'.length + 1 : Nat) : Int) := by omega
    have hi1 : (A.length : Int) < ((A.length + M'.length + S.length + 2 : Nat) : Int) := by omega
    have hi2 : ((A.length + M'.length + 1 : Nat) : Int) < ((A.length + M'.length + S.length + 2 : Nat) : Int) := by omega
    have hw1 : (A.length : Int) + 1 = ((A ++ [z]).length : Int) := by simp
    have hw2 : ((A.length + M'.length + 1 : Nat) : Int) - 1 = ((A ++ [z]).length : Int) + (M'.length : Int) - 1 := by simp; omega
    have hwr1 : IntKind.i64.wrap ((A.length : Int) + 1) = (A.length : Int) + 1 := wrap_i (by omega)
    have hwr2 : IntKind.i64.wrap (((A.length + M'.length + 1 : Nat) : Int) - 1) = ((A.length + M'.length + 1 : Nat) : Int) - 1 := wrap_i (by omega)
    rw [w_loopb (c := lp110_0) (d := lb110_0) rfl]; unfold lb110_0
    simp (maxSteps := 1000000) (disch := first | omega | rfl | (simp only [zL, two63, room] <;> omega) | fail) only [↓reduceIte, ↓zP, zW, WOp, evOp, evBin, binI, binSh, binS, evNil, keyIs, keyEq, mkv, AV.cells, AV.sc, optv, bnd, env, put, Env.get, Env.set, Env.del, Env.dels, Env.init, res1, resL, resV, fillP, splice, newRow, Nat.reduceEqDiff, Nat.reduceLT, Nat.reduceLeDiff, Nat.reduceAdd, Nat.reduceMul, Nat.reduceSub, Nat.reduceBEq, reduceCtorEq, ↓zR, zQ, Tr, StA, StT, hlt, hi1, hi2, hr1, hr2, hw3, hw4, hwr1, hwr2]
    rw [hw1, hw2]
    rw [w_loopn (c := lp110_0) rfl]
    simp (maxSteps := 1000000) (disch := first | omega | rfl | (simp only [zL, two63, room] <;> omega) | fail) only [↓reduceIte, ↓zP, zW, WOp, evOp, evBin, binI, binSh, binS, evNil, keyIs, keyEq, mkv, AV.cells, AV.sc, optv, bnd, env, put, Env.get, Env.set, Env.del, Env.dels, Env.init, res1, resL, resV, fillP, splice, newRow, Nat.reduceEqDiff, Nat.reduceLT, Nat.reduceLeDiff, Nat.reduceAdd, Nat.reduceMul, Nat.reduceSub, Nat.reduceBEq, reduceCtorEq, ↓zR, zQ, Tr, StA, StT]
    refine ih h4 (by omega) (by simp; omega) (by simp; omega) (by simpa using ho4) ?_
    intro h' ho' hpv'
    exact hR h' (by simpa using ho') ((hpv3.trans hpv4).trans hpv')
theorem lp_turned (b : AH) {v : AV} {R : X → Env → AH → Prop} : ∀ (rest pre : List UInt8) (h : AH), pre.length + rest.length < 2 ^ 30 → OwW 1 encU b h v (pre ++ rest) →
    (∀ h', OwW 1 encU b h' v (pre ++ rest.map otherB) → PreV v h h' → R (.exit 0) [(3, v)] h') →
    Cx (.loop lp80_0) [(3, v), (10, v), (11, .int .i64 ((pre.length + rest.length : Nat) : Int)), (12, .int .i64 pre.length)] h R k k
  | [], pre, h, hb, ho, hR => by
    have hn : ¬ ((pre.length : Int) < ((pre.length + 0 : Nat) : Int)) := by omega
    rw [w_loopb (c := lp80_0) (d := lb80_0) rfl]; unfold lb80_0
    simp (maxSteps := 1000000) (disch := first | omega | rfl | (simp only [zL, two63, room] <;> omega) | fail) only [↓reduceIte, ↓zP, zW, WOp, evOp, evBin, binI, binSh, binS, evNil, keyIs, keyEq, mkv, AV.cells, AV.sc, optv, bnd, env, put, Env.get, Env.set, Env.del, Env.dels, Env.init, res1, resL, resV, fillP, splice, newRow, Nat.reduceEqDiff, Nat.reduceLT, Nat.reduceLeDiff, Nat.reduceAdd, Nat.reduceMul, Nat.reduceSub, Nat.reduceBEq, reduceCtorEq, ↓zR, zQ, Tr, StA, StT, hn]
    exact hR h (by simpa using ho) (PreV.refl _ _)
  | x :: rest, pre, h, hb, ho, hR => by
    have ih := lp_turned b (v := v) (R := R) rest (pre ++ [otherB x])
    simp only [List.length_cons] at hb ⊢
    obtain ⟨c, kk, off, hve, hr⟩ := (ho.slc hlU).at hlU
    obtain ⟨c3, kk3, off3, h3, hve3, hw3, ho3, hpv3⟩ := ho.store hlU (otherB x) 0 [.int .u8 (otherB x).toNat] (by simp) rfl rfl
    rw [hve] at hve3
    simp only [AV.slice.injEq] at hve3
    obtain ⟨rfl, rfl, rfl, -⟩ := hve3
    rw [Nat.add_zero] at hw3
    have hl1 : (pre ++ x :: rest).length = pre.length + (rest.length + 1) := by simp
    rw [hl1] at hve
    subst hve
    have hlt : (pre.length : Int) < ((pre.length + (rest.length + 1) : Nat) : Int) := by omega
    have hw1 : (pre.length : Int) + 1 = ((pre ++ [otherB x]).length : Int) := by simp
    have hwr1 : IntKind.i64.wrap ((pre.length : Int) + 1) = (pre.length : Int) + 1 := wrap_i (by omega)
    have hl2 : (pre ++ [otherB x]).length + rest.length = pre.length + (rest.length + 1) := by simp; omega
    rw [hl2] at ih
    rw [w_loopb (c := lp80_0) (d := lb80_0) rfl]; unfold lb80_0
    simp (maxSteps := 1000000) (disch := first | omega | rfl | (simp only [zL, two63, room] <;> omega) | fail) only [↓reduceIte, ↓zP, zW, WOp, evOp, evBin, binI, binSh, binS, evNil, keyIs, keyEq, mkv, AV.cells, AV.sc, optv, bnd, env, put, Env.get, Env.set, Env.del, Env.dels, Env.init, res1, resL, resV, fillP, splice, newRow, Nat.reduceEqDiff, Nat.reduceLT, Nat.reduceLeDiff, Nat.reduceAdd, Nat.reduceMul, Nat.reduceSub, Nat.reduceBEq, reduceCtorEq, ↓zR, zQ, Tr, StA, StT, hlt, hr]
    refine c_other x ?_
    simp (maxSteps := 1000000) (disch := first | omega | rfl | (simp only [zL, two63, room] <;> omega) | fail) only [↓reduceIte, ↓zP, zW, WOp, evOp, evBin, binI, binSh, binS, evNil, keyIs, keyEq, mkv, AV.cells, AV.sc, optv, bnd, env, put, Env.get, Env.set, Env.del, Env.dels, Env.init, res1, resL, resV, fillP, splice, newRow, Nat.reduceEqDiff, Nat.reduceLT, Nat.reduceLeDiff, Nat.reduceAdd, Nat.reduceMul, Nat.reduceSub, Nat.reduceBEq, reduceCtorEq, ↓zR, zQ, Tr, StA, StT, hlt, hw3, hwr1]
    simp (maxSteps := 1000000) (disch := first | omega | rfl | (simp only [zL, two63, room] <;> omega) | fail) only [↓reduceIte, ↓zP, zW, WOp, evOp, evBin, binI, binSh, binS, evNil, keyIs, keyEq, mkv, AV.cells, AV.sc, optv, bnd, env, put, Env.get, Env.set, Env.del, Env.dels, Env.init, res1, resL, resV, fillP, splice, newRow, Nat.reduceEqDiff, Nat.reduceLT, Nat.reduceLeDiff, Nat.reduceAdd, Nat.reduceMul, Nat.reduceSub, Nat.reduceBEq, reduceCtorEq, ↓zR, zQ, Tr, StA, StT, hw1]
    rw [w_loopn (c := lp80_0) rfl]
    simp (maxSteps := 1000000) (disch := first | omega | rfl | (simp only [zL, two63, room] <;> omega) | fail) only [↓reduceIte, ↓zP, zW, WOp, evOp, evBin, binI, binSh, binS, evNil, keyIs, keyEq, mkv, AV.cells, AV.sc, optv, bnd, env, put, Env.get, Env.set, Env.del, Env.dels, Env.init, res1, resL, resV, fillP, splice, newRow, Nat.reduceEqDiff, Nat.reduceLT, Nat.reduceLeDiff, Nat.reduceAdd, Nat.reduceMul, Nat.reduceSub, Nat.reduceBEq, reduceCtorEq, ↓zR, zQ, Tr, StA, StT]
    refine ih h3 (by omega) (by simpa using ho3) ?_
    intro h' ho' hpv'
    exact hR h' (by simpa using ho') (hpv3.trans hpv')
theorem c_turned (w : List UInt8) (hw : w.length < 2 ^ 30) {h : AH} {post : AV → AH → Prop} (hp : ∀ h', Pre h h' → post (.str (otherL w)) h') : S 80 [.str w] h post k := by
  have hrm : w.length ≤ room := by unfold room; omega
  have hsb := sc_bytes w
  have key1 := fun R => lp_Reverse (b := h) (v := .slice h.length 0 0 w.length 1) (R := R) w.length w [] []
  have key2 := fun R => lp_turned h (v := .slice h.length 0 0 w.length 1) (R := R) w.reverse []
  simp only [List.length_nil, List.length_reverse, List.nil_append, List.append_nil, Nat.zero_add] at key1 key2
  refine S_of rfl T80 ?_; unfold fi80
  simp (maxSteps := 1000000) (disch := first | omega | rfl | (simp only [zL, two63, room] <;> omega) | fail) only [↓reduceIte, ↓zP, zW, WOp, evOp, evBin, binI, binSh, binS, evNil, keyIs, keyEq, mkv, AV.cells, AV.sc, optv, bnd, env, put, Env.get, Env.set, Env.del, Env.dels, Env.init, res1, resL, resV, fillP, splice, newRow, Nat.reduceEqDiff, Nat.reduceLT, Nat.reduceLeDiff, Nat.reduceAdd, Nat.reduceMul, Nat.reduceSub, Nat.reduceBEq, reduceCtorEq, ↓zR, zQ, Tr, StA, StT, hrm, hsb]
  refine S_of rfl T110 ?_; unfold fi110
  have hj : (w.length : Int) - 1 = ((0 : Nat) : Int) + (w.length : Int) - 1 := by omega
  have hwr : IntKind.i64.wrap ((w.length : Int) - 1) = (w.length : Int) - 1 := wrap_i (by omega)
  simp (maxSteps := 1000000) (disch := first | omega | rfl | (simp only [zL, two63, room] <;> omega) | fail) only [↓reduceIte, ↓zP, zW, WOp, evOp, evBin, binI, binSh, binS, evNil, keyIs, keyEq, mkv, AV.cells, AV.sc, optv, bnd, env, put, Env.get, Env.set, Env.del, Env.dels, Env.init, res1, resL, resV, fillP, splice, newRow, Nat.reduceEqDiff, Nat.reduceLT, Nat.reduceLeDiff, Nat.reduceAdd, Nat.reduceMul, Nat.reduceSub, Nat.reduceBEq, reduceCtorEq, ↓zR, zQ, Tr, StA, StT, hwr]
  rw [hj]
  refine key1 _ _ (Nat.le_refl _) trivial (by omega) (ownU w) ?_
  intro h2 ho2 hpv2
  simp (maxSteps := 1000000) (disch := first | omega | rfl | (simp only [zL, two63, room] <;> omega) | fail) only [↓reduceIte, ↓zP, zW, WOp, evOp, evBin, binI, binSh, binS, evNil, keyIs, keyEq, mkv, AV.cells, AV.sc, optv, bnd, env, put, Env.get, Env.set, Env.del, Env.dels, Env.init, res1, resL, resV, fillP, splice, newRow, Nat.reduceEqDiff, Nat.reduceLT, Nat.reduceLeDiff, Nat.reduceAdd, Nat.reduceMul, Nat.reduceSub, Nat.reduceBEq, reduceCtorEq, ↓zR, zQ, Tr, StA, StT]
  refine key2 _ _ (by omega) ho2 ?_
  intro h3 ho3 hpv3
  have hp3 := hpv3.keep ho2 (hpv2.keep (ownU w) (Pre.push _ _) (Nat.le_refl _)) (Nat.le_refl _)
  have hq := hp h3 hp3
  obtain ⟨_, _, hrd⟩ := (ho3.slc hlU).all
  rw [flatU, Nat.mul_one] at hrd
  have hbl := bytesL_map (w.reverse.map otherB)
  have he : w.reverse.map otherB = otherL w := by unfold otherL; rw [List.map_reverse]
  rw [he] at hrd hbl
  simp (maxSteps := 1000000) (disch := first | omega | rfl | (simp only [zL, two63, room] <;> omega) | fail) only [↓reduceIte, ↓zP, zW, WOp, evOp, evBin, binI, binSh, binS, evNil, keyIs, keyEq, mkv, AV.cells, AV.sc, optv, bnd, env, put, Env.get, Env.set, Env.del, Env.dels, Env.init, res1, resL, resV, fillP, splice, newRow, Nat.reduceEqDiff, Nat.reduceLT, Nat.reduceLeDiff, Nat.reduceAdd, Nat.reduceMul, Nat.reduceSub, Nat.reduceBEq, reduceCtorEq, ↓zR, zQ, Tr, StA, StT, hrd, hbl]
  exact hq
theorem lp_liOther (w : List UInt8) (hw : w.length < 2 ^ 30) (hsg : signs w) {h : AH} {R : X → Env → AH → Prop} : ∀ d : Nat, d ≤ w.length → R (.exit 0) [(3, .str (otherL w))] h →
    Cx (.loop lp81_0) [(0, .str w), (3, .str (((w.drop d).map otherB).reverse)), (4, .int .i64 ((d : Int) - 1))] h R k k
  | 0, hd, hR => by
    have hn : ¬ (((0 : Nat) : Int) - 1 ≥ 0) := by omega
    rw [w_loopb (c := lp81_0) (d := lb81_0) rfl]; unfold lb81_0
    simp (maxSteps := 1000000) (disch := first | omega | rfl | (simp only [zL, two63, room] <;> omega) | fail) only [↓reduceIte, ↓zP, zW, WOp, evOp, evBin, binI, binSh, binS, evNil, keyIs, keyEq, mkv, AV.cells, AV.sc, optv, bnd, env, put, Env.get, Env.set, Env.del, Env.dels, Env.init, res1, resL, resV, fillP, splice, newRow, Nat.reduceEqDiff, Nat.reduceLT, Nat.reduceLeDiff, Nat.reduceAdd, Nat.reduceMul, Nat.reduceSub, Nat.reduceBEq, reduceCtorEq, ↓zR, zQ, Tr, StA, StT, hn]
    exact hR
  | d + 1, hd, hR => by
    have ih := lp_liOther w hw hsg (h := h) (R := R) d (by omega) hR
    have hdr : w.drop d = w.getD d 0 :: w.drop (d + 1) := by
      rw [List.drop_eq_getElem_cons (by omega)]; simp [List.getD_eq_getElem?_getD, show d < w.length by omega]
    have hj : ((d + 1 : Nat) : Int) - 1 = (d : Int) := by omega
    rw [hj]
    have hsgd : isSign (w.getD d 0) = true := by
      unfold signs at hsg
      rw [List.all_eq_true] at hsg
      exact hsg _ (by rw [List.getD_eq_getElem?_getD, List.getElem?_eq_getElem (by omega)]; simp)
    rw [hdr, List.map_cons, List.reverse_cons] at ih
    have hge : (d : Int) ≥ 0 := by omega
    have hlt : (d : Int) < (w.length : Int) := by omega
    have hwr : IntKind.i64.wrap ((d : Int) - 1) = (d : Int) - 1 := wrap_i (by omega)
    have hol : (((w.drop (d + 1)).map otherB).reverse).length < 2 ^ 30 := by simp; omega
    generalize ((w.drop (d + 1)).map otherB).reverse = out at *
    unfold isSign at hsgd
    simp only [Bool.or_eq_true, beq_iff_eq] at hsgd
    rcases hsgd with (e | e) | e
    · rw [e] at ih
      rw [w_loopb (c := lp81_0) (d := lb81_0) rfl]; unfold lb81_0
      simp (maxSteps := 1000000) (disch := first | omega | rfl | (simp only [zL, two63, room] <;> omega) | fail) only [↓reduceIte, ↓zP, zW, WOp, evOp, evBin, binI, binSh, binS, evNil, keyIs, keyEq, mkv, AV.cells, AV.sc, optv, bnd, env, put, Env.get, Env.set, Env.del, Env.dels, Env.init, res1, resL, resV, fillP, splice, newRow, Nat.reduceEqDiff, Nat.reduceLT, Nat.reduceLeDiff, Nat.reduceAdd, Nat.reduceMul, Nat.reduceSub, Nat.reduceBEq, reduceCtorEq, ↓zR, zQ, Tr, StA, StT, hge, hlt, e, hwr, beq_self_eq_true]
      rw [w_loopn (c := lp81_0) rfl]
      simp (maxSteps := 1000000) (disch := first | omega | rfl | (simp only [zL, two63, room] <;> omega) | fail) only [↓reduceIte, ↓zP, zW, WOp, evOp, evBin, binI, binSh, binS, evNil, keyIs, keyEq, mkv, AV.cells, AV.sc, optv, bnd, env, put, Env.get, Env.set, Env.del, Env.dels, Env.init, res1, resL, resV, fillP, splice, newRow, Nat.reduceEqDiff, Nat.reduceLT, Nat.reduceLeDiff, Nat.reduceAdd, Nat.reduceMul, Nat.reduceSub, Nat.reduceBEq, reduceCtorEq, ↓zR, zQ, Tr, StA, StT]
      exact ih
    · rw [e] at ih
      have e3 : ((70 : UInt8) == 84) = false := rfl
      rw [w_loopb (c := lp81_0) (d := lb81_0) rfl]; unfold lb81_0
      simp (maxSteps := 1000000) (disch := first | omega | rfl | (simp only [zL, two63, room] <;> omega) | fail) only [↓reduceIte, ↓zP, zW, WOp, evOp, evBin, binI, binSh, binS, evNil, keyIs, keyEq, mkv, AV.cells, AV.sc, optv, bnd, env, put, Env.get, Env.set, Env.del, Env.dels, Env.init, res1, resL, resV, fillP, splice, newRow, Nat.reduceEqDiff, Nat.reduceLT, Nat.reduceLeDiff, Nat.reduceAdd, Nat.reduceMul, Nat.reduceSub, Nat.reduceBEq, reduceCtorEq, ↓zR, zQ, Tr, StA, StT, hge, hlt, e, hwr, beq_self_eq_true, e3]
      rw [w_loopn (c := lp81_0) rfl]
      simp (maxSteps := 1000000) (disch := first | omega | rfl | (simp only [zL, two63, room] <;> omega) | fail) only [↓reduceIte, ↓zP, zW, WOp, evOp, evBin, binI, binSh, binS, evNil, keyIs, keyEq, mkv, AV.cells, AV.sc, optv, bnd, env, put, Env.get, Env.set, Env.del, Env.dels, Env.init, res1, resL, resV, fillP, splice, newRow, Nat.reduceEqDiff, Nat.reduceLT, Nat.reduceLeDiff, Nat.reduceAdd, Nat.reduceMul, Nat.reduceSub, Nat.reduceBEq, reduceCtorEq, ↓zR, zQ, Tr, StA, StT]
      exact ih
    · rw [e] at ih
      have e3 : ((46 : UInt8) == 84) = false := rfl
      have e4 : ((46 : UInt8) == 70) = false := rfl
      rw [w_loopb (c := lp81_0) (d := lb81_0) rfl]; unfold lb81_0
      simp (maxSteps := 1000000) (disch := first | omega | rfl | (simp only [zL, two63, room] <;> omega) | fail) only [↓reduceIte, ↓zP, zW, WOp, evOp, evBin, binI, binSh, binS, evNil, keyIs, keyEq, mkv, AV.cells, AV.sc, optv, bnd, env, put, Env.get, Env.set, Env.del, Env.dels, Env.init, res1, resL, resV, fillP, splice, newRow, Nat.reduceEqDiff, Nat.reduceLT, Nat.reduceLeDiff, Nat.reduceAdd, Nat.reduceMul, Nat.reduceSub, Nat.reduceBEq, reduceCtorEq, ↓zR, zQ, Tr, StA, StT, hge, hlt, e, hwr, beq_self_eq_true, e3, e4]
      rw [w_loopn (c := lp81_0) rfl]
      simp (maxSteps := 1000000) (disch := first | omega | rfl | (simp only [zL, two63, room] <;> omega) | fail) only [↓reduceIte, ↓zP, zW, WOp, evOp, evBin, binI, binSh, binS, evNil, keyIs, keyEq, mkv, AV.cells, AV.sc, optv, bnd, env, put, Env.get, Env.set, Env.del, Env.dels, Env.init, res1, resL, resV, fillP, splice, newRow, Nat.reduceEqDiff, Nat.reduceLT, Nat.reduceLeDiff, Nat.reduceAdd, Nat.reduceMul, Nat.reduceSub, Nat.reduceBEq, reduceCtorEq, ↓zR, zQ, Tr, StA, StT]
      exact ih
theorem c_liOther (w : List UInt8) (hw : w.length < 2 ^ 30) (hsg : signs w) {h : AH} {post : AV → AH → Prop} (hp : post (.str (otherL w)) h) : S 81 [.str w] h post k := by
  have key := fun R => lp_liOther w hw hsg (h := h) (R := R) w.length (Nat.le_refl _)
  simp only [List.drop_length, List.map_nil, List.reverse_nil] at key
  refine S_of rfl T81 ?_; unfold fi81
  have hwr : IntKind.i64.wrap ((w.length : Int) - 1) = (w.length : Int) - 1 := wrap_i (by omega)
  simp (maxSteps := 1000000) (disch := first | omega | rfl | (simp only [zL, two63, room] <;> omega) | fail) only [↓reduceIte, ↓zP, zW, WOp, evOp, evBin, binI, binSh, binS, evNil, keyIs, keyEq, mkv, AV.cells, AV.sc, optv, bnd, env, put, Env.get, Env.set, Env.del, Env.dels, Env.init, res1, resL, resV, fillP, splice, newRow, Nat.reduceEqDiff, Nat.reduceLT, Nat.reduceLeDiff, Nat.reduceAdd, Nat.reduceMul, Nat.reduceSub, Nat.reduceBEq, reduceCtorEq, ↓zR, zQ, Tr, StA, StT, hwr]
  refine key _ ?_
  simp (maxSteps := 1000000) (disch := first | omega | rfl | (simp only [zL, two63, room] <;> omega) | fail) only [↓reduceIte, ↓zP, zW, WOp, evOp, evBin, binI, binSh, binS, evNil, keyIs, keyEq, mkv, AV.cells, AV.sc, optv, bnd, env, put, Env.get, Env.set, Env.del, Env.dels, Env.init, res1, resL, resV, fillP, splice, newRow, Nat.reduceEqDiff, Nat.reduceLT, Nat.reduceLeDiff, Nat.reduceAdd, Nat.reduceMul, Nat.reduceSub, Nat.reduceBEq, reduceCtorEq, ↓zR, zQ, Tr, StA, StT]
  exact hp
end Go.Proofs.YtoacbgjdflcceaaGreatDoor.Ab

/- FRAMES: a map and a cell with its slices may turn, all else stays. -/
namespace Go.Proofs.YtoacbgjdflcceaaGreatDoor.Ab
open Go
set_option maxRecDepth 100000
set_option maxHeartbeats 4000000

def FrW (c r : Nat) (h h' : AH) : Prop := h.length ≤ h'.length ∧ ∀ i, i < h.length → i ≠ c → ¬ grc r h i → h'[i]? = h[i]? ∧ ¬ grc r h' i
section
variable {c r : Nat} {h h' : AH}
theorem FrW.refl : FrW c r h h := ⟨Nat.le_refl _, fun _ _ _ hg => ⟨rfl, hg⟩⟩
theorem FrW.trans {x y z : AH} (p : FrW c r x y) (q : FrW c r y z) : FrW c r x z := ⟨Nat.le_trans p.1 q.1, fun i hi hc hg => by
  obtain ⟨h1, h2⟩ := p.2 i hi hc hg
  obtain ⟨h3, h4⟩ := q.2 i (Nat.lt_of_lt_of_le hi p.1) hc h2
  exact ⟨by rw [h3, h1], h4⟩⟩
theorem FrC.frw (hf : FrC r h h') : FrW c r h h' := ⟨hf.1, fun i hi _ hg => hf.2 i hi hg⟩
theorem Pre.frw (hp : Pre h h') (hr : r < h.length) : FrW c r h h' := (hp.frc hr).frw
theorem grc_row (hr : h'[r]? = h[r]?) (i : Nat) : grc r h' i ↔ grc r h i := by unfold grc; rw [hr]
theorem PreX.frw (hp : PreX c h h') (hr : r < h.length) (hrc : r ≠ c) : FrW c r h h' := ⟨hp.1, fun i hi hc hg => ⟨hp.2 i hi hc, by rw [grc_row (hp.2 r hr hrc)]; exact hg⟩⟩
theorem rd_frw (hf : FrW c r h h') {i k o n : Nat} {cs : List AV} (hc : i ≠ c) (hg : ¬ grc r h i) (hr : rdRow h i k o n = some cs) : rdRow h' i k o n = some cs := by
  have := rd_lt hr
  unfold rdRow at hr ⊢
  rw [(hf.2 i this hc hg).1]; exact hr
def SlcW {α : Type} (esz : Nat) (enc : α → List AV) (c r : Nat) (h : AH) (v : AV) (L : List α) : Prop := Slc esz enc h v L ∧ ∀ i, rowOf v = some i → i ≠ c ∧ ¬ grc r h i
theorem SlcW.fr {α : Type} {esz : Nat} {enc : α → List AV} {v : AV} {L : List α} (hs : SlcW esz enc c r h v L) (hf : FrW c r h h') : SlcW esz enc c r h' v L := by
  obtain ⟨h1, h2⟩ := hs
  unfold SlcW Slc Sl at *
  cases v <;> simp only [rowOf] at * <;> first
    | (exact ⟨h1, fun r hr => by cases hr⟩)
    | (obtain ⟨k1, k2, k3, k4⟩ := h1
       obtain ⟨g1, g2⟩ := h2 _ rfl
       exact ⟨⟨k1, k2, k3, rd_frw hf g1 g2 k4⟩, fun r hr => by cases hr; exact ⟨g1, (hf.2 _ (rd_lt k4) g1 g2).2⟩⟩)
/-- A slice laid since. -/
theorem OutP.slcW {α β : Type} {esz esz' : Nat} {enc : α → List AV} {enc' : β → List AV} {b : AH} {l : List α} {v : AV} {L : List β} (hk : OutP esz enc r b h l) (hc : c < h.length) (ho : OwL esz' enc' h h' v L) (hp : Pre h h') : SlcW esz' enc' c r h' v L :=
  ⟨ho.slc, fun i hr => by
    have := own_ge ho hr
    exact ⟨by omega, hk.fresh hp this⟩⟩
theorem OutP.prex {α : Type} {esz : Nat} {enc : α → List AV} {b : AH} {l : List α} (hk : OutP esz enc r b h l) {es : List (AV × AV)} (hm : h[c]? = some (.map es)) (hp : PreX c h h') : OutP esz enc r b h' l ∧ r ≠ c := by
  have hlt := hk.lt
  obtain ⟨vo, h1, h2, h3⟩ := hk
  have hrc : r ≠ c := by rintro rfl; rw [h1] at hm; cases hm
  refine ⟨⟨vo, by rw [hp.2 r hlt hrc]; exact h1, own_row h2 fun i hi => ?_, h3⟩, hrc⟩
  refine hp.2 i (own_lt h2 hi) ?_
  rintro rfl
  unfold OwL Own at h2
  cases vo <;> simp only [rowOf] at hi <;> try (cases hi; done)
  obtain ⟨_, _, _, _, cells, fl, hh, _⟩ := h2
  cases hi
  rw [hm] at hh; cases hh
end
end Go.Proofs.YtoacbgjdflcceaaGreatDoor.Ab

/- CLUES without one of them; copies of clues; marks found again. -/
namespace Go.Proofs.YtoacbgjdflcceaaGreatDoor.Ab
open Go
set_option maxRecDepth 100000
set_option maxHeartbeats 4000000

section
variable {α : Type} {esz : Nat} {enc : α → List AV}
theorem apM (hl : ∀ x, (enc x).length = esz) (hsc : ∀ x, (enc x).all AV.sc = true) {h0 h : AH} {v : AV} {L : List α} (ho : OwL esz enc h0 h v L) (hp : Pre h0 h) (M : List α) (hr : L.length + M.length ≤ 1099511627776) :
    ∃ v' h', apRow h esz v M.length (M.flatMap enc) = some (v', h') ∧ OwL esz enc h0 h' v' (L ++ M) ∧ Pre h0 h' := by
  have hs : (M.flatMap enc).all AV.sc = true := by
    rw [List.all_eq_true]
    intro x hx
    obtain ⟨a, _, ha⟩ := List.mem_flatMap.1 hx
    exact List.all_eq_true.1 (hsc a) x ha
  obtain ⟨v', h', h1, h2, h3⟩ := ap_own ho hp (q := M.length) (vs := M.flatMap enc) (by rw [flat_len hl]) hs hr
  refine ⟨v', h', h1, ?_, h3⟩
  unfold OwL
  rw [List.length_append, List.flatMap_append]
  exact h2
theorem Slc.ahead (hl : ∀ x, (enc x).length = esz) {h : AH} {c kk off n e : Nat} {pre rest : List α} (hs : Slc esz enc h (.slice c kk off n e) (pre ++ rest)) : rdRow h c kk off (pre.length * esz) = some (pre.flatMap enc) := by
  obtain ⟨h1, rfl, h3⟩ := hs.all
  have hm := Nat.mul_le_mul_right e (show pre.length ≤ n by rw [h1]; simp)
  have := rd_part h3 (o := 0) (m := pre.length * e) (by omega)
  rw [Nat.add_zero, List.drop_zero, List.flatMap_append, List.take_left' (flat_len hl pre)] at this
  exact this
theorem Slc.behind (hl : ∀ x, (enc x).length = esz) {h : AH} {c kk off n e : Nat} {pre rest : List α} (hs : Slc esz enc h (.slice c kk off n e) (pre ++ rest)) : rdRow h c kk (off + pre.length * esz) (rest.length * esz) = some (rest.flatMap enc) := by
  obtain ⟨h1, rfl, h3⟩ := hs.all
  have hn : n * e = pre.length * e + rest.length * e := by rw [h1, List.length_append, Nat.add_mul]
  have := rd_part h3 (o := pre.length * e) (m := rest.length * e) (by omega)
  rw [List.flatMap_append, List.drop_left' (flat_len hl pre), List.take_of_length_le (by rw [flat_len hl]; exact Nat.le_refl _)] at this
  exact this
end
end Go.Proofs.YtoacbgjdflcceaaGreatDoor.Ab

/- PLAIN LAWS of reaching: lines in order, layer by layer, and plays counted. -/
namespace Go.Proofs.YtoacbgjdflcceaaGreatDoor.Ab
open Go

abbrev Ln := List UInt8
theorem bl_eq : ∀ (x y : Ln), Op.bytesLess x y = decide (x < y)
  | _, [] => by simp [Op.bytesLess]
  | [], _ :: _ => by simp [Op.bytesLess]
  | a :: x, b :: y => by
    simp only [Op.bytesLess, bl_eq x y, List.cons_lt_cons_iff]
    by_cases h : a < b
    · simp [h]
    · by_cases e : a = b
      · subst e; simp
      · simp [h, e]
theorem ln_irrefl (x : Ln) : ¬ x < x := List.lt_irrefl x
theorem ln_trans {x y z : Ln} (h : x < y) (h' : y < z) : x < z := List.lt_trans h h'
theorem ln_tri {x y : Ln} (h : ¬ x < y) (hn : x ≠ y) : y < x := by
  rcases List.le_total x y with h1 | h1
  · rcases (List.le_iff_lt_or_eq).1 h1 with h2 | h2
    · exact absurd h2 h
    · exact absurd h2 hn
  · rcases (List.le_iff_lt_or_eq).1 h1 with h2 | h2
    · exact h2
    · exact absurd h2.symm hn
abbrev Srt (l : List Ln) : Prop := l.Pairwise (· < ·)
theorem Srt.nodup {l : List Ln} (h : Srt l) : l.Nodup := h.imp fun hlt e => by subst e; exact ln_irrefl _ hlt
/-- Sorted lists of the same members are one. -/
theorem Srt.ext : ∀ {l l' : List Ln}, Srt l → Srt l' → (∀ x, x ∈ l ↔ x ∈ l') → l = l'
  | [], [], _, _, _ => rfl
  | [], b :: t, _, _, h => by have := (h b).2 (by simp); simp at this
  | a :: s, [], _, _, h => by have := (h a).1 (by simp); simp at this
  | a :: s, b :: t, h1, h2, h => by
    unfold Srt at h1 h2
    rw [List.pairwise_cons] at h1 h2
    obtain rfl : a = b := by
      have ha := (h a).1 (by simp)
      have hb := (h b).2 (by simp)
      rw [List.mem_cons] at ha hb
      rcases ha with rfl | ha
      · rfl
      · rcases hb with rfl | hb
        · rfl
        · exact absurd (ln_trans (h1.1 _ hb) (h2.1 _ ha)) (ln_irrefl _)
    congr 1
    refine Srt.ext h1.2 h2.2 fun x => ?_
    have hx := h x
    rw [List.mem_cons, List.mem_cons] at hx
    constructor
    · intro hm
      rcases hx.1 (.inr hm) with rfl | h3
      · exact absurd (h1.1 _ hm) (ln_irrefl _)
      · exact h3
    · intro hm
      rcases hx.2 (.inr hm) with rfl | h3
      · exact absurd (h2.1 _ hm) (ln_irrefl _)
      · exact h3
def lowB (x : Ln) : List Ln → Nat
  | [] => 0
  | a :: t => if a < x then lowB x t + 1 else 0
theorem lowB_le (x : Ln) : ∀ l : List Ln, lowB x l ≤ l.length
  | [] => Nat.le_refl _
  | a :: t => by
    unfold lowB
    split
    · have := lowB_le x t; simp; omega
    · simp
theorem low_iff (x : Ln) : ∀ {l : List Ln}, Srt l → ∀ (i : Nat) (y : Ln), l[i]? = some y → (y < x ↔ i < lowB x l)
  | [], _, i, y, h => by simp at h
  | a :: t, hs, i, y, h => by
    unfold Srt at hs
    rw [List.pairwise_cons] at hs
    unfold lowB
    cases i with
    | zero =>
      simp at h; subst h
      split <;> simp [*]
    | succ i =>
      rw [List.getElem?_cons_succ] at h
      split
      · rw [low_iff x hs.2 i y h]; omega
      · rename_i hn
        constructor
        · intro hy
          exact absurd (ln_trans (hs.1 y (List.mem_of_getElem? h)) hy) hn
        · intro hy; omega
def insS (x : Ln) : List Ln → List Ln
  | [] => [x]
  | a :: t => if a < x then a :: insS x t else if a = x then a :: t else x :: a :: t
theorem insS_low (x : Ln) : ∀ l : List Ln, insS x l = if l[lowB x l]? = some x then l else l.take (lowB x l) ++ x :: l.drop (lowB x l)
  | [] => by simp [insS, lowB]
  | a :: t => by
    unfold insS lowB
    by_cases h : a < x
    · simp only [if_pos h, insS_low x t, List.getElem?_cons_succ, List.take_succ_cons, List.drop_succ_cons]
      split <;> simp
    · simp only [if_neg h]
      by_cases e : a = x
      · simp [e]
      · simp [e]
theorem insS_mem (x y : Ln) : ∀ l : List Ln, y ∈ insS x l ↔ y = x ∨ y ∈ l
  | [] => by simp [insS]
  | a :: t => by
    unfold insS
    split
    · rw [List.mem_cons, insS_mem x y t, List.mem_cons]
      constructor
      · rintro (h | h | h) <;> simp [h]
      · rintro (h | h | h) <;> simp [h]
    · split
      · rename_i e; subst e
        simp
      · simp
theorem insS_srt (x : Ln) : ∀ {l : List Ln}, Srt l → Srt (insS x l)
  | [], _ => by simp [insS]
  | a :: t, hs => by
    have hs0 := hs
    unfold Srt at hs
    rw [List.pairwise_cons] at hs
    unfold insS
    split
    · rename_i h
      rw [Srt, List.pairwise_cons]
      refine ⟨fun y hy => ?_, insS_srt x hs.2⟩
      rcases (insS_mem x y t).1 hy with rfl | hy
      · exact h
      · exact hs.1 y hy
    · split
      · exact hs0
      · rename_i h e
        have hx := ln_tri h e
        rw [Srt, List.pairwise_cons]
        refine ⟨fun y hy => ?_, hs0⟩
        rcases List.mem_cons.1 hy with rfl | hy
        · exact hx
        · exact ln_trans hx (hs.1 y hy)
theorem insS_len (x : Ln) : ∀ l : List Ln, (insS x l).length ≤ l.length + 1
  | [] => by simp [insS]
  | a :: t => by
    unfold insS
    split
    · have := insS_len x t; simp; omega
    · split <;> simp
def addS (l acc : List Ln) : List Ln := l.foldl (fun a x => insS x a) acc
theorem addS_mem (y : Ln) : ∀ (l acc : List Ln), y ∈ addS l acc ↔ y ∈ l ∨ y ∈ acc
  | [], acc => by simp [addS]
  | x :: l, acc => by
    show y ∈ addS l (insS x acc) ↔ _
    rw [addS_mem y l, insS_mem, List.mem_cons]
    constructor
    · rintro (h | h | h) <;> simp [h]
    · rintro ((h | h) | h) <;> simp [h]
theorem addS_srt : ∀ (l : List Ln) {acc : List Ln}, Srt acc → Srt (addS l acc)
  | [], _, h => h
  | x :: l, acc, h => addS_srt l (insS_srt x h)
theorem addS_app (l l' acc : List Ln) : addS (l ++ l') acc = addS l' (addS l acc) := List.foldl_append

/-- Lines behind one move. -/
def nx (w : Ln) : List Ln := nextB w [84, 70]
def stepL (l : List Ln) : List Ln := addS (l.flatMap nx) []
theorem stepL_mem (l : List Ln) (y : Ln) : y ∈ stepL l ↔ ∃ u ∈ l, y ∈ nx u := by
  unfold stepL
  rw [addS_mem, List.mem_flatMap]
  simp
theorem stepL_srt (l : List Ln) : Srt (stepL l) := addS_srt _ List.Pairwise.nil
def lay (w : Ln) : Nat → List Ln
  | 0 => [w]
  | j + 1 => stepL (lay w j)
theorem lay_srt (w : Ln) : ∀ j, Srt (lay w j)
  | 0 => by simp [lay]
  | _ + 1 => stepL_srt _
theorem lay_mu (w : Ln) : ∀ (j : Nat) (v : Ln), v ∈ lay w j → mu v + j ≤ mu w
  | 0, v, h => by
    simp only [lay, List.mem_singleton] at h
    subst h; omega
  | j + 1, v, h => by
    obtain ⟨u, hu, hv⟩ := (stepL_mem _ _).1 h
    have h1 := lay_mu w j u hu
    have h2 := nextB_mu hv
    omega
theorem lay_empty (w : Ln) {j : Nat} (h : lay w j = []) : ∀ d, lay w (j + d) = []
  | 0 => h
  | d + 1 => by
    show stepL (lay w (j + d)) = []
    rw [lay_empty w h d]; rfl
theorem lay_end (w : Ln) : lay w (mu w + 1) = [] := by
  rw [List.eq_nil_iff_forall_not_mem]
  intro v hv
  have := lay_mu w _ v hv
  omega

/-! ### Plays counted -/
def cntP : Nat → Ln → Nat
  | 0, _ => 1
  | j + 1, w => ((nx w).map (cntP j)).sum
def pcs (L : List Ln) (p : Ln → Nat) (v : Ln) : Nat := (L.map fun u => (nx u).count v * p u).sum
def pc (w : Ln) : Nat → Ln → Nat
  | 0, _ => 1
  | j + 1, v => pcs (lay w j) (pc w j) v
theorem sum_zero {α : Type} (l : List α) : (l.map fun _ => 0).sum = 0 := by
  induction l with
  | nil => rfl
  | cons a l ih => simp [ih]
theorem sum_congr {α : Type} {f g : α → Nat} : ∀ {l : List α}, (∀ x ∈ l, f x = g x) → (l.map f).sum = (l.map g).sum
  | [], _ => rfl
  | a :: l, h => by
    rw [List.map_cons, List.map_cons, List.sum_cons, List.sum_cons, h a (by simp), sum_congr fun x hx => h x (by simp [hx])]
theorem sum_add' {α : Type} (f g : α → Nat) : ∀ l : List α, (l.map fun x => f x + g x).sum = (l.map f).sum + (l.map g).sum
  | [] => rfl
  | a :: l => by simp only [List.map_cons, List.sum_cons, sum_add' f g l]; omega
theorem sum_mul' {α : Type} (f : α → Nat) (c : Nat) : ∀ l : List α, (l.map fun x => c * f x).sum = c * (l.map f).sum
  | [] => by simp
  | a :: l => by simp only [List.map_cons, List.sum_cons, sum_mul' f c l, Nat.mul_add]
theorem count_sum (f : Ln → Nat) {S : List Ln} (hn : S.Nodup) : ∀ l : List Ln, (∀ x ∈ l, x ∈ S) → (S.map fun v => l.count v * f v).sum = (l.map f).sum
  | [], _ => by simp [sum_zero]
  | x :: l, h => by
    have ih := count_sum f hn l fun y hy => h y (by simp [hy])
    have one : ∀ {S : List Ln}, S.Nodup → x ∈ S → (S.map fun v => (if x == v then 1 else 0) * f v).sum = f x := by
      intro S
      induction S with
      | nil => intro _ hx; simp at hx
      | cons a S ih2 =>
        intro hn hx
        rw [List.nodup_cons] at hn
        rw [List.map_cons, List.sum_cons]
        by_cases e : x = a
        · subst e
          have : (S.map fun v => (if x == v then 1 else 0) * f v).sum = (S.map fun _ => 0).sum := sum_congr fun v hv => by
            have : x ≠ v := by rintro rfl; exact hn.1 hv
            simp [this]
          rw [this, sum_zero]; simp
        · rw [ih2 hn.2 (by rcases List.mem_cons.1 hx with h | h; exact absurd h e; exact h)]
          simp [e]
    rw [List.map_cons, List.sum_cons, ← ih, ← one hn (h x (by simp)), ← sum_add']
    refine sum_congr fun v _ => ?_
    rw [List.count_cons, Nat.add_mul, Nat.add_comm]
theorem pcs_sum (f p : Ln → Nat) (S : List Ln) (hn : S.Nodup) : ∀ L : List Ln, (∀ u ∈ L, ∀ x ∈ nx u, x ∈ S) → (S.map fun v => pcs L p v * f v).sum = (L.map fun u => p u * ((nx u).map f).sum).sum
  | [], _ => by simp [pcs, sum_zero]
  | u :: L, h => by
    have ih := pcs_sum f p S hn L fun y hy => h y (by simp [hy])
    rw [List.map_cons, List.sum_cons, ← ih, ← count_sum f hn (nx u) (h u (by simp)), ← sum_mul', ← sum_add']
    refine sum_congr fun v _ => ?_
    simp only [pcs, List.map_cons, List.sum_cons]
    rw [Nat.add_mul, Nat.mul_right_comm, Nat.mul_comm _ (p u)]
theorem pc_sum (w : Ln) : ∀ (j d : Nat), ((lay w j).map fun v => pc w j v * cntP d v).sum = cntP (j + d) w
  | 0, d => by simp [lay, pc]
  | j + 1, d => by
    have := pc_sum w j (d + 1)
    rw [show j + 1 + d = j + (d + 1) by omega, ← this]
    exact pcs_sum (cntP d) (pc w j) (lay w (j + 1)) (lay_srt w (j + 1)).nodup (lay w j) fun u hu x hx => (stepL_mem _ _).2 ⟨u, hu, hx⟩
theorem sum_le_of_mem {α : Type} (f : α → Nat) : ∀ {l : List α} {x : α}, x ∈ l → f x ≤ (l.map f).sum
  | a :: l, x, h => by
    rw [List.map_cons, List.sum_cons]
    rcases List.mem_cons.1 h with rfl | h
    · omega
    · have := sum_le_of_mem f h; omega
theorem pc_sum0 (w : Ln) (j : Nat) : ((lay w j).map (pc w j)).sum = cntP j w := by
  have := pc_sum w j 0
  simpa [cntP] using this
theorem pc_le (w : Ln) (j : Nat) {v : Ln} (h : v ∈ lay w j) : pc w j v ≤ cntP j w := by
  rw [← pc_sum0]; exact sum_le_of_mem _ h

/-! ### Lines with one gap -/
def oneGap (w : Ln) : Prop := w.all isSign = true ∧ w.count 46 = 1
theorem flat_one {β : Type} {f : Nat → List β} : ∀ {l : List Nat}, l.Nodup → (∀ i ∈ l, (f i).length ≤ 1) → (∀ i ∈ l, ∀ j ∈ l, f i ≠ [] → f j ≠ [] → i = j) → (l.flatMap f).length ≤ 1
  | [], _, _, _ => by simp
  | a :: l, hn, h1, h2 => by
    rw [List.nodup_cons] at hn
    rw [List.flatMap_cons, List.length_append]
    by_cases e : f a = []
    · rw [e]
      have := flat_one hn.2 (fun i hi => h1 i (by simp [hi])) (fun i hi j hj => h2 i (by simp [hi]) j (by simp [hj]))
      simpa using this
    · have : l.flatMap f = [] := by
        rw [List.flatMap_eq_nil_iff]
        intro j hj
        apply Classical.byContradiction
        intro hne
        have := h2 a (by simp) j (by simp [hj]) e hne
        subst this; exact hn.1 hj
      rw [this]
      have := h1 a (by simp)
      simpa using this
end Go.Proofs.YtoacbgjdflcceaaGreatDoor.Ab

/- PLAIN LAWS of words: in a line with one gap a toad has one move at most, and so a frog. -/
namespace Go.Proofs.YtoacbgjdflcceaaGreatDoor.Ab
open Go

theorem flatMap_sum {α β : Type} (g : β → Nat) (f : α → List β) : ∀ l : List α, ((l.flatMap f).map g).sum = (l.map fun i => ((f i).map g).sum).sum
  | [] => rfl
  | a :: l => by rw [List.flatMap_cons, List.map_append, List.sum_append, flatMap_sum g f l, List.map_cons, List.sum_cons]
theorem has2 (b : UInt8) : hasB [84, 70] b = ((b == 84) || (b == 70)) := by have := hasB_kinds true true b; simpa [kindsS] using this
theorem has84 (b : UInt8) : hasB [84] b = (b == 84) := by have := hasB_kinds true false b; simpa [kindsS] using this
theorem has70 (b : UInt8) : hasB [70] b = (b == 70) := by have := hasB_kinds false true b; simpa [kindsS] using this
theorem moveB_parts (g : Int × Int → Nat) (w : Ln) (i : Nat) : ((moveB w [84, 70] i).map g).sum = ((moveB w [70] i).map g).sum + ((moveB w [84] i).map g).sum := by
  unfold moveB
  rw [has2, has84, has70]
  cases goalB w i with
  | none => rfl
  | some t =>
    simp only
    generalize w.getD i 0 = b
    by_cases h1 : b = 84
    · subst h1; simp
    · by_cases h2 : b = 70
      · subst h2; simp
      · simp [h1, h2]
theorem nx_parts (f : Ln → Nat) (w : Ln) : ((nx w).map f).sum = ((nextB w [70]).map f).sum + ((nextB w [84]).map f).sum := by
  unfold nx nextB movesB
  simp only [List.map_map]
  rw [flatMap_sum, flatMap_sum, flatMap_sum, ← sum_add']
  exact sum_congr fun i _ => moveB_parts _ w i
theorem count_set {b x : UInt8} : ∀ {l : Ln} {i : Nat}, i < l.length → (l.set i b).count x + (if l.getD i 0 = x then 1 else 0) = l.count x + (if b = x then 1 else 0)
  | [], i, h => by simp at h
  | a :: l, 0, _ => by
    simp only [List.set_cons_zero, List.count_cons, List.getD_cons_zero, beq_iff_eq]
    omega
  | a :: l, i + 1, h => by
    have := count_set (b := b) (x := x) (l := l) (i := i) (by simpa using h)
    simp only [List.set_cons_succ, List.count_cons, List.getD_cons_succ]
    omega
theorem Mv.ne {w : Ln} {i t : Nat} (h : Mv w i t) : i ≠ t := by
  obtain ⟨_, _, h3, h4⟩ := h
  rintro rfl
  rcases h4 with ⟨h5, _⟩ | ⟨h5, _⟩ <;> rw [h5] at h3 <;> cases h3
theorem Mv.sign {w : Ln} {i t : Nat} (h : Mv w i t) : w.getD i 0 = 84 ∨ w.getD i 0 = 70 := by
  obtain ⟨_, _, _, h4⟩ := h
  rcases h4 with ⟨h5, _⟩ | ⟨h5, _⟩
  · exact .inl h5
  · exact .inr h5
theorem getD_setL {l : Ln} {i j : Nat} {b : UInt8} (h : i < l.length) : (l.set i b).getD j 0 = if i = j then b else l.getD j 0 := by
  simp only [List.getD_eq_getElem?_getD, List.getElem?_set]
  by_cases e : i = j
  · subst e; simp [h]
  · simp [e]
theorem count_made {w : Ln} {i t : Nat} (h : Mv w i t) : (madeB w i t).count 46 = w.count 46 := by
  have hne := h.ne
  have hs := h.sign
  obtain ⟨h1, h2, h3, h4⟩ := h
  have e1 := count_set (b := w.getD i 0) (x := 46) (l := w) (i := t) h2
  have e2 := count_set (b := 46) (x := 46) (l := w.set t (w.getD i 0)) (i := i) (by simpa using h1)
  rw [getD_setL h2, if_neg (Ne.symm hne)] at e2
  unfold madeB
  have hb : w.getD i 0 ≠ 46 := by rcases hs with h | h <;> rw [h] <;> decide
  rw [h3] at e1
  simp only [if_true, if_neg hb] at e1 e2
  omega
theorem signs_made {w : Ln} {i t : Nat} (h : Mv w i t) (hs : w.all isSign = true) : (madeB w i t).all isSign = true := by
  rw [List.all_eq_true] at hs ⊢
  unfold madeB
  intro x hx
  rcases List.mem_or_eq_of_mem_set hx with hx | rfl
  · rcases List.mem_or_eq_of_mem_set hx with hx | rfl
    · exact hs x hx
    · rcases h.sign with h | h <;> rw [h] <;> rfl
  · rfl
theorem nextB_mv {w kinds v : Ln} (h : v ∈ nextB w kinds) : ∃ i t : Nat, ((i : Int), (t : Int)) ∈ movesB w kinds ∧ Mv w i t ∧ v = madeB w i t := by
  obtain ⟨m, hm, rfl⟩ := List.mem_map.1 h
  obtain ⟨i, t, rfl, hv⟩ := movesB_mv hm
  exact ⟨i, t, hm, hv, by simp⟩
theorem oneGap.next {w kinds v : Ln} (h : oneGap w) (hv : v ∈ nextB w kinds) : oneGap v := by
  obtain ⟨i, t, _, hm, rfl⟩ := nextB_mv hv
  exact ⟨signs_made hm h.1, (count_made hm).trans h.2⟩
theorem count_two {x : UInt8} : ∀ {l : Ln} {i j : Nat}, i < j → l.getD i 0 = x → l.getD j 0 = x → j < l.length → 2 ≤ l.count x
  | [], _, _, _, _, _, h => by simp at h
  | a :: l, 0, j + 1, _, h1, h2, h3 => by
    simp only [List.getD_cons_zero, List.getD_cons_succ] at h1 h2
    subst h1
    have : a ∈ l := by
      have hj : j < l.length := by simpa using h3
      rw [← h2, List.getD_eq_getElem?_getD, List.getElem?_eq_getElem hj]
      simp
    have := List.count_pos_iff.2 this
    simp only [List.count_cons, beq_self_eq_true, if_true]
    omega
  | a :: l, i + 1, j + 1, h, h1, h2, h3 => by
    have := count_two (l := l) (i := i) (j := j) (by omega) (by simpa using h1) (by simpa using h2) (by simpa using h3)
    rw [List.count_cons]; omega
theorem gap_one {w : Ln} (h : w.count 46 = 1) {t t' : Nat} (ht : t < w.length) (ht' : t' < w.length) (h1 : w.getD t 0 = 46) (h2 : w.getD t' 0 = 46) : t = t' := by
  rcases Nat.lt_trichotomy t t' with hl | hl | hl
  · have := count_two hl h1 h2 ht'; omega
  · exact hl
  · have := count_two hl h2 h1 ht; omega
theorem moveB_some {w kinds : Ln} {i : Nat} (hi : i < w.length) (h : moveB w kinds i ≠ []) : ∃ t : Nat, Mv w i t ∧ hasB kinds (w.getD i 0) = true := by
  unfold moveB at h
  cases hg : goalB w i with
  | none => rw [hg] at h; exact absurd rfl h
  | some t =>
    rw [hg] at h
    simp only at h
    obtain ⟨t', rfl, hm⟩ := goalB_mv hi hg
    refine ⟨t', hm, ?_⟩
    cases hk : hasB kinds (w.getD i 0)
    · rw [hk] at h; simp at h
    · rfl
theorem kind_one {w : Ln} (h : oneGap w) {s : UInt8} (hs : s = 84 ∨ s = 70) : (nextB w [s]).length ≤ 1 := by
  unfold nextB movesB
  rw [List.length_map]
  refine flat_one List.nodup_range (fun i _ => moveB_len w [s] i) ?_
  intro i hi j hj h1 h2
  rw [List.mem_range] at hi hj
  obtain ⟨t, ⟨_, a2, a3, a4⟩, ak⟩ := moveB_some hi h1
  obtain ⟨t', ⟨_, b2, b3, b4⟩, bk⟩ := moveB_some hj h2
  obtain rfl := gap_one h.2 a2 b2 a3 b3
  rcases hs with rfl | rfl
  · rw [has84] at ak bk
    have ea := beq_iff_eq.1 ak
    have eb := beq_iff_eq.1 bk
    rcases a4 with ⟨_, a5⟩ | ⟨a6, _⟩
    · rcases b4 with ⟨_, b5⟩ | ⟨b6, _⟩
      · rcases a5 with a5 | ⟨a5, a7⟩ <;> rcases b5 with b5 | ⟨b5, b7⟩
        · omega
        · have : j + 1 = i := by omega
          rw [this, ea] at b7; cases b7
        · have : i + 1 = j := by omega
          rw [this, eb] at a7; cases a7
        · omega
      · rw [eb] at b6; cases b6
    · rw [ea] at a6; cases a6
  · rw [has70] at ak bk
    have ea := beq_iff_eq.1 ak
    have eb := beq_iff_eq.1 bk
    rcases a4 with ⟨a6, _⟩ | ⟨_, a5⟩
    · rw [ea] at a6; cases a6
    · rcases b4 with ⟨b6, _⟩ | ⟨_, b5⟩
      · rw [eb] at b6; cases b6
      · rcases a5 with a5 | ⟨a5, a7⟩ <;> rcases b5 with b5 | ⟨b5, b7⟩
        · omega
        · have : j - 1 = i := by omega
          rw [this, ea] at b7; cases b7
        · have : i - 1 = j := by omega
          rw [this, eb] at a7; cases a7
        · omega
theorem cntP_le : ∀ (j : Nat) {w : Ln}, oneGap w → cntP j w ≤ 2 ^ j
  | 0, _, _ => Nat.le_refl _
  | j + 1, w, h => by
    have part : ∀ {s : UInt8}, s = 84 ∨ s = 70 → ((nextB w [s]).map (cntP j)).sum ≤ 2 ^ j := by
      intro s hs
      have hl := kind_one h hs
      match hn : nextB w [s], hl with
      | [], _ => simp
      | [v], _ =>
        have := cntP_le j (h.next (kinds := [s]) (v := v) (by rw [hn]; simp))
        simpa using this
    unfold cntP
    rw [nx_parts]
    have h1 := part (s := 84) (.inl rfl)
    have h2 := part (s := 70) (.inr rfl)
    rw [Nat.pow_succ]; omega

/-! ### Words -/
def words : Nat → Ln → List Ln
  | 0, _ => [[]]
  | j + 1, w => ((nextB w [70]).flatMap fun v => (words j v).map (70 :: ·)) ++ ((nextB w [84]).flatMap fun v => (words j v).map (84 :: ·))
theorem words_len : ∀ (j : Nat) (w : Ln), (words j w).length = cntP j w
  | 0, _ => rfl
  | j + 1, w => by
    have part : ∀ (s : UInt8) (l : List Ln), (l.flatMap fun v => (words j v).map (s :: ·)).length = (l.map (cntP j)).sum := by
      intro s l
      induction l with
      | nil => rfl
      | cons v l ih => rw [List.flatMap_cons, List.length_append, ih, List.length_map, words_len j v, List.map_cons, List.sum_cons]
    unfold words cntP
    rw [List.length_append, part, part, nx_parts]
theorem cntP_next {j : Nat} {w v s : Ln} (h : v ∈ nextB w s) (hs : s = [84] ∨ s = [70]) : cntP j v ≤ cntP (j + 1) w := by
  show cntP j v ≤ ((nx w).map (cntP j)).sum
  rw [nx_parts]
  rcases hs with rfl | rfl
  · have := sum_le_of_mem (cntP j) h; omega
  · have := sum_le_of_mem (cntP j) h; omega
end Go.Proofs.YtoacbgjdflcceaaGreatDoor.Ab

/- REACHING, the reference's side: texts in order with one more, layers of lines. -/
namespace Go.Proofs.YtoacbgjdflcceaaGreatDoor.Ab
open Go
set_option maxRecDepth 100000
set_option maxHeartbeats 4000000

theorem two_ne : ((2 : Int) = 0) = False := by simp
def fewB (s : Ln) : Bool := goodLine s && decide ((s.length : Int) ≤ 10)
end Go.Proofs.YtoacbgjdflcceaaGreatDoor.Ab

/- REACHING, the reference's side: layers of lines. -/
namespace Go.Proofs.YtoacbgjdflcceaaGreatDoor.Ab
open Go
set_option maxRecDepth 100000
set_option maxHeartbeats 4000000

def GoodL (n : Nat) (A : List Ln) : Prop := Srt A ∧ ∀ x ∈ A, x.length = n ∧ x.all isSign = true
theorem GoodL.len {n : Nat} {A : List Ln} (h : GoodL n A) (hn : n ≤ 10) : A.length ≤ 59049 := by
  have := nodup_bound (A := [46, 70, 84]) (n := n) h.1.nodup (fun x hx => ⟨(h.2 x hx).1, fun b hb => by
    have := List.all_eq_true.1 (h.2 x hx).2 b hb
    unfold isSign at this
    simp at this ⊢
    rcases this with h | h
    · rcases h with h | h <;> simp [h]
    · simp [h]⟩)
  exact Nat.le_trans this (Nat.le_trans (Nat.pow_le_pow_right (by simp) hn) (by decide))
theorem GoodL.nil {n : Nat} : GoodL n [] := ⟨List.Pairwise.nil, fun x hx => by simp at hx⟩
theorem GoodL.ins {n : Nat} {A : List Ln} (h : GoodL n A) {x : Ln} (hx : x.length = n ∧ x.all isSign = true) : GoodL n (insS x A) :=
  ⟨insS_srt x h.1, fun y hy => by
    rcases (insS_mem x y A).1 hy with rfl | hy
    · exact hx
    · exact h.2 y hy⟩
theorem GoodL.add {n : Nat} : ∀ {l A : List Ln}, GoodL n A → (∀ x ∈ l, x.length = n ∧ x.all isSign = true) → GoodL n (addS l A)
  | [], _, h, _ => h
  | x :: l, A, h, hx => GoodL.add (l := l) (h.ins (hx x (by simp))) fun y hy => hx y (by simp [hy])
theorem nx_good {w v : Ln} (hg : w.all isSign = true) (h : v ∈ nx w) : v.length = w.length ∧ v.all isSign = true := by
  obtain ⟨i, t, _, hm, rfl⟩ := nextB_mv h
  exact ⟨madeB_length w i t, signs_made hm hg⟩
theorem lay_good {w : Ln} (hg : w.all isSign = true) : ∀ j, GoodL w.length (lay w j)
  | 0 => ⟨lay_srt w 0, fun x hx => by
    simp only [lay, List.mem_singleton] at hx
    subst hx; exact ⟨rfl, hg⟩⟩
  | j + 1 => ⟨lay_srt w _, fun x hx => by
    obtain ⟨u, hu, hv⟩ := (stepL_mem _ _).1 hx
    obtain ⟨h1, h2⟩ := (lay_good hg j).2 u hu
    obtain ⟨h3, h4⟩ := nx_good h2 hv
    exact ⟨h3.trans h1, h4⟩⟩
theorem muF_le (n : Nat) : ∀ (l : Ln) (i : Nat), i + l.length ≤ n → muF n i l ≤ n * l.length
  | [], _, _ => by simp [muF]
  | b :: l, i, h => by
    have := muF_le n l (i + 1) (by simp at h; omega)
    have hb : fmu n i b ≤ n := by
      unfold fmu
      simp at h
      split
      · omega
      · split <;> omega
    simp only [muF, List.length_cons, Nat.mul_add, Nat.mul_one]
    omega
theorem mu_le (w : Ln) (hw : w.length ≤ 10) : mu w ≤ 100 := by
  have := muF_le w.length w 0 (by omega)
  unfold mu
  exact Nat.le_trans this (Nat.mul_le_mul hw hw)
def mkM (w : Ln) (m : Int × Int) : Ln := madeB w m.1.toNat m.2.toNat
theorem nx_eq (w : Ln) : nx w = (movesB w [84, 70]).map (mkM w) := rfl
theorem liM_eq (w : Ln) : liMovesB w true true = movesB w [84, 70] := liMovesB_eq w true true

/-- A value that fills one cell. -/
abbrev SV := {v : AV // v.sc = true}
def encV (x : SV) : List AV := [x.1]
theorem hlV (x : SV) : (encV x).length = 1 := rfl
theorem scV (x : SV) : (encV x).all AV.sc = true := by simp [encV, x.2]
def LL (h : AH) (o : AV) (vs : List SV) (Ls : List (List Ln)) : Prop := vs.length = Ls.length ∧ ∀ (i : Nat) (v : SV) (L : List Ln), vs[i]? = some v → Ls[i]? = some L → Slc 1 encS h v.1 L ∧ ∀ r, rowOf v.1 = some r → rowOf o ≠ some r
theorem Slc.lt {α : Type} {esz : Nat} {enc : α → List AV} {h : AH} {v : AV} {L : List α} (hs : Slc esz enc h v L) {r : Nat} (hr : rowOf v = some r) : r < h.length := by
  cases v <;> simp only [rowOf] at hr <;> try (cases hr; done)
  cases hr
  exact hs.row_lt _ _ _ _ _ rfl
theorem Slc.stay {α : Type} {esz : Nat} {enc : α → List AV} {h h' : AH} {v : AV} {L : List α} (hs : Slc esz enc h v L) (hr : ∀ r, rowOf v = some r → h'[r]? = h[r]?) : Slc esz enc h' v L := by
  unfold Slc Sl at *
  cases v <;> simp only [rowOf] at * <;> first
    | exact hs
    | (obtain ⟨k1, k2, k3, k4⟩ := hs
       refine ⟨k1, k2, k3, ?_⟩
       unfold rdRow at k4 ⊢
       rw [hr _ rfl]; exact k4)
theorem LL.pre {h h' : AH} {o : AV} {vs : List SV} {Ls : List (List Ln)} (hl : LL h o vs Ls) (hp : Pre h h') : LL h' o vs Ls := ⟨hl.1, fun i v L h1 h2 => ⟨(hl.2 i v L h1 h2).1.pre hp, (hl.2 i v L h1 h2).2⟩⟩
/-- Behind an append to the outer slice. -/
theorem LL.app {h h3 : AH} {o o3 : AV} {vs : List SV} {Ls : List (List Ln)} (hl : LL h o vs Ls) {w : SV} {M : List Ln} (hw : Slc 1 encS h w.1 M) (hn : ∀ r, rowOf w.1 = some r → rowOf o ≠ some r)
    (f1 : ∀ i, i < h.length → rowOf o ≠ some i → h3[i]? = h[i]?) (f3 : ∀ r, rowOf o3 = some r → rowOf o = some r ∨ h.length ≤ r) : LL h3 o3 (vs ++ [w]) (Ls ++ [M]) := by
  have one : ∀ {v : SV} {L : List Ln}, Slc 1 encS h v.1 L → (∀ r, rowOf v.1 = some r → rowOf o ≠ some r) → Slc 1 encS h3 v.1 L ∧ ∀ r, rowOf v.1 = some r → rowOf o3 ≠ some r := by
    intro v L hs hd
    refine ⟨hs.stay fun r hr => f1 r (hs.lt hr) (hd r hr), fun r hr e => ?_⟩
    rcases f3 r e with h1 | h1
    · exact hd r hr h1
    · have := hs.lt hr; omega
  refine ⟨by simp [hl.1], fun i u N h1 h2 => ?_⟩
  have h0 := hl.1
  rcases Nat.lt_trichotomy i vs.length with hi | hi | hi
  · rw [List.getElem?_append_left hi] at h1
    rw [List.getElem?_append_left (by omega)] at h2
    obtain ⟨g1, g2⟩ := hl.2 i u N h1 h2
    exact one g1 g2
  · subst hi
    rw [List.getElem?_append_right (Nat.le_refl _)] at h1
    rw [List.getElem?_append_right (by omega), ← h0] at h2
    simp at h1 h2
    subst h1; subst h2; exact one hw hn
  · rw [List.getElem?_eq_none (by simp; omega)] at h1; cases h1
def lays (w : Ln) (n : Nat) : List (List Ln) := (List.range n).map (lay w)
theorem lays_succ (w : Ln) (n : Nat) : lays w (n + 1) = lays w n ++ [lay w n] := by unfold lays; rw [List.range_succ, List.map_append]; rfl
end Go.Proofs.YtoacbgjdflcceaaGreatDoor.Ab

/- CHOICES that are drawn from bytes: of what is drawn, only the bounds are told. -/
namespace Go.Proofs.YtoacbgjdflcceaaGreatDoor.Ab
open Go
set_option maxRecDepth 100000
set_option maxHeartbeats 4000000

/-- A reader of bytes, made in b; so many bytes at most have been taken. -/
def Cur (b : AH) (cv : AV) (bs : List UInt8) (K : Nat) (h : AH) : Prop := Slc 1 encU b cv bs ∧ bs.length < 2 ^ 40 ∧ Pre b h ∧ ∃ (a : Nat) (s : Int), a ≤ K ∧ h[b.length]? = some (.row [cv, .int .i64 a, .int .u64 s] 0 0 false)
theorem Cur.le {b : AH} {cv : AV} {bs : List UInt8} {K K' : Nat} {h : AH} (hc : Cur b cv bs K h) (hk : K ≤ K') : Cur b cv bs K' h := by
  obtain ⟨h1, h2, h3, a, s, h4, h5⟩ := hc
  exact ⟨h1, h2, h3, a, s, by omega, h5⟩
theorem Cur.lt {b : AH} {cv : AV} {bs : List UInt8} {K : Nat} {h : AH} (hc : Cur b cv bs K h) : b.length < h.length := by
  obtain ⟨h1, h2, h3, a, s, h4, h5⟩ := hc
  exact (List.getElem?_eq_some_iff.1 h5).1
theorem Cur.pre {b : AH} {cv : AV} {bs : List UInt8} {K : Nat} {h h' : AH} (hc : Cur b cv bs K h) (hp : Pre h h') : Cur b cv bs K h' := by
  have hl := hc.lt
  obtain ⟨h1, h2, h3, a, s, h4, h5⟩ := hc
  exact ⟨h1, h2, h3.trans hp, a, s, h4, by rw [hp.2 _ hl]; exact h5⟩
theorem Cur.new {b : AH} {cv : AV} {bs : List UInt8} (hs : Slc 1 encU b cv bs) (hb : bs.length < 2 ^ 40) : Cur b cv bs 0 (b ++ [.row [cv, .int .i64 0, .int .u64 0] 0 0 false]) :=
  ⟨hs, hb, Pre.push _ _, 0, 0, Nat.le_refl _, by simp⟩
theorem Cur.done {b : AH} {cv : AV} {bs : List UInt8} {K : Nat} {h : AH} (hc : Cur b cv bs K h) : Pre b h := hc.2.2.1

theorem bits255 (x : Int) : ∃ n : Nat, n < 256 ∧ bits .and .u64 x 255 = n := by
  refine ⟨(BitVec.ofInt 64 x &&& BitVec.ofInt 64 255).toNat, ?_, ?_⟩
  · rw [BitVec.toNat_and]
    refine Nat.lt_of_le_of_lt Nat.and_le_right ?_
    decide
  · have h1 : (BitVec.ofInt 64 x &&& BitVec.ofInt 64 255).toNat < 256 := by
      rw [BitVec.toNat_and]
      refine Nat.lt_of_le_of_lt Nat.and_le_right ?_
      decide
    unfold bits
    show IntKind.u64.wrap ((BitVec.ofInt 64 x &&& BitVec.ofInt 64 255).toNat : Int) = _
    rw [IntKind.wrap_u64]
    omega

section
variable {b : AH} {cv : AV} {bs : List UInt8} {K : Nat} {h : AH} {post : AV → AH → Prop}

theorem c_next (hc : Cur b cv bs K h) (hK : K < 2 ^ 50) (hp : ∀ (x : Nat) h', x < 256 → Cur b cv bs (K + 1) h' → PreX b.length h h' → post (.int .i64 x) h') : S 107 [.ptr b.length 0 0 3] h post k := by
  have hl := hc.lt
  obtain ⟨hs, hbs, hpre, a, s, ha, hr⟩ := hc
  have r0 : rdRow h b.length 0 0 1 = some [cv] := by simp [rdRow, hr]
  have r1 : rdRow h b.length 0 1 1 = some [.int .i64 a] := by simp [rdRow, hr]
  have hset : ∀ o, (h.set b.length o)[b.length]? = some o := fun o => by rw [List.getElem?_set, if_pos rfl, if_pos hl]
  have w1 : ∀ v, wrRow h b.length 0 1 [.int .i64 v] = some (h.set b.length (.row [cv, .int .i64 v, .int .u64 s] 0 0 false)) := fun v => by simp [wrRow, hr, splice, AV.sc]
  have w2 : ∀ v y, wrRow (h.set b.length (.row [cv, y, .int .u64 s] 0 0 false)) b.length 0 2 [.int .u64 v] = some (h.set b.length (.row [cv, y, .int .u64 v] 0 0 false)) := fun v y => by simp [wrRow, hset, splice, AV.sc]
  have q0 : ∀ x y z, rdRow (h.set b.length (.row [x, y, z] 0 0 false)) b.length 0 0 1 = some [x] := fun x y z => by simp [rdRow, hset]
  have q1 : ∀ x y z, rdRow (h.set b.length (.row [x, y, z] 0 0 false)) b.length 0 1 1 = some [y] := fun x y z => by simp [rdRow, hset]
  have q2 : ∀ x y z, rdRow (h.set b.length (.row [x, y, z] 0 0 false)) b.length 0 2 1 = some [z] := fun x y z => by simp [rdRow, hset]
  have s2 : rdRow h b.length 0 2 1 = some [.int .u64 s] := by simp [rdRow, hr]
  have hw : IntKind.i64.wrap ((a : Int) + 1) = ((a + 1 : Nat) : Int) := by rw [IntKind.wrap_i64]; omega
  have fin0 : ∀ (x : Nat) (t : Int), x < 256 → post (.int .i64 x) (h.set b.length (.row [cv, .int .i64 ((a + 1 : Nat) : Int), .int .u64 t] 0 0 false)) := by
    intro x t hx
    refine hp x _ hx ⟨hs, hbs, hpre.set (Nat.le_refl _), a + 1, t, by omega, hset _⟩ (PreX.refl _ _).set
  have fin : ∀ (q t : Int), post (.int .i64 (IntKind.i64.wrap (bits .and .u64 q 255))) (h.set b.length (.row [cv, .int .i64 ((a + 1 : Nat) : Int), .int .u64 t] 0 0 false)) := by
    intro q t
    obtain ⟨n, hn, e⟩ := bits255 q
    rw [e, show IntKind.i64.wrap (n : Int) = n by rw [IntKind.wrap_i64]; omega]
    exact fin0 n t hn
  refine S_of rfl T107 ?_; unfold fi107
  rcases hs.cases with ⟨rfl, rfl⟩ | ⟨rfl, rfl⟩ | ⟨c, kk, off, hv⟩
  · have n1 : ¬ ((a : Int) < 0) := by omega
    have n2 : ¬ (((a + 1 : Nat) : Int) ≤ 0) := by omega
    simp (maxSteps := 1000000) (disch := first | omega | rfl | (simp only [zL, two63, room] <;> omega) | fail) only [↓reduceIte, ↓zP, zW, WOp, evOp, evBin, binI, binSh, binS, evNil, keyIs, keyEq, mkv, AV.cells, AV.sc, optv, bnd, env, put, Env.get, Env.set, Env.del, Env.dels, Env.init, res1, resL, resV, fillP, splice, newRow, Nat.reduceEqDiff, Nat.reduceLT, Nat.reduceLeDiff, Nat.reduceAdd, Nat.reduceMul, Nat.reduceSub, Nat.reduceBEq, reduceCtorEq, ↓zR, zQ, Tr, StA, StT, r0, r1, n1, n2, w1, w2, q0, q1, q2, s2, hw]
    exact fin _ _
  · have n1 : ¬ ((a : Int) < 0) := by omega
    have n2 : ¬ (((a + 1 : Nat) : Int) ≤ 0) := by omega
    simp (maxSteps := 1000000) (disch := first | omega | rfl | (simp only [zL, two63, room] <;> omega) | fail) only [↓reduceIte, ↓zP, zW, WOp, evOp, evBin, binI, binSh, binS, evNil, keyIs, keyEq, mkv, AV.cells, AV.sc, optv, bnd, env, put, Env.get, Env.set, Env.del, Env.dels, Env.init, res1, resL, resV, fillP, splice, newRow, Nat.reduceEqDiff, Nat.reduceLT, Nat.reduceLeDiff, Nat.reduceAdd, Nat.reduceMul, Nat.reduceSub, Nat.reduceBEq, reduceCtorEq, ↓zR, zQ, Tr, StA, StT, r0, r1, n1, n2, w1, w2, q0, q1, q2, s2, hw]
    exact fin _ _
  · by_cases hlt : a < bs.length
    · have hL : bs = bs.take a ++ bs[a] :: bs.drop (a + 1) := by
        have := (List.take_append_drop a bs).symm
        rwa [List.drop_eq_getElem_cons hlt] at this
      have hs2 := hs
      rw [hv, hL] at hs2
      have hrd := rdRow_pre hpre (hs2.rd hlU)
      rw [List.length_take, show min a bs.length = a by omega] at hrd
      subst hv
      have n1 : (a : Int) < (bs.length : Int) := by omega
      have n2 : ((a + 1 : Nat) : Int) ≤ (bs.length : Int) := by omega
      have hx : (bs[a]).toNat < 256 := bs[a].toNat_lt
      have hrd' : rdRow h c kk (off + a * 1) 1 = some [.int .u8 (bs[a]).toNat] := hrd
      generalize (bs[a]).toNat = x at hrd' hx
      have hwx : IntKind.i64.wrap (x : Int) = x := by rw [IntKind.wrap_i64]; omega
      simp (maxSteps := 1000000) (disch := first | omega | rfl | (simp only [zL, two63, room] <;> omega) | fail) only [↓reduceIte, ↓zP, zW, WOp, evOp, evBin, binI, binSh, binS, evNil, keyIs, keyEq, mkv, AV.cells, AV.sc, optv, bnd, env, put, Env.get, Env.set, Env.del, Env.dels, Env.init, res1, resL, resV, fillP, splice, newRow, Nat.reduceEqDiff, Nat.reduceLT, Nat.reduceLeDiff, Nat.reduceAdd, Nat.reduceMul, Nat.reduceSub, Nat.reduceBEq, reduceCtorEq, ↓zR, zQ, Tr, StA, StT, r0, r1, n1, n2, w1, w2, q0, q1, q2, s2, hw, hrd', hwx]
      exact fin0 x _ hx
    · subst hv
      have n1 : ¬ ((a : Int) < (bs.length : Int)) := by omega
      have n2 : ¬ (((a + 1 : Nat) : Int) ≤ (bs.length : Int)) := by omega
      simp (maxSteps := 1000000) (disch := first | omega | rfl | (simp only [zL, two63, room] <;> omega) | fail) only [↓reduceIte, ↓zP, zW, WOp, evOp, evBin, binI, binSh, binS, evNil, keyIs, keyEq, mkv, AV.cells, AV.sc, optv, bnd, env, put, Env.get, Env.set, Env.del, Env.dels, Env.init, res1, resL, resV, fillP, splice, newRow, Nat.reduceEqDiff, Nat.reduceLT, Nat.reduceLeDiff, Nat.reduceAdd, Nat.reduceMul, Nat.reduceSub, Nat.reduceBEq, reduceCtorEq, ↓zR, zQ, Tr, StA, StT, r0, r1, n1, n2, w1, w2, q0, q1, q2, s2, hw]
      exact fin _ _

/-- pick: less than n. -/
theorem c_pick (hc : Cur b cv bs K h) (hK : K < 2 ^ 49) (n : Nat) (hn : n < 2 ^ 40) (hp : ∀ (x : Nat) h', (x < n ∨ x = 0) → Cur b cv bs (K + 2) h' → PreX b.length h h' → post (.int .i64 x) h') : S 63 [.ptr b.length 0 0 3, .int .i64 n] h post k := by
  refine S_of rfl T63 ?_; unfold fi63
  by_cases h1 : n ≤ 1
  · have n1 : (n : Int) ≤ 1 := by omega
    simp (maxSteps := 1000000) (disch := first | omega | rfl | (simp only [zL, two63, room] <;> omega) | fail) only [↓reduceIte, ↓zP, zW, WOp, evOp, evBin, binI, binSh, binS, evNil, keyIs, keyEq, mkv, AV.cells, AV.sc, optv, bnd, env, put, Env.get, Env.set, Env.del, Env.dels, Env.init, res1, resL, resV, fillP, splice, newRow, Nat.reduceEqDiff, Nat.reduceLT, Nat.reduceLeDiff, Nat.reduceAdd, Nat.reduceMul, Nat.reduceSub, Nat.reduceBEq, reduceCtorEq, ↓zR, zQ, Tr, StA, StT, n1]
    exact hp 0 h (.inr rfl) (hc.le (by omega)) (PreX.refl _ _)
  have n1 : ¬ ((n : Int) ≤ 1) := by omega
  have fin : ∀ (x : Nat) h', Cur b cv bs (K + 2) h' → PreX b.length h h' → post (.int .i64 ((x : Int).tmod n)) h' := by
    intro x h' hc' hx
    have : (x : Int).tmod n = ((x % n : Nat) : Int) := by rw [Int.tmod_eq_emod_of_nonneg (by omega)]; omega
    rw [this]
    exact hp _ h' (.inl (Nat.mod_lt _ (by omega))) hc' hx
  have n0 : ((n : Int) == 0) = false := by simp; omega
  have n0' : ¬ ((n : Int) = 0) := by omega
  simp (maxSteps := 1000000) (disch := first | omega | rfl | (simp only [zL, two63, room] <;> omega) | fail) only [↓reduceIte, ↓zP, zW, WOp, evOp, evBin, binI, binSh, binS, evNil, keyIs, keyEq, mkv, AV.cells, AV.sc, optv, bnd, env, put, Env.get, Env.set, Env.del, Env.dels, Env.init, res1, resL, resV, fillP, splice, newRow, Nat.reduceEqDiff, Nat.reduceLT, Nat.reduceLeDiff, Nat.reduceAdd, Nat.reduceMul, Nat.reduceSub, Nat.reduceBEq, reduceCtorEq, ↓zR, zQ, Tr, StA, StT, n1]
  refine c_next hc (by omega) ?_
  intro x h2 hx hc2 hp2
  by_cases h3 : 200 < n
  · have n2 : (n : Int) > 200 := by omega
    have w1 : IntKind.i64.wrap ((x : Int) * 256) = ((x * 256 : Nat) : Int) := by rw [IntKind.wrap_i64]; omega
    simp (maxSteps := 1000000) (disch := first | omega | rfl | (simp only [zL, two63, room] <;> omega) | fail) only [↓reduceIte, ↓zP, zW, WOp, evOp, evBin, binI, binSh, binS, evNil, keyIs, keyEq, mkv, AV.cells, AV.sc, optv, bnd, env, put, Env.get, Env.set, Env.del, Env.dels, Env.init, res1, resL, resV, fillP, splice, newRow, Nat.reduceEqDiff, Nat.reduceLT, Nat.reduceLeDiff, Nat.reduceAdd, Nat.reduceMul, Nat.reduceSub, Nat.reduceBEq, reduceCtorEq, ↓zR, zQ, Tr, StA, StT, n2, w1]
    refine c_next hc2 (by omega) ?_
    intro y h3 hy hc3 hp3
    have w2 : IntKind.i64.wrap (((x * 256 : Nat) : Int) + (y : Int)) = ((x * 256 + y : Nat) : Int) := by rw [IntKind.wrap_i64]; omega
    simp (maxSteps := 1000000) (disch := first | omega | rfl | (simp only [zL, two63, room] <;> omega) | fail) only [↓reduceIte, ↓zP, zW, WOp, evOp, evBin, binI, binSh, binS, evNil, keyIs, keyEq, mkv, AV.cells, AV.sc, optv, bnd, env, put, Env.get, Env.set, Env.del, Env.dels, Env.init, res1, resL, resV, fillP, splice, newRow, Nat.reduceEqDiff, Nat.reduceLT, Nat.reduceLeDiff, Nat.reduceAdd, Nat.reduceMul, Nat.reduceSub, Nat.reduceBEq, reduceCtorEq, ↓zR, zQ, Tr, StA, StT, w2, n0, n0']
    exact fin _ _ hc3 (hp2.trans hp3)
  · have n2 : ¬ ((n : Int) > 200) := by omega
    simp (maxSteps := 1000000) (disch := first | omega | rfl | (simp only [zL, two63, room] <;> omega) | fail) only [↓reduceIte, ↓zP, zW, WOp, evOp, evBin, binI, binSh, binS, evNil, keyIs, keyEq, mkv, AV.cells, AV.sc, optv, bnd, env, put, Env.get, Env.set, Env.del, Env.dels, Env.init, res1, resL, resV, fillP, splice, newRow, Nat.reduceEqDiff, Nat.reduceLT, Nat.reduceLeDiff, Nat.reduceAdd, Nat.reduceMul, Nat.reduceSub, Nat.reduceBEq, reduceCtorEq, ↓zR, zQ, Tr, StA, StT, n2, n0, n0']
    exact fin _ _ (hc2.le (by omega)) hp2
theorem c_one (hc : Cur b cv bs K h) (hK : K < 2 ^ 49) (n : Nat) (hn : n < 2 ^ 40) (hp : ∀ (x : Bool) h', Cur b cv bs (K + 2) h' → PreX b.length h h' → post (.bool x) h') : S 64 [.ptr b.length 0 0 3, .int .i64 n] h post k := by
  refine S_of rfl T64 ?_; unfold fi64
  simp (maxSteps := 1000000) (disch := first | omega | rfl | (simp only [zL, two63, room] <;> omega) | fail) only [↓reduceIte, ↓zP, zW, WOp, evOp, evBin, binI, binSh, binS, evNil, keyIs, keyEq, mkv, AV.cells, AV.sc, optv, bnd, env, put, Env.get, Env.set, Env.del, Env.dels, Env.init, res1, resL, resV, fillP, splice, newRow, Nat.reduceEqDiff, Nat.reduceLT, Nat.reduceLeDiff, Nat.reduceAdd, Nat.reduceMul, Nat.reduceSub, Nat.reduceBEq, reduceCtorEq, ↓zR, zQ, Tr, StA, StT]
  refine c_pick hc hK n hn ?_
  intro x h' _ hc' hp'
  simp (maxSteps := 1000000) (disch := first | omega | rfl | (simp only [zL, two63, room] <;> omega) | fail) only [↓reduceIte, ↓zP, zW, WOp, evOp, evBin, binI, binSh, binS, evNil, keyIs, keyEq, mkv, AV.cells, AV.sc, optv, bnd, env, put, Env.get, Env.set, Env.del, Env.dels, Env.init, res1, resL, resV, fillP, splice, newRow, Nat.reduceEqDiff, Nat.reduceLT, Nat.reduceLeDiff, Nat.reduceAdd, Nat.reduceMul, Nat.reduceSub, Nat.reduceBEq, reduceCtorEq, ↓zR, zQ, Tr, StA, StT]
  exact hp _ h' hc' hp'
/-- An element of a list. -/
theorem c_of (hc : Cur b cv bs K h) (hK : K < 2 ^ 49) {lv : AV} {L : List (List UInt8)} (hs : Slc 1 encS h lv L) (hne : ∀ r, rowOf lv = some r → r ≠ b.length) (h0 : 0 < L.length) (hL : L.length < 2 ^ 40)
    (hp : ∀ x ∈ L, ∀ h', Cur b cv bs (K + 2) h' → PreX b.length h h' → post (.str x) h') : S 71 [.ptr b.length 0 0 3, lv] h post k := by
  rcases hs.cases with ⟨rfl, rfl⟩ | ⟨rfl, rfl⟩ | ⟨c, kk, off, rfl⟩
  · simp at h0
  · simp at h0
  refine S_of rfl T71 ?_; unfold fi71
  simp (maxSteps := 1000000) (disch := first | omega | rfl | (simp only [zL, two63, room] <;> omega) | fail) only [↓reduceIte, ↓zP, zW, WOp, evOp, evBin, binI, binSh, binS, evNil, keyIs, keyEq, mkv, AV.cells, AV.sc, optv, bnd, env, put, Env.get, Env.set, Env.del, Env.dels, Env.init, res1, resL, resV, fillP, splice, newRow, Nat.reduceEqDiff, Nat.reduceLT, Nat.reduceLeDiff, Nat.reduceAdd, Nat.reduceMul, Nat.reduceSub, Nat.reduceBEq, reduceCtorEq, ↓zR, zQ, Tr, StA, StT]
  refine c_pick hc hK L.length hL ?_
  intro x h2 hx hc2 hp2
  have hlt : x < L.length := by omega
  have hLe : L = L.take x ++ L[x] :: L.drop (x + 1) := by
    have := (List.take_append_drop x L).symm
    rwa [List.drop_eq_getElem_cons hlt] at this
  have hs2 := hs
  rw [hLe] at hs2
  have hrd := rdRow_prex hp2 (hne c rfl) (hs2.rd hlS)
  rw [List.length_take, show min x L.length = x by omega] at hrd
  have hrd' : rdRow h2 c kk (off + x * 1) 1 = some [.str L[x]] := hrd
  have n1 : (x : Int) < (L.length : Int) := by omega
  simp (maxSteps := 1000000) (disch := first | omega | rfl | (simp only [zL, two63, room] <;> omega) | fail) only [↓reduceIte, ↓zP, zW, WOp, evOp, evBin, binI, binSh, binS, evNil, keyIs, keyEq, mkv, AV.cells, AV.sc, optv, bnd, env, put, Env.get, Env.set, Env.del, Env.dels, Env.init, res1, resL, resV, fillP, splice, newRow, Nat.reduceEqDiff, Nat.reduceLT, Nat.reduceLeDiff, Nat.reduceAdd, Nat.reduceMul, Nat.reduceSub, Nat.reduceBEq, reduceCtorEq, ↓zR, zQ, Tr, StA, StT, n1, hrd']
  exact hp _ (List.getElem_mem hlt) h2 hc2 hp2
/-- A number of a list. -/
theorem c_among (hc : Cur b cv bs K h) (hK : K < 2 ^ 49) {lv : AV} {L : List Int} (hs : Slc 1 encI h lv L) (hne : ∀ r, rowOf lv = some r → r ≠ b.length) (h0 : 0 < L.length) (hL : L.length < 2 ^ 40)
    (hp : ∀ x ∈ L, ∀ h', Cur b cv bs (K + 2) h' → PreX b.length h h' → post (.int .i64 x) h') : S 62 [.ptr b.length 0 0 3, lv] h post k := by
  rcases hs.cases with ⟨rfl, rfl⟩ | ⟨rfl, rfl⟩ | ⟨c, kk, off, rfl⟩
  · simp at h0
  · simp at h0
  refine S_of rfl T62 ?_; unfold fi62
  simp (maxSteps := 1000000) (disch := first | omega | rfl | (simp only [zL, two63, room] <;> omega) | fail) only [↓reduceIte, ↓zP, zW, WOp, evOp, evBin, binI, binSh, binS, evNil, keyIs, keyEq, mkv, AV.cells, AV.sc, optv, bnd, env, put, Env.get, Env.set, Env.del, Env.dels, Env.init, res1, resL, resV, fillP, splice, newRow, Nat.reduceEqDiff, Nat.reduceLT, Nat.reduceLeDiff, Nat.reduceAdd, Nat.reduceMul, Nat.reduceSub, Nat.reduceBEq, reduceCtorEq, ↓zR, zQ, Tr, StA, StT]
  refine c_pick hc hK L.length hL ?_
  intro x h2 hx hc2 hp2
  have hlt : x < L.length := by omega
  have hLe : L = L.take x ++ L[x] :: L.drop (x + 1) := by
    have := (List.take_append_drop x L).symm
    rwa [List.drop_eq_getElem_cons hlt] at this
  have hs2 := hs
  rw [hLe] at hs2
  have hrd := rdRow_prex hp2 (hne c rfl) (hs2.rd hlI)
  rw [List.length_take, show min x L.length = x by omega] at hrd
  have hrd' : rdRow h2 c kk (off + x * 1) 1 = some [.int .i64 L[x]] := hrd
  have n1 : (x : Int) < (L.length : Int) := by omega
  simp (maxSteps := 1000000) (disch := first | omega | rfl | (simp only [zL, two63, room] <;> omega) | fail) only [↓reduceIte, ↓zP, zW, WOp, evOp, evBin, binI, binSh, binS, evNil, keyIs, keyEq, mkv, AV.cells, AV.sc, optv, bnd, env, put, Env.get, Env.set, Env.del, Env.dels, Env.init, res1, resL, resV, fillP, splice, newRow, Nat.reduceEqDiff, Nat.reduceLT, Nat.reduceLeDiff, Nat.reduceAdd, Nat.reduceMul, Nat.reduceSub, Nat.reduceBEq, reduceCtorEq, ↓zR, zQ, Tr, StA, StT, n1, hrd']
  exact hp _ (List.getElem_mem hlt) h2 hc2 hp2
end
theorem slc_litS (h : AH) (L : List (List UInt8)) : Slc 1 encS (h ++ [.row (L.map AV.str) 0 0 false]) (.slice h.length 0 0 L.length 1) L := by
  have e : L.flatMap encS = L.map AV.str := by
    induction L with
    | nil => rfl
    | cons a L ih => rw [List.flatMap_cons, ih]; rfl
  unfold Slc Sl
  refine ⟨rfl, rfl, by simp [e], ?_⟩
  rw [e]
  exact rdRow_push h _ false (by simp)
theorem slc_litI (h : AH) (L : List Int) : Slc 1 encI (h ++ [.row (L.map (AV.int .i64)) 0 0 false]) (.slice h.length 0 0 L.length 1) L := by
  have e : L.flatMap encI = L.map (AV.int .i64) := by
    induction L with
    | nil => rfl
    | cons a L ih => rw [List.flatMap_cons, ih]; rfl
  unfold Slc Sl
  refine ⟨rfl, rfl, by simp [e], ?_⟩
  rw [e]
  exact rdRow_push h _ false (by simp)
theorem Pre.x2 {h h1 h2 : AH} {c : Nat} (hp : Pre h h1) (hx : PreX c h1 h2) : PreX c h h2 := (hp.x c).trans hx

/-! ### Lines -/
theorem lp_liTimesG (b : UInt8) {h : AH} {R : X → Env → AH → Prop} : ∀ (n : Nat) (out : List UInt8), out.length + n ≤ 1000 → R (.exit 0) [(5, .str (out ++ List.replicate n b))] h →
    Cx (.loop lp124_0) [(0, .str [b]), (1, .int .i64 n), (5, .str out)] h R k k
  | 0, out, hn, hR => by
    rw [w_loopb (c := lp124_0) (d := lb124_0) rfl]; unfold lb124_0
    simp (maxSteps := 1000000) (disch := first | omega | rfl | (simp only [zL, two63, room] <;> omega) | fail) only [↓reduceIte, ↓zP, zW, WOp, evOp, evBin, binI, binSh, binS, evNil, keyIs, keyEq, mkv, AV.cells, AV.sc, optv, bnd, env, put, Env.get, Env.set, Env.del, Env.dels, Env.init, res1, resL, resV, fillP, splice, newRow, Nat.reduceEqDiff, Nat.reduceLT, Nat.reduceLeDiff, Nat.reduceAdd, Nat.reduceMul, Nat.reduceSub, Nat.reduceBEq, reduceCtorEq, ↓zR, zQ, Tr, StA, StT]
    simpa using hR
  | n + 1, out, hn, hR => by
    have ih := lp_liTimesG b (h := h) (R := R) n (out ++ [b])
    have hg : ((n + 1 : Nat) : Int) > 0 := by omega
    have hs : ((n + 1 : Nat) : Int) - 1 = (n : Int) := by omega
    have hl : out.length + [b].length ≤ two63 := by simp only [two63, List.length_cons, List.length_nil]; omega
    rw [w_loopb (c := lp124_0) (d := lb124_0) rfl]; unfold lb124_0
    simp (maxSteps := 1000000) (disch := first | omega | rfl | (simp only [zL, two63, room] <;> omega) | fail) only [↓reduceIte, ↓zP, zW, WOp, evOp, evBin, binI, binSh, binS, evNil, keyIs, keyEq, mkv, AV.cells, AV.sc, optv, bnd, env, put, Env.get, Env.set, Env.del, Env.dels, Env.init, res1, resL, resV, fillP, splice, newRow, Nat.reduceEqDiff, Nat.reduceLT, Nat.reduceLeDiff, Nat.reduceAdd, Nat.reduceMul, Nat.reduceSub, Nat.reduceBEq, reduceCtorEq, ↓zR, zQ, Tr, StA, StT, hg, hs, hl]
    rw [w_loopn (c := lp124_0) rfl]
    simp (maxSteps := 1000000) (disch := first | omega | rfl | (simp only [zL, two63, room] <;> omega) | fail) only [↓reduceIte, ↓zP, zW, WOp, evOp, evBin, binI, binSh, binS, evNil, keyIs, keyEq, mkv, AV.cells, AV.sc, optv, bnd, env, put, Env.get, Env.set, Env.del, Env.dels, Env.init, res1, resL, resV, fillP, splice, newRow, Nat.reduceEqDiff, Nat.reduceLT, Nat.reduceLeDiff, Nat.reduceAdd, Nat.reduceMul, Nat.reduceSub, Nat.reduceBEq, reduceCtorEq, ↓zR, zQ, Tr, StA, StT]
    refine ih (by simp; omega) ?_
    rw [List.append_assoc, List.singleton_append, ← List.replicate_succ]
    exact hR
theorem e_liTimesG (b : UInt8) (n : Nat) (hn : n ≤ 1000) {h : AH} {post : AV → AH → Prop} : S 124 [.str [b], .int .i64 n] h post k = post (.str (List.replicate n b)) h := by
  refine S_eq fun post hp => ?_
  refine S_of rfl T124 ?_; unfold fi124
  simp (maxSteps := 1000000) (disch := first | omega | rfl | (simp only [zL, two63, room] <;> omega) | fail) only [↓reduceIte, ↓zP, zW, WOp, evOp, evBin, binI, binSh, binS, evNil, keyIs, keyEq, mkv, AV.cells, AV.sc, optv, bnd, env, put, Env.get, Env.set, Env.del, Env.dels, Env.init, res1, resL, resV, fillP, splice, newRow, Nat.reduceEqDiff, Nat.reduceLT, Nat.reduceLeDiff, Nat.reduceAdd, Nat.reduceMul, Nat.reduceSub, Nat.reduceBEq, reduceCtorEq, ↓zR, zQ, Tr, StA, StT]
  refine lp_liTimesG b n [] (by simpa using hn) ?_
  simp (maxSteps := 1000000) (disch := first | omega | rfl | (simp only [zL, two63, room] <;> omega) | fail) only [↓reduceIte, ↓zP, zW, WOp, evOp, evBin, binI, binSh, binS, evNil, keyIs, keyEq, mkv, AV.cells, AV.sc, optv, bnd, env, put, Env.get, Env.set, Env.del, Env.dels, Env.init, res1, resL, resV, fillP, splice, newRow, Nat.reduceEqDiff, Nat.reduceLT, Nat.reduceLeDiff, Nat.reduceAdd, Nat.reduceMul, Nat.reduceSub, Nat.reduceBEq, reduceCtorEq, ↓zR, zQ, Tr, StA, StT]
  exact hp
theorem e_liFirstG (t g f : Nat) (ht : t ≤ 100) (hg : g ≤ 100) (hf : f ≤ 100) {h : AH} {post : AV → AH → Prop} : S 100 [.int .i64 t, .int .i64 g, .int .i64 f] h post k = post (.str (List.replicate t 84 ++ List.replicate g 46 ++ List.replicate f 70)) h := by
  refine S_eq fun post hp => ?_
  refine S_of rfl T100 ?_; unfold fi100
  have l1 : (List.replicate t (84 : UInt8)).length + (List.replicate g (46 : UInt8)).length ≤ two63 := by simp [two63]; omega
  have l2 : (List.replicate t (84 : UInt8) ++ List.replicate g 46).length + (List.replicate f (70 : UInt8)).length ≤ two63 := by simp [two63]; omega
  simp (maxSteps := 1000000) (disch := first | omega | rfl | (simp only [zL, two63, room] <;> omega) | fail) only [↓reduceIte, ↓zP, zW, WOp, evOp, evBin, binI, binSh, binS, evNil, keyIs, keyEq, mkv, AV.cells, AV.sc, optv, bnd, env, put, Env.get, Env.set, Env.del, Env.dels, Env.init, res1, resL, resV, fillP, splice, newRow, Nat.reduceEqDiff, Nat.reduceLT, Nat.reduceLeDiff, Nat.reduceAdd, Nat.reduceMul, Nat.reduceSub, Nat.reduceBEq, reduceCtorEq, ↓zR, zQ, Tr, StA, StT, e_liTimesG 84 t (by omega), e_liTimesG 46 g (by omega), e_liTimesG 70 f (by omega), l1, l2]
  exact hp

section
variable {b : AH} {cv : AV} {bs : List UInt8} {post : AV → AH → Prop}
theorem lp_sure {R : X → Env → AH → Prop} : ∀ (d : Nat) (w : List UInt8) (K : Nat) (h : AH), Cur b cv bs K h → K + 2 * d < 2 ^ 49 → w.length + d < 2 ^ 30 → signs w →
    (∀ w' h', w'.length = w.length + d → signs w' → Cur b cv bs (K + 2 * d) h' → PreX b.length h h' → R (.exit 0) [(0, .ptr b.length 0 0 3), (5, .str w')] h') →
    Cx (.loop lp99_0) [(0, .ptr b.length 0 0 3), (5, .str w), (6, .int .i64 d)] h R k k
  | 0, w, K, h, hc, hK, hw, hg, hR => by
    have n1 : ¬ (((0 : Nat) : Int) > 0) := by omega
    rw [w_loopb (c := lp99_0) (d := lb99_0) rfl]; unfold lb99_0
    simp (maxSteps := 1000000) (disch := first | omega | rfl | (simp only [zL, two63, room] <;> omega) | fail) only [↓reduceIte, ↓zP, zW, WOp, evOp, evBin, binI, binSh, binS, evNil, keyIs, keyEq, mkv, AV.cells, AV.sc, optv, bnd, env, put, Env.get, Env.set, Env.del, Env.dels, Env.init, res1, resL, resV, fillP, splice, newRow, Nat.reduceEqDiff, Nat.reduceLT, Nat.reduceLeDiff, Nat.reduceAdd, Nat.reduceMul, Nat.reduceSub, Nat.reduceBEq, reduceCtorEq, ↓zR, zQ, Tr, StA, StT, n1]
    exact hR w h rfl hg hc (PreX.refl _ _)
  | d + 1, w, K, h, hc, hK, hw, hg, hR => by
    have ih := lp_sure (R := R) d
    have n1 : ((d + 1 : Nat) : Int) > 0 := by omega
    have hs : ((d + 1 : Nat) : Int) - 1 = (d : Int) := by omega
    have hwr : IntKind.i64.wrap (d : Int) = (d : Int) := wrap_i (by omega)
    rw [w_loopb (c := lp99_0) (d := lb99_0) rfl]; unfold lb99_0
    simp (maxSteps := 1000000) (disch := first | omega | rfl | (simp only [zL, two63, room] <;> omega) | fail) only [↓reduceIte, ↓zP, zW, WOp, evOp, evBin, binI, binSh, binS, evNil, keyIs, keyEq, mkv, AV.cells, AV.sc, optv, bnd, env, put, Env.get, Env.set, Env.del, Env.dels, Env.init, res1, resL, resV, fillP, splice, newRow, Nat.reduceEqDiff, Nat.reduceLT, Nat.reduceLeDiff, Nat.reduceAdd, Nat.reduceMul, Nat.reduceSub, Nat.reduceBEq, reduceCtorEq, ↓zR, zQ, Tr, StA, StT, n1]
    refine c_of (hc.pre (Pre.push _ _)) (by omega) (slc_litS h [[84], [70], [46], [84], [70]]) (fun r hr => by cases hr; have := hc.lt; omega) (by simp) (by simp) ?_
    intro x hx h2 hc2 hp2
    have hx1 : x.length = 1 := by
      simp only [List.mem_cons, List.not_mem_nil, or_false] at hx
      rcases hx with rfl | rfl | rfl | rfl | rfl <;> rfl
    have hxg : signs x := by
      simp only [List.mem_cons, List.not_mem_nil, or_false] at hx
      rcases hx with rfl | rfl | rfl | rfl | rfl <;> rfl
    have hl : w.length + x.length ≤ two63 := by simp only [two63]; omega
    simp (maxSteps := 1000000) (disch := first | omega | rfl | (simp only [zL, two63, room] <;> omega) | fail) only [↓reduceIte, ↓zP, zW, WOp, evOp, evBin, binI, binSh, binS, evNil, keyIs, keyEq, mkv, AV.cells, AV.sc, optv, bnd, env, put, Env.get, Env.set, Env.del, Env.dels, Env.init, res1, resL, resV, fillP, splice, newRow, Nat.reduceEqDiff, Nat.reduceLT, Nat.reduceLeDiff, Nat.reduceAdd, Nat.reduceMul, Nat.reduceSub, Nat.reduceBEq, reduceCtorEq, ↓zR, zQ, Tr, StA, StT, hl, hs, hwr]
    rw [w_loopn (c := lp99_0) rfl]
    simp (maxSteps := 1000000) (disch := first | omega | rfl | (simp only [zL, two63, room] <;> omega) | fail) only [↓reduceIte, ↓zP, zW, WOp, evOp, evBin, binI, binSh, binS, evNil, keyIs, keyEq, mkv, AV.cells, AV.sc, optv, bnd, env, put, Env.get, Env.set, Env.del, Env.dels, Env.init, res1, resL, resV, fillP, splice, newRow, Nat.reduceEqDiff, Nat.reduceLT, Nat.reduceLeDiff, Nat.reduceAdd, Nat.reduceMul, Nat.reduceSub, Nat.reduceBEq, reduceCtorEq, ↓zR, zQ, Tr, StA, StT]
    refine ih (w ++ x) (K + 2) h2 hc2 (by omega) (by simp; omega) ?_ ?_
    · unfold signs at *
      rw [List.all_append, hg, hxg]; rfl
    · intro w' h' h1 h3 h4 h5
      refine hR w' h' (by simp at h1; omega) h3 (h4.le (by omega)) ((Pre.push _ _).x2 (hp2.trans h5))
variable {K : Nat} {h : AH}
theorem put_signs {w : List UInt8} (hg : signs w) (i : Nat) : signs (w.take i ++ [46] ++ w.drop (i + 1)) := by
  unfold signs at *
  rw [List.all_eq_true] at *
  intro x hx
  simp only [List.mem_append, List.mem_singleton] at hx
  rcases hx with (hx | rfl) | hx
  · exact hg x (List.mem_of_mem_take hx)
  · rfl
  · exact hg x (List.mem_of_mem_drop hx)
theorem c_sureLine (hc : Cur b cv bs K h) (n : Nat) (hn : n < 2 ^ 20) (h0 : 0 < n) (hK : K < 2 ^ 48) (hp : ∀ w h', 1 ≤ w.length → w.length ≤ n → signs w → Cur b cv bs (K + 2 * n + 6) h' → PreX b.length h h' → post (.str w) h') :
    S 99 [.ptr b.length 0 0 3, .int .i64 n] h post k := by
  refine S_of rfl T99 ?_; unfold fi99
  simp (maxSteps := 1000000) (disch := first | omega | rfl | (simp only [zL, two63, room] <;> omega) | fail) only [↓reduceIte, ↓zP, zW, WOp, evOp, evBin, binI, binSh, binS, evNil, keyIs, keyEq, mkv, AV.cells, AV.sc, optv, bnd, env, put, Env.get, Env.set, Env.del, Env.dels, Env.init, res1, resL, resV, fillP, splice, newRow, Nat.reduceEqDiff, Nat.reduceLT, Nat.reduceLeDiff, Nat.reduceAdd, Nat.reduceMul, Nat.reduceSub, Nat.reduceBEq, reduceCtorEq, ↓zR, zQ, Tr, StA, StT]
  refine c_pick hc (by omega) n (by omega) ?_
  intro x h2 hx hc2 hp2
  have hw : IntKind.i64.wrap (1 + (x : Int)) = ((x + 1 : Nat) : Int) := by rw [IntKind.wrap_i64]; omega
  simp (maxSteps := 1000000) (disch := first | omega | rfl | (simp only [zL, two63, room] <;> omega) | fail) only [↓reduceIte, ↓zP, zW, WOp, evOp, evBin, binI, binSh, binS, evNil, keyIs, keyEq, mkv, AV.cells, AV.sc, optv, bnd, env, put, Env.get, Env.set, Env.del, Env.dels, Env.init, res1, resL, resV, fillP, splice, newRow, Nat.reduceEqDiff, Nat.reduceLT, Nat.reduceLeDiff, Nat.reduceAdd, Nat.reduceMul, Nat.reduceSub, Nat.reduceBEq, reduceCtorEq, ↓zR, zQ, Tr, StA, StT, hw]
  refine lp_sure (x + 1) [] (K + 2) h2 hc2 (by omega) (by simp; omega) (by rfl) ?_
  intro w h3 hl hg hc3 hp3
  have hl' : w.length = x + 1 := by simpa using hl
  have hp23 := hp2.trans hp3
  have stop : ∀ K' h', K' ≤ K + 2 * n + 6 → Cur b cv bs K' h' → PreX b.length h h' → post (.str w) h' := fun K' h' h1 h4 h5 => hp w h' (by omega) (by omega) hg (h4.le h1) h5
  by_cases h46 : w.count 46 = 0
  · have n1 : ((w.count 46 : Nat) : Int) = 0 := by omega
    have n1' : (((w.count 46 : Nat) : Int) == 0) = true := by simp [h46]
    simp (maxSteps := 1000000) (disch := first | omega | rfl | (simp only [zL, two63, room] <;> omega) | fail) only [↓reduceIte, ↓zP, zW, WOp, evOp, evBin, binI, binSh, binS, evNil, keyIs, keyEq, mkv, AV.cells, AV.sc, optv, bnd, env, put, Env.get, Env.set, Env.del, Env.dels, Env.init, res1, resL, resV, fillP, splice, newRow, Nat.reduceEqDiff, Nat.reduceLT, Nat.reduceLeDiff, Nat.reduceAdd, Nat.reduceMul, Nat.reduceSub, Nat.reduceBEq, reduceCtorEq, ↓zR, zQ, Tr, StA, StT, e_liCountD w (by omega), n1', h46]
    refine c_one hc3 (by omega) 8 (by omega) ?_
    intro o h4 hc4 hp4
    cases o
    · simp (maxSteps := 1000000) (disch := first | omega | rfl | (simp only [zL, two63, room] <;> omega) | fail) only [↓reduceIte, ↓zP, zW, WOp, evOp, evBin, binI, binSh, binS, evNil, keyIs, keyEq, mkv, AV.cells, AV.sc, optv, bnd, env, put, Env.get, Env.set, Env.del, Env.dels, Env.init, res1, resL, resV, fillP, splice, newRow, Nat.reduceEqDiff, Nat.reduceLT, Nat.reduceLeDiff, Nat.reduceAdd, Nat.reduceMul, Nat.reduceSub, Nat.reduceBEq, reduceCtorEq, ↓zR, zQ, Tr, StA, StT]
      refine c_pick hc4 (by omega) w.length (by omega) ?_
      intro y h5 hy hc5 hp5
      have hyl : y < w.length := by omega
      simp (maxSteps := 1000000) (disch := first | omega | rfl | (simp only [zL, two63, room] <;> omega) | fail) only [↓reduceIte, ↓zP, zW, WOp, evOp, evBin, binI, binSh, binS, evNil, keyIs, keyEq, mkv, AV.cells, AV.sc, optv, bnd, env, put, Env.get, Env.set, Env.del, Env.dels, Env.init, res1, resL, resV, fillP, splice, newRow, Nat.reduceEqDiff, Nat.reduceLT, Nat.reduceLeDiff, Nat.reduceAdd, Nat.reduceMul, Nat.reduceSub, Nat.reduceBEq, reduceCtorEq, ↓zR, zQ, Tr, StA, StT]
      refine c_liPut w y [46] hyl (by omega) (by simp) ?_
      simp (maxSteps := 1000000) (disch := first | omega | rfl | (simp only [zL, two63, room] <;> omega) | fail) only [↓reduceIte, ↓zP, zW, WOp, evOp, evBin, binI, binSh, binS, evNil, keyIs, keyEq, mkv, AV.cells, AV.sc, optv, bnd, env, put, Env.get, Env.set, Env.del, Env.dels, Env.init, res1, resL, resV, fillP, splice, newRow, Nat.reduceEqDiff, Nat.reduceLT, Nat.reduceLeDiff, Nat.reduceAdd, Nat.reduceMul, Nat.reduceSub, Nat.reduceBEq, reduceCtorEq, ↓zR, zQ, Tr, StA, StT]
      refine hp _ h5 ?_ ?_ (put_signs hg y) (hc5.le (by omega)) (hp23.trans (hp4.trans hp5))
      · simp; omega
      · simp; omega
    · simp (maxSteps := 1000000) (disch := first | omega | rfl | (simp only [zL, two63, room] <;> omega) | fail) only [↓reduceIte, ↓zP, zW, WOp, evOp, evBin, binI, binSh, binS, evNil, keyIs, keyEq, mkv, AV.cells, AV.sc, optv, bnd, env, put, Env.get, Env.set, Env.del, Env.dels, Env.init, res1, resL, resV, fillP, splice, newRow, Nat.reduceEqDiff, Nat.reduceLT, Nat.reduceLeDiff, Nat.reduceAdd, Nat.reduceMul, Nat.reduceSub, Nat.reduceBEq, reduceCtorEq, ↓zR, zQ, Tr, StA, StT]
      exact stop _ h4 (by omega) hc4 (hp23.trans hp4)
  · have n1' : (((w.count 46 : Nat) : Int) == 0) = false := by simp; omega
    simp (maxSteps := 1000000) (disch := first | omega | rfl | (simp only [zL, two63, room] <;> omega) | fail) only [↓reduceIte, ↓zP, zW, WOp, evOp, evBin, binI, binSh, binS, evNil, keyIs, keyEq, mkv, AV.cells, AV.sc, optv, bnd, env, put, Env.get, Env.set, Env.del, Env.dels, Env.init, res1, resL, resV, fillP, splice, newRow, Nat.reduceEqDiff, Nat.reduceLT, Nat.reduceLeDiff, Nat.reduceAdd, Nat.reduceMul, Nat.reduceSub, Nat.reduceBEq, reduceCtorEq, ↓zR, zQ, Tr, StA, StT, e_liCountD w (by omega), n1']
    exact stop _ h3 (by omega) hc3 hp23
theorem c_line (hc : Cur b cv bs K h) (hK : K < 2 ^ 47) (hp : ∀ w h', w.length ≤ 13 → Cur b cv bs (K + 40) h' → PreX b.length h h' → post (.str w) h') : S 101 [.ptr b.length 0 0 3] h post k := by
  refine S_of rfl T101 ?_; unfold fi101
  simp (maxSteps := 1000000) (disch := first | omega | rfl | (simp only [zL, two63, room] <;> omega) | fail) only [↓reduceIte, ↓zP, zW, WOp, evOp, evBin, binI, binSh, binS, evNil, keyIs, keyEq, mkv, AV.cells, AV.sc, optv, bnd, env, put, Env.get, Env.set, Env.del, Env.dels, Env.init, res1, resL, resV, fillP, splice, newRow, Nat.reduceEqDiff, Nat.reduceLT, Nat.reduceLeDiff, Nat.reduceAdd, Nat.reduceMul, Nat.reduceSub, Nat.reduceBEq, reduceCtorEq, ↓zR, zQ, Tr, StA, StT]
  refine c_pick hc (by omega) 16 (by omega) ?_
  intro x h2 hx hc2 hp2
  by_cases hx0 : x = 0
  · subst hx0
    simp (maxSteps := 1000000) (disch := first | omega | rfl | (simp only [zL, two63, room] <;> omega) | fail) only [↓reduceIte, ↓zP, zW, WOp, evOp, evBin, binI, binSh, binS, evNil, keyIs, keyEq, mkv, AV.cells, AV.sc, optv, bnd, env, put, Env.get, Env.set, Env.del, Env.dels, Env.init, res1, resL, resV, fillP, splice, newRow, Nat.reduceEqDiff, Nat.reduceLT, Nat.reduceLeDiff, Nat.reduceAdd, Nat.reduceMul, Nat.reduceSub, Nat.reduceBEq, reduceCtorEq, ↓zR, zQ, Tr, StA, StT]
    refine c_of (hc2.pre (Pre.push _ _)) (by omega) (slc_litS h2 [[], [120], [84, 32, 70], [84, 46, 70, 46, 84, 46, 70, 46, 84, 46, 70, 46, 84], [116, 46, 102]]) (fun r hr => by cases hr; have := hc2.lt; omega) (by simp) (by simp) ?_
    intro x hx h3 hc3 hp3
    simp (maxSteps := 1000000) (disch := first | omega | rfl | (simp only [zL, two63, room] <;> omega) | fail) only [↓reduceIte, ↓zP, zW, WOp, evOp, evBin, binI, binSh, binS, evNil, keyIs, keyEq, mkv, AV.cells, AV.sc, optv, bnd, env, put, Env.get, Env.set, Env.del, Env.dels, Env.init, res1, resL, resV, fillP, splice, newRow, Nat.reduceEqDiff, Nat.reduceLT, Nat.reduceLeDiff, Nat.reduceAdd, Nat.reduceMul, Nat.reduceSub, Nat.reduceBEq, reduceCtorEq, ↓zR, zQ, Tr, StA, StT]
    refine hp x h3 ?_ (hc3.le (by omega)) (hp2.trans ((Pre.push _ _).x2 hp3))
    simp only [List.mem_cons, List.not_mem_nil, or_false] at hx
    rcases hx with rfl | rfl | rfl | rfl | rfl <;> simp
  by_cases hx3 : x ≤ 3
  · have ww : ∀ y : Nat, y ≤ 2 → IntKind.i64.wrap (1 + (y : Int)) = ((y + 1 : Nat) : Int) := fun y hy => by rw [IntKind.wrap_i64]; omega
    have fin : ∀ (y1 y2 y3 : Nat) g, y1 ≤ 2 → y2 ≤ 2 → y3 ≤ 2 → Cur b cv bs (K + 8) g → PreX b.length h g → post (.str (List.replicate (y1 + 1) 84 ++ List.replicate (y2 + 1) 46 ++ List.replicate (y3 + 1) 70)) g := by
      intro y1 y2 y3 g h1 h2 h3 h4 h5
      exact hp _ g (by simp; omega) (h4.le (by omega)) h5
    obtain rfl | rfl | rfl : x = 1 ∨ x = 2 ∨ x = 3 := by omega
    all_goals
      simp (maxSteps := 1000000) (disch := first | omega | rfl | (simp only [zL, two63, room] <;> omega) | fail) only [↓reduceIte, ↓zP, zW, WOp, evOp, evBin, binI, binSh, binS, evNil, keyIs, keyEq, mkv, AV.cells, AV.sc, optv, bnd, env, put, Env.get, Env.set, Env.del, Env.dels, Env.init, res1, resL, resV, fillP, splice, newRow, Nat.reduceEqDiff, Nat.reduceLT, Nat.reduceLeDiff, Nat.reduceAdd, Nat.reduceMul, Nat.reduceSub, Nat.reduceBEq, reduceCtorEq, ↓zR, zQ, Tr, StA, StT]
      refine c_pick hc2 (by omega) 3 (by omega) ?_
      intro y1 g1 hy1 hg1 hpg1
      have y1' : y1 ≤ 2 := by omega
      simp (maxSteps := 1000000) (disch := first | omega | rfl | (simp only [zL, two63, room] <;> omega) | fail) only [↓reduceIte, ↓zP, zW, WOp, evOp, evBin, binI, binSh, binS, evNil, keyIs, keyEq, mkv, AV.cells, AV.sc, optv, bnd, env, put, Env.get, Env.set, Env.del, Env.dels, Env.init, res1, resL, resV, fillP, splice, newRow, Nat.reduceEqDiff, Nat.reduceLT, Nat.reduceLeDiff, Nat.reduceAdd, Nat.reduceMul, Nat.reduceSub, Nat.reduceBEq, reduceCtorEq, ↓zR, zQ, Tr, StA, StT, ww y1 y1']
      refine c_pick hg1 (by omega) 2 (by omega) ?_
      intro y2 g2 hy2 hg2 hpg2
      have y2' : y2 ≤ 2 := by omega
      simp (maxSteps := 1000000) (disch := first | omega | rfl | (simp only [zL, two63, room] <;> omega) | fail) only [↓reduceIte, ↓zP, zW, WOp, evOp, evBin, binI, binSh, binS, evNil, keyIs, keyEq, mkv, AV.cells, AV.sc, optv, bnd, env, put, Env.get, Env.set, Env.del, Env.dels, Env.init, res1, resL, resV, fillP, splice, newRow, Nat.reduceEqDiff, Nat.reduceLT, Nat.reduceLeDiff, Nat.reduceAdd, Nat.reduceMul, Nat.reduceSub, Nat.reduceBEq, reduceCtorEq, ↓zR, zQ, Tr, StA, StT, ww y2 y2']
      refine c_pick hg2 (by omega) 3 (by omega) ?_
      intro y3 g3 hy3 hg3 hpg3
      have y3' : y3 ≤ 2 := by omega
      simp (maxSteps := 1000000) (disch := first | omega | rfl | (simp only [zL, two63, room] <;> omega) | fail) only [↓reduceIte, ↓zP, zW, WOp, evOp, evBin, binI, binSh, binS, evNil, keyIs, keyEq, mkv, AV.cells, AV.sc, optv, bnd, env, put, Env.get, Env.set, Env.del, Env.dels, Env.init, res1, resL, resV, fillP, splice, newRow, Nat.reduceEqDiff, Nat.reduceLT, Nat.reduceLeDiff, Nat.reduceAdd, Nat.reduceMul, Nat.reduceSub, Nat.reduceBEq, reduceCtorEq, ↓zR, zQ, Tr, StA, StT, ww y3 y3', e_liFirstG (y1 + 1) (y2 + 1) (y3 + 1) (by omega) (by omega) (by omega)]
      exact fin y1 y2 y3 g3 y1' y2' y3' (hg3.le (by omega)) (hp2.trans (hpg1.trans (hpg2.trans hpg3)))
  · have n0 : ((x : Int) == 0) = false := by simp; omega
    have n1 : ((x : Int) == 1) = false := by simp; omega
    have n2 : ((x : Int) == 2) = false := by simp; omega
    have n3 : ((x : Int) == 3) = false := by simp; omega
    simp (maxSteps := 1000000) (disch := first | omega | rfl | (simp only [zL, two63, room] <;> omega) | fail) only [↓reduceIte, ↓zP, zW, WOp, evOp, evBin, binI, binSh, binS, evNil, keyIs, keyEq, mkv, AV.cells, AV.sc, optv, bnd, env, put, Env.get, Env.set, Env.del, Env.dels, Env.init, res1, resL, resV, fillP, splice, newRow, Nat.reduceEqDiff, Nat.reduceLT, Nat.reduceLeDiff, Nat.reduceAdd, Nat.reduceMul, Nat.reduceSub, Nat.reduceBEq, reduceCtorEq, ↓zR, zQ, Tr, StA, StT, n0, n1, n2, n3]
    refine c_sureLine hc2 9 (by omega) (by omega) (by omega) ?_
    intro w h3 h1 h4 _ hc3 hp3
    simp (maxSteps := 1000000) (disch := first | omega | rfl | (simp only [zL, two63, room] <;> omega) | fail) only [↓reduceIte, ↓zP, zW, WOp, evOp, evBin, binI, binSh, binS, evNil, keyIs, keyEq, mkv, AV.cells, AV.sc, optv, bnd, env, put, Env.get, Env.set, Env.del, Env.dels, Env.init, res1, resL, resV, fillP, splice, newRow, Nat.reduceEqDiff, Nat.reduceLT, Nat.reduceLeDiff, Nat.reduceAdd, Nat.reduceMul, Nat.reduceSub, Nat.reduceBEq, reduceCtorEq, ↓zR, zQ, Tr, StA, StT]
    exact hp w h3 (by omega) (hc3.le (by omega)) (hp2.trans hp3)
end
end Go.Proofs.YtoacbgjdflcceaaGreatDoor.Ab

/- THE WAY that all have to go, the pairs, the moves from the other side: what moves make of them. -/
namespace Go.Proofs.YtoacbgjdflcceaaGreatDoor.Ab
open Go

def inv (f : UInt8 → UInt8 → Nat) : List UInt8 → Nat
  | [] => 0
  | a :: l => (l.map (f a)).sum + inv f l
def crossB (f : UInt8 → UInt8 → Nat) (A B : List UInt8) : Nat := (A.map fun a => (B.map (f a)).sum).sum
theorem inv_append (f : UInt8 → UInt8 → Nat) : ∀ A B : List UInt8, inv f (A ++ B) = inv f A + inv f B + crossB f A B
  | [], B => by simp [inv, crossB]
  | a :: A, B => by
    simp only [List.cons_append, inv, inv_append f A B, List.map_append, List.sum_append, crossB, List.map_cons, List.sum_cons]
    omega
theorem inv_mid (f : UInt8 → UInt8 → Nat) (A B X X' : List UInt8) (hX : ∀ g : UInt8 → Nat, (X'.map g).sum = (X.map g).sum) : inv f (A ++ (X' ++ B)) + inv f X = inv f (A ++ (X ++ B)) + inv f X' := by
  have h1 : crossB f X' B = crossB f X B := hX _
  have h2 : crossB f A (X' ++ B) = crossB f A (X ++ B) := by
    unfold crossB
    congr 1
    refine List.map_congr_left fun a _ => ?_
    rw [List.map_append, List.map_append, List.sum_append, List.sum_append, hX]
  simp only [inv_append, h1, h2]
  omega
theorem inv_rev (f : UInt8 → UInt8 → Nat) : ∀ l : List UInt8, inv f l.reverse = inv (fun a b => f b a) l
  | [] => rfl
  | a :: l => by
    rw [List.reverse_cons, inv_append, inv_rev f l]
    have : crossB f l.reverse [a] = (l.map fun b => f b a).sum := by
      simp [crossB, List.map_reverse, List.sum_reverse]
    rw [this]
    simp only [inv, List.map_nil, List.sum_nil]
    omega
theorem inv_map (f : UInt8 → UInt8 → Nat) (g : UInt8 → UInt8) : ∀ l : List UInt8, inv f (l.map g) = inv (fun a b => f (g a) (g b)) l
  | [] => rfl
  | a :: l => by
    simp only [List.map_cons, inv, inv_map f g l, List.map_map]
    rfl
theorem inv_zero {f : UInt8 → UInt8 → Nat} : ∀ {l : List UInt8}, l.Pairwise (fun a b => f a b = 0) → inv f l = 0
  | [], _ => rfl
  | a :: l, h => by
    rw [List.pairwise_cons] at h
    have : (l.map (f a)).sum = 0 := by
      have : l.map (f a) = l.map fun _ => 0 := List.map_congr_left fun b hb => h.1 b hb
      rw [this]
      clear this h
      induction l with
      | nil => rfl
      | cons b l ih => simpa using ih
    simp only [inv, this, inv_zero h.2]

def vW (a b : UInt8) : Nat := if a = 84 then (if b = 70 then 2 else if b = 46 then 1 else 0) else if a = 46 then (if b = 70 then 1 else 0) else 0
def vP (a b : UInt8) : Nat := if a = 84 then (if b = 70 then 1 else 0) else 0
def wayN (w : List UInt8) : Nat := inv vW w

theorem sumW84 : ∀ l : List UInt8, (l.map (vW 84)).sum = 2 * l.count 70 + l.count 46
  | [] => rfl
  | b :: l => by
    rw [List.map_cons, List.sum_cons, sumW84 l]
    by_cases h1 : b = 70
    · subst h1; simp [vW, List.count_cons]; omega
    · by_cases h2 : b = 46
      · subst h2; simp [vW, List.count_cons]; omega
      · simp [vW, List.count_cons, h1, h2]
theorem sumW46 : ∀ l : List UInt8, (l.map (vW 46)).sum = l.count 70
  | [] => rfl
  | b :: l => by
    rw [List.map_cons, List.sum_cons, sumW46 l]
    by_cases h1 : b = 70
    · subst h1; simp [vW, List.count_cons]; omega
    · simp [vW, List.count_cons, h1]
theorem sum_z {α : Type} : ∀ l : List α, (l.map fun _ => 0).sum = 0
  | [] => rfl
  | _ :: l => by simpa using sum_z l
theorem sumW70 (l : List UInt8) : (l.map (vW 70)).sum = 0 := by
  have : l.map (vW 70) = l.map fun _ => 0 := List.map_congr_left fun b _ => rfl
  rw [this, sum_z]
theorem sumP84 : ∀ l : List UInt8, (l.map (vP 84)).sum = l.count 70
  | [] => rfl
  | b :: l => by
    rw [List.map_cons, List.sum_cons, sumP84 l]
    by_cases h1 : b = 70
    · subst h1; simp [vP, List.count_cons]; omega
    · simp [vP, List.count_cons, h1]
theorem sumPx {a : UInt8} (ha : a ≠ 84) (l : List UInt8) : (l.map (vP a)).sum = 0 := by
  have : l.map (vP a) = l.map fun _ => 0 := List.map_congr_left fun b _ => by simp [vP, ha]
  rw [this, sum_z]
theorem sign3 {b : UInt8} (h : isSign b = true) : b = 84 ∨ b = 46 ∨ b = 70 := by
  unfold isSign at h
  simp only [Bool.or_eq_true, beq_iff_eq] at h
  rcases h with (h | h) | h
  · exact .inl h
  · exact .inr (.inr h)
  · exact .inr (.inl h)
theorem signs_cons {b : UInt8} {l : List UInt8} : signs (b :: l) ↔ isSign b = true ∧ signs l := by
  unfold signs; rw [List.all_cons, Bool.and_eq_true]
theorem cnt3 : ∀ {l : List UInt8}, signs l → l.length = l.count 84 + l.count 46 + l.count 70
  | [], _ => rfl
  | b :: l, h => by
    rw [signs_cons] at h
    have := cnt3 h.2
    rcases sign3 h.1 with rfl | rfl | rfl <;> simp [List.count_cons] <;> omega

/-! ### Pairs -/
theorem pairsL_inv : ∀ (l : List UInt8) (t s : Nat), pairsL l t s = s + t * l.count 70 + inv vP l
  | [], t, s => by simp [pairsL, inv]
  | b :: l, t, s => by
    simp only [pairsL, inv]
    by_cases h1 : b = 84
    · subst h1
      simp only [beq_self_eq_true, if_true, pairsL_inv l, sumP84]
      have : (84 :: l : List UInt8).count 70 = l.count 70 := by simp [List.count_cons]
      rw [this, Nat.succ_mul]; omega
    · have e1 : (b == 84) = false := by simpa using h1
      by_cases h2 : b = 70
      · subst h2
        have : (70 :: l : List UInt8).count 70 = l.count 70 + 1 := by simp [List.count_cons]
        simp only [e1, beq_self_eq_true, if_true, Bool.false_eq_true, if_false, pairsL_inv l, sumPx h1, this, Nat.mul_succ]
        omega
      · have e2 : (b == 70) = false := by simpa using h2
        have : (b :: l : List UInt8).count 70 = l.count 70 := by simp [List.count_cons, h2]
        simp only [e1, e2, Bool.false_eq_true, if_false, pairsL_inv l, sumPx h1, this]
        omega
theorem pairsB_inv (w : List UInt8) : pairsB w = inv vP w := by
  unfold pairsB; rw [pairsL_inv]; omega

/-! ### Moves -/
theorem set2 (A B : List UInt8) (x y v u : UInt8) : ((A ++ ([x, y] ++ B)).set (A.length + 1) v).set A.length u = A ++ ([u, v] ++ B) := by
  simp [List.set_append]
theorem set2' (A B : List UInt8) (x y v u : UInt8) : ((A ++ ([x, y] ++ B)).set A.length v).set (A.length + 1) u = A ++ ([v, u] ++ B) := by
  simp [List.set_append]
theorem set3 (A B : List UInt8) (x y z v u : UInt8) : ((A ++ ([x, y, z] ++ B)).set (A.length + 2) v).set A.length u = A ++ ([u, y, v] ++ B) := by
  simp [List.set_append]
theorem set3' (A B : List UInt8) (x y z v u : UInt8) : ((A ++ ([x, y, z] ++ B)).set A.length v).set (A.length + 2) u = A ++ ([v, y, u] ++ B) := by
  simp [List.set_append]
theorem split2 {w : List UInt8} {i : Nat} (h : i + 1 < w.length) : w = w.take i ++ ([w.getD i 0, w.getD (i + 1) 0] ++ w.drop (i + 2)) := by
  have e1 : w.getD i 0 = w[i] := by simp [List.getD_eq_getElem?_getD, show i < w.length by omega]
  have e2 : w.getD (i + 1) 0 = w[i + 1] := by simp [List.getD_eq_getElem?_getD, h]
  rw [e1, e2]
  simp
theorem split3 {w : List UInt8} {i : Nat} (h : i + 2 < w.length) : w = w.take i ++ ([w.getD i 0, w.getD (i + 1) 0, w.getD (i + 2) 0] ++ w.drop (i + 3)) := by
  have e1 : w.getD i 0 = w[i] := by simp [List.getD_eq_getElem?_getD, show i < w.length by omega]
  have e2 : w.getD (i + 1) 0 = w[i + 1] := by simp [List.getD_eq_getElem?_getD, show i + 1 < w.length by omega]
  have e3 : w.getD (i + 2) 0 = w[i + 2] := by simp [List.getD_eq_getElem?_getD, h]
  rw [e1, e2, e3]
  simp
/-- How a move turns a line. -/
theorem mv_parts {w : List UInt8} {i t : Nat} (h : Mv w i t) : ∃ A X X' B, w = A ++ (X ++ B) ∧ madeB w i t = A ++ (X' ++ B) ∧
    ((t = i + 1 ∧ X = [84, 46] ∧ X' = [46, 84]) ∨ (t = i + 2 ∧ X = [84, 70, 46] ∧ X' = [46, 70, 84]) ∨ (t + 1 = i ∧ X = [46, 70] ∧ X' = [70, 46]) ∨ (t + 2 = i ∧ X = [46, 84, 70] ∧ X' = [70, 84, 46])) := by
  obtain ⟨hi, ht, h46, h⟩ := h
  unfold madeB
  rcases h with ⟨ha, rfl | ⟨rfl, hb⟩⟩ | ⟨ha, rfl | ⟨rfl, hb⟩⟩
  · have hs := split2 ht
    have hA : (w.take i).length = i := by simp; omega
    rw [ha, h46] at hs
    refine ⟨w.take i, _, _, _, hs, ?_, .inl ⟨rfl, rfl, rfl⟩⟩
    have := set2 (w.take i) (w.drop (i + 2)) 84 46 84 46
    rw [hA, ← hs] at this
    rw [ha]; exact this
  · have hs := split3 ht
    have hA : (w.take i).length = i := by simp; omega
    rw [ha, hb, h46] at hs
    refine ⟨w.take i, _, _, _, hs, ?_, .inr (.inl ⟨rfl, rfl, rfl⟩)⟩
    have := set3 (w.take i) (w.drop (i + 3)) 84 70 46 84 46
    rw [hA, ← hs] at this
    rw [ha]; exact this
  · have hs := split2 hi
    have hA : (w.take t).length = t := by simp; omega
    rw [ha, h46] at hs
    refine ⟨w.take t, _, _, _, hs, ?_, .inr (.inr (.inl ⟨rfl, rfl, rfl⟩))⟩
    have := set2' (w.take t) (w.drop (t + 2)) 46 70 70 46
    rw [hA, ← hs] at this
    rw [ha]; exact this
  · have hs := split3 hi
    have hA : (w.take t).length = t := by simp; omega
    have hb' : w.getD (t + 1) 0 = 84 := hb
    rw [ha, hb', h46] at hs
    refine ⟨w.take t, _, _, _, hs, ?_, .inr (.inr (.inr ⟨rfl, rfl, rfl⟩))⟩
    have := set3' (w.take t) (w.drop (t + 3)) 46 84 70 70 46
    rw [hA, ← hs] at this
    rw [ha]; exact this
def isJ (i t : Nat) : Bool := decide (t = i + 2 ∨ t + 2 = i)
theorem made_way {w : List UInt8} {i t : Nat} (h : Mv w i t) : wayN (madeB w i t) + (if isJ i t then 2 else 1) = wayN w ∧ pairsB (madeB w i t) + (if isJ i t then 1 else 0) = pairsB w := by
  rw [pairsB_inv, pairsB_inv]
  unfold wayN
  obtain ⟨A, X, X', B, hw, hm, hc⟩ := mv_parts h
  rw [hm]
  have hX : ∀ g : UInt8 → Nat, (X'.map g).sum = (X.map g).sum := by
    intro g
    rcases hc with ⟨_, rfl, rfl⟩ | ⟨_, rfl, rfl⟩ | ⟨_, rfl, rfl⟩ | ⟨_, rfl, rfl⟩ <;> simp <;> omega
  have h1 := inv_mid vW A B X X' hX
  have h2 := inv_mid vP A B X X' hX
  rw [← hw] at h1 h2
  rcases hc with ⟨rfl, rfl, rfl⟩ | ⟨rfl, rfl, rfl⟩ | ⟨rfl, rfl, rfl⟩ | ⟨rfl, rfl, rfl⟩
  · have hj : isJ i (i + 1) = false := by simp [isJ]; omega
    have a1 : inv vW [84, 46] = 1 := by decide
    have a2 : inv vW [46, 84] = 0 := by decide
    have a3 : inv vP [84, 46] = 0 := by decide
    have a4 : inv vP [46, 84] = 0 := by decide
    simp only [hj, Bool.false_eq_true, if_false]; omega
  · have hj : isJ i (i + 2) = true := by simp [isJ]
    have a1 : inv vW [84, 70, 46] = 3 := by decide
    have a2 : inv vW [46, 70, 84] = 1 := by decide
    have a3 : inv vP [84, 70, 46] = 1 := by decide
    have a4 : inv vP [46, 70, 84] = 0 := by decide
    simp only [hj, if_true]; omega
  · have hj : isJ (t + 1) t = false := by simp [isJ]; omega
    have a1 : inv vW [46, 70] = 1 := by decide
    have a2 : inv vW [70, 46] = 0 := by decide
    have a3 : inv vP [46, 70] = 0 := by decide
    have a4 : inv vP [70, 46] = 0 := by decide
    simp only [hj, Bool.false_eq_true, if_false]; omega
  · have hj : isJ (t + 2) t = true := by simp [isJ]
    have a1 : inv vW [46, 84, 70] = 3 := by decide
    have a2 : inv vW [70, 84, 46] = 1 := by decide
    have a3 : inv vP [46, 84, 70] = 1 := by decide
    have a4 : inv vP [70, 84, 46] = 0 := by decide
    simp only [hj, if_true]; omega

/-! ### The way, as both sides count it -/
def wayL : List UInt8 → Int → Int → Int → Int → Int
  | [], _, _, _, s => s
  | b :: l, t, f, i, s => if b == 84 then wayL l (t + 1) f (i + 1) (s + (t - i)) else if b == 70 then wayL l t (f + 1) (i + 1) (s + (i - f)) else wayL l t f (i + 1) s
theorem wayL_inv : ∀ (l : List UInt8) (d i f : Nat) (t s : Int), signs l → (i : Int) - f = d → t = i + (l.count 46 + l.count 70 : Nat) → wayL l t f i s = s + (d * l.count 70 + inv vW l : Nat)
  | [], d, i, f, t, s, _, _, _ => by simp [wayL, inv]
  | b :: l, d, i, f, t, s, hg, hd, ht => by
    rw [signs_cons] at hg
    rcases sign3 hg.1 with rfl | rfl | rfl
    · have c1 : (84 :: l : List UInt8).count 46 = l.count 46 := by simp [List.count_cons]
      have c2 : (84 :: l : List UInt8).count 70 = l.count 70 := by simp [List.count_cons]
      rw [c1, c2] at ht
      have := wayL_inv l (d + 1) (i + 1) f (t + 1) (s + (t - i)) hg.2 (by omega) (by omega)
      simp only [wayL, beq_self_eq_true, if_true, inv, sumW84, c2]
      rw [show ((i : Int) + 1) = ((i + 1 : Nat) : Int) by omega, this, Nat.succ_mul]
      omega
    · have c1 : (46 :: l : List UInt8).count 46 = l.count 46 + 1 := by simp [List.count_cons]
      have c2 : (46 :: l : List UInt8).count 70 = l.count 70 := by simp [List.count_cons]
      rw [c1, c2] at ht
      have := wayL_inv l (d + 1) (i + 1) f t s hg.2 (by omega) (by omega)
      have e1 : ((46 : UInt8) == 84) = false := rfl
      have e2 : ((46 : UInt8) == 70) = false := rfl
      simp only [wayL, e1, e2, Bool.false_eq_true, if_false, inv, sumW46, c2]
      rw [show ((i : Int) + 1) = ((i + 1 : Nat) : Int) by omega, this, Nat.succ_mul]
      omega
    · have c1 : (70 :: l : List UInt8).count 46 = l.count 46 := by simp [List.count_cons]
      have c2 : (70 :: l : List UInt8).count 70 = l.count 70 + 1 := by simp [List.count_cons]
      rw [c1, c2] at ht
      have := wayL_inv l d (i + 1) (f + 1) t (s + (i - f)) hg.2 (by omega) (by omega)
      have e1 : ((70 : UInt8) == 84) = false := rfl
      simp only [wayL, e1, beq_self_eq_true, Bool.false_eq_true, if_false, if_true, inv, sumW70, c2]
      rw [show ((i : Int) + 1) = ((i + 1 : Nat) : Int) by omega, show ((f : Int) + 1) = ((f + 1 : Nat) : Int) by omega, this, Nat.mul_succ]
      omega
theorem wayL_N {w : List UInt8} (hg : signs w) : wayL w ((w.length : Int) - (w.count 84 : Nat)) 0 0 0 = (wayN w : Nat) := by
  have := wayL_inv w 0 0 0 ((w.length : Int) - (w.count 84 : Nat)) 0 hg (by omega) (by have := cnt3 hg; omega)
  simpa [wayN] using this
def psB (b : UInt8) : Nat → List UInt8 → Nat
  | _, [] => 0
  | k, x :: l => (if x = b then k else 0) + psB b (k + 1) l
def tri : Nat → Nat
  | 0 => 0
  | m + 1 => tri m + m
theorem ps_way : ∀ (w : List UInt8) (k : Nat), signs w → psB 70 k w + w.count 84 * (k + w.count 46 + w.count 70) + tri (w.count 84) = psB 84 k w + w.count 70 * k + tri (w.count 70) + inv vW w
  | [], k, _ => by simp [psB, tri, inv]
  | b :: l, k, hg => by
    rw [signs_cons] at hg
    have ih := ps_way l (k + 1) hg.2
    generalize hT : l.count 84 = T at ih
    generalize hG : l.count 46 = G at ih
    generalize hF : l.count 70 = FF at ih
    have m1 : T * (k + 1 + G + FF) = T * (k + G + FF) + T := by rw [show k + 1 + G + FF = k + G + FF + 1 by omega, Nat.mul_succ]
    have m2 : FF * (k + 1) = FF * k + FF := Nat.mul_succ _ _
    rw [m1, m2] at ih
    rcases sign3 hg.1 with rfl | rfl | rfl
    · have c1 : (84 :: l : List UInt8).count 84 = T + 1 := by simp [List.count_cons, hT]
      have c2 : (84 :: l : List UInt8).count 46 = G := by simp [List.count_cons, hG]
      have c3 : (84 :: l : List UInt8).count 70 = FF := by simp [List.count_cons, hF]
      have p1 : psB 70 k (84 :: l) = psB 70 (k + 1) l := by simp [psB]
      have p2 : psB 84 k (84 :: l) = k + psB 84 (k + 1) l := by simp [psB]
      rw [c1, c2, c3, p1, p2, Nat.succ_mul]
      simp only [tri, inv, sumW84, hF, hG]
      omega
    · have c1 : (46 :: l : List UInt8).count 84 = T := by simp [List.count_cons, hT]
      have c2 : (46 :: l : List UInt8).count 46 = G + 1 := by simp [List.count_cons, hG]
      have c3 : (46 :: l : List UInt8).count 70 = FF := by simp [List.count_cons, hF]
      have p1 : psB 70 k (46 :: l) = psB 70 (k + 1) l := by simp [psB]
      have p2 : psB 84 k (46 :: l) = psB 84 (k + 1) l := by simp [psB]
      rw [c1, c2, c3, p1, p2, show k + (G + 1) + FF = k + G + FF + 1 by omega, Nat.mul_succ]
      simp only [inv, sumW46, hF]
      omega
    · have c1 : (70 :: l : List UInt8).count 84 = T := by simp [List.count_cons, hT]
      have c2 : (70 :: l : List UInt8).count 46 = G := by simp [List.count_cons, hG]
      have c3 : (70 :: l : List UInt8).count 70 = FF + 1 := by simp [List.count_cons, hF]
      have p1 : psB 70 k (70 :: l) = k + psB 70 (k + 1) l := by simp [psB]
      have p2 : psB 84 k (70 :: l) = psB 84 (k + 1) l := by simp [psB]
      rw [c1, c2, c3, p1, p2, show k + G + (FF + 1) = k + G + FF + 1 by omega, Nat.mul_succ, Nat.succ_mul]
      simp only [tri, inv, sumW70]
      omega
def lastB (w : List UInt8) : List UInt8 := List.replicate (w.count 70) 70 ++ List.replicate (w.count 46) 46 ++ List.replicate (w.count 84) 84
theorem lastB_count (w : List UInt8) : (lastB w).count 84 = w.count 84 ∧ (lastB w).count 46 = w.count 46 ∧ (lastB w).count 70 = w.count 70 := by
  simp [lastB, List.count_append, List.count_replicate]
theorem lastB_signs (w : List UInt8) : signs (lastB w) := by
  unfold signs
  rw [List.all_eq_true]
  intro x hx
  simp only [lastB, List.mem_append, List.mem_replicate] at hx
  rcases hx with (⟨_, rfl⟩ | ⟨_, rfl⟩) | ⟨_, rfl⟩ <;> rfl
theorem lastB_len {w : List UInt8} (hg : signs w) : (lastB w).length = w.length := by
  have := cnt3 hg
  simp [lastB]; omega
theorem lastB_way (w : List UInt8) : wayN (lastB w) = 0 := by
  refine inv_zero ?_
  unfold lastB
  rw [List.pairwise_append, List.pairwise_append]
  refine ⟨⟨?_, ?_, ?_⟩, ?_, ?_⟩
  · rw [List.pairwise_replicate]; exact .inr rfl
  · rw [List.pairwise_replicate]; exact .inr rfl
  · intro a ha b hb
    rw [List.eq_of_mem_replicate ha, List.eq_of_mem_replicate hb]; rfl
  · rw [List.pairwise_replicate]; exact .inr rfl
  · intro a ha b hb
    rw [List.eq_of_mem_replicate hb]
    rw [List.mem_append] at ha
    rcases ha with ha | ha <;> rw [List.eq_of_mem_replicate ha] <;> rfl
theorem way_ps {w : List UInt8} (hg : signs w) : ((psB 84 0 (lastB w) : Nat) : Int) - (psB 84 0 w : Nat) + (psB 70 0 w : Nat) - (psB 70 0 (lastB w) : Nat) = (wayN w : Nat) := by
  have h1 := ps_way w 0 hg
  have h2 := ps_way (lastB w) 0 (lastB_signs w)
  obtain ⟨k1, k2, k3⟩ := lastB_count w
  have h3 := lastB_way w
  unfold wayN at h3 ⊢
  rw [k1, k2, k3, h3] at h2
  omega
theorem way_other (w : List UInt8) : wayN (otherL w) = wayN w := by
  unfold wayN otherL
  rw [inv_rev, inv_map]
  congr 1
  funext a b
  unfold vW otherB
  by_cases a1 : a = 84
  · subst a1
    by_cases b1 : b = 84
    · subst b1; rfl
    · by_cases b2 : b = 70
      · subst b2; rfl
      · by_cases b3 : b = 46
        · subst b3; rfl
        · simp [b1, b2, b3]
  · by_cases a2 : a = 70
    · subst a2
      by_cases b1 : b = 84
      · subst b1; rfl
      · by_cases b2 : b = 70
        · subst b2; rfl
        · by_cases b3 : b = 46
          · subst b3; rfl
          · simp [b1, b2, b3]
    · by_cases a3 : a = 46
      · subst a3
        by_cases b1 : b = 84
        · subst b1; rfl
        · by_cases b2 : b = 70
          · subst b2; rfl
          · simp [b1, b2]
      · simp [a1, a2, a3]
end Go.Proofs.YtoacbgjdflcceaaGreatDoor.Ab
