/- The proof that the law FnExactSolutions of the given program returns true for every input; the condition: the tables that the row lists are laid as the program's text lays them. -/
import Derived.Test.YtnkkgghpfgihfabDoorCards
import Derived.Test.YtnkkgghpfgihfabDoorTie
import Derived.OpenShut
import Derived.Deep.DeepHandedRow
import Derived.Lib.LaidTab
import Derived.Test.YtnkkgghpfgihfabDoorQ3
set_option linter.unusedSimpArgs false
set_option linter.unusedVariables false
/- PUZZLES: which there are, their solutions; the law's helpers. -/
namespace Go.Proofs.YtnkkgghpfgihfabDoor.Ab
open Go
set_option maxRecDepth 100000
set_option maxHeartbeats 4000000

def goodP (n : Int) (cs : List Clu) : Bool := decide (1 ≤ n ∧ n ≤ 5) && (decide (cs.length ≤ 6) && cs.all fun c => clueOk n c)
theorem goodP_iff {n : Int} {cs : List Clu} (h : goodP n cs = true) : ∃ m : Nat, n = m ∧ 1 ≤ m ∧ m ≤ 5 ∧ cs.length ≤ 6 ∧ ∀ c ∈ cs, clueOk n c = true := by
  simp only [goodP, Bool.and_eq_true, decide_eq_true_eq, List.all_eq_true] at h
  obtain ⟨⟨h1, h2⟩, h3, h4⟩ := h
  exact ⟨n.toNat, by omega, by omega, by omega, h3, h4⟩
theorem lp_pzGood (n : Int) (hn : 1 ≤ n ∧ n ≤ 5) {v : AV} {cs : List Clu} (hlen : cs.length < 2 ^ 30) {h0 : AH} {r : Nat} (hr0 : rdRow h0 r 0 0 1 = some [.int .i64 n]) (hs : Slc 3 encC h0 v cs) {R : X → Env → AH → Prop} : ∀ (rest pre : List Clu) (h : AH), cs = pre ++ rest → Pre h0 h →
    (∀ h', Pre h0 h' → (rest.all fun c => clueOk n c) = true → R (.exit 0) [] h') → (∀ h', Pre h0 h' → (rest.all fun c => clueOk n c) = false → R .ret [(2, .bool false)] h') →
    Cx (.loop lp160_0) [(1, .ptr r 0 0 2), (16, v), (17, .int .i64 cs.length), (18, .int .i64 pre.length)] h R k k
  | [], pre, h, hpre, hp, h1, h2 => by
    subst hpre
    rw [w_loopb (c := lp160_0) (d := lb160_0) rfl]; unfold lb160_0
    simp only [List.append_nil]
    simp (maxSteps := 1000000) (disch := first | omega | rfl | (simp only [zL, two63, room] <;> omega) | fail) only [↓reduceIte, ↓zP, zW, WOp, evOp, evBin, binI, binSh, binS, evNil, keyIs, keyEq, mkv, AV.cells, AV.sc, optv, bnd, env, put, Env.get, Env.set, Env.del, Env.dels, Env.init, res1, resL, resV, fillP, splice, newRow, Nat.reduceEqDiff, Nat.reduceLT, Nat.reduceLeDiff, Nat.reduceAdd, Nat.reduceMul, Nat.reduceSub, Nat.reduceBEq, reduceCtorEq, ↓zR, zQ, Tr, StA, StT]
    exact h1 h hp rfl
  | c :: rest, pre, h, hpre, hp, h1, h2 => by
    have ih := lp_pzGood n hn hlen hr0 hs (R := R) rest (pre ++ [c])
    have hll : cs.length = pre.length + 1 + rest.length := by rw [hpre]; simp; omega
    have hs' := hs.pre hp
    rw [hpre] at hs'
    obtain ⟨r1, k1, o1, hv, hr⟩ := hs'.at hlC
    rw [← hpre, hll] at hv
    subst hv
    rw [hll] at ih hlen ⊢
    have hlt : (pre.length : Int) < ((pre.length + 1 + rest.length : Nat) : Int) := by omega
    have hw1 : (pre.length : Int) + 1 = ((pre ++ [c]).length : Int) := by simp
    have hrr := rdRow_pre hp hr0
    have hrl := rd_lt hrr
    have hpush := Pre.push h (AO.row (encC c) 0 0 false)
    rw [w_loopb (c := lp160_0) (d := lb160_0) rfl]; unfold lb160_0
    simp (maxSteps := 1000000) (disch := first | omega | rfl | (simp only [zL, two63, room] <;> omega) | fail) only [↓reduceIte, ↓zP, zW, WOp, evOp, evBin, binI, binSh, binS, evNil, keyIs, keyEq, mkv, AV.cells, AV.sc, optv, bnd, env, put, Env.get, Env.set, Env.del, Env.dels, Env.init, res1, resL, resV, fillP, splice, newRow, Nat.reduceEqDiff, Nat.reduceLT, Nat.reduceLeDiff, Nat.reduceAdd, Nat.reduceMul, Nat.reduceSub, Nat.reduceBEq, reduceCtorEq, ↓zR, zQ, Tr, StA, StT, hlt, hr, hrr]
    refine c_pzClue n c.1 c.2.1 c.2.2 (by omega) ?_
    intro h3 hp3
    have hpp : Pre h0 h3 := hp.trans (hpush.trans hp3)
    cases e : clueOk n c
    · simp (maxSteps := 1000000) (disch := first | omega | rfl | (simp only [zL, two63, room] <;> omega) | fail) only [↓reduceIte, ↓zP, zW, WOp, evOp, evBin, binI, binSh, binS, evNil, keyIs, keyEq, mkv, AV.cells, AV.sc, optv, bnd, env, put, Env.get, Env.set, Env.del, Env.dels, Env.init, res1, resL, resV, fillP, splice, newRow, Nat.reduceEqDiff, Nat.reduceLT, Nat.reduceLeDiff, Nat.reduceAdd, Nat.reduceMul, Nat.reduceSub, Nat.reduceBEq, reduceCtorEq, ↓zR, zQ, Tr, StA, StT, e]
      exact h2 h3 hpp (by rw [List.all_cons, e]; rfl)
    · simp (maxSteps := 1000000) (disch := first | omega | rfl | (simp only [zL, two63, room] <;> omega) | fail) only [↓reduceIte, ↓zP, zW, WOp, evOp, evBin, binI, binSh, binS, evNil, keyIs, keyEq, mkv, AV.cells, AV.sc, optv, bnd, env, put, Env.get, Env.set, Env.del, Env.dels, Env.init, res1, resL, resV, fillP, splice, newRow, Nat.reduceEqDiff, Nat.reduceLT, Nat.reduceLeDiff, Nat.reduceAdd, Nat.reduceMul, Nat.reduceSub, Nat.reduceBEq, reduceCtorEq, ↓zR, zQ, Tr, StA, StT, e, hw1]
      rw [w_loopn (c := lp160_0) rfl]
      simp (maxSteps := 1000000) (disch := first | omega | rfl | (simp only [zL, two63, room] <;> omega) | fail) only [↓reduceIte, ↓zP, zW, WOp, evOp, evBin, binI, binSh, binS, evNil, keyIs, keyEq, mkv, AV.cells, AV.sc, optv, bnd, env, put, Env.get, Env.set, Env.del, Env.dels, Env.init, res1, resL, resV, fillP, splice, newRow, Nat.reduceEqDiff, Nat.reduceLT, Nat.reduceLeDiff, Nat.reduceAdd, Nat.reduceMul, Nat.reduceSub, Nat.reduceBEq, reduceCtorEq, ↓zR, zQ, Tr, StA, StT]
      exact ih h3 (by rw [hpre]; simp) hpp (fun h' q1 q2 => h1 h' q1 (by rw [List.all_cons, e, q2]; rfl)) (fun h' q1 q2 => h2 h' q1 (by rw [List.all_cons, e, q2]; rfl))
abbrev pzV (n : Int) (v : AV) : AV := .agg [.int .i64 n, v]
theorem sl_cells {α : Type} {esz : Nat} {enc : α → List AV} {h : AH} {v : AV} {L : List α} (hs : Slc esz enc h v L) : v.cells = [v] ∧ v.sc = true := by
  unfold Slc Sl at hs
  cases v <;> simp only at hs <;> first
    | exact ⟨rfl, rfl⟩
    | (exact hs.elim)
theorem c_pzGood (n : Int) {v : AV} {cs : List Clu} (hlen : cs.length < 2 ^ 30) {h : AH} (hs : Slc 3 encC h v cs) {post : AV → AH → Prop} (hp : ∀ h', Pre h h' → post (.bool (goodP n cs)) h') : S 160 [pzV n v] h post k := by
  have hpush := Pre.push h (AO.row [.int .i64 n, v] 0 0 false)
  have hsc := (sl_cells hs).2
  unfold AV.sc at hsc
  refine S_of rfl T160 ?_; unfold fi160
  unfold goodP at hp
  have hv := fun g => Slc.lenV (hs) (g := g) (ρ := fun _ => _) (x := .t 0) rfl; simp only [evOp] at hv
  by_cases h5 : 1 ≤ n ∧ n ≤ 5
  case neg =>
    simp (maxSteps := 1000000) (disch := first | omega | rfl | (simp only [zL, two63, room] <;> omega) | fail) only [↓reduceIte, ↓zP, zW, WOp, evOp, evBin, binI, binSh, binS, evNil, keyIs, keyEq, mkv, AV.cells, AV.sc, optv, bnd, env, put, Env.get, Env.set, Env.del, Env.dels, Env.init, res1, resL, resV, fillP, splice, newRow, Nat.reduceEqDiff, Nat.reduceLT, Nat.reduceLeDiff, Nat.reduceAdd, Nat.reduceMul, Nat.reduceSub, Nat.reduceBEq, reduceCtorEq, ↓zR, zQ, Tr, StA, StT, e_pzCells, h5, hsc]
    simpa [h5] using hp _ hpush
  by_cases h6 : cs.length ≤ 6
  case neg =>
    have h6' : (cs.length : Int) > 6 := by omega
    simp (maxSteps := 1000000) (disch := first | omega | rfl | (simp only [zL, two63, room] <;> omega) | fail) only [↓reduceIte, ↓zP, zW, WOp, evOp, evBin, binI, binSh, binS, evNil, keyIs, keyEq, mkv, AV.cells, AV.sc, optv, bnd, env, put, Env.get, Env.set, Env.del, Env.dels, Env.init, res1, resL, resV, fillP, splice, newRow, Nat.reduceEqDiff, Nat.reduceLT, Nat.reduceLeDiff, Nat.reduceAdd, Nat.reduceMul, Nat.reduceSub, Nat.reduceBEq, reduceCtorEq, ↓zR, zQ, Tr, StA, StT, e_pzCells, h5, hv, h6', hsc]
    simpa [h6] using hp _ hpush
  have h6' : ¬ ((cs.length : Int) > 6) := by omega
  simp (maxSteps := 1000000) (disch := first | omega | rfl | (simp only [zL, two63, room] <;> omega) | fail) only [↓reduceIte, ↓zP, zW, WOp, evOp, evBin, binI, binSh, binS, evNil, keyIs, keyEq, mkv, AV.cells, AV.sc, optv, bnd, env, put, Env.get, Env.set, Env.del, Env.dels, Env.init, res1, resL, resV, fillP, splice, newRow, Nat.reduceEqDiff, Nat.reduceLT, Nat.reduceLeDiff, Nat.reduceAdd, Nat.reduceMul, Nat.reduceSub, Nat.reduceBEq, reduceCtorEq, ↓zR, zQ, Tr, StA, StT, e_pzCells, h5, hv, h6', hsc]
  refine lp_pzGood n h5 hlen (r := h.length) ?_ (hs.pre hpush) cs [] _ rfl (Pre.refl _) ?_ ?_
  · rw [rd_last, if_pos (by simp)]; simp
  · intro h' hp' hall
    simp (maxSteps := 1000000) (disch := first | omega | rfl | (simp only [zL, two63, room] <;> omega) | fail) only [↓reduceIte, ↓zP, zW, WOp, evOp, evBin, binI, binSh, binS, evNil, keyIs, keyEq, mkv, AV.cells, AV.sc, optv, bnd, env, put, Env.get, Env.set, Env.del, Env.dels, Env.init, res1, resL, resV, fillP, splice, newRow, Nat.reduceEqDiff, Nat.reduceLT, Nat.reduceLeDiff, Nat.reduceAdd, Nat.reduceMul, Nat.reduceSub, Nat.reduceBEq, reduceCtorEq, ↓zR, zQ, Tr, StA, StT]
    simpa [h5, h6, hall] using hp h' (hpush.trans hp')
  · intro h' hp' hall
    simp (maxSteps := 1000000) (disch := first | omega | rfl | (simp only [zL, two63, room] <;> omega) | fail) only [↓reduceIte, ↓zP, zW, WOp, evOp, evBin, binI, binSh, binS, evNil, keyIs, keyEq, mkv, AV.cells, AV.sc, optv, bnd, env, put, Env.get, Env.set, Env.del, Env.dels, Env.init, res1, resL, resV, fillP, splice, newRow, Nat.reduceEqDiff, Nat.reduceLT, Nat.reduceLeDiff, Nat.reduceAdd, Nat.reduceMul, Nat.reduceSub, Nat.reduceBEq, reduceCtorEq, ↓zR, zQ, Tr, StA, StT]
    simpa [h5, h6, hall] using hp h' (hpush.trans hp')
theorem c_IsPuzzle1 (n : Int) (h5 : 1 ≤ n ∧ n ≤ 5) (c : Clu) {h : AH} {r : Nat} (hr : rdRow h r 0 0 1 = some [.int .i64 n]) {post : AV → AH → Prop} (hp : ∀ h', Pre h h' → post (.bool (!clueOk n c)) h') : S 176 [.agg (encC c), .ptr r 0 0 2] h post k := by
  have hpush := Pre.push h (AO.row (encC c) 0 0 false)
  have hrl := rd_lt hr
  refine S_of rfl T176 ?_; unfold fi176
  simp (maxSteps := 1000000) (disch := first | omega | rfl | (simp only [zL, two63, room] <;> omega) | fail) only [↓reduceIte, ↓zP, zW, WOp, evOp, evBin, binI, binSh, binS, evNil, keyIs, keyEq, mkv, AV.cells, AV.sc, optv, bnd, env, put, Env.get, Env.set, Env.del, Env.dels, Env.init, res1, resL, resV, fillP, splice, newRow, Nat.reduceEqDiff, Nat.reduceLT, Nat.reduceLeDiff, Nat.reduceAdd, Nat.reduceMul, Nat.reduceSub, Nat.reduceBEq, reduceCtorEq, ↓zR, zQ, Tr, StA, StT, hr]
  refine c_IsClue n c.1 c.2.1 c.2.2 (by omega) ?_
  intro h2 hp2
  have := hp h2 (hpush.trans hp2)
  simp (maxSteps := 1000000) (disch := first | omega | rfl | (simp only [zL, two63, room] <;> omega) | fail) only [↓reduceIte, ↓zP, zW, WOp, evOp, evBin, binI, binSh, binS, evNil, keyIs, keyEq, mkv, AV.cells, AV.sc, optv, bnd, env, put, Env.get, Env.set, Env.del, Env.dels, Env.init, res1, resL, resV, fillP, splice, newRow, Nat.reduceEqDiff, Nat.reduceLT, Nat.reduceLeDiff, Nat.reduceAdd, Nat.reduceMul, Nat.reduceSub, Nat.reduceBEq, reduceCtorEq, ↓zR, zQ, Tr, StA, StT, h5]
  exact this
theorem c_IsPuzzle (n : Int) {v : AV} {cs : List Clu} (hlen : cs.length < 2 ^ 30) {h : AH} (hs : Slc 3 encC h v cs) {post : AV → AH → Prop} (hp : ∀ h', Pre h h' → post (.bool (goodP n cs)) h') : S 166 [pzV n v] h post k := by
  have hpush := Pre.push h (AO.row [.int .i64 n, v] 0 0 false)
  have hsc := (sl_cells hs).2
  unfold AV.sc at hsc
  refine S_of rfl T166 ?_; unfold fi166
  unfold goodP at hp
  have hv := fun g => Slc.lenV (hs) (g := g) (ρ := fun _ => _) (x := .t 0) rfl; simp only [evOp] at hv
  by_cases h5 : 1 ≤ n ∧ n ≤ 5
  case neg =>
    simp (maxSteps := 1000000) (disch := first | omega | rfl | (simp only [zL, two63, room] <;> omega) | fail) only [↓reduceIte, ↓zP, zW, WOp, evOp, evBin, binI, binSh, binS, evNil, keyIs, keyEq, mkv, AV.cells, AV.sc, optv, bnd, env, put, Env.get, Env.set, Env.del, Env.dels, Env.init, res1, resL, resV, fillP, splice, newRow, Nat.reduceEqDiff, Nat.reduceLT, Nat.reduceLeDiff, Nat.reduceAdd, Nat.reduceMul, Nat.reduceSub, Nat.reduceBEq, reduceCtorEq, ↓zR, zQ, Tr, StA, StT, e_within, h5, hsc]
    simpa [h5] using hp _ hpush
  by_cases h6 : cs.length ≤ 6
  case neg =>
    have h6' : ¬ ((cs.length : Int) ≤ 6) := by omega
    simp (maxSteps := 1000000) (disch := first | omega | rfl | (simp only [zL, two63, room] <;> omega) | fail) only [↓reduceIte, ↓zP, zW, WOp, evOp, evBin, binI, binSh, binS, evNil, keyIs, keyEq, mkv, AV.cells, AV.sc, optv, bnd, env, put, Env.get, Env.set, Env.del, Env.dels, Env.init, res1, resL, resV, fillP, splice, newRow, Nat.reduceEqDiff, Nat.reduceLT, Nat.reduceLeDiff, Nat.reduceAdd, Nat.reduceMul, Nat.reduceSub, Nat.reduceBEq, reduceCtorEq, ↓zR, zQ, Tr, StA, StT, e_within, h5, hv, h6', hsc]
    simpa [h6] using hp _ hpush
  have h6' : (cs.length : Int) ≤ 6 := by omega
  simp (maxSteps := 1000000) (disch := first | omega | rfl | (simp only [zL, two63, room] <;> omega) | fail) only [↓reduceIte, ↓zP, zW, WOp, evOp, evBin, binI, binSh, binS, evNil, keyIs, keyEq, mkv, AV.cells, AV.sc, optv, bnd, env, put, Env.get, Env.set, Env.del, Env.dels, Env.init, res1, resL, resV, fillP, splice, newRow, Nat.reduceEqDiff, Nat.reduceLT, Nat.reduceLeDiff, Nat.reduceAdd, Nat.reduceMul, Nat.reduceSub, Nat.reduceBEq, reduceCtorEq, ↓zR, zQ, Tr, StA, StT, e_within, h5, hv, h6', hsc]
  refine c_ContainsFuncC _ _ (fun c => !clueOk n c) (fun h' => Pre (h ++ [AO.row [.int .i64 n, v] 0 0 false]) h') (v := v) (L := cs) (by omega) (fun h' hp' => (hs.pre hpush).pre hp') ?_ (Pre.refl _) ?_
  · intro c hc h' hp' post hpost
    refine c_IsPuzzle1 n h5 c (r := h.length) ?_ fun h'' hp'' => hpost h'' (hp'.trans hp'')
    refine rdRow_pre hp' ?_
    rw [rd_last, if_pos (by simp)]; simp
  · intro h' hp'
    have := hp h' (hpush.trans hp')
    have e : (cs.all fun c => clueOk n c) = !(cs.any fun c => !clueOk n c) := by
      rw [Bool.eq_iff_iff]; simp
    rw [e] at this
    simp (maxSteps := 1000000) (disch := first | omega | rfl | (simp only [zL, two63, room] <;> omega) | fail) only [↓reduceIte, ↓zP, zW, WOp, evOp, evBin, binI, binSh, binS, evNil, keyIs, keyEq, mkv, AV.cells, AV.sc, optv, bnd, env, put, Env.get, Env.set, Env.del, Env.dels, Env.init, res1, resL, resV, fillP, splice, newRow, Nat.reduceEqDiff, Nat.reduceLT, Nat.reduceLeDiff, Nat.reduceAdd, Nat.reduceMul, Nat.reduceSub, Nat.reduceBEq, reduceCtorEq, ↓zR, zQ, Tr, StA, StT]
    simpa [h5, h6] using this

def solN (n : Int) (cs : List Clu) : List (List UInt8) := fitL n.toNat cs
theorem c_Solutions (n : Int) {v : AV} {cs : List Clu} (hlen : cs.length < 2 ^ 30) {h : AH} (hs : Slc 3 encC h v cs) {post : AV → AH → Prop} (hp : ∀ v' h', OwW 1 encS h h' v' (if goodP n cs then solN n cs else []) → Pre h h' → post (.tup [v', .bool (goodP n cs)]) h') : S 163 [pzV n v] h post k := by
  have hpush := Pre.push h (AO.row [.int .i64 n, v] 0 0 false)
  have hsc := (sl_cells hs).2
  unfold AV.sc at hsc
  have r2 : rdRow (h ++ [AO.row [.int .i64 n, v] 0 0 false]) h.length 0 0 2 = some [.int .i64 n, v] := by rw [rd_last, if_pos (by simp)]; simp
  have r0 : rdRow (h ++ [AO.row [.int .i64 n, v] 0 0 false]) h.length 0 0 1 = some [.int .i64 n] := by rw [rd_last, if_pos (by simp)]; simp
  have r1 : rdRow (h ++ [AO.row [.int .i64 n, v] 0 0 false]) h.length 0 1 1 = some [v] := by rw [rd_last, if_pos (by simp)]; simp
  refine S_of rfl T163 ?_; unfold fi163
  simp (maxSteps := 1000000) (disch := first | omega | rfl | (simp only [zL, two63, room] <;> omega) | fail) only [↓reduceIte, ↓zP, zW, WOp, evOp, evBin, binI, binSh, binS, evNil, keyIs, keyEq, mkv, AV.cells, AV.sc, optv, bnd, env, put, Env.get, Env.set, Env.del, Env.dels, Env.init, res1, resL, resV, fillP, splice, newRow, Nat.reduceEqDiff, Nat.reduceLT, Nat.reduceLeDiff, Nat.reduceAdd, Nat.reduceMul, Nat.reduceSub, Nat.reduceBEq, reduceCtorEq, ↓zR, zQ, Tr, StA, StT, hsc]
  refine c_IsPuzzle n hlen (hs.pre hpush) ?_
  intro h2 hp2
  have q0 := rdRow_pre hp2 r0
  have q1 := rdRow_pre hp2 r1
  cases e : goodP n cs
  · rw [e] at hp
    simp (maxSteps := 1000000) (disch := first | omega | rfl | (simp only [zL, two63, room] <;> omega) | fail) only [↓reduceIte, ↓zP, zW, WOp, evOp, evBin, binI, binSh, binS, evNil, keyIs, keyEq, mkv, AV.cells, AV.sc, optv, bnd, env, put, Env.get, Env.set, Env.del, Env.dels, Env.init, res1, resL, resV, fillP, splice, newRow, Nat.reduceEqDiff, Nat.reduceLT, Nat.reduceLeDiff, Nat.reduceAdd, Nat.reduceMul, Nat.reduceSub, Nat.reduceBEq, reduceCtorEq, ↓zR, zQ, Tr, StA, StT]
    exact hp .nilS h2 rfl (hpush.trans hp2)
  · rw [e] at hp
    obtain ⟨m, rfl, m1, m5, m6, mok⟩ := goodP_iff e
    simp (maxSteps := 1000000) (disch := first | omega | rfl | (simp only [zL, two63, room] <;> omega) | fail) only [↓reduceIte, ↓zP, zW, WOp, evOp, evBin, binI, binSh, binS, evNil, keyIs, keyEq, mkv, AV.cells, AV.sc, optv, bnd, env, put, Env.get, Env.set, Env.del, Env.dels, Env.init, res1, resL, resV, fillP, splice, newRow, Nat.reduceEqDiff, Nat.reduceLT, Nat.reduceLeDiff, Nat.reduceAdd, Nat.reduceMul, Nat.reduceSub, Nat.reduceBEq, reduceCtorEq, ↓zR, zQ, Tr, StA, StT, q0, q1]
    refine c_solve m ⟨m1, m5⟩ hlen mok ((hs.pre hpush).pre hp2) ?_
    intro v' h3 ho hp3
    simp (maxSteps := 1000000) (disch := first | omega | rfl | (simp only [zL, two63, room] <;> omega) | fail) only [↓reduceIte, ↓zP, zW, WOp, evOp, evBin, binI, binSh, binS, evNil, keyIs, keyEq, mkv, AV.cells, AV.sc, optv, bnd, env, put, Env.get, Env.set, Env.del, Env.dels, Env.init, res1, resL, resV, fillP, splice, newRow, Nat.reduceEqDiff, Nat.reduceLT, Nat.reduceLeDiff, Nat.reduceAdd, Nat.reduceMul, Nat.reduceSub, Nat.reduceBEq, reduceCtorEq, ↓zR, zQ, Tr, StA, StT]
    refine hp v' h3 ?_ ((hpush.trans hp2).trans hp3)
    rw [if_pos rfl]
    exact ho.base (hpush.trans hp2).1
def countP (n : Int) (cs : List Clu) : Int := if goodP n cs then (solN n cs).length else 0
theorem c_szPuzzle (n : Int) {v : AV} {cs : List Clu} (hlen : cs.length < 2 ^ 63) {h : AH} (hs : Slc 3 encC h v cs) {post : AV → AH → Prop} (hp : ∀ h', Pre h h' → post (.int .i64 (if cs.length ≤ 1048576 then 1048576 - (cs.length : Int) else -1)) h') : S 135 [pzV n v, .int .i64 1048576] h post k := by
  have hpush := Pre.push h (AO.row [.int .i64 n, v] 0 0 false)
  have hsc := (sl_cells hs).2
  unfold AV.sc at hsc
  have hq := hp _ hpush
  have hv := fun g => Slc.lenV (hs) (g := g) (ρ := fun _ => _) (x := .t 0) rfl; simp only [evOp] at hv
  have e1 : S 159 [v, .int .i64 1048576] (h ++ [AO.row [.int .i64 n, v] 0 0 false]) = S 159 [v, .int .i64 1048576] (h ++ [AO.row [.int .i64 n, v] 0 0 false]) := rfl
  refine S_of rfl T135 ?_; unfold fi135
  by_cases hl : cs.length ≤ 1048576
  · rw [if_pos hl] at hq
    simp (maxSteps := 1000000) (disch := first | omega | rfl | (simp only [zL, two63, room] <;> omega) | fail) only [↓reduceIte, ↓zP, zW, WOp, evOp, evBin, binI, binSh, binS, evNil, keyIs, keyEq, mkv, AV.cells, AV.sc, optv, bnd, env, put, Env.get, Env.set, Env.del, Env.dels, Env.init, res1, resL, resV, fillP, splice, newRow, Nat.reduceEqDiff, Nat.reduceLT, Nat.reduceLeDiff, Nat.reduceAdd, Nat.reduceMul, Nat.reduceSub, Nat.reduceBEq, reduceCtorEq, ↓zR, zQ, Tr, StA, StT, hsc]
    refine S_of rfl T159 ?_; unfold fi159
    simp (maxSteps := 1000000) (disch := first | omega | rfl | (simp only [zL, two63, room] <;> omega) | fail) only [↓reduceIte, ↓zP, zW, WOp, evOp, evBin, binI, binSh, binS, evNil, keyIs, keyEq, mkv, AV.cells, AV.sc, optv, bnd, env, put, Env.get, Env.set, Env.del, Env.dels, Env.init, res1, resL, resV, fillP, splice, newRow, Nat.reduceEqDiff, Nat.reduceLT, Nat.reduceLeDiff, Nat.reduceAdd, Nat.reduceMul, Nat.reduceSub, Nat.reduceBEq, reduceCtorEq, ↓zR, zQ, Tr, StA, StT, hv]
    exact hq
  · rw [if_neg hl] at hq
    simp (maxSteps := 1000000) (disch := first | omega | rfl | (simp only [zL, two63, room] <;> omega) | fail) only [↓reduceIte, ↓zP, zW, WOp, evOp, evBin, binI, binSh, binS, evNil, keyIs, keyEq, mkv, AV.cells, AV.sc, optv, bnd, env, put, Env.get, Env.set, Env.del, Env.dels, Env.init, res1, resL, resV, fillP, splice, newRow, Nat.reduceEqDiff, Nat.reduceLT, Nat.reduceLeDiff, Nat.reduceAdd, Nat.reduceMul, Nat.reduceSub, Nat.reduceBEq, reduceCtorEq, ↓zR, zQ, Tr, StA, StT, hsc]
    refine S_of rfl T159 ?_; unfold fi159
    simp (maxSteps := 1000000) (disch := first | omega | rfl | (simp only [zL, two63, room] <;> omega) | fail) only [↓reduceIte, ↓zP, zW, WOp, evOp, evBin, binI, binSh, binS, evNil, keyIs, keyEq, mkv, AV.cells, AV.sc, optv, bnd, env, put, Env.get, Env.set, Env.del, Env.dels, Env.init, res1, resL, resV, fillP, splice, newRow, Nat.reduceEqDiff, Nat.reduceLT, Nat.reduceLeDiff, Nat.reduceAdd, Nat.reduceMul, Nat.reduceSub, Nat.reduceBEq, reduceCtorEq, ↓zR, zQ, Tr, StA, StT, hv]
    exact hq
theorem c_toClue (c : Clu) {h : AH} {post : AV → AH → Prop} (hp : ∀ h', Pre h h' → post (.agg (encC c)) h') : S 174 [.agg (encC c)] h post k := by
  refine S_of rfl T174 ?_; unfold fi174
  simp (maxSteps := 1000000) (disch := first | omega | rfl | (simp only [zL, two63, room] <;> omega) | fail) only [↓reduceIte, ↓zP, zW, WOp, evOp, evBin, binI, binSh, binS, evNil, keyIs, keyEq, mkv, AV.cells, AV.sc, optv, bnd, env, put, Env.get, Env.set, Env.del, Env.dels, Env.init, res1, resL, resV, fillP, splice, newRow, Nat.reduceEqDiff, Nat.reduceLT, Nat.reduceLeDiff, Nat.reduceAdd, Nat.reduceMul, Nat.reduceSub, Nat.reduceBEq, reduceCtorEq, ↓zR, zQ, Tr, StA, StT]
  exact hp _ ((Pre.push _ _).trans ((Pre.push _ _).trans (Pre.push _ _)))
theorem rep_flat (n : Nat) : (List.replicate n [AV.int .i64 0, AV.int .i64 0, AV.int .i64 0]).flatten = (List.replicate n ((0, 0, 0) : Clu)).flatMap encC := by
  induction n with
  | zero => rfl
  | succ n ih => rw [List.replicate_succ, List.replicate_succ, List.flatten_cons, List.flatMap_cons, ih]
theorem lp_toClueS {v : AV} {cs : List Clu} (hlen : cs.length < 2 ^ 30) {b : AH} (hs : Slc 3 encC b v cs) {R : X → Env → AH → Prop} : ∀ (rest pre : List Clu) (o : AV) (h : AH), cs = pre ++ rest → OwL 3 encC b h o (pre ++ List.replicate rest.length (0, 0, 0)) → Pre b h →
    (∀ o' h', OwL 3 encC b h' o' cs → Pre b h' → R (.exit 0) [(3, o')] h') → Cx (.loop lp162_0) [(0, v), (3, o), (4, .int .i64 pre.length)] h R k k
  | [], pre, o, h, hpre, ho, hp, hR => by
    rw [w_loopb (c := lp162_0) (d := lb162_0) rfl]; unfold lb162_0
    have hv := fun g => Slc.lenV ((hs.pre hp)) (g := g) (ρ := fun _ => _) (x := .t 0) rfl; simp only [evOp] at hv
    have hl : cs.length = pre.length := by rw [hpre]; simp
    simp (maxSteps := 1000000) (disch := first | omega | rfl | (simp only [zL, two63, room] <;> omega) | fail) only [↓reduceIte, ↓zP, zW, WOp, evOp, evBin, binI, binSh, binS, evNil, keyIs, keyEq, mkv, AV.cells, AV.sc, optv, bnd, env, put, Env.get, Env.set, Env.del, Env.dels, Env.init, res1, resL, resV, fillP, splice, newRow, Nat.reduceEqDiff, Nat.reduceLT, Nat.reduceLeDiff, Nat.reduceAdd, Nat.reduceMul, Nat.reduceSub, Nat.reduceBEq, reduceCtorEq, ↓zR, zQ, Tr, StA, StT, hv, hl]
    refine hR o h ?_ hp
    rw [hpre]
    simpa using ho
  | c :: rest, pre, o, h, hpre, ho, hp, hR => by
    have ih := lp_toClueS hlen hs (R := R) rest (pre ++ [c])
    have hv := fun g => Slc.lenV ((hs.pre hp)) (g := g) (ρ := fun _ => _) (x := .t 0) rfl; simp only [evOp] at hv
    have hll : cs.length = pre.length + 1 + rest.length := by rw [hpre]; simp; omega
    have hs' := hs.pre hp
    rw [hpre] at hs'
    obtain ⟨r1, k1, o1, hve, hr⟩ := hs'.at hlC
    rw [← hpre, hll] at hve
    subst hve
    have hlt : (pre.length : Int) < ((pre.length + 1 + rest.length : Nat) : Int) := by omega
    have hw1 : (pre.length : Int) + 1 = ((pre ++ [c]).length : Int) := by simp
    rw [List.length_cons, List.replicate_succ] at ho
    rw [w_loopb (c := lp162_0) (d := lb162_0) rfl]; unfold lb162_0
    simp (maxSteps := 1000000) (disch := first | omega | rfl | (simp only [zL, two63, room] <;> omega) | fail) only [↓reduceIte, ↓zP, zW, WOp, evOp, evBin, binI, binSh, binS, evNil, keyIs, keyEq, mkv, AV.cells, AV.sc, optv, bnd, env, put, Env.get, Env.set, Env.del, Env.dels, Env.init, res1, resL, resV, fillP, splice, newRow, Nat.reduceEqDiff, Nat.reduceLT, Nat.reduceLeDiff, Nat.reduceAdd, Nat.reduceMul, Nat.reduceSub, Nat.reduceBEq, reduceCtorEq, ↓zR, zQ, Tr, StA, StT, hlt, hr]
    refine c_toClue c ?_
    intro h2 hp2
    obtain ⟨r2, k2, o2, h3, rfl, hw, ho3, hb, hl3, hag⟩ := (ho.pre hp2).store hlC scC c
    have hlt2 : (pre.length : Int) < ((pre ++ ((0, 0, 0) : Clu) :: List.replicate rest.length ((0, 0, 0) : Clu)).length : Int) := by simp; omega
    simp (maxSteps := 1000000) (disch := first | omega | rfl | (simp only [zL, two63, room] <;> omega) | fail) only [↓reduceIte, ↓zP, zW, WOp, evOp, evBin, binI, binSh, binS, evNil, keyIs, keyEq, mkv, AV.cells, AV.sc, optv, bnd, env, put, Env.get, Env.set, Env.del, Env.dels, Env.init, res1, resL, resV, fillP, splice, newRow, Nat.reduceEqDiff, Nat.reduceLT, Nat.reduceLeDiff, Nat.reduceAdd, Nat.reduceMul, Nat.reduceSub, Nat.reduceBEq, reduceCtorEq, ↓zR, zQ, Tr, StA, StT, hlt2, hw, hw1]
    rw [w_loopn (c := lp162_0) rfl]
    simp (maxSteps := 1000000) (disch := first | omega | rfl | (simp only [zL, two63, room] <;> omega) | fail) only [↓reduceIte, ↓zP, zW, WOp, evOp, evBin, binI, binSh, binS, evNil, keyIs, keyEq, mkv, AV.cells, AV.sc, optv, bnd, env, put, Env.get, Env.set, Env.del, Env.dels, Env.init, res1, resL, resV, fillP, splice, newRow, Nat.reduceEqDiff, Nat.reduceLT, Nat.reduceLeDiff, Nat.reduceAdd, Nat.reduceMul, Nat.reduceSub, Nat.reduceBEq, reduceCtorEq, ↓zR, zQ, Tr, StA, StT]
    refine ih _ h3 (by rw [hpre]; simp) (by simpa using ho3) ?_ hR
    exact ⟨by rw [hl3]; exact Nat.le_trans hp.1 hp2.1, fun i hi => by rw [hag i (by omega), hp2.2 i (Nat.lt_of_lt_of_le hi hp.1), hp.2 i hi]⟩
theorem c_toClueS {v : AV} {cs : List Clu} (hlen : cs.length < 2 ^ 30) {h : AH} (hs : Slc 3 encC h v cs) {post : AV → AH → Prop} (hp : ∀ o' h', OwL 3 encC h h' o' cs → Pre h h' → post o' h') : S 162 [v] h post k := by
  refine S_of rfl T162 ?_; unfold fi162
  have hv := fun g => Slc.lenV (hs) (g := g) (ρ := fun _ => _) (x := .t 0) rfl; simp only [evOp] at hv
  have hr : (cs.length : Int) ≤ 1099511627776 := by omega
  have hroom : ((room : Nat) : Int) = 1099511627776 := rfl
  have hsc : ((List.replicate cs.length ((0, 0, 0) : Clu)).flatMap encC).all AV.sc = true := by
    rw [List.all_eq_true]
    intro x hx
    obtain ⟨c, _, hc⟩ := List.mem_flatMap.1 hx
    exact List.all_eq_true.1 (scC c) x hc
  simp (maxSteps := 1000000) (disch := first | omega | rfl | (simp only [zL, two63, room] <;> omega) | fail) only [↓reduceIte, ↓zP, zW, WOp, evOp, evBin, binI, binSh, binS, evNil, keyIs, keyEq, mkv, AV.cells, AV.sc, optv, bnd, env, put, Env.get, Env.set, Env.del, Env.dels, Env.init, res1, resL, resV, fillP, splice, newRow, Nat.reduceEqDiff, Nat.reduceLT, Nat.reduceLeDiff, Nat.reduceAdd, Nat.reduceMul, Nat.reduceSub, Nat.reduceBEq, reduceCtorEq, ↓zR, zQ, Tr, StA, StT, hv, hroom, rep_flat, hsc]
  refine lp_toClueS hlen (b := h) hs cs [] _ _ rfl ?_ (Pre.push _ _) ?_
  · unfold OwL Own
    exact ⟨rfl, by simp, by (rw [flat_len hlC]; try simp), Nat.le_refl _, (List.replicate cs.length ((0, 0, 0) : Clu)).flatMap encC, 0, by simp, Nat.le_refl _, by rw [flat_len hlC]; simp, by simp⟩
  · intro o' h' ho hp'
    simp (maxSteps := 1000000) (disch := first | omega | rfl | (simp only [zL, two63, room] <;> omega) | fail) only [↓reduceIte, ↓zP, zW, WOp, evOp, evBin, binI, binSh, binS, evNil, keyIs, keyEq, mkv, AV.cells, AV.sc, optv, bnd, env, put, Env.get, Env.set, Env.del, Env.dels, Env.init, res1, resL, resV, fillP, splice, newRow, Nat.reduceEqDiff, Nat.reduceLT, Nat.reduceLeDiff, Nat.reduceAdd, Nat.reduceMul, Nat.reduceSub, Nat.reduceBEq, reduceCtorEq, ↓zR, zQ, Tr, StA, StT]
    exact hp o' h' ho hp'
theorem c_toPuzzle (n : Int) {v : AV} {cs : List Clu} (hlen : cs.length < 2 ^ 30) {h : AH} (hs : Slc 3 encC h v cs) {post : AV → AH → Prop} (hp : ∀ o' h', OwL 3 encC h h' o' cs → Pre h h' → post (pzV n o') h') : S 136 [pzV n v] h post k := by
  have hsc := (sl_cells hs).2
  unfold AV.sc at hsc
  have hpre3 := (Pre.push h (AO.row [.int .i64 n, v] 0 0 false)).trans ((Pre.push _ (AO.row [.int .i64 0, .nilS] 0 0 false)).trans (Pre.push _ (AO.row [.int .i64 n, .nilS] 0 0 false)))
  refine S_of rfl T136 ?_; unfold fi136
  simp (maxSteps := 1000000) (disch := first | omega | rfl | (simp only [zL, two63, room] <;> omega) | fail) only [↓reduceIte, ↓zP, zW, WOp, evOp, evBin, binI, binSh, binS, evNil, keyIs, keyEq, mkv, AV.cells, AV.sc, optv, bnd, env, put, Env.get, Env.set, Env.del, Env.dels, Env.init, res1, resL, resV, fillP, splice, newRow, Nat.reduceEqDiff, Nat.reduceLT, Nat.reduceLeDiff, Nat.reduceAdd, Nat.reduceMul, Nat.reduceSub, Nat.reduceBEq, reduceCtorEq, ↓zR, zQ, Tr, StA, StT, hsc]
  generalize hg : h ++ [AO.row [.int .i64 n, v] 0 0 false] ++ [AO.row [.int .i64 0, .nilS] 0 0 false] = g1 at *
  refine c_toClueS hlen (hs.pre hpre3) ?_
  intro o h2 ho hp2
  have q1 := (sl_cells ho.slc).1
  have q2 := (sl_cells ho.slc).2
  simp only [AV.cells] at q1
  unfold AV.sc at q2
  have hb := pre_last hp2
  have hgl : g1.length = h.length + 2 := by rw [← hg]; simp
  have hb2 : h2[h.length + 1]? = some (AO.row [.int .i64 0, .nilS] 0 0 false) := by
    rw [hp2.2 _ (by simp; omega), List.getElem?_append_left (by omega), ← hg, List.getElem?_append_right (by simp)]
    simp
  have hlt := (List.getElem?_eq_some_iff.1 hb).1
  have hb3 : ∀ o' : AO, (h2.set g1.length o')[h.length + 1]? = some (AO.row [.int .i64 0, .nilS] 0 0 false) := fun o' => by rw [List.getElem?_set, if_neg (by omega), hb2]
  have hcl : (h ++ [AO.row [.int .i64 n, v] 0 0 false]).length = h.length + 1 := by simp
  rw [hcl]
  have hlt2 : h.length + 1 < h2.length := by omega
  simp (maxSteps := 1000000) (disch := first | omega | rfl | (simp only [zL, two63, room] <;> omega) | fail) only [↓reduceIte, ↓zP, zW, WOp, evOp, evBin, binI, binSh, binS, evNil, keyIs, keyEq, mkv, AV.cells, AV.sc, optv, bnd, env, put, Env.get, Env.set, Env.del, Env.dels, Env.init, res1, resL, resV, fillP, splice, newRow, Nat.reduceEqDiff, Nat.reduceLT, Nat.reduceLeDiff, Nat.reduceAdd, Nat.reduceMul, Nat.reduceSub, Nat.reduceBEq, reduceCtorEq, ↓zR, zQ, Tr, StA, StT, wr_of hb, wr_of (hb3 _), q1, q2, List.length_set]
  refine hp o _ ?_ ?_
  · refine own_base (b := g1 ++ [AO.row [.int .i64 n, .nilS] 0 0 false]) ?_ (by simp; omega)
    exact own_set (own_set ho (by simp)) (by simp; omega)
  · have := hpre3.trans hp2
    exact (this.set (by omega)).set (by omega)
theorem e_eqClue0 (c d : Clu) {h : AH} {post : AV → AH → Prop} (hp : ∀ h', Pre h h' → post (.bool (c == d)) h') : S 175 [.agg (encC c), .agg (encC d)] h post k := by
  obtain ⟨a1, a2, a3⟩ := c
  obtain ⟨b1, b2, b3⟩ := d
  have hq := hp _ ((Pre.push h (AO.row (encC (a1, a2, a3)) 0 0 false)).trans (Pre.push _ (AO.row (encC (b1, b2, b3)) 0 0 false)))
  have hb : (((a1, a2, a3) : Clu) == (b1, b2, b3)) = (a1 == b1 && (a2 == b2 && a3 == b3)) := rfl
  rw [hb] at hq
  refine S_of rfl T175 ?_; unfold fi175
  by_cases h1 : a1 = b1
  · by_cases h2 : a2 = b2
    · by_cases h3 : a3 = b3
      · simp (maxSteps := 1000000) (disch := first | omega | rfl | (simp only [zL, two63, room] <;> omega) | fail) only [↓reduceIte, ↓zP, zW, WOp, evOp, evBin, binI, binSh, binS, evNil, keyIs, keyEq, mkv, AV.cells, AV.sc, optv, bnd, env, put, Env.get, Env.set, Env.del, Env.dels, Env.init, res1, resL, resV, fillP, splice, newRow, Nat.reduceEqDiff, Nat.reduceLT, Nat.reduceLeDiff, Nat.reduceAdd, Nat.reduceMul, Nat.reduceSub, Nat.reduceBEq, reduceCtorEq, ↓zR, zQ, Tr, StA, StT]
        simpa [h1, h2, h3] using hq
      · simp (maxSteps := 1000000) (disch := first | omega | rfl | (simp only [zL, two63, room] <;> omega) | fail) only [↓reduceIte, ↓zP, zW, WOp, evOp, evBin, binI, binSh, binS, evNil, keyIs, keyEq, mkv, AV.cells, AV.sc, optv, bnd, env, put, Env.get, Env.set, Env.del, Env.dels, Env.init, res1, resL, resV, fillP, splice, newRow, Nat.reduceEqDiff, Nat.reduceLT, Nat.reduceLeDiff, Nat.reduceAdd, Nat.reduceMul, Nat.reduceSub, Nat.reduceBEq, reduceCtorEq, ↓zR, zQ, Tr, StA, StT]
        have e3 : (a3 == b3) = false := beq_eq_false_iff_ne.2 h3
        simpa [h1, h2, e3] using hq
    · simp (maxSteps := 1000000) (disch := first | omega | rfl | (simp only [zL, two63, room] <;> omega) | fail) only [↓reduceIte, ↓zP, zW, WOp, evOp, evBin, binI, binSh, binS, evNil, keyIs, keyEq, mkv, AV.cells, AV.sc, optv, bnd, env, put, Env.get, Env.set, Env.del, Env.dels, Env.init, res1, resL, resV, fillP, splice, newRow, Nat.reduceEqDiff, Nat.reduceLT, Nat.reduceLeDiff, Nat.reduceAdd, Nat.reduceMul, Nat.reduceSub, Nat.reduceBEq, reduceCtorEq, ↓zR, zQ, Tr, StA, StT]
      have e2 : (a2 == b2) = false := beq_eq_false_iff_ne.2 h2
      simpa [h1, e2] using hq
  · simp (maxSteps := 1000000) (disch := first | omega | rfl | (simp only [zL, two63, room] <;> omega) | fail) only [↓reduceIte, ↓zP, zW, WOp, evOp, evBin, binI, binSh, binS, evNil, keyIs, keyEq, mkv, AV.cells, AV.sc, optv, bnd, env, put, Env.get, Env.set, Env.del, Env.dels, Env.init, res1, resL, resV, fillP, splice, newRow, Nat.reduceEqDiff, Nat.reduceLT, Nat.reduceLeDiff, Nat.reduceAdd, Nat.reduceMul, Nat.reduceSub, Nat.reduceBEq, reduceCtorEq, ↓zR, zQ, Tr, StA, StT]
    have e1 : (a1 == b1) = false := beq_eq_false_iff_ne.2 h1
    simpa [e1] using hq
theorem beq_cc {α : Type} [BEq α] (x y : α) (l l' : List α) : (x :: l == y :: l') = (x == y && l == l') := rfl
theorem lp_eqClueS {v u : AV} {L M : List Clu} (hlen : L.length < 2 ^ 30) {b : AH} (hs : Slc 3 encC b v L) (ht : Slc 3 encC b u M) (hll : L.length = M.length) {R : X → Env → AH → Prop} : ∀ (rest rest' pre pre' : List Clu) (h : AH), L = pre ++ rest → M = pre' ++ rest' → pre.length = pre'.length → Pre b h →
    (∀ h', Pre b h' → (rest == rest') = true → R (.exit 0) [] h') → (∀ h', Pre b h' → (rest == rest') = false → R .ret [(4, .bool false)] h') → Cx (.loop lp164_0) [(0, v), (1, u), (5, .int .i64 pre.length)] h R k k
  | [], rest', pre, pre', h, hL, hM, hpp, hp, h1, h2 => by
    have : rest' = [] := by
      have e1 := congrArg List.length hL
      have e2 := congrArg List.length hM
      simp at e1 e2
      exact List.eq_nil_of_length_eq_zero (by omega)
    subst this
    rw [w_loopb (c := lp164_0) (d := lb164_0) rfl]; unfold lb164_0
    have hv := fun g => Slc.lenV ((hs.pre hp)) (g := g) (ρ := fun _ => _) (x := .t 0) rfl; simp only [evOp] at hv
    have hl : L.length = pre.length := by rw [hL]; simp
    simp (maxSteps := 1000000) (disch := first | omega | rfl | (simp only [zL, two63, room] <;> omega) | fail) only [↓reduceIte, ↓zP, zW, WOp, evOp, evBin, binI, binSh, binS, evNil, keyIs, keyEq, mkv, AV.cells, AV.sc, optv, bnd, env, put, Env.get, Env.set, Env.del, Env.dels, Env.init, res1, resL, resV, fillP, splice, newRow, Nat.reduceEqDiff, Nat.reduceLT, Nat.reduceLeDiff, Nat.reduceAdd, Nat.reduceMul, Nat.reduceSub, Nat.reduceBEq, reduceCtorEq, ↓zR, zQ, Tr, StA, StT, hv, hl]
    exact h1 h hp rfl
  | x :: rest, [], pre, pre', h, hL, hM, hpp, hp, h1, h2 => by
    have e1 := congrArg List.length hL
    have e2 := congrArg List.length hM
    simp at e1 e2
    omega
  | x :: rest, y :: rest', pre, pre', h, hL, hM, hpp, hp, h1, h2 => by
    have ih := lp_eqClueS hlen hs ht hll (R := R) rest rest' (pre ++ [x]) (pre' ++ [y])
    have hv := fun g => Slc.lenV ((hs.pre hp)) (g := g) (ρ := fun _ => _) (x := .t 0) rfl; simp only [evOp] at hv
    have hl : L.length = pre.length + 1 + rest.length := by rw [hL]; simp; omega
    have hm : M.length = pre.length + 1 + rest'.length := by rw [hM, hpp]; simp; omega
    have hs' := hs.pre hp
    have ht' := ht.pre hp
    rw [hL] at hs'
    rw [hM] at ht'
    obtain ⟨r1, k1, o1, hve, hr⟩ := hs'.at hlC
    obtain ⟨r2, k2, o2, hue, hr2⟩ := ht'.at hlC
    rw [← hL, hl] at hve
    rw [← hM, hm] at hue
    rw [← hpp] at hr2
    subst hve
    subst hue
    have hlt : (pre.length : Int) < ((pre.length + 1 + rest.length : Nat) : Int) := by omega
    have hlt2 : (pre.length : Int) < ((pre.length + 1 + rest'.length : Nat) : Int) := by omega
    have hw1 : (pre.length : Int) + 1 = ((pre ++ [x]).length : Int) := by simp
    rw [w_loopb (c := lp164_0) (d := lb164_0) rfl]; unfold lb164_0
    simp (maxSteps := 1000000) (disch := first | omega | rfl | (simp only [zL, two63, room] <;> omega) | fail) only [↓reduceIte, ↓zP, zW, WOp, evOp, evBin, binI, binSh, binS, evNil, keyIs, keyEq, mkv, AV.cells, AV.sc, optv, bnd, env, put, Env.get, Env.set, Env.del, Env.dels, Env.init, res1, resL, resV, fillP, splice, newRow, Nat.reduceEqDiff, Nat.reduceLT, Nat.reduceLeDiff, Nat.reduceAdd, Nat.reduceMul, Nat.reduceSub, Nat.reduceBEq, reduceCtorEq, ↓zR, zQ, Tr, StA, StT, hlt, hlt2, hr, hr2]
    refine e_eqClue0 x y ?_
    intro h3 hp3
    cases e : (x == y)
    · simp (maxSteps := 1000000) (disch := first | omega | rfl | (simp only [zL, two63, room] <;> omega) | fail) only [↓reduceIte, ↓zP, zW, WOp, evOp, evBin, binI, binSh, binS, evNil, keyIs, keyEq, mkv, AV.cells, AV.sc, optv, bnd, env, put, Env.get, Env.set, Env.del, Env.dels, Env.init, res1, resL, resV, fillP, splice, newRow, Nat.reduceEqDiff, Nat.reduceLT, Nat.reduceLeDiff, Nat.reduceAdd, Nat.reduceMul, Nat.reduceSub, Nat.reduceBEq, reduceCtorEq, ↓zR, zQ, Tr, StA, StT]
      exact h2 h3 (hp.trans hp3) (by rw [beq_cc, e]; rfl)
    · simp (maxSteps := 1000000) (disch := first | omega | rfl | (simp only [zL, two63, room] <;> omega) | fail) only [↓reduceIte, ↓zP, zW, WOp, evOp, evBin, binI, binSh, binS, evNil, keyIs, keyEq, mkv, AV.cells, AV.sc, optv, bnd, env, put, Env.get, Env.set, Env.del, Env.dels, Env.init, res1, resL, resV, fillP, splice, newRow, Nat.reduceEqDiff, Nat.reduceLT, Nat.reduceLeDiff, Nat.reduceAdd, Nat.reduceMul, Nat.reduceSub, Nat.reduceBEq, reduceCtorEq, ↓zR, zQ, Tr, StA, StT, hw1]
      rw [w_loopn (c := lp164_0) rfl]
      simp (maxSteps := 1000000) (disch := first | omega | rfl | (simp only [zL, two63, room] <;> omega) | fail) only [↓reduceIte, ↓zP, zW, WOp, evOp, evBin, binI, binSh, binS, evNil, keyIs, keyEq, mkv, AV.cells, AV.sc, optv, bnd, env, put, Env.get, Env.set, Env.del, Env.dels, Env.init, res1, resL, resV, fillP, splice, newRow, Nat.reduceEqDiff, Nat.reduceLT, Nat.reduceLeDiff, Nat.reduceAdd, Nat.reduceMul, Nat.reduceSub, Nat.reduceBEq, reduceCtorEq, ↓zR, zQ, Tr, StA, StT]
      refine ih h3 (by rw [hL]; simp) (by rw [hM]; simp) (by simp [hpp]) (hp.trans hp3) (fun h' q1 q2 => h1 h' q1 (by rw [beq_cc, e, q2]; rfl)) (fun h' q1 q2 => h2 h' q1 (by rw [beq_cc, e, q2]; rfl))
theorem c_eqClueS {v u : AV} {L M : List Clu} (hlen : L.length < 2 ^ 30) {h : AH} (hs : Slc 3 encC h v L) (ht : Slc 3 encC h u M) {post : AV → AH → Prop} (hp : ∀ h', Pre h h' → post (.bool (L == M)) h') : S 164 [v, u] h post k := by
  refine S_of rfl T164 ?_; unfold fi164
  have hv := fun g => Slc.lenV (hs) (g := g) (ρ := fun _ => _) (x := .t 0) rfl; simp only [evOp] at hv
  have hu := fun g => Slc.lenV (ht) (g := g) (ρ := fun _ => _) (x := .t 0) rfl; simp only [evOp] at hu
  by_cases hl : L.length = M.length
  · simp (maxSteps := 1000000) (disch := first | omega | rfl | (simp only [zL, two63, room] <;> omega) | fail) only [↓reduceIte, ↓zP, zW, WOp, evOp, evBin, binI, binSh, binS, evNil, keyIs, keyEq, mkv, AV.cells, AV.sc, optv, bnd, env, put, Env.get, Env.set, Env.del, Env.dels, Env.init, res1, resL, resV, fillP, splice, newRow, Nat.reduceEqDiff, Nat.reduceLT, Nat.reduceLeDiff, Nat.reduceAdd, Nat.reduceMul, Nat.reduceSub, Nat.reduceBEq, reduceCtorEq, ↓zR, zQ, Tr, StA, StT, hv, hu, hl]
    refine lp_eqClueS hlen hs ht hl L M [] [] h rfl rfl rfl (Pre.refl _) ?_ ?_
    · intro h' hp' e
      simp (maxSteps := 1000000) (disch := first | omega | rfl | (simp only [zL, two63, room] <;> omega) | fail) only [↓reduceIte, ↓zP, zW, WOp, evOp, evBin, binI, binSh, binS, evNil, keyIs, keyEq, mkv, AV.cells, AV.sc, optv, bnd, env, put, Env.get, Env.set, Env.del, Env.dels, Env.init, res1, resL, resV, fillP, splice, newRow, Nat.reduceEqDiff, Nat.reduceLT, Nat.reduceLeDiff, Nat.reduceAdd, Nat.reduceMul, Nat.reduceSub, Nat.reduceBEq, reduceCtorEq, ↓zR, zQ, Tr, StA, StT]
      exact e ▸ hp h' hp'
    · intro h' hp' e
      simp (maxSteps := 1000000) (disch := first | omega | rfl | (simp only [zL, two63, room] <;> omega) | fail) only [↓reduceIte, ↓zP, zW, WOp, evOp, evBin, binI, binSh, binS, evNil, keyIs, keyEq, mkv, AV.cells, AV.sc, optv, bnd, env, put, Env.get, Env.set, Env.del, Env.dels, Env.init, res1, resL, resV, fillP, splice, newRow, Nat.reduceEqDiff, Nat.reduceLT, Nat.reduceLeDiff, Nat.reduceAdd, Nat.reduceMul, Nat.reduceSub, Nat.reduceBEq, reduceCtorEq, ↓zR, zQ, Tr, StA, StT]
      exact e ▸ hp h' hp'
  · have hne : ((L.length : Int) != (M.length : Int)) = true := by simp; omega
    simp (maxSteps := 1000000) (disch := first | omega | rfl | (simp only [zL, two63, room] <;> omega) | fail) only [↓reduceIte, ↓zP, zW, WOp, evOp, evBin, binI, binSh, binS, evNil, keyIs, keyEq, mkv, AV.cells, AV.sc, optv, bnd, env, put, Env.get, Env.set, Env.del, Env.dels, Env.init, res1, resL, resV, fillP, splice, newRow, Nat.reduceEqDiff, Nat.reduceLT, Nat.reduceLeDiff, Nat.reduceAdd, Nat.reduceMul, Nat.reduceSub, Nat.reduceBEq, reduceCtorEq, ↓zR, zQ, Tr, StA, StT, hv, hu, hne]
    have : (L == M) = false := by
      rw [beq_eq_false_iff_ne]; rintro rfl; exact hl rfl
    exact this ▸ hp h (Pre.refl _)
theorem c_eqPuzzle (n m : Int) {v u : AV} {L M : List Clu} (hlen : L.length < 2 ^ 30) {h : AH} (hs : Slc 3 encC h v L) (ht : Slc 3 encC h u M) {post : AV → AH → Prop} (hp : ∀ h', Pre h h' → post (.bool (n == m && L == M)) h') : S 139 [pzV n v, pzV m u] h post k := by
  have hsc := (sl_cells hs).2
  have hsu := (sl_cells ht).2
  unfold AV.sc at hsc hsu
  have hpp := (Pre.push h (AO.row [.int .i64 n, v] 0 0 false)).trans (Pre.push _ (AO.row [.int .i64 m, u] 0 0 false))
  have hq := hp _ hpp
  refine S_of rfl T139 ?_; unfold fi139
  by_cases h1 : n = m
  · subst h1
    simp (maxSteps := 1000000) (disch := first | omega | rfl | (simp only [zL, two63, room] <;> omega) | fail) only [↓reduceIte, ↓zP, zW, WOp, evOp, evBin, binI, binSh, binS, evNil, keyIs, keyEq, mkv, AV.cells, AV.sc, optv, bnd, env, put, Env.get, Env.set, Env.del, Env.dels, Env.init, res1, resL, resV, fillP, splice, newRow, Nat.reduceEqDiff, Nat.reduceLT, Nat.reduceLeDiff, Nat.reduceAdd, Nat.reduceMul, Nat.reduceSub, Nat.reduceBEq, reduceCtorEq, ↓zR, zQ, Tr, StA, StT, hsc, hsu]
    refine c_eqClueS hlen (hs.pre hpp) (ht.pre hpp) ?_
    intro h' hp'
    have := hp h' (hpp.trans hp')
    cases e : (L == M) <;> simp (maxSteps := 1000000) (disch := first | omega | rfl | (simp only [zL, two63, room] <;> omega) | fail) only [↓reduceIte, ↓zP, zW, WOp, evOp, evBin, binI, binSh, binS, evNil, keyIs, keyEq, mkv, AV.cells, AV.sc, optv, bnd, env, put, Env.get, Env.set, Env.del, Env.dels, Env.init, res1, resL, resV, fillP, splice, newRow, Nat.reduceEqDiff, Nat.reduceLT, Nat.reduceLeDiff, Nat.reduceAdd, Nat.reduceMul, Nat.reduceSub, Nat.reduceBEq, reduceCtorEq, ↓zR, zQ, Tr, StA, StT] <;> simpa [e] using this
  · simp (maxSteps := 1000000) (disch := first | omega | rfl | (simp only [zL, two63, room] <;> omega) | fail) only [↓reduceIte, ↓zP, zW, WOp, evOp, evBin, binI, binSh, binS, evNil, keyIs, keyEq, mkv, AV.cells, AV.sc, optv, bnd, env, put, Env.get, Env.set, Env.del, Env.dels, Env.init, res1, resL, resV, fillP, splice, newRow, Nat.reduceEqDiff, Nat.reduceLT, Nat.reduceLeDiff, Nat.reduceAdd, Nat.reduceMul, Nat.reduceSub, Nat.reduceBEq, reduceCtorEq, ↓zR, zQ, Tr, StA, StT, hsc, hsu]
    have e1 : (n == m) = false := beq_eq_false_iff_ne.2 h1
    simpa [e1] using hq

end Go.Proofs.YtnkkgghpfgihfabDoor.Ab

/- PUZZLES: the first solution, whether one alone is left; their laws. -/
namespace Go.Proofs.YtnkkgghpfgihfabDoor.Ab
open Go
set_option maxRecDepth 100000
set_option maxHeartbeats 4000000

def solP (n : Int) (cs : List Clu) : List (List UInt8) := if goodP n cs then solN n cs else []

end Go.Proofs.YtnkkgghpfgihfabDoor.Ab

/- MARKS: what the laws' helpers write into a slice and find there again; slices of numbers compared. -/
namespace Go.Proofs.YtnkkgghpfgihfabDoor.Ab
open Go
set_option maxRecDepth 100000
set_option maxHeartbeats 4000000

theorem splice_in {X vs : List AV} {o : Nat} (h : o + vs.length ≤ X.length) (A Z : List AV) {n : Nat} (hn : n = A.length + o) : splice (A ++ (X ++ Z)) n vs = A ++ (splice X o vs ++ Z) := by
  subst hn
  unfold splice
  rw [List.take_append, List.take_of_length_le (by omega), show A.length + o - A.length = o by omega, List.take_append_of_le_length (by omega),
    List.drop_append, List.drop_of_length_le (by omega), show A.length + o + vs.length - A.length = o + vs.length by omega, List.drop_append_of_le_length (by omega)]
  simp
theorem OwW.store {α : Type} {esz : Nat} {enc : α → List AV} (hl : ∀ x, (enc x).length = esz) {b h : AH} {v : AV} {pre : List α} {x : α} {rest : List α} (ho : OwW esz enc b h v (pre ++ x :: rest)) (y : α) (o : Nat) (vs : List AV) (hvs : o + vs.length ≤ esz) (hsc : vs.all AV.sc = true) (hy : splice (enc x) o vs = enc y) :
    ∃ c kk off h', v = .slice c kk off (pre ++ x :: rest).length esz ∧ wrRow h c kk (off + pre.length * esz + o) vs = some h' ∧ OwW esz enc b h' v (pre ++ y :: rest) ∧ PreV v h h' := by
  unfold OwW at ho
  cases v <;> simp only at ho <;> first
    | (exact ho.elim)
    | (simp at ho; done)
    | skip
  rename_i c kk off len e
  obtain ⟨rfl, rfl, h3, A, Z, fl, h4, h5, h6⟩ := ho
  have hlt := (List.getElem?_eq_some_iff.1 h4).1
  have hpl := flat_len hl pre
  have hrow : A ++ (pre ++ x :: rest).flatMap enc ++ Z = (A ++ pre.flatMap enc) ++ (enc x ++ (rest.flatMap enc ++ Z)) := by simp
  have hsp := splice_in (X := enc x) (vs := vs) (o := o) (by rw [hl]; exact hvs) (A ++ pre.flatMap enc) (rest.flatMap enc ++ Z) (n := off + pre.length * e + o) (by rw [List.length_append, hpl, h6])
  rw [hrow] at h4
  refine ⟨c, kk, off, h.set c (.row (splice ((A ++ pre.flatMap enc) ++ (enc x ++ (rest.flatMap enc ++ Z))) (off + pre.length * e + o) vs) kk kk false), rfl, ?_, ?_, ?_⟩
  · unfold wrRow
    rw [h4]
    simp only
    rw [if_pos ⟨trivial, h5, by simp only [List.length_append, hpl, hl, h6]; omega, hsc⟩]
  · unfold OwW
    simp only
    refine ⟨trivial, by simp, h3, A, Z, kk, ?_, Nat.le_refl _, h6⟩
    rw [List.getElem?_set, if_pos rfl, if_pos hlt, hsp, hy]
    simp
  · exact ⟨by simp, fun i _ hc => by rw [List.getElem?_set, if_neg (hc c kk off _ e rfl ·.symm)]⟩
theorem PreV.trans {v : AV} {a b c : AH} (x : PreV v a b) (y : PreV v b c) : PreV v a c := ⟨Nat.le_trans x.1 y.1, fun i hi hc => by rw [y.2 i (Nat.lt_of_lt_of_le hi x.1) hc, x.2 i hi hc]⟩
theorem PreV.refl (v : AV) (a : AH) : PreV v a a := ⟨Nat.le_refl _, fun _ _ _ => rfl⟩

def cntL : Int → Nat → List Int
  | _, 0 => []
  | q, n + 1 => q :: cntL (q + 1) n
theorem cntL_len : ∀ (n : Nat) (q : Int), (cntL q n).length = n
  | 0, _ => rfl
  | n + 1, q => by simp [cntL, cntL_len n]
theorem lp_markClueS {b : AH} {v : AV} {R : X → Env → AH → Prop} : ∀ (rest pre : List Clu) (q : Int) (h : AH), OwW 3 encC b h v (pre ++ rest) → pre.length + rest.length < 2 ^ 30 → 0 ≤ q → q + 3 * rest.length < 2 ^ 40 →
    (∀ h', PreV v h h' → R (.exit 0) [(1, .int .i64 (q + 3 * rest.length))] h') → Cx (.loop lp170_0) [(0, v), (1, .int .i64 q), (5, .int .i64 pre.length)] h R k k
  | [], pre, q, h, ho, hb, h0, hq, hR => by
    rw [w_loopb (c := lp170_0) (d := lb170_0) rfl]; unfold lb170_0
    have hv := fun g => Slc.lenV ((ho.slc hlC)) (g := g) (ρ := fun _ => _) (x := .t 0) rfl; simp only [evOp] at hv
    simp only [List.append_nil] at hv
    simp (maxSteps := 1000000) (disch := first | omega | rfl | (simp only [zL, two63, room] <;> omega) | fail) only [↓reduceIte, ↓zP, zW, WOp, evOp, evBin, binI, binSh, binS, evNil, keyIs, keyEq, mkv, AV.cells, AV.sc, optv, bnd, env, put, Env.get, Env.set, Env.del, Env.dels, Env.init, res1, resL, resV, fillP, splice, newRow, Nat.reduceEqDiff, Nat.reduceLT, Nat.reduceLeDiff, Nat.reduceAdd, Nat.reduceMul, Nat.reduceSub, Nat.reduceBEq, reduceCtorEq, ↓zR, zQ, Tr, StA, StT, hv]
    have := hR h (PreV.refl _ _)
    simpa using this
  | (x1, x2, x3) :: rest, pre, q, h, ho, hb, h0, hq, hR => by
    have ih := lp_markClueS (b := b) (v := v) (R := R) rest (pre ++ [(q, q + 1, q + 2)]) (q + 3)
    obtain ⟨c, kk, off, h1, hve, hw, ho1, hpv1⟩ := ho.store hlC (q, x2, x3) 0 [.int .i64 q] (by simp) rfl rfl
    obtain ⟨c', kk', off', h2, hve2, hw2, ho2, hpv2⟩ := ho1.store hlC (q, q + 1, x3) 1 [.int .i64 (q + 1)] (by simp) rfl rfl
    obtain ⟨c'', kk'', off'', h3, hve3, hw3, ho3, hpv3⟩ := ho2.store hlC (q, q + 1, q + 2) 2 [.int .i64 (q + 2)] (by simp) rfl rfl
    rw [hve] at hve2 hve3
    simp only [AV.slice.injEq] at hve2 hve3
    obtain ⟨rfl, rfl, rfl, -⟩ := hve2
    obtain ⟨rfl, rfl, rfl, -⟩ := hve3
    have hl : (pre ++ (x1, x2, x3) :: rest).length = pre.length + 1 + rest.length := by simp; omega
    have hv := fun g => Slc.lenV ((ho.slc hlC)) (g := g) (ρ := fun _ => _) (x := .t 0) rfl; simp only [evOp] at hv
    rw [hl] at hve hv
    subst hve
    simp only [List.length_cons] at hb hq
    have hlt : (pre.length : Int) < ((pre.length + 1 + rest.length : Nat) : Int) := by omega
    have hw1 : (pre.length : Int) + 1 = ((pre ++ [((q, q + 1, q + 2) : Clu)]).length : Int) := by simp
    have hq2 : q + 1 + 1 = q + 2 := by omega
    have hq3 : q + 2 + 1 = q + 3 := by omega
    rw [w_loopb (c := lp170_0) (d := lb170_0) rfl]; unfold lb170_0
    simp (maxSteps := 1000000) (disch := first | omega | rfl | (simp only [zL, two63, room] <;> omega) | fail) only [↓reduceIte, ↓zP, zW, WOp, evOp, evBin, binI, binSh, binS, evNil, keyIs, keyEq, mkv, AV.cells, AV.sc, optv, bnd, env, put, Env.get, Env.set, Env.del, Env.dels, Env.init, res1, resL, resV, fillP, splice, newRow, Nat.reduceEqDiff, Nat.reduceLT, Nat.reduceLeDiff, Nat.reduceAdd, Nat.reduceMul, Nat.reduceSub, Nat.reduceBEq, reduceCtorEq, ↓zR, zQ, Tr, StA, StT, hv, hlt, hw, hw2, hw3, hq2, hq3]
    simp (maxSteps := 1000000) (disch := first | omega | rfl | (simp only [zL, two63, room] <;> omega) | fail) only [↓reduceIte, ↓zP, zW, WOp, evOp, evBin, binI, binSh, binS, evNil, keyIs, keyEq, mkv, AV.cells, AV.sc, optv, bnd, env, put, Env.get, Env.set, Env.del, Env.dels, Env.init, res1, resL, resV, fillP, splice, newRow, Nat.reduceEqDiff, Nat.reduceLT, Nat.reduceLeDiff, Nat.reduceAdd, Nat.reduceMul, Nat.reduceSub, Nat.reduceBEq, reduceCtorEq, ↓zR, zQ, Tr, StA, StT, hw1]
    rw [w_loopn (c := lp170_0) rfl]
    simp (maxSteps := 1000000) (disch := first | omega | rfl | (simp only [zL, two63, room] <;> omega) | fail) only [↓reduceIte, ↓zP, zW, WOp, evOp, evBin, binI, binSh, binS, evNil, keyIs, keyEq, mkv, AV.cells, AV.sc, optv, bnd, env, put, Env.get, Env.set, Env.del, Env.dels, Env.init, res1, resL, resV, fillP, splice, newRow, Nat.reduceEqDiff, Nat.reduceLT, Nat.reduceLeDiff, Nat.reduceAdd, Nat.reduceMul, Nat.reduceSub, Nat.reduceBEq, reduceCtorEq, ↓zR, zQ, Tr, StA, StT]
    refine ih h3 (by simpa using ho3) (by simp; omega) (by omega) (by omega) ?_
    intro h4 hpv4
    have := hR h4 (((hpv1.trans hpv2).trans hpv3).trans hpv4)
    rw [show q + 3 * (((x1, x2, x3) :: rest).length : Int) = q + 3 + 3 * (rest.length : Int) by simp; omega] at this
    exact this
theorem c_markClueS {b h : AH} {v : AV} {L : List Clu} (ho : OwW 3 encC b h v L) (q : Int) (hL : L.length < 2 ^ 30) (hq : 0 ≤ q ∧ q < 2 ^ 30) {post : AV → AH → Prop} (hp : ∀ h', PreV v h h' → post (.int .i64 (q + 3 * L.length)) h') : S 170 [v, .int .i64 q] h post k := by
  refine S_of rfl T170 ?_; unfold fi170
  simp (maxSteps := 1000000) (disch := first | omega | rfl | (simp only [zL, two63, room] <;> omega) | fail) only [↓reduceIte, ↓zP, zW, WOp, evOp, evBin, binI, binSh, binS, evNil, keyIs, keyEq, mkv, AV.cells, AV.sc, optv, bnd, env, put, Env.get, Env.set, Env.del, Env.dels, Env.init, res1, resL, resV, fillP, splice, newRow, Nat.reduceEqDiff, Nat.reduceLT, Nat.reduceLeDiff, Nat.reduceAdd, Nat.reduceMul, Nat.reduceSub, Nat.reduceBEq, reduceCtorEq, ↓zR, zQ, Tr, StA, StT]
  refine lp_markClueS (b := b) L [] q h ho (by simpa using hL) hq.1 (by omega) ?_
  intro h' hpv
  simp (maxSteps := 1000000) (disch := first | omega | rfl | (simp only [zL, two63, room] <;> omega) | fail) only [↓reduceIte, ↓zP, zW, WOp, evOp, evBin, binI, binSh, binS, evNil, keyIs, keyEq, mkv, AV.cells, AV.sc, optv, bnd, env, put, Env.get, Env.set, Env.del, Env.dels, Env.init, res1, resL, resV, fillP, splice, newRow, Nat.reduceEqDiff, Nat.reduceLT, Nat.reduceLeDiff, Nat.reduceAdd, Nat.reduceMul, Nat.reduceSub, Nat.reduceBEq, reduceCtorEq, ↓zR, zQ, Tr, StA, StT]
  exact hp h' hpv
theorem c_markPuzzle (n : Int) {b h : AH} {v : AV} {L : List Clu} (ho : OwW 3 encC b h v L) (q : Int) (hL : L.length < 2 ^ 30) (hq : 0 ≤ q ∧ q < 2 ^ 30) {post : AV → AH → Prop} (hp : ∀ h', PreV v h h' → post (.int .i64 (q + 3 * L.length)) h') : S 156 [pzV n v, .int .i64 q] h post k := by
  have hpush := Pre.push h (AO.row [.int .i64 n, v] 0 0 false)
  have hsc := (sl_cells (ho.slc hlC)).2
  unfold AV.sc at hsc
  have r1 : rdRow (h ++ [AO.row [.int .i64 n, v] 0 0 false]) h.length 0 1 1 = some [v] := by rw [rd_last, if_pos (by simp)]; simp
  refine S_of rfl T156 ?_; unfold fi156
  simp (maxSteps := 1000000) (disch := first | omega | rfl | (simp only [zL, two63, room] <;> omega) | fail) only [↓reduceIte, ↓zP, zW, WOp, evOp, evBin, binI, binSh, binS, evNil, keyIs, keyEq, mkv, AV.cells, AV.sc, optv, bnd, env, put, Env.get, Env.set, Env.del, Env.dels, Env.init, res1, resL, resV, fillP, splice, newRow, Nat.reduceEqDiff, Nat.reduceLT, Nat.reduceLeDiff, Nat.reduceAdd, Nat.reduceMul, Nat.reduceSub, Nat.reduceBEq, reduceCtorEq, ↓zR, zQ, Tr, StA, StT, hsc, r1]
  refine c_markClueS (ho.pre hpush) q hL hq ?_
  intro h' hpv
  simp (maxSteps := 1000000) (disch := first | omega | rfl | (simp only [zL, two63, room] <;> omega) | fail) only [↓reduceIte, ↓zP, zW, WOp, evOp, evBin, binI, binSh, binS, evNil, keyIs, keyEq, mkv, AV.cells, AV.sc, optv, bnd, env, put, Env.get, Env.set, Env.del, Env.dels, Env.init, res1, resL, resV, fillP, splice, newRow, Nat.reduceEqDiff, Nat.reduceLT, Nat.reduceLeDiff, Nat.reduceAdd, Nat.reduceMul, Nat.reduceSub, Nat.reduceBEq, reduceCtorEq, ↓zR, zQ, Tr, StA, StT]
  exact hp h' ((hpush.v v).trans hpv)

/-! ### What a mark leaves as it was -/
theorem PreV.keep {α : Type} {esz : Nat} {enc : α → List AV} {a b h h' : AH} {v : AV} {L : List α} (hp : PreV v h h') (ho : OwW esz enc b h v L) (ha : Pre a h) (hab : a.length ≤ b.length) : Pre a h' :=
  ⟨Nat.le_trans ha.1 hp.1, fun i hi => by
    rw [hp.2 i (Nat.lt_of_lt_of_le hi ha.1) (fun c kk off n e hv => by
      subst hv
      unfold OwW at ho
      have := ho.2.2.1
      omega), ha.2 i hi]⟩
theorem Slc.row_lt {α : Type} {esz : Nat} {enc : α → List AV} {h : AH} {v : AV} {L : List α} (hs : Slc esz enc h v L) : ∀ c kk off n e, v = .slice c kk off n e → c < h.length := by
  rintro c kk off n e rfl
  exact rd_lt hs.all.2.2
theorem OwW.keep {α : Type} {esz : Nat} {enc : α → List AV} {b h h' : AH} {v u : AV} {L : List α} (ho : OwW esz enc b h v L) (hp : PreV u h h') (hu : ∀ c kk off n e, u = .slice c kk off n e → c < b.length) : OwW esz enc b h' v L := by
  unfold OwW at ho ⊢
  cases v <;> simp only at ho ⊢ <;> first
    | exact ho
    | (obtain ⟨h1, h2, h3, A, Z, fl, h4, h5⟩ := ho
       exact ⟨h1, h2, h3, A, Z, fl, by rw [hp.2 _ (List.getElem?_eq_some_iff.1 h4).1 (fun c kk off n e hv => by have := hu c kk off n e hv; omega)]; exact h4, h5⟩)
end Go.Proofs.YtnkkgghpfgihfabDoor.Ab

/- MARKS on texts; the law of Solutions. -/
namespace Go.Proofs.YtnkkgghpfgihfabDoor.Ab
open Go
set_option maxRecDepth 100000
set_option maxHeartbeats 4000000

theorem lp_eqSS {v u : AV} {L M : List (List UInt8)} (hlen : L.length < 2 ^ 40) {h : AH} (hs : Slc 1 encS h v L) (ht : Slc 1 encS h u M) (hll : L.length = M.length) {R : X → Env → AH → Prop} : ∀ (rest rest' pre pre' : List (List UInt8)), L = pre ++ rest → M = pre' ++ rest' → pre.length = pre'.length →
    ((rest == rest') = true → R (.exit 0) [] h) → ((rest == rest') = false → R .ret [(4, .bool false)] h) → Cx (.loop lp48_0) [(0, v), (1, u), (5, .int .i64 pre.length)] h R k k
  | [], rest', pre, pre', hL, hM, hpp, h1, h2 => by
    have : rest' = [] := by
      have e1 := congrArg List.length hL
      have e2 := congrArg List.length hM
      simp at e1 e2
      exact List.eq_nil_of_length_eq_zero (by omega)
    subst this
    rw [w_loopb (c := lp48_0) (d := lb48_0) rfl]; unfold lb48_0
    have hv := fun g => Slc.lenV (hs) (g := g) (ρ := fun _ => _) (x := .t 0) rfl; simp only [evOp] at hv
    have hl : L.length = pre.length := by rw [hL]; simp
    simp (maxSteps := 1000000) (disch := first | omega | rfl | (simp only [zL, two63, room] <;> omega) | fail) only [↓reduceIte, ↓zP, zW, WOp, evOp, evBin, binI, binSh, binS, evNil, keyIs, keyEq, mkv, AV.cells, AV.sc, optv, bnd, env, put, Env.get, Env.set, Env.del, Env.dels, Env.init, res1, resL, resV, fillP, splice, newRow, Nat.reduceEqDiff, Nat.reduceLT, Nat.reduceLeDiff, Nat.reduceAdd, Nat.reduceMul, Nat.reduceSub, Nat.reduceBEq, reduceCtorEq, ↓zR, zQ, Tr, StA, StT, hv, hl]
    exact h1 rfl
  | x :: rest, [], pre, pre', hL, hM, hpp, h1, h2 => by
    have e1 := congrArg List.length hL
    have e2 := congrArg List.length hM
    simp at e1 e2
    omega
  | x :: rest, y :: rest', pre, pre', hL, hM, hpp, h1, h2 => by
    have ih := lp_eqSS hlen hs ht hll (R := R) rest rest' (pre ++ [x]) (pre' ++ [y])
    have hv := fun g => Slc.lenV (hs) (g := g) (ρ := fun _ => _) (x := .t 0) rfl; simp only [evOp] at hv
    have hl : L.length = pre.length + 1 + rest.length := by rw [hL]; simp; omega
    have hm : M.length = pre.length + 1 + rest'.length := by rw [hM, hpp]; simp; omega
    have hs' := hs
    have ht' := ht
    rw [hL] at hs'
    rw [hM] at ht'
    obtain ⟨r1, k1, o1, hve, hr⟩ := hs'.at hlS
    obtain ⟨r2, k2, o2, hue, hr2⟩ := ht'.at hlS
    rw [← hL, hl] at hve
    rw [← hM, hm] at hue
    rw [← hpp] at hr2
    subst hve
    subst hue
    have hlt : (pre.length : Int) < ((pre.length + 1 + rest.length : Nat) : Int) := by omega
    have hlt2 : (pre.length : Int) < ((pre.length + 1 + rest'.length : Nat) : Int) := by omega
    have hw1 : (pre.length : Int) + 1 = ((pre ++ [x]).length : Int) := by simp
    rw [w_loopb (c := lp48_0) (d := lb48_0) rfl]; unfold lb48_0
    cases e : (x == y)
    · have en : (x != y) = true := by simp only [bne, e]; rfl
      simp (maxSteps := 1000000) (disch := first | omega | rfl | (simp only [zL, two63, room] <;> omega) | fail) only [↓reduceIte, ↓zP, zW, WOp, evOp, evBin, binI, binSh, binS, evNil, keyIs, keyEq, mkv, AV.cells, AV.sc, optv, bnd, env, put, Env.get, Env.set, Env.del, Env.dels, Env.init, res1, resL, resV, fillP, splice, newRow, Nat.reduceEqDiff, Nat.reduceLT, Nat.reduceLeDiff, Nat.reduceAdd, Nat.reduceMul, Nat.reduceSub, Nat.reduceBEq, reduceCtorEq, ↓zR, zQ, Tr, StA, StT, hlt, hlt2, hr, hr2, en, e]
      exact h2 (by rw [beq_cc, e]; rfl)
    · have en : (x != y) = false := by simp only [bne, e]; rfl
      simp (maxSteps := 1000000) (disch := first | omega | rfl | (simp only [zL, two63, room] <;> omega) | fail) only [↓reduceIte, ↓zP, zW, WOp, evOp, evBin, binI, binSh, binS, evNil, keyIs, keyEq, mkv, AV.cells, AV.sc, optv, bnd, env, put, Env.get, Env.set, Env.del, Env.dels, Env.init, res1, resL, resV, fillP, splice, newRow, Nat.reduceEqDiff, Nat.reduceLT, Nat.reduceLeDiff, Nat.reduceAdd, Nat.reduceMul, Nat.reduceSub, Nat.reduceBEq, reduceCtorEq, ↓zR, zQ, Tr, StA, StT, hlt, hlt2, hr, hr2, en, e]
      simp (maxSteps := 1000000) (disch := first | omega | rfl | (simp only [zL, two63, room] <;> omega) | fail) only [↓reduceIte, ↓zP, zW, WOp, evOp, evBin, binI, binSh, binS, evNil, keyIs, keyEq, mkv, AV.cells, AV.sc, optv, bnd, env, put, Env.get, Env.set, Env.del, Env.dels, Env.init, res1, resL, resV, fillP, splice, newRow, Nat.reduceEqDiff, Nat.reduceLT, Nat.reduceLeDiff, Nat.reduceAdd, Nat.reduceMul, Nat.reduceSub, Nat.reduceBEq, reduceCtorEq, ↓zR, zQ, Tr, StA, StT, hw1]
      rw [w_loopn (c := lp48_0) rfl]
      simp (maxSteps := 1000000) (disch := first | omega | rfl | (simp only [zL, two63, room] <;> omega) | fail) only [↓reduceIte, ↓zP, zW, WOp, evOp, evBin, binI, binSh, binS, evNil, keyIs, keyEq, mkv, AV.cells, AV.sc, optv, bnd, env, put, Env.get, Env.set, Env.del, Env.dels, Env.init, res1, resL, resV, fillP, splice, newRow, Nat.reduceEqDiff, Nat.reduceLT, Nat.reduceLeDiff, Nat.reduceAdd, Nat.reduceMul, Nat.reduceSub, Nat.reduceBEq, reduceCtorEq, ↓zR, zQ, Tr, StA, StT]
      exact ih (by rw [hL]; simp) (by rw [hM]; simp) (by simp [hpp]) (fun q => h1 (by rw [beq_cc, e, q]; rfl)) (fun q => h2 (by rw [beq_cc, e, q]; rfl))
theorem c_eqSS {v u : AV} {L M : List (List UInt8)} (hlen : L.length < 2 ^ 40) {h : AH} (hs : Slc 1 encS h v L) (ht : Slc 1 encS h u M) {post : AV → AH → Prop} (hp : post (.bool (L == M)) h) : S 48 [v, u] h post k := by
  refine S_of rfl T48 ?_; unfold fi48
  have hv := fun g => Slc.lenV (hs) (g := g) (ρ := fun _ => _) (x := .t 0) rfl; simp only [evOp] at hv
  have hu := fun g => Slc.lenV (ht) (g := g) (ρ := fun _ => _) (x := .t 0) rfl; simp only [evOp] at hu
  by_cases hl : L.length = M.length
  · simp (maxSteps := 1000000) (disch := first | omega | rfl | (simp only [zL, two63, room] <;> omega) | fail) only [↓reduceIte, ↓zP, zW, WOp, evOp, evBin, binI, binSh, binS, evNil, keyIs, keyEq, mkv, AV.cells, AV.sc, optv, bnd, env, put, Env.get, Env.set, Env.del, Env.dels, Env.init, res1, resL, resV, fillP, splice, newRow, Nat.reduceEqDiff, Nat.reduceLT, Nat.reduceLeDiff, Nat.reduceAdd, Nat.reduceMul, Nat.reduceSub, Nat.reduceBEq, reduceCtorEq, ↓zR, zQ, Tr, StA, StT, hv, hu, hl]
    refine lp_eqSS hlen hs ht hl L M [] [] rfl rfl rfl ?_ ?_
    · intro e
      simp (maxSteps := 1000000) (disch := first | omega | rfl | (simp only [zL, two63, room] <;> omega) | fail) only [↓reduceIte, ↓zP, zW, WOp, evOp, evBin, binI, binSh, binS, evNil, keyIs, keyEq, mkv, AV.cells, AV.sc, optv, bnd, env, put, Env.get, Env.set, Env.del, Env.dels, Env.init, res1, resL, resV, fillP, splice, newRow, Nat.reduceEqDiff, Nat.reduceLT, Nat.reduceLeDiff, Nat.reduceAdd, Nat.reduceMul, Nat.reduceSub, Nat.reduceBEq, reduceCtorEq, ↓zR, zQ, Tr, StA, StT]
      exact e ▸ hp
    · intro e
      simp (maxSteps := 1000000) (disch := first | omega | rfl | (simp only [zL, two63, room] <;> omega) | fail) only [↓reduceIte, ↓zP, zW, WOp, evOp, evBin, binI, binSh, binS, evNil, keyIs, keyEq, mkv, AV.cells, AV.sc, optv, bnd, env, put, Env.get, Env.set, Env.del, Env.dels, Env.init, res1, resL, resV, fillP, splice, newRow, Nat.reduceEqDiff, Nat.reduceLT, Nat.reduceLeDiff, Nat.reduceAdd, Nat.reduceMul, Nat.reduceSub, Nat.reduceBEq, reduceCtorEq, ↓zR, zQ, Tr, StA, StT]
      exact e ▸ hp
  · have hne : ((L.length : Int) != (M.length : Int)) = true := by simp; omega
    simp (maxSteps := 1000000) (disch := first | omega | rfl | (simp only [zL, two63, room] <;> omega) | fail) only [↓reduceIte, ↓zP, zW, WOp, evOp, evBin, binI, binSh, binS, evNil, keyIs, keyEq, mkv, AV.cells, AV.sc, optv, bnd, env, put, Env.get, Env.set, Env.del, Env.dels, Env.init, res1, resL, resV, fillP, splice, newRow, Nat.reduceEqDiff, Nat.reduceLT, Nat.reduceLeDiff, Nat.reduceAdd, Nat.reduceMul, Nat.reduceSub, Nat.reduceBEq, reduceCtorEq, ↓zR, zQ, Tr, StA, StT, hv, hu, hne]
    have : (L == M) = false := by
      rw [beq_eq_false_iff_ne]; rintro rfl; exact hl rfl
    exact this ▸ hp

/-! ### The text of a mark -/
def mdig (k : Nat) (out : List UInt8) : List UInt8 := if h : k = 0 then out else mdig (k / 10) (UInt8.ofNat (48 + k % 10) :: out)
termination_by k
decreasing_by omega
def mtxt (q : Nat) : List UInt8 := 109 :: mdig q []
theorem wrap_d : ∀ d, d < 10 → IntKind.u8.wrap (48 + ((d : Nat) : Int)) = ((UInt8.ofNat (48 + d)).toNat : Int) := by decide
theorem lp_markText {b : AH} {R : X → Env → AH → Prop} : ∀ (d k : Nat) (out : List UInt8) (h : AH), k ≤ d → out.length + k < 2 ^ 35 → Pre b h →
    (∀ h', Pre b h' → (mdig k out).length < 2 ^ 35 → R (.exit 0) [(3, .str (mdig k out))] h') → Cx (.loop lp98_0) [(0, .int .i64 (k : Nat)), (3, .str out)] h R Ab.k Ab.k
  | d, 0, out, h, hd, hb, hp, hR => by
    rw [mdig] at hR
    have hz : ¬ (((0 : Nat) : Int) > 0) := by omega
    rw [w_loopb (c := lp98_0) (d := lb98_0) rfl]; unfold lb98_0
    simp (maxSteps := 1000000) (disch := first | omega | rfl | (simp only [zL, two63, room] <;> omega) | fail) only [↓reduceIte, ↓zP, zW, WOp, evOp, evBin, binI, binSh, binS, evNil, keyIs, keyEq, mkv, AV.cells, AV.sc, optv, bnd, env, put, Env.get, Env.set, Env.del, Env.dels, Env.init, res1, resL, resV, fillP, splice, newRow, Nat.reduceEqDiff, Nat.reduceLT, Nat.reduceLeDiff, Nat.reduceAdd, Nat.reduceMul, Nat.reduceSub, Nat.reduceBEq, reduceCtorEq, ↓zR, zQ, Tr, StA, StT, hz]
    exact hR h hp (by simp; omega)
  | 0, k + 1, out, h, hd, hb, hp, hR => by omega
  | d + 1, k + 1, out, h, hd, hb, hp, hR => by
    have ih := lp_markText (b := b) (R := R) d ((k + 1) / 10) (UInt8.ofNat (48 + (k + 1) % 10) :: out)
    rw [mdig] at hR
    rw [dif_neg (by omega)] at hR
    generalize hk : k + 1 = n at *
    have hz : ((n : Nat) : Int) > 0 := by omega
    have hm : ((n : Nat) : Int).tmod 10 = ((n % 10 : Nat) : Int) := by rw [Int.tmod_eq_emod_of_nonneg (by omega)]; omega
    have hq : ((n : Nat) : Int).tdiv 10 = ((n / 10 : Nat) : Int) := by rw [Int.tdiv_eq_ediv_of_nonneg (by omega)]; omega
    have hwd := wrap_d (n % 10) (by omega)
    have hw1 : IntKind.i64.wrap (48 + ((n % 10 : Nat) : Int)) = 48 + ((n % 10 : Nat) : Int) := wrap_i (by omega)
    have hw2 : IntKind.i64.wrap ((n / 10 : Nat) : Int) = ((n / 10 : Nat) : Int) := wrap_i (by omega)
    generalize UInt8.ofNat (48 + n % 10) = c at *
    have hbl : bytesL [AV.int .u8 (c.toNat : Int)] = some [c] := bytesL_map [c]
    rw [w_loopb (c := lp98_0) (d := lb98_0) rfl]; unfold lb98_0
    have h10 : ¬ ((10 : Int) = 0) := by decide
    simp (maxSteps := 1000000) (disch := first | omega | rfl | (simp only [zL, two63, room] <;> omega) | fail) only [↓reduceIte, ↓zP, zW, WOp, evOp, evBin, binI, binSh, binS, evNil, keyIs, keyEq, mkv, AV.cells, AV.sc, optv, bnd, env, put, Env.get, Env.set, Env.del, Env.dels, Env.init, res1, resL, resV, fillP, splice, newRow, Nat.reduceEqDiff, Nat.reduceLT, Nat.reduceLeDiff, Nat.reduceAdd, Nat.reduceMul, Nat.reduceSub, Nat.reduceBEq, reduceCtorEq, ↓zR, zQ, Tr, StA, StT, hz, hm, hq, hw1, hwd, hw2, hbl, h10]
    rw [w_loopn (c := lp98_0) rfl]
    simp (maxSteps := 1000000) (disch := first | omega | rfl | (simp only [zL, two63, room] <;> omega) | fail) only [↓reduceIte, ↓zP, zW, WOp, evOp, evBin, binI, binSh, binS, evNil, keyIs, keyEq, mkv, AV.cells, AV.sc, optv, bnd, env, put, Env.get, Env.set, Env.del, Env.dels, Env.init, res1, resL, resV, fillP, splice, newRow, Nat.reduceEqDiff, Nat.reduceLT, Nat.reduceLeDiff, Nat.reduceAdd, Nat.reduceMul, Nat.reduceSub, Nat.reduceBEq, reduceCtorEq, ↓zR, zQ, Tr, StA, StT]
    exact ih _ (by omega) (by simp; omega) (hp.trans (Pre.push _ _)) hR
theorem c_markText (q : Nat) (hq : 1 ≤ q ∧ q < 2 ^ 34) {h : AH} {post : AV → AH → Prop} (hp : ∀ h', Pre h h' → post (.str (mtxt q)) h') : S 98 [.int .i64 q] h post k := by
  have hz : ¬ ((q : Int) ≤ 0) := by omega
  refine S_of rfl T98 ?_; unfold fi98
  simp (maxSteps := 1000000) (disch := first | omega | rfl | (simp only [zL, two63, room] <;> omega) | fail) only [↓reduceIte, ↓zP, zW, WOp, evOp, evBin, binI, binSh, binS, evNil, keyIs, keyEq, mkv, AV.cells, AV.sc, optv, bnd, env, put, Env.get, Env.set, Env.del, Env.dels, Env.init, res1, resL, resV, fillP, splice, newRow, Nat.reduceEqDiff, Nat.reduceLT, Nat.reduceLeDiff, Nat.reduceAdd, Nat.reduceMul, Nat.reduceSub, Nat.reduceBEq, reduceCtorEq, ↓zR, zQ, Tr, StA, StT, hz]
  refine lp_markText (b := h) q q [] h (Nat.le_refl _) (by simp; omega) (Pre.refl _) ?_
  intro h' hp' hl
  simp (maxSteps := 1000000) (disch := first | omega | rfl | (simp only [zL, two63, room] <;> omega) | fail) only [↓reduceIte, ↓zP, zW, WOp, evOp, evBin, binI, binSh, binS, evNil, keyIs, keyEq, mkv, AV.cells, AV.sc, optv, bnd, env, put, Env.get, Env.set, Env.del, Env.dels, Env.init, res1, resL, resV, fillP, splice, newRow, Nat.reduceEqDiff, Nat.reduceLT, Nat.reduceLeDiff, Nat.reduceAdd, Nat.reduceMul, Nat.reduceSub, Nat.reduceBEq, reduceCtorEq, ↓zR, zQ, Tr, StA, StT]
  exact hp h' hp'
def mtL : Nat → Nat → List (List UInt8)
  | _, 0 => []
  | q, n + 1 => mtxt q :: mtL (q + 1) n
theorem mtL_len : ∀ (n q : Nat), (mtL q n).length = n
  | 0, _ => rfl
  | n + 1, q => by simp [mtL, mtL_len n]
theorem lp_markStringS {b : AH} {v : AV} {R : X → Env → AH → Prop} : ∀ (rest pre : List (List UInt8)) (q : Nat) (h : AH), OwW 1 encS b h v (pre ++ rest) → pre.length + rest.length < 2 ^ 30 → 1 ≤ q → q + rest.length < 2 ^ 33 →
    (∀ h', OwW 1 encS b h' v (pre ++ mtL q rest.length) → PreV v h h' → R (.exit 0) [(1, .int .i64 ((q + rest.length : Nat) : Int))] h') → Cx (.loop lp50_0) [(0, v), (1, .int .i64 q), (5, .int .i64 pre.length)] h R k k
  | [], pre, q, h, ho, hb, h0, hq, hR => by
    rw [w_loopb (c := lp50_0) (d := lb50_0) rfl]; unfold lb50_0
    have hv := fun g => Slc.lenV ((ho.slc hlS)) (g := g) (ρ := fun _ => _) (x := .t 0) rfl; simp only [evOp] at hv
    simp only [List.append_nil] at hv
    simp (maxSteps := 1000000) (disch := first | omega | rfl | (simp only [zL, two63, room] <;> omega) | fail) only [↓reduceIte, ↓zP, zW, WOp, evOp, evBin, binI, binSh, binS, evNil, keyIs, keyEq, mkv, AV.cells, AV.sc, optv, bnd, env, put, Env.get, Env.set, Env.del, Env.dels, Env.init, res1, resL, resV, fillP, splice, newRow, Nat.reduceEqDiff, Nat.reduceLT, Nat.reduceLeDiff, Nat.reduceAdd, Nat.reduceMul, Nat.reduceSub, Nat.reduceBEq, reduceCtorEq, ↓zR, zQ, Tr, StA, StT, hv]
    have := hR h ho (PreV.refl _ _)
    simpa using this
  | x :: rest, pre, q, h, ho, hb, h0, hq, hR => by
    have ih := lp_markStringS (b := b) (v := v) (R := R) rest (pre ++ [mtxt q]) (q + 1)
    have hl : (pre ++ x :: rest).length = pre.length + 1 + rest.length := by simp; omega
    have hv := fun g => Slc.lenV ((ho.slc hlS)) (g := g) (ρ := fun _ => _) (x := .t 0) rfl; simp only [evOp] at hv
    obtain ⟨c, kk, off, hve, _⟩ := (ho.slc hlS).at hlS
    rw [hl] at hve hv
    subst hve
    simp only [List.length_cons] at hb hq
    have hlt : (pre.length : Int) < ((pre.length + 1 + rest.length : Nat) : Int) := by omega
    have hw1 : (pre.length : Int) + 1 = ((pre ++ [mtxt q]).length : Int) := by simp
    have hw2 : (q : Int) + 1 = ((q + 1 : Nat) : Int) := by omega
    rw [w_loopb (c := lp50_0) (d := lb50_0) rfl]; unfold lb50_0
    simp (maxSteps := 1000000) (disch := first | omega | rfl | (simp only [zL, two63, room] <;> omega) | fail) only [↓reduceIte, ↓zP, zW, WOp, evOp, evBin, binI, binSh, binS, evNil, keyIs, keyEq, mkv, AV.cells, AV.sc, optv, bnd, env, put, Env.get, Env.set, Env.del, Env.dels, Env.init, res1, resL, resV, fillP, splice, newRow, Nat.reduceEqDiff, Nat.reduceLT, Nat.reduceLeDiff, Nat.reduceAdd, Nat.reduceMul, Nat.reduceSub, Nat.reduceBEq, reduceCtorEq, ↓zR, zQ, Tr, StA, StT, hv, hlt]
    refine c_markText q ⟨h0, by omega⟩ ?_
    intro h1 hp1
    obtain ⟨c', kk', off', h', hve, hw, ho', hpv⟩ := (ho.pre hp1).store hlS (mtxt q) 0 [.str (mtxt q)] (by simp) rfl rfl
    simp only [AV.slice.injEq] at hve
    obtain ⟨rfl, rfl, rfl, -⟩ := hve
    rw [Nat.add_zero] at hw
    simp (maxSteps := 1000000) (disch := first | omega | rfl | (simp only [zL, two63, room] <;> omega) | fail) only [↓reduceIte, ↓zP, zW, WOp, evOp, evBin, binI, binSh, binS, evNil, keyIs, keyEq, mkv, AV.cells, AV.sc, optv, bnd, env, put, Env.get, Env.set, Env.del, Env.dels, Env.init, res1, resL, resV, fillP, splice, newRow, Nat.reduceEqDiff, Nat.reduceLT, Nat.reduceLeDiff, Nat.reduceAdd, Nat.reduceMul, Nat.reduceSub, Nat.reduceBEq, reduceCtorEq, ↓zR, zQ, Tr, StA, StT, hw, hlt]
    simp (maxSteps := 1000000) (disch := first | omega | rfl | (simp only [zL, two63, room] <;> omega) | fail) only [↓reduceIte, ↓zP, zW, WOp, evOp, evBin, binI, binSh, binS, evNil, keyIs, keyEq, mkv, AV.cells, AV.sc, optv, bnd, env, put, Env.get, Env.set, Env.del, Env.dels, Env.init, res1, resL, resV, fillP, splice, newRow, Nat.reduceEqDiff, Nat.reduceLT, Nat.reduceLeDiff, Nat.reduceAdd, Nat.reduceMul, Nat.reduceSub, Nat.reduceBEq, reduceCtorEq, ↓zR, zQ, Tr, StA, StT, hw1, hw2]
    rw [w_loopn (c := lp50_0) rfl]
    simp (maxSteps := 1000000) (disch := first | omega | rfl | (simp only [zL, two63, room] <;> omega) | fail) only [↓reduceIte, ↓zP, zW, WOp, evOp, evBin, binI, binSh, binS, evNil, keyIs, keyEq, mkv, AV.cells, AV.sc, optv, bnd, env, put, Env.get, Env.set, Env.del, Env.dels, Env.init, res1, resL, resV, fillP, splice, newRow, Nat.reduceEqDiff, Nat.reduceLT, Nat.reduceLeDiff, Nat.reduceAdd, Nat.reduceMul, Nat.reduceSub, Nat.reduceBEq, reduceCtorEq, ↓zR, zQ, Tr, StA, StT]
    refine ih h' (by simpa using ho') (by simp; omega) (by omega) (by omega) ?_
    intro h2 ho2 hpv2
    have := hR h2 (by simpa [mtL] using ho2) (((hp1.v _).trans hpv).trans hpv2)
    rw [show q + (x :: rest).length = q + 1 + rest.length by simp; omega] at this
    exact this
theorem c_markStringS {b h : AH} {v : AV} {L : List (List UInt8)} (ho : OwW 1 encS b h v L) (q : Nat) (hL : L.length < 2 ^ 30) (hq : 1 ≤ q ∧ q < 2 ^ 30) {post : AV → AH → Prop} (hp : ∀ h', OwW 1 encS b h' v (mtL q L.length) → PreV v h h' → post (.int .i64 ((q + L.length : Nat) : Int)) h') : S 50 [v, .int .i64 q] h post k := by
  refine S_of rfl T50 ?_; unfold fi50
  simp (maxSteps := 1000000) (disch := first | omega | rfl | (simp only [zL, two63, room] <;> omega) | fail) only [↓reduceIte, ↓zP, zW, WOp, evOp, evBin, binI, binSh, binS, evNil, keyIs, keyEq, mkv, AV.cells, AV.sc, optv, bnd, env, put, Env.get, Env.set, Env.del, Env.dels, Env.init, res1, resL, resV, fillP, splice, newRow, Nat.reduceEqDiff, Nat.reduceLT, Nat.reduceLeDiff, Nat.reduceAdd, Nat.reduceMul, Nat.reduceSub, Nat.reduceBEq, reduceCtorEq, ↓zR, zQ, Tr, StA, StT]
  refine lp_markStringS (b := b) L [] q h ho (by simpa using hL) hq.1 (by omega) ?_
  intro h' ho' hpv
  simp (maxSteps := 1000000) (disch := first | omega | rfl | (simp only [zL, two63, room] <;> omega) | fail) only [↓reduceIte, ↓zP, zW, WOp, evOp, evBin, binI, binSh, binS, evNil, keyIs, keyEq, mkv, AV.cells, AV.sc, optv, bnd, env, put, Env.get, Env.set, Env.del, Env.dels, Env.init, res1, resL, resV, fillP, splice, newRow, Nat.reduceEqDiff, Nat.reduceLT, Nat.reduceLeDiff, Nat.reduceAdd, Nat.reduceMul, Nat.reduceSub, Nat.reduceBEq, reduceCtorEq, ↓zR, zQ, Tr, StA, StT]
  exact hp h' ho' hpv
theorem lp_heldStringS {v : AV} {b : AH} {n : Nat} (hn : n < 2 ^ 30) {R : X → Env → AH → Prop} : ∀ (d : Nat) (pre : List (List UInt8)) (q : Nat) (h : AH), Slc 1 encS h v (pre ++ mtL q d) → pre.length + d = n → 1 ≤ q → q + d < 2 ^ 33 → Pre b h →
    (∀ h', Pre b h' → R (.exit 0) [(1, .int .i64 ((q + d : Nat) : Int))] h') → Cx (.loop lp47_0) [(0, v), (1, .int .i64 q), (5, .int .i64 pre.length)] h R k k
  | 0, pre, q, h, hs, hd, h0, hq, hp, hR => by
    rw [w_loopb (c := lp47_0) (d := lb47_0) rfl]; unfold lb47_0
    have hv := fun g => Slc.lenV (hs) (g := g) (ρ := fun _ => _) (x := .t 0) rfl; simp only [evOp] at hv
    simp only [mtL, List.append_nil] at hv
    simp (maxSteps := 1000000) (disch := first | omega | rfl | (simp only [zL, two63, room] <;> omega) | fail) only [↓reduceIte, ↓zP, zW, WOp, evOp, evBin, binI, binSh, binS, evNil, keyIs, keyEq, mkv, AV.cells, AV.sc, optv, bnd, env, put, Env.get, Env.set, Env.del, Env.dels, Env.init, res1, resL, resV, fillP, splice, newRow, Nat.reduceEqDiff, Nat.reduceLT, Nat.reduceLeDiff, Nat.reduceAdd, Nat.reduceMul, Nat.reduceSub, Nat.reduceBEq, reduceCtorEq, ↓zR, zQ, Tr, StA, StT, hv]
    simpa using hR h hp
  | d + 1, pre, q, h, hs, hd, h0, hq, hp, hR => by
    have ih := lp_heldStringS (v := v) (b := b) hn (R := R) d (pre ++ [mtxt q]) (q + 1)
    have hv := fun g => Slc.lenV (hs) (g := g) (ρ := fun _ => _) (x := .t 0) rfl; simp only [evOp] at hv
    simp only [mtL] at hs hv
    have hl : (pre ++ mtxt q :: mtL (q + 1) d).length = pre.length + 1 + d := by simp [mtL_len]; omega
    obtain ⟨c, kk, off, hve, hr⟩ := hs.at hlS
    rw [hl] at hve hv
    subst hve
    have hlt : (pre.length : Int) < ((pre.length + 1 + d : Nat) : Int) := by omega
    have hw1 : (pre.length : Int) + 1 = ((pre ++ [mtxt q]).length : Int) := by simp
    have hw2 : (q : Int) + 1 = ((q + 1 : Nat) : Int) := by omega
    rw [w_loopb (c := lp47_0) (d := lb47_0) rfl]; unfold lb47_0
    simp (maxSteps := 1000000) (disch := first | omega | rfl | (simp only [zL, two63, room] <;> omega) | fail) only [↓reduceIte, ↓zP, zW, WOp, evOp, evBin, binI, binSh, binS, evNil, keyIs, keyEq, mkv, AV.cells, AV.sc, optv, bnd, env, put, Env.get, Env.set, Env.del, Env.dels, Env.init, res1, resL, resV, fillP, splice, newRow, Nat.reduceEqDiff, Nat.reduceLT, Nat.reduceLeDiff, Nat.reduceAdd, Nat.reduceMul, Nat.reduceSub, Nat.reduceBEq, reduceCtorEq, ↓zR, zQ, Tr, StA, StT, hv, hlt]
    refine w_drw ?_
    simp (maxSteps := 1000000) (disch := first | omega | rfl | (simp only [zL, two63, room] <;> omega) | fail) only [↓reduceIte, ↓zP, zW, WOp, evOp, evBin, binI, binSh, binS, evNil, keyIs, keyEq, mkv, AV.cells, AV.sc, optv, bnd, env, put, Env.get, Env.set, Env.del, Env.dels, Env.init, res1, resL, resV, fillP, splice, newRow, Nat.reduceEqDiff, Nat.reduceLT, Nat.reduceLeDiff, Nat.reduceAdd, Nat.reduceMul, Nat.reduceSub, Nat.reduceBEq, reduceCtorEq, ↓zR, zQ, Tr, StA, StT, hr, hlt]
    refine c_markText q ⟨h0, by omega⟩ ?_
    intro h1 hp1
    have hr1 := rdRow_pre hp1 hr
    simp (maxSteps := 1000000) (disch := first | omega | rfl | (simp only [zL, two63, room] <;> omega) | fail) only [↓reduceIte, ↓zP, zW, WOp, evOp, evBin, binI, binSh, binS, evNil, keyIs, keyEq, mkv, AV.cells, AV.sc, optv, bnd, env, put, Env.get, Env.set, Env.del, Env.dels, Env.init, res1, resL, resV, fillP, splice, newRow, Nat.reduceEqDiff, Nat.reduceLT, Nat.reduceLeDiff, Nat.reduceAdd, Nat.reduceMul, Nat.reduceSub, Nat.reduceBEq, reduceCtorEq, ↓zR, zQ, Tr, StA, StT, hr, hr1, hlt, bne_self_eq_false]
    simp (maxSteps := 1000000) (disch := first | omega | rfl | (simp only [zL, two63, room] <;> omega) | fail) only [↓reduceIte, ↓zP, zW, WOp, evOp, evBin, binI, binSh, binS, evNil, keyIs, keyEq, mkv, AV.cells, AV.sc, optv, bnd, env, put, Env.get, Env.set, Env.del, Env.dels, Env.init, res1, resL, resV, fillP, splice, newRow, Nat.reduceEqDiff, Nat.reduceLT, Nat.reduceLeDiff, Nat.reduceAdd, Nat.reduceMul, Nat.reduceSub, Nat.reduceBEq, reduceCtorEq, ↓zR, zQ, Tr, StA, StT, hw1, hw2]
    rw [w_loopn (c := lp47_0) rfl]
    simp (maxSteps := 1000000) (disch := first | omega | rfl | (simp only [zL, two63, room] <;> omega) | fail) only [↓reduceIte, ↓zP, zW, WOp, evOp, evBin, binI, binSh, binS, evNil, keyIs, keyEq, mkv, AV.cells, AV.sc, optv, bnd, env, put, Env.get, Env.set, Env.del, Env.dels, Env.init, res1, resL, resV, fillP, splice, newRow, Nat.reduceEqDiff, Nat.reduceLT, Nat.reduceLeDiff, Nat.reduceAdd, Nat.reduceMul, Nat.reduceSub, Nat.reduceBEq, reduceCtorEq, ↓zR, zQ, Tr, StA, StT]
    refine ih h1 (by simpa using hs.pre hp1) (by simp; omega) (by omega) (by omega) (hp.trans hp1) ?_
    rw [show q + 1 + d = q + (d + 1) by omega]
    exact hR
theorem c_heldStringS {h : AH} {v : AV} (q : Nat) (n : Nat) (hn : n < 2 ^ 30) (hq : 1 ≤ q ∧ q < 2 ^ 30) (hs : Slc 1 encS h v (mtL q n)) {post : AV → AH → Prop} (hp : ∀ h', Pre h h' → post (.int .i64 ((q + n : Nat) : Int)) h') : S 47 [v, .int .i64 q] h post k := by
  refine S_of rfl T47 ?_; unfold fi47
  simp (maxSteps := 1000000) (disch := first | omega | rfl | (simp only [zL, two63, room] <;> omega) | fail) only [↓reduceIte, ↓zP, zW, WOp, evOp, evBin, binI, binSh, binS, evNil, keyIs, keyEq, mkv, AV.cells, AV.sc, optv, bnd, env, put, Env.get, Env.set, Env.del, Env.dels, Env.init, res1, resL, resV, fillP, splice, newRow, Nat.reduceEqDiff, Nat.reduceLT, Nat.reduceLeDiff, Nat.reduceAdd, Nat.reduceMul, Nat.reduceSub, Nat.reduceBEq, reduceCtorEq, ↓zR, zQ, Tr, StA, StT]
  refine lp_heldStringS (b := h) hn n [] q h hs (by simp) hq.1 (by omega) (Pre.refl _) ?_
  intro h' hp'
  simp (maxSteps := 1000000) (disch := first | omega | rfl | (simp only [zL, two63, room] <;> omega) | fail) only [↓reduceIte, ↓zP, zW, WOp, evOp, evBin, binI, binSh, binS, evNil, keyIs, keyEq, mkv, AV.cells, AV.sc, optv, bnd, env, put, Env.get, Env.set, Env.del, Env.dels, Env.init, res1, resL, resV, fillP, splice, newRow, Nat.reduceEqDiff, Nat.reduceLT, Nat.reduceLeDiff, Nat.reduceAdd, Nat.reduceMul, Nat.reduceSub, Nat.reduceBEq, reduceCtorEq, ↓zR, zQ, Tr, StA, StT]
  exact hp h' hp'

theorem solP_len (n : Int) (cs : List Clu) : (solP n cs).length ≤ 243 := by
  unfold solP
  cases e : goodP n cs
  · simp
  · obtain ⟨m, rfl, m1, m5, _⟩ := goodP_iff e
    have h1 := List.length_filter_le (fun w => cs.all fun c => fitB c w) (allL m)
    have h2 := allL_length m
    have h3 : 3 ^ m ≤ 3 ^ 5 := Nat.pow_le_pow_right (by omega) m5
    have h4 : (solN (m : Int) cs).length ≤ (allL m).length := h1
    simp only [if_true]
    omega
theorem c_sSolutions (n : Int) {v : AV} {cs : List Clu} (hlen : cs.length < 2 ^ 30) {h : AH} (hs : Slc 3 encC h v cs) {post : AV → AH → Prop} (hp : ∀ o' h', OwL 1 encS h h' o' (solP n cs) → Pre h h' → post (.tup [o', .bool (goodP n cs)]) h') : S 208 [pzV n v] h post k := by
  have hpush := Pre.push h (AO.row [.int .i64 n, v] 0 0 false)
  have hsc := (sl_cells hs).2
  unfold AV.sc at hsc
  have r2 : rdRow (h ++ [AO.row [.int .i64 n, v] 0 0 false]) h.length 0 0 2 = some [.int .i64 n, v] := by rw [rd_last, if_pos (by simp)]; simp
  have r0 : rdRow (h ++ [AO.row [.int .i64 n, v] 0 0 false]) h.length 0 0 1 = some [.int .i64 n] := by rw [rd_last, if_pos (by simp)]; simp
  have r1 : rdRow (h ++ [AO.row [.int .i64 n, v] 0 0 false]) h.length 0 1 1 = some [v] := by rw [rd_last, if_pos (by simp)]; simp
  unfold solP at hp
  refine S_of rfl T208 ?_; unfold fi208
  simp (maxSteps := 1000000) (disch := first | omega | rfl | (simp only [zL, two63, room] <;> omega) | fail) only [↓reduceIte, ↓zP, zW, WOp, evOp, evBin, binI, binSh, binS, evNil, keyIs, keyEq, mkv, AV.cells, AV.sc, optv, bnd, env, put, Env.get, Env.set, Env.del, Env.dels, Env.init, res1, resL, resV, fillP, splice, newRow, Nat.reduceEqDiff, Nat.reduceLT, Nat.reduceLeDiff, Nat.reduceAdd, Nat.reduceMul, Nat.reduceSub, Nat.reduceBEq, reduceCtorEq, ↓zR, zQ, Tr, StA, StT, hsc]
  refine c_pzGood n hlen (hs.pre hpush) ?_
  intro h2 hp2
  have q0 := rdRow_pre hp2 r0
  have q1 := rdRow_pre hp2 r1
  have hs2 := (hs.pre hpush).pre hp2
  cases e : goodP n cs
  · rw [e] at hp
    simp (maxSteps := 1000000) (disch := first | omega | rfl | (simp only [zL, two63, room] <;> omega) | fail) only [↓reduceIte, ↓zP, zW, WOp, evOp, evBin, binI, binSh, binS, evNil, keyIs, keyEq, mkv, AV.cells, AV.sc, optv, bnd, env, put, Env.get, Env.set, Env.del, Env.dels, Env.init, res1, resL, resV, fillP, splice, newRow, Nat.reduceEqDiff, Nat.reduceLT, Nat.reduceLeDiff, Nat.reduceAdd, Nat.reduceMul, Nat.reduceSub, Nat.reduceBEq, reduceCtorEq, ↓zR, zQ, Tr, StA, StT]
    exact hp .nilS h2 OwL.nil (hpush.trans hp2)
  · rw [e] at hp
    obtain ⟨m, rfl, m1, m5, m6, mok⟩ := goodP_iff e
    simp (maxSteps := 1000000) (disch := first | omega | rfl | (simp only [zL, two63, room] <;> omega) | fail) only [↓reduceIte, ↓zP, zW, WOp, evOp, evBin, binI, binSh, binS, evNil, keyIs, keyEq, mkv, AV.cells, AV.sc, optv, bnd, env, put, Env.get, Env.set, Env.del, Env.dels, Env.init, res1, resL, resV, fillP, splice, newRow, Nat.reduceEqDiff, Nat.reduceLT, Nat.reduceLeDiff, Nat.reduceAdd, Nat.reduceMul, Nat.reduceSub, Nat.reduceBEq, reduceCtorEq, ↓zR, zQ, Tr, StA, StT, q0, q1]
    refine c_pzAll m m5 hlen mok hs2 ?_
    intro o3 h3 ho3 hp3
    simp (maxSteps := 1000000) (disch := first | omega | rfl | (simp only [zL, two63, room] <;> omega) | fail) only [↓reduceIte, ↓zP, zW, WOp, evOp, evBin, binI, binSh, binS, evNil, keyIs, keyEq, mkv, AV.cells, AV.sc, optv, bnd, env, put, Env.get, Env.set, Env.del, Env.dels, Env.init, res1, resL, resV, fillP, splice, newRow, Nat.reduceEqDiff, Nat.reduceLT, Nat.reduceLeDiff, Nat.reduceAdd, Nat.reduceMul, Nat.reduceSub, Nat.reduceBEq, reduceCtorEq, ↓zR, zQ, Tr, StA, StT]
    exact hp o3 h3 (ho3.old (hpush.trans hp2).1) ((hpush.trans hp2).trans hp3)

theorem law_Solutions (n : Int) {v : AV} {cs : List Clu} (hlen : cs.length < 2 ^ 63) {h : AH} (hs : Slc 3 encC h v cs) : S 207 [pzV n v] h (fun r _ => r = .bool true) k := by
  have hpush := Pre.push h (AO.row [.int .i64 n, v] 0 0 false)
  have hsc := (sl_cells hs).2
  unfold AV.sc at hsc
  have r2 : rdRow (h ++ [AO.row [.int .i64 n, v] 0 0 false]) h.length 0 0 2 = some [.int .i64 n, v] := by rw [rd_last, if_pos (by simp)]; simp
  have hs0 := hs.pre hpush
  refine S_of rfl T207 ?_; unfold fi207
  simp (maxSteps := 1000000) (disch := first | omega | rfl | (simp only [zL, two63, room] <;> omega) | fail) only [↓reduceIte, ↓zP, zW, WOp, evOp, evBin, binI, binSh, binS, evNil, keyIs, keyEq, mkv, AV.cells, AV.sc, optv, bnd, env, put, Env.get, Env.set, Env.del, Env.dels, Env.init, res1, resL, resV, fillP, splice, newRow, Nat.reduceEqDiff, Nat.reduceLT, Nat.reduceLeDiff, Nat.reduceAdd, Nat.reduceMul, Nat.reduceSub, Nat.reduceBEq, reduceCtorEq, ↓zR, zQ, Tr, StA, StT, hsc]
  generalize h ++ [AO.row [.int .i64 n, v] 0 0 false] = H0 at *
  refine c_szPuzzle n hlen hs0 ?_
  intro h1 A1
  have q1 := rdRow_pre A1 r2
  by_cases hl : cs.length ≤ 1048576
  case neg =>
    simp only [if_neg hl]
    simp (maxSteps := 1000000) (disch := first | omega | rfl | (simp only [zL, two63, room] <;> omega) | fail) only [↓reduceIte, ↓zP, zW, WOp, evOp, evBin, binI, binSh, binS, evNil, keyIs, keyEq, mkv, AV.cells, AV.sc, optv, bnd, env, put, Env.get, Env.set, Env.del, Env.dels, Env.init, res1, resL, resV, fillP, splice, newRow, Nat.reduceEqDiff, Nat.reduceLT, Nat.reduceLeDiff, Nat.reduceAdd, Nat.reduceMul, Nat.reduceSub, Nat.reduceBEq, reduceCtorEq, ↓zR, zQ, Tr, StA, StT]
  simp only [if_pos hl]
  simp (maxSteps := 1000000) (disch := first | omega | rfl | (simp only [zL, two63, room] <;> omega) | fail) only [↓reduceIte, ↓zP, zW, WOp, evOp, evBin, binI, binSh, binS, evNil, keyIs, keyEq, mkv, AV.cells, AV.sc, optv, bnd, env, put, Env.get, Env.set, Env.del, Env.dels, Env.init, res1, resL, resV, fillP, splice, newRow, Nat.reduceEqDiff, Nat.reduceLT, Nat.reduceLeDiff, Nat.reduceAdd, Nat.reduceMul, Nat.reduceSub, Nat.reduceBEq, reduceCtorEq, ↓zR, zQ, Tr, StA, StT, q1]
  have hlen' : cs.length < 2 ^ 30 := by omega
  refine c_toPuzzle n hlen' (hs0.pre A1) ?_
  intro o2 h2 ho2 p2
  have A2 := A1.trans p2
  simp (maxSteps := 1000000) (disch := first | omega | rfl | (simp only [zL, two63, room] <;> omega) | fail) only [↓reduceIte, ↓zP, zW, WOp, evOp, evBin, binI, binSh, binS, evNil, keyIs, keyEq, mkv, AV.cells, AV.sc, optv, bnd, env, put, Env.get, Env.set, Env.del, Env.dels, Env.init, res1, resL, resV, fillP, splice, newRow, Nat.reduceEqDiff, Nat.reduceLT, Nat.reduceLeDiff, Nat.reduceAdd, Nat.reduceMul, Nat.reduceSub, Nat.reduceBEq, reduceCtorEq, ↓zR, zQ, Tr, StA, StT]
  refine c_sSolutions n hlen' ho2.slc ?_
  intro w0 h3 hw0 p3
  have A3 := A2.trans p3
  have q3 := rdRow_pre A3 r2
  simp (maxSteps := 1000000) (disch := first | omega | rfl | (simp only [zL, two63, room] <;> omega) | fail) only [↓reduceIte, ↓zP, zW, WOp, evOp, evBin, binI, binSh, binS, evNil, keyIs, keyEq, mkv, AV.cells, AV.sc, optv, bnd, env, put, Env.get, Env.set, Env.del, Env.dels, Env.init, res1, resL, resV, fillP, splice, newRow, Nat.reduceEqDiff, Nat.reduceLT, Nat.reduceLeDiff, Nat.reduceAdd, Nat.reduceMul, Nat.reduceSub, Nat.reduceBEq, reduceCtorEq, ↓zR, zQ, Tr, StA, StT, q3]
  refine c_toPuzzle n hlen' (hs0.pre A3) ?_
  intro o4 h4 ho4 p4
  have A4 := A3.trans p4
  have hsc4 := (sl_cells ho4.slc).2
  unfold AV.sc at hsc4
  have r5 : rdRow (h4 ++ [AO.row [.int .i64 n, o4] 0 0 false]) h4.length 0 0 2 = some [.int .i64 n, o4] := by rw [rd_last, if_pos (by simp)]; simp
  have p5 := Pre.push h4 (AO.row [.int .i64 n, o4] 0 0 false)
  simp (maxSteps := 1000000) (disch := first | omega | rfl | (simp only [zL, two63, room] <;> omega) | fail) only [↓reduceIte, ↓zP, zW, WOp, evOp, evBin, binI, binSh, binS, evNil, keyIs, keyEq, mkv, AV.cells, AV.sc, optv, bnd, env, put, Env.get, Env.set, Env.del, Env.dels, Env.init, res1, resL, resV, fillP, splice, newRow, Nat.reduceEqDiff, Nat.reduceLT, Nat.reduceLeDiff, Nat.reduceAdd, Nat.reduceMul, Nat.reduceSub, Nat.reduceBEq, reduceCtorEq, ↓zR, zQ, Tr, StA, StT, hsc4]
  generalize h4 ++ [AO.row [.int .i64 n, o4] 0 0 false] = h5 at *
  refine c_Solutions n hlen' (ho4.slc.pre p5) ?_
  intro g0 h6 hg0 p6
  change OwW 1 encS _ h6 g0 (solP n cs) at hg0
  have hLn : (solP n cs).length < 2 ^ 30 := by have := solP_len n cs; omega
  generalize hL : (solP n cs) = L at *
  have A6 := A4.trans (p5.trans p6)
  have B6 := p4.trans (p5.trans p6)
  have q6 := rdRow_pre A6 r2
  have s6 := rdRow_pre p6 r5
  simp (maxSteps := 1000000) (disch := first | omega | rfl | (simp only [zL, two63, room] <;> omega) | fail) only [↓reduceIte, ↓zP, zW, WOp, evOp, evBin, binI, binSh, binS, evNil, keyIs, keyEq, mkv, AV.cells, AV.sc, optv, bnd, env, put, Env.get, Env.set, Env.del, Env.dels, Env.init, res1, resL, resV, fillP, splice, newRow, Nat.reduceEqDiff, Nat.reduceLT, Nat.reduceLeDiff, Nat.reduceAdd, Nat.reduceMul, Nat.reduceSub, Nat.reduceBEq, reduceCtorEq, ↓zR, zQ, Tr, StA, StT, q6, s6]
  refine c_eqSS (L := L) (M := L) (by omega) (hg0.slc hlS) (hw0.slc.pre B6) ?_
  simp (maxSteps := 1000000) (disch := first | omega | rfl | (simp only [zL, two63, room] <;> omega) | fail) only [↓reduceIte, ↓zP, zW, WOp, evOp, evBin, binI, binSh, binS, evNil, keyIs, keyEq, mkv, AV.cells, AV.sc, optv, bnd, env, put, Env.get, Env.set, Env.del, Env.dels, Env.init, res1, resL, resV, fillP, splice, newRow, Nat.reduceEqDiff, Nat.reduceLT, Nat.reduceLeDiff, Nat.reduceAdd, Nat.reduceMul, Nat.reduceSub, Nat.reduceBEq, reduceCtorEq, ↓zR, zQ, Tr, StA, StT, q6, s6]
  refine w_drw ?_
  simp (maxSteps := 1000000) (disch := first | omega | rfl | (simp only [zL, two63, room] <;> omega) | fail) only [↓reduceIte, ↓zP, zW, WOp, evOp, evBin, binI, binSh, binS, evNil, keyIs, keyEq, mkv, AV.cells, AV.sc, optv, bnd, env, put, Env.get, Env.set, Env.del, Env.dels, Env.init, res1, resL, resV, fillP, splice, newRow, Nat.reduceEqDiff, Nat.reduceLT, Nat.reduceLeDiff, Nat.reduceAdd, Nat.reduceMul, Nat.reduceSub, Nat.reduceBEq, reduceCtorEq, ↓zR, zQ, Tr, StA, StT, q6, s6]
  refine c_toPuzzle n hlen' (hs0.pre A6) ?_
  intro o7 h7 ho7 p7
  have s7 := rdRow_pre p7 s6
  simp (maxSteps := 1000000) (disch := first | omega | rfl | (simp only [zL, two63, room] <;> omega) | fail) only [↓reduceIte, ↓zP, zW, WOp, evOp, evBin, binI, binSh, binS, evNil, keyIs, keyEq, mkv, AV.cells, AV.sc, optv, bnd, env, put, Env.get, Env.set, Env.del, Env.dels, Env.init, res1, resL, resV, fillP, splice, newRow, Nat.reduceEqDiff, Nat.reduceLT, Nat.reduceLeDiff, Nat.reduceAdd, Nat.reduceMul, Nat.reduceSub, Nat.reduceBEq, reduceCtorEq, ↓zR, zQ, Tr, StA, StT, s6, s7]
  refine c_eqPuzzle n n hlen' (ho4.slc.pre ((p5.trans p6).trans p7)) ho7.slc ?_
  intro h8 p8
  have s8 := rdRow_pre p8 s7
  simp (maxSteps := 1000000) (disch := first | omega | rfl | (simp only [zL, two63, room] <;> omega) | fail) only [↓reduceIte, ↓zP, zW, WOp, evOp, evBin, binI, binSh, binS, evNil, keyIs, keyEq, mkv, AV.cells, AV.sc, optv, bnd, env, put, Env.get, Env.set, Env.del, Env.dels, Env.init, res1, resL, resV, fillP, splice, newRow, Nat.reduceEqDiff, Nat.reduceLT, Nat.reduceLeDiff, Nat.reduceAdd, Nat.reduceMul, Nat.reduceSub, Nat.reduceBEq, reduceCtorEq, ↓zR, zQ, Tr, StA, StT, s6, s7, s8]
  have p78 := p7.trans p8
  have ho4' := (ho4.w).pre ((p5.trans p6).trans p78)
  refine c_markPuzzle n ho4' 1 hlen' (by omega) ?_
  intro h9 v9
  have A9 := v9.keep ho4' (A6.trans p78) A3.1
  have B9 := v9.keep ho4' (B6.trans p78) (Nat.le_refl _)
  have hlt4 := ho4.slc.row_lt
  have hg9 := (hg0.pre p78).keep v9 (fun c kk off n e hv => Nat.lt_of_lt_of_le (hlt4 c kk off n e hv) p5.1)
  have hk : ¬ ((1 : Int) + 3 * (cs.length : Int) < 0) := by omega
  simp (maxSteps := 1000000) (disch := first | omega | rfl | (simp only [zL, two63, room] <;> omega) | fail) only [↓reduceIte, ↓zP, zW, WOp, evOp, evBin, binI, binSh, binS, evNil, keyIs, keyEq, mkv, AV.cells, AV.sc, optv, bnd, env, put, Env.get, Env.set, Env.del, Env.dels, Env.init, res1, resL, resV, fillP, splice, newRow, Nat.reduceEqDiff, Nat.reduceLT, Nat.reduceLeDiff, Nat.reduceAdd, Nat.reduceMul, Nat.reduceSub, Nat.reduceBEq, reduceCtorEq, ↓zR, zQ, Tr, StA, StT, hk]
  refine c_eqSS (L := L) (M := L) (by omega) (hg9.slc hlS) (hw0.slc.pre B9) ?_
  simp (maxSteps := 1000000) (disch := first | omega | rfl | (simp only [zL, two63, room] <;> omega) | fail) only [↓reduceIte, ↓zP, zW, WOp, evOp, evBin, binI, binSh, binS, evNil, keyIs, keyEq, mkv, AV.cells, AV.sc, optv, bnd, env, put, Env.get, Env.set, Env.del, Env.dels, Env.init, res1, resL, resV, fillP, splice, newRow, Nat.reduceEqDiff, Nat.reduceLT, Nat.reduceLeDiff, Nat.reduceAdd, Nat.reduceMul, Nat.reduceSub, Nat.reduceBEq, reduceCtorEq, ↓zR, zQ, Tr, StA, StT]
  refine c_markStringS hg9 1 hLn (by omega) ?_
  intro h10 ho10 v10
  have A10 := v10.keep hg9 A9 (A4.trans p5).1
  have B10 := v10.keep hg9 B9 (p4.trans p5).1
  have q10 := rdRow_pre A10 r2
  simp (maxSteps := 1000000) (disch := first | omega | rfl | (simp only [zL, two63, room] <;> omega) | fail) only [↓reduceIte, ↓zP, zW, WOp, evOp, evBin, binI, binSh, binS, evNil, keyIs, keyEq, mkv, AV.cells, AV.sc, optv, bnd, env, put, Env.get, Env.set, Env.del, Env.dels, Env.init, res1, resL, resV, fillP, splice, newRow, Nat.reduceEqDiff, Nat.reduceLT, Nat.reduceLeDiff, Nat.reduceAdd, Nat.reduceMul, Nat.reduceSub, Nat.reduceBEq, reduceCtorEq, ↓zR, zQ, Tr, StA, StT]
  refine c_heldStringS 1 L.length hLn (by omega) (ho10.slc hlS) ?_
  intro h10' p10
  have A10 := A10.trans p10
  have B10 := B10.trans p10
  have ho10 := ho10.pre p10
  have q10 := rdRow_pre A10 r2
  have hk2 : ¬ ((1 : Int) + (L.length : Int) < 0) := by omega
  simp (maxSteps := 1000000) (disch := first | omega | rfl | (simp only [zL, two63, room] <;> omega) | fail) only [↓reduceIte, ↓zP, zW, WOp, evOp, evBin, binI, binSh, binS, evNil, keyIs, keyEq, mkv, AV.cells, AV.sc, optv, bnd, env, put, Env.get, Env.set, Env.del, Env.dels, Env.init, res1, resL, resV, fillP, splice, newRow, Nat.reduceEqDiff, Nat.reduceLT, Nat.reduceLeDiff, Nat.reduceAdd, Nat.reduceMul, Nat.reduceSub, Nat.reduceBEq, reduceCtorEq, ↓zR, zQ, Tr, StA, StT, hk2, bne_self_eq_false, q10]
  refine c_toPuzzle n hlen' (hs0.pre A10) ?_
  intro o11 h11 ho11 p11
  simp (maxSteps := 1000000) (disch := first | omega | rfl | (simp only [zL, two63, room] <;> omega) | fail) only [↓reduceIte, ↓zP, zW, WOp, evOp, evBin, binI, binSh, binS, evNil, keyIs, keyEq, mkv, AV.cells, AV.sc, optv, bnd, env, put, Env.get, Env.set, Env.del, Env.dels, Env.init, res1, resL, resV, fillP, splice, newRow, Nat.reduceEqDiff, Nat.reduceLT, Nat.reduceLeDiff, Nat.reduceAdd, Nat.reduceMul, Nat.reduceSub, Nat.reduceBEq, reduceCtorEq, ↓zR, zQ, Tr, StA, StT]
  refine c_Solutions n hlen' ho11.slc ?_
  intro g12 h12 hg12 p12
  change OwW 1 encS _ h12 g12 (solP n cs) at hg12
  rw [hL] at hg12
  simp (maxSteps := 1000000) (disch := first | omega | rfl | (simp only [zL, two63, room] <;> omega) | fail) only [↓reduceIte, ↓zP, zW, WOp, evOp, evBin, binI, binSh, binS, evNil, keyIs, keyEq, mkv, AV.cells, AV.sc, optv, bnd, env, put, Env.get, Env.set, Env.del, Env.dels, Env.init, res1, resL, resV, fillP, splice, newRow, Nat.reduceEqDiff, Nat.reduceLT, Nat.reduceLeDiff, Nat.reduceAdd, Nat.reduceMul, Nat.reduceSub, Nat.reduceBEq, reduceCtorEq, ↓zR, zQ, Tr, StA, StT]
  refine c_eqSS (L := L) (M := L) (by omega) (hg12.slc hlS) (hw0.slc.pre (B10.trans (p11.trans p12))) ?_
  simp (maxSteps := 1000000) (disch := first | omega | rfl | (simp only [zL, two63, room] <;> omega) | fail) only [↓reduceIte, ↓zP, zW, WOp, evOp, evBin, binI, binSh, binS, evNil, keyIs, keyEq, mkv, AV.cells, AV.sc, optv, bnd, env, put, Env.get, Env.set, Env.del, Env.dels, Env.init, res1, resL, resV, fillP, splice, newRow, Nat.reduceEqDiff, Nat.reduceLT, Nat.reduceLeDiff, Nat.reduceAdd, Nat.reduceMul, Nat.reduceSub, Nat.reduceBEq, reduceCtorEq, ↓zR, zQ, Tr, StA, StT]
  refine c_heldStringS 1 L.length hLn (by omega) ((ho10.pre (p11.trans p12)).slc hlS) ?_
  intro h13 _
  simp (maxSteps := 1000000) (disch := first | omega | rfl | (simp only [zL, two63, room] <;> omega) | fail) only [↓reduceIte, ↓zP, zW, WOp, evOp, evBin, binI, binSh, binS, evNil, keyIs, keyEq, mkv, AV.cells, AV.sc, optv, bnd, env, put, Env.get, Env.set, Env.del, Env.dels, Env.init, res1, resL, resV, fillP, splice, newRow, Nat.reduceEqDiff, Nat.reduceLT, Nat.reduceLeDiff, Nat.reduceAdd, Nat.reduceMul, Nat.reduceSub, Nat.reduceBEq, reduceCtorEq, ↓zR, zQ, Tr, StA, StT, hk2, bne_self_eq_false]
end Go.Proofs.YtnkkgghpfgihfabDoor.Ab

/- The law FnExactSolutions of the given program returns true, whatever the input: its tied card. Condition: what the row lists of package-level tables is laid as the program's text lays it. -/
namespace Go.Proofs.YtnkkgghpfgihfabDoor.fnExactSolutions
open Go Go.ChangeShapes Go.WideShapes Go.ChangeAt Go.RowKit
set_option maxRecDepth 1000000

theorem own : ownKnob Tryd.prog.godebug = none := by kernel_rfl
theorem laidOut : laidOutB Tryd.prog = true := by kernel_rfl
theorem readable : ∀ t ∈ Tryd.f3.params.toList, Tryd.prog.readableRec t = true ∧ t < Tryd.prog.types.size := by
  rw [Tryd.params3]
  intro t ht
  simp only [List.mem_cons, List.not_mem_nil, or_false] at ht
  subst ht
  exact ⟨by kernel_rfl, of_decide_eq_true (by kernel_rfl)⟩
theorem contract (H : Type) (enc : TypeId × Value → H) (W : World) (base : Nat) (args : Array Value) (ds gs : List (DataW H)) (before : List MemPlace)
    (hval : ∀ (j : Nat) t v, Tryd.f3.params[j]? = some t → args[j]? = some v → Value.okWide Tryd.prog W .any base t v)
    (hW : DataW.Whole enc Tryd.prog Tryd.f3.params.toList Rows.fnExactSolutionsSpec.vars false W args.toList ds gs before) :
    Calls Tryd.prog 3 args W fun e W' => ∃ v, e = .returned v ∧ Rows.fnExactSolutionsSpec.post enc Tryd.prog Tryd.f3 false true false false W args v W' := by
  have hW' := hW
  obtain ⟨p, q, hA0, hV, rfl, hfz, hnd⟩ := hW
  obtain ⟨rfl, rfl⟩ := trodVars_none hV
  have hA : DataW.TrodAll enc Tryd.prog W 0 (fun _ => true) true Tryd.f3.params.toList args.toList ds p := hA0
  rw [Tryd.params3] at hA hval
  obtain ⟨v0, vs0, d0, ds0, p0, q0, hargs0, rfl, rfl, h0, r0⟩ := trodAll_cons hA
  obtain ⟨rfl, rfl, rfl⟩ := trodAll_nil r0
  obtain rfl : args = #[v0] := by cases args; simp_all
  obtain ⟨n, cs, m, g, a, hs, hv, hrel, hlen⟩ := Ab.open_puzzle (F := Ab.F) Tryd.underlying24 (by kernel_rfl) (by kernel_rfl) Tryd.underlying3 Tryd.underlying22 Tryd.underlying52 (by kernel_rfl) (by kernel_rfl) Tryd.underlying3 Tryd.underlying3 Tryd.underlying3 (hval 0 24 v0 rfl rfl) h0
  have hlaw := Ab.law_Solutions n hlen hs
  have hargs : Ab.RelL Ab.F m [.agg [.int .i64 n, a]] (#[v0] : Array Value).toList := by
    simp only [Ab.RelL]
    exact ⟨v0, [], rfl, hv, rfl⟩
  have hres : (Rows.fnExactSolutionsSpec.fn H ([d0] ++ [])).results = [.lit (.bool true)] := rfl
  have hback : (Rows.fnExactSolutionsSpec.fn H ([d0] ++ [])).args = [d0] := rfl
  refine (Ab.law_calls (P := Tryd.prog) (F := Ab.F) Ab.all_sound (f := 207) (h := g) hlaw hrel hargs).mono ?_
  rintro e W' ⟨rfl, hb⟩
  refine ⟨_, rfl, Ab.post_below (pa := p0 ++ []) (pv := []) hW' (fun _ _ _ => ?_) (fun sp hsp => ?_) (fun _ _ => rfl) (by simp) hb (ok_one (by kernel_rfl) rfl (okWide_bool_mk Tryd.underlying4 _))⟩
  · rw [hres]
    exact trodAll_cons_mk (shut_bool Tryd.underlying4 _) trodAll_mk0
  · rw [hback]
    exact Ab.trodAll_stays laidOut hb readable hA0 (fun x hx => hW'.lt x (by simpa using hx)) (fun x hx => hsp x (by simpa using hx))

/-- A WORLD FOR THE WITNESS: the settled one, the tables holding what is laid. -/
def lits : List (DataW Unit) → List Value
  | [] => []
  | .lit (.int kd n) :: l => .int kd n :: lits l
  | _ :: l => lits l
def cellsT : DataW Unit → List Value
  | .agg l => l.flatMap fun
    | .lit (.int kd n) => [.int kd n]
    | .agg l' => lits l'
    | _ => []
  | _ => []
def setCells (cs : List Value) : Obj → Obj
  | .cells _ t frozen => .cells cs.toArray t frozen
  | o => o
noncomputable def laidWorld (os : Os) : World :=
  { World.holding Tryd.prog os ⟨#[], #[], []⟩ with heap := ((World.holding Tryd.prog os ⟨#[], #[], []⟩).heap.modify 1 (setCells (cellsT Rows.laid_unicode_utf8_first))).modify 2 (setCells (cellsT Rows.laid_unicode_utf8_acceptRanges)) }
theorem laid_met (os : Os) : laidMet Tryd.prog Rows.fnExactSolutionsRow.laid ((laidWorld os).forCall (fun _ _ => 0) ⟨#[], #[.agg #[.int .i64 0, .slice none 0 0]], []⟩).memory :=
  laidMet_of_run' 8 (by kernel_rfl) (by kernel_rfl)
theorem reads (os : Os) {H : Type} (enc : TypeId × Value → H) : ∃ places, DataW.whole enc Tryd.prog ((laidWorld os).forCall (fun _ _ => 0) ⟨#[], #[.agg #[.int .i64 0, .slice none 0 0]], []⟩).memory Tryd.f3.params.toList Rows.fnExactSolutionsSpec.vars false (#[.agg #[.int .i64 0, .slice none 0 0]] : Array Value).toList 8 = some ([.agg [.lit (.int .i64 0), .nil]], [], places) :=
  ⟨[], by kernel_rfl⟩

theorem lifted (os : Os) (started : os.Started) (H : Type) (enc : TypeId × Value → H) (F : Stop.Interp) :
    ReturnsInHanded {} Tryd.checked os 3 .any ((OpenSpec.ofChange Rows.fnExactSolutionsSpec).preRow enc Tryd.prog Tryd.f3 Rows.fnExactSolutionsRow.domain false Rows.fnExactSolutionsRow.laid) (((OpenSpec.ofChange Rows.fnExactSolutionsSpec).at F).post enc Tryd.prog Tryd.f3 false true false false) := by
  obtain ⟨places, hx⟩ := reads os enc
  refine returnsInHanded_of_row (C := Tryd.checked) (s := OpenSpec.ofChange Rows.fnExactSolutionsSpec) own started (by kernel_rfl) Tryd.func3
    (witness_row_at (enc := enc) (C := Tryd.checked) false (laidWorld os) #[.agg #[.int .i64 0, .slice none 0 0]] rfl (by kernel_rfl) (by kernel_rfl) (by kernel_rfl)
      (OpenSpec.preRow_of_cond 8 hx (by kernel_rfl) (fun k hk => by cases hk) (by kernel_rfl) (laid_met os))) ?_
  intro W base args ds gs before hval hW _ _ _ _ _ _
  exact contract H enc W base args ds gs before hval hW

theorem said : Rows.FnExactSolutionsSaid :=
  OpenClaim.holds_of_cond 3 Tryd.f3 rfl rfl rfl rfl rfl rfl rfl ⟨rfl, rfl, rfl, rfl, rfl⟩ rfl rfl rfl rfl rfl (by kernel_rfl) Tryd.func3 (by kernel_rfl)
    (of_decide_eq_true (by kernel_rfl)) (by unfold Func.isWrapper; first | (rw [if_pos (by decide +kernel)]; kernel_rfl) | (rw [if_neg (by decide +kernel)]; exact ⟨rfl, rfl⟩))
    (fun os started H enc _ F => by rw [OpenClaim.pre_eq_preRow]; exact lifted os started H enc F)

/-- No parameter wants a stand-in; the program's own looks are off: what the card asks. -/
theorem plain (f : FuncId) (fn : Func) (hf : Tryd.pinned.checked.prog.funcNamed "loop.example/g01271/laws.FnExactSolutions" = some f) (hfn : Tryd.pinned.checked.prog.funcs[f]? = some fn) :
    false = Tryd.pinned.checked.prog.looks [] ∧ ∀ (j : Nat) t, fn.params[j]? = some t → Tryd.pinned.checked.prog.wantsStandIn t = false := by
  obtain rfl : f = 3 := Option.some.inj ((show Tryd.prog.funcNamed "loop.example/g01271/laws.FnExactSolutions" = some 3 by kernel_rfl).symm.trans hf) |>.symm
  obtain rfl : fn = Tryd.f3 := (Option.some.inj (Tryd.func3.symm.trans hfn)).symm
  refine ⟨by kernel_rfl, fun j t ht => ?_⟩
  rw [Tryd.params3] at ht
  have hm : t ∈ ([24] : List Nat) := by
    have := Array.mem_of_getElem? ht
    simpa using this
  simp only [List.mem_cons, List.not_mem_nil, or_false] at hm
  subst hm
  exact (show Tryd.prog.wantsStandIn 24 = false by kernel_rfl)
theorem card : Rows.FnExactSolutionsCardSaid :=
  Claim7.holds_tied_plain_at .later [] _ _ _ _ said (fun _ h => by cases h) (by kernel_rfl) (fun _ h => by cases h) fnExactSolutions_row_tie rfl ⟨rfl, rfl⟩ (by kernel_rfl) rfl plain (by kernel_rfl)
end Go.Proofs.YtnkkgghpfgihfabDoor.fnExactSolutions
