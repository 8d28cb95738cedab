/- Part 5 of the proof of a law of the given program: the rules that it leans on, and what the functions that it reaches answer; the conditions stand with each theorem. -/
import Derived.Test.YtejhhdpfndiliaaGreatDoorQ3
set_option linter.unusedSimpArgs false
set_option linter.unusedVariables false
/- PUZZLES: clues. -/
namespace Go.Proofs.YtejhhdpfndiliaaGreatDoor.Ab
open Go
set_option maxRecDepth 100000
set_option maxHeartbeats 4000000

theorem c_outcome (w : List UInt8) (hw : w.length < 2 ^ 30) {c : Nat} {h : AH} (hm : Mh winK winV c h) {post : AV → AH → Prop} (hp : ∀ h', PreX c h h' → post (.str (outcS (winB w true) (winB w false))) h') : S 193 [.agg [.map c], .str w] h post k := by
  refine S_of rfl T193 ?_; unfold fi193
  simp (maxSteps := 1000000) (disch := first | omega | rfl | (simp only [zL, two63, room] <;> omega) | fail) only [↓reduceIte, ↓zP, zW, WOp, evOp, evBin, binI, binSh, binS, evNil, keyIs, keyEq, mkv, AV.cells, AV.sc, optv, bnd, env, put, Env.get, Env.set, Env.del, Env.dels, Env.init, res1, resL, resV, fillP, splice, newRow, Nat.reduceEqDiff, Nat.reduceLT, Nat.reduceLeDiff, Nat.reduceAdd, Nat.reduceMul, Nat.reduceSub, Nat.reduceBEq, reduceCtorEq, ↓zR, zQ, Tr, StA, StT]
  refine w_drw ?_
  have hlt := hm.lt
  have r0 : rdRow (h ++ [AO.row [.map c] 0 0 false]) h.length 0 0 1 = some [.map c] := by simp (maxSteps := 1000000) (disch := first | omega | rfl | (simp only [zL, two63, room] <;> omega) | fail) only [↓reduceIte, ↓zP, zW, WOp, evOp, evBin, binI, binSh, binS, evNil, keyIs, keyEq, mkv, AV.cells, AV.sc, optv, bnd, env, put, Env.get, Env.set, Env.del, Env.dels, Env.init, res1, resL, resV, fillP, splice, newRow, Nat.reduceEqDiff, Nat.reduceLT, Nat.reduceLeDiff, Nat.reduceAdd, Nat.reduceMul, Nat.reduceSub, Nat.reduceBEq, reduceCtorEq, ↓zR, zQ, Tr, StA, StT]
  simp (maxSteps := 1000000) (disch := first | omega | rfl | (simp only [zL, two63, room] <;> omega) | fail) only [↓reduceIte, ↓zP, zW, WOp, evOp, evBin, binI, binSh, binS, evNil, keyIs, keyEq, mkv, AV.cells, AV.sc, optv, bnd, env, put, Env.get, Env.set, Env.del, Env.dels, Env.init, res1, resL, resV, fillP, splice, newRow, Nat.reduceEqDiff, Nat.reduceLT, Nat.reduceLeDiff, Nat.reduceAdd, Nat.reduceMul, Nat.reduceSub, Nat.reduceBEq, reduceCtorEq, ↓zR, zQ, Tr, StA, StT]
  refine c_win (mu w + 1) w true c _ (by omega) hw (hm.pre (Pre.push _ _)) _ ?_
  intro h2 hp2 hm2
  have r2 := rdRow_prex hp2 (by omega) r0
  simp (maxSteps := 1000000) (disch := first | omega | rfl | (simp only [zL, two63, room] <;> omega) | fail) only [↓reduceIte, ↓zP, zW, WOp, evOp, evBin, binI, binSh, binS, evNil, keyIs, keyEq, mkv, AV.cells, AV.sc, optv, bnd, env, put, Env.get, Env.set, Env.del, Env.dels, Env.init, res1, resL, resV, fillP, splice, newRow, Nat.reduceEqDiff, Nat.reduceLT, Nat.reduceLeDiff, Nat.reduceAdd, Nat.reduceMul, Nat.reduceSub, Nat.reduceBEq, reduceCtorEq, ↓zR, zQ, Tr, StA, StT, r0, r2]
  refine c_win (mu w + 1) w false c _ (by omega) hw hm2 _ ?_
  intro h3 hp3 hm3
  have hq := hp h3 (((Pre.push h (AO.row [.map c] 0 0 false)).x c).trans (hp2.trans hp3))
  cases e1 : winB w true <;> cases e2 : winB w false <;> simp only [e1, e2, outcS, Bool.and_true, Bool.and_false, if_true, if_false, Bool.false_eq_true] at hq <;> simp (maxSteps := 1000000) (disch := first | omega | rfl | (simp only [zL, two63, room] <;> omega) | fail) only [↓reduceIte, ↓zP, zW, WOp, evOp, evBin, binI, binSh, binS, evNil, keyIs, keyEq, mkv, AV.cells, AV.sc, optv, bnd, env, put, Env.get, Env.set, Env.del, Env.dels, Env.init, res1, resL, resV, fillP, splice, newRow, Nat.reduceEqDiff, Nat.reduceLT, Nat.reduceLeDiff, Nat.reduceAdd, Nat.reduceMul, Nat.reduceSub, Nat.reduceBEq, reduceCtorEq, ↓zR, zQ, Tr, StA, StT, r0, r2] <;> exact hq

theorem lp_liCount (w : List UInt8) (b : UInt8) (hw : w.length < 2 ^ 30) {h : AH} {R : X → Env → AH → Prop} : ∀ (rest pre : List UInt8) (n : Nat), w = pre ++ rest → n ≤ pre.length → R (.exit 0) [(5, .int .i64 ((n + rest.count b : Nat) : Int))] h →
    Cx (.loop lp116_0) [(0, .str w), (1, by8 b), (5, .int .i64 n), (6, .int .i64 pre.length)] h R k k
  | [], pre, n, hpre, hn, hR => by
    rw [w_loopb (c := lp116_0) (d := lb116_0) rfl]; unfold lb116_0
    have hl : w.length = pre.length := by rw [hpre]; simp
    simp (maxSteps := 1000000) (disch := first | omega | rfl | (simp only [zL, two63, room] <;> omega) | fail) only [↓reduceIte, ↓zP, zW, WOp, evOp, evBin, binI, binSh, binS, evNil, keyIs, keyEq, mkv, AV.cells, AV.sc, optv, bnd, env, put, Env.get, Env.set, Env.del, Env.dels, Env.init, res1, resL, resV, fillP, splice, newRow, Nat.reduceEqDiff, Nat.reduceLT, Nat.reduceLeDiff, Nat.reduceAdd, Nat.reduceMul, Nat.reduceSub, Nat.reduceBEq, reduceCtorEq, ↓zR, zQ, Tr, StA, StT, hl]
    simpa using hR
  | x :: rest, pre, n, hpre, hn, hR => by
    have ih := lp_liCount w b hw (h := h) (R := R) rest (pre ++ [x])
    have hl : w.length = pre.length + 1 + rest.length := by rw [hpre]; simp; omega
    have hx : w.getD pre.length 0 = x := by rw [hpre]; simp [List.getD_eq_getElem?_getD]
    rw [w_loopb (c := lp116_0) (d := lb116_0) rfl]; unfold lb116_0
    have w1 : (pre.length : Int) + 1 = ((pre ++ [x]).length : Int) := by simp
    have w2 : (n : Int) + 1 = ((n + 1 : Nat) : Int) := by omega
    cases e : (x == b)
    · simp (maxSteps := 1000000) (disch := first | omega | rfl | (simp only [zL, two63, room] <;> omega) | fail) only [↓reduceIte, ↓zP, zW, WOp, evOp, evBin, binI, binSh, binS, evNil, keyIs, keyEq, mkv, AV.cells, AV.sc, optv, bnd, env, put, Env.get, Env.set, Env.del, Env.dels, Env.init, res1, resL, resV, fillP, splice, newRow, Nat.reduceEqDiff, Nat.reduceLT, Nat.reduceLeDiff, Nat.reduceAdd, Nat.reduceMul, Nat.reduceSub, Nat.reduceBEq, reduceCtorEq, ↓zR, zQ, Tr, StA, StT, hx, e, w1]
      rw [w_loopn (c := lp116_0) rfl]
      simp (maxSteps := 1000000) (disch := first | omega | rfl | (simp only [zL, two63, room] <;> omega) | fail) only [↓reduceIte, ↓zP, zW, WOp, evOp, evBin, binI, binSh, binS, evNil, keyIs, keyEq, mkv, AV.cells, AV.sc, optv, bnd, env, put, Env.get, Env.set, Env.del, Env.dels, Env.init, res1, resL, resV, fillP, splice, newRow, Nat.reduceEqDiff, Nat.reduceLT, Nat.reduceLeDiff, Nat.reduceAdd, Nat.reduceMul, Nat.reduceSub, Nat.reduceBEq, reduceCtorEq, ↓zR, zQ, Tr, StA, StT]
      exact ih n (by rw [hpre]; simp) (by simp; omega) (by rw [List.count_cons, e] at hR; simpa using hR)
    · simp (maxSteps := 1000000) (disch := first | omega | rfl | (simp only [zL, two63, room] <;> omega) | fail) only [↓reduceIte, ↓zP, zW, WOp, evOp, evBin, binI, binSh, binS, evNil, keyIs, keyEq, mkv, AV.cells, AV.sc, optv, bnd, env, put, Env.get, Env.set, Env.del, Env.dels, Env.init, res1, resL, resV, fillP, splice, newRow, Nat.reduceEqDiff, Nat.reduceLT, Nat.reduceLeDiff, Nat.reduceAdd, Nat.reduceMul, Nat.reduceSub, Nat.reduceBEq, reduceCtorEq, ↓zR, zQ, Tr, StA, StT, hx, e, w1, w2]
      rw [w_loopn (c := lp116_0) rfl]
      simp (maxSteps := 1000000) (disch := first | omega | rfl | (simp only [zL, two63, room] <;> omega) | fail) only [↓reduceIte, ↓zP, zW, WOp, evOp, evBin, binI, binSh, binS, evNil, keyIs, keyEq, mkv, AV.cells, AV.sc, optv, bnd, env, put, Env.get, Env.set, Env.del, Env.dels, Env.init, res1, resL, resV, fillP, splice, newRow, Nat.reduceEqDiff, Nat.reduceLT, Nat.reduceLeDiff, Nat.reduceAdd, Nat.reduceMul, Nat.reduceSub, Nat.reduceBEq, reduceCtorEq, ↓zR, zQ, Tr, StA, StT]
      exact ih (n + 1) (by rw [hpre]; simp) (by simp; omega) (by rw [List.count_cons, e] at hR; simpa [Nat.add_assoc, Nat.add_comm 1] using hR)
theorem e_liCount (w : List UInt8) (b : UInt8) (hw : w.length < 1073741824) {h : AH} {post : AV → AH → Prop} : S 116 [.str w, by8 b] h post k = post (.int .i64 (w.count b : Nat)) h := by
  refine S_eq fun post hp => ?_
  refine S_of rfl T116 ?_; unfold fi116
  simp (maxSteps := 1000000) (disch := first | omega | rfl | (simp only [zL, two63, room] <;> omega) | fail) only [↓reduceIte, ↓zP, zW, WOp, evOp, evBin, binI, binSh, binS, evNil, keyIs, keyEq, mkv, AV.cells, AV.sc, optv, bnd, env, put, Env.get, Env.set, Env.del, Env.dels, Env.init, res1, resL, resV, fillP, splice, newRow, Nat.reduceEqDiff, Nat.reduceLT, Nat.reduceLeDiff, Nat.reduceAdd, Nat.reduceMul, Nat.reduceSub, Nat.reduceBEq, reduceCtorEq, ↓zR, zQ, Tr, StA, StT]
  refine lp_liCount w b hw w [] 0 rfl (by simp) ?_
  simp (maxSteps := 1000000) (disch := first | omega | rfl | (simp only [zL, two63, room] <;> omega) | fail) only [↓reduceIte, ↓zP, zW, WOp, evOp, evBin, binI, binSh, binS, evNil, keyIs, keyEq, mkv, AV.cells, AV.sc, optv, bnd, env, put, Env.get, Env.set, Env.del, Env.dels, Env.init, res1, resL, resV, fillP, splice, newRow, Nat.reduceEqDiff, Nat.reduceLT, Nat.reduceLeDiff, Nat.reduceAdd, Nat.reduceMul, Nat.reduceSub, Nat.reduceBEq, reduceCtorEq, ↓zR, zQ, Tr, StA, StT]
  simpa using hp
theorem e_liCountT (w : List UInt8) (hw : w.length < 1073741824) {h : AH} {post : AV → AH → Prop} : S 116 [.str w, .int .u8 84] h post k = post (.int .i64 (w.count 84 : Nat)) h := e_liCount w 84 hw
theorem e_liCountF (w : List UInt8) (hw : w.length < 1073741824) {h : AH} {post : AV → AH → Prop} : S 116 [.str w, .int .u8 70] h post k = post (.int .i64 (w.count 70 : Nat)) h := e_liCount w 70 hw
theorem e_liCountD (w : List UInt8) (hw : w.length < 1073741824) {h : AH} {post : AV → AH → Prop} : S 116 [.str w, .int .u8 46] h post k = post (.int .i64 (w.count 46 : Nat)) h := e_liCount w 46 hw
def clueOk (n : Int) (c : Int × Int × Int) : Bool :=
  if c.1 = 0 then decide (0 ≤ c.2.1 ∧ c.2.1 ≤ n - 1) && decide (0 ≤ c.2.2 ∧ c.2.2 ≤ 2) else
  decide (c.2.2 = 0) && (if c.1 = 1 ∨ c.1 = 2 then decide (0 ≤ c.2.1 ∧ c.2.1 ≤ n) else if c.1 = 3 then decide (0 ≤ c.2.1 ∧ c.2.1 ≤ 2 * n) else if c.1 = 4 then decide (0 ≤ c.2.1 ∧ c.2.1 ≤ 10) else if c.1 = 5 then decide (0 ≤ c.2.1 ∧ c.2.1 ≤ 3) else false)
def clueB (kd cell : Int) (w : List UInt8) : Int × Int × Int :=
  if kd = 0 then (0, cell, Go.Lib.indexByte [46, 70, 84] (w.getD cell.toNat 0)) else if kd = 1 then (1, w.count 84, 0) else if kd = 2 then (2, w.count 70, 0) else if kd = 3 then (3, (movesB w [84, 70]).length, 0) else if kd = 4 then (4, pairsB w, 0) else
  (5, Go.Lib.indexByte [49, 50, 70, 84] ((outcS (winB w true) (winB w false)).getD 0 0), 0)
theorem outcS_one (a b : Bool) : outcS a b = [(outcS a b).getD 0 0] := by cases a <;> cases b <;> rfl
end Go.Proofs.YtejhhdpfndiliaaGreatDoor.Ab

/- PUZZLES: which lines fit a clue. -/
namespace Go.Proofs.YtejhhdpfndiliaaGreatDoor.Ab
open Go
set_option maxRecDepth 100000
set_option maxHeartbeats 4000000

theorem idx_cons (x : UInt8) (l : List UInt8) (b : UInt8) : Go.Lib.indexByte (x :: l) b = if x == b then 0 else if Go.Lib.indexByte l b == -1 then -1 else Go.Lib.indexByte l b + 1 := rfl
def pzI (s : List UInt8) (b : UInt8) : Int := if Go.Lib.indexByte s b = -1 then 0 else Go.Lib.indexByte s b
def valB (kd at' : Int) (w : List UInt8) : Int :=
  if kd = 0 then pzI [46, 70, 84] (w.getD at'.toNat 0) else if kd = 1 then w.count 84 else if kd = 2 then w.count 70 else if kd = 3 then (movesB w [84, 70]).length else if kd = 4 then pairsB w else
  pzI [49, 50, 70, 84] ((outcS (winB w true) (winB w false)).getD 0 0)
def fitB (c : Int × Int × Int) (w : List UInt8) : Bool := if c.1 = 0 then valB 0 c.2.1 w == c.2.2 else valB c.1 0 w == c.2.1
theorem pzI_sign {b : UInt8} (hb : isSign b = true) : pzI [46, 70, 84] b = Go.Lib.indexByte [46, 70, 84] b := by
  simp only [isSign, Bool.or_eq_true, beq_iff_eq] at hb
  rcases hb with (rfl | rfl) | rfl <;> decide
theorem pzI_out (a b : Bool) : pzI [49, 50, 70, 84] ((outcS a b).getD 0 0) = Go.Lib.indexByte [49, 50, 70, 84] ((outcS a b).getD 0 0) := by cases a <;> cases b <;> decide
theorem fit_eq {n : Int} {kd a b cell : Int} {w : List UInt8} (hs : w.all isSign = true) (hn : n = w.length) (hc : clueOk n (kd, a, b) = true) (hcell : kd = 0 → cell = a) : seqL [0, 0, 0] (encC (clueB kd cell w)) (encC (kd, a, b)) = some (fitB (kd, a, b) w) := by
  have key : ∀ x y z : Int, seqL [0, 0, 0] (encC (x, y, z)) (encC (kd, a, b)) = some ((x == kd) && ((y == a) && (z == b))) := by
    intro x y z
    simp [seqL, keyIs, keyEq]
  unfold fitB clueB valB
  by_cases k0 : kd = 0
  · subst k0
    have := hcell rfl
    subst this
    simp only [if_true]
    simp only [clueOk, if_true, Bool.and_eq_true, decide_eq_true_eq] at hc
    rw [key, pzI_sign (sign_at hs (by omega))]
    simp
  have hb : b = 0 := by
    simp only [clueOk, if_neg k0, Bool.and_eq_true, decide_eq_true_eq] at hc
    exact hc.1
  subst hb
  simp only [if_neg k0]
  by_cases k1 : kd = 1
  · subst k1; rw [if_pos rfl, if_pos rfl, key]; simp
  rw [if_neg k1, if_neg k1]
  by_cases k2 : kd = 2
  · subst k2; rw [if_pos rfl, if_pos rfl, key]; simp
  rw [if_neg k2, if_neg k2]
  by_cases k3 : kd = 3
  · subst k3; rw [if_pos rfl, if_pos rfl, key]; simp
  rw [if_neg k3, if_neg k3]
  by_cases k4 : kd = 4
  · subst k4; rw [if_pos rfl, if_pos rfl, key]; simp
  rw [if_neg k4, if_neg k4]
  have k5 : kd = 5 := by
    simp [clueOk, k0, k1, k2, k3, k4] at hc
    exact hc.1
  subst k5
  rw [key, pzI_out]
  simp
end Go.Proofs.YtejhhdpfndiliaaGreatDoor.Ab

/- PLAIN: all lines of so many cells, in order. -/
namespace Go.Proofs.YtejhhdpfndiliaaGreatDoor.Ab

def ext3 (w : List UInt8) : List (List UInt8) := [w ++ [46], w ++ [70], w ++ [84]]
def allL : Nat → List (List UInt8)
  | 0 => [[]]
  | n + 1 => (allL n).flatMap ext3
/-- All that go on so many cells. -/
def goOn : Nat → List UInt8 → List (List UInt8)
  | 0, w => [w]
  | n + 1, w => goOn n (w ++ [46]) ++ goOn n (w ++ [70]) ++ goOn n (w ++ [84])
theorem goOn_succ : ∀ (n : Nat) (w : List UInt8), goOn (n + 1) w = (goOn n w).flatMap ext3
  | 0, w => by simp [goOn, ext3]
  | n + 1, w => by
    rw [goOn, goOn_succ n, goOn_succ n, goOn_succ n]
    conv => rhs; rw [goOn]
    simp only [List.flatMap_append]
theorem goOn_all : ∀ n : Nat, goOn n [] = allL n
  | 0 => rfl
  | n + 1 => by rw [goOn_succ, goOn_all n]; rfl
theorem allL_good : ∀ (n : Nat) (w : List UInt8), w ∈ allL n → w.length = n ∧ w.all isSign = true
  | 0, w, h => by simp [allL] at h; subst h; exact ⟨rfl, rfl⟩
  | n + 1, w, h => by
    simp only [allL, List.mem_flatMap] at h
    obtain ⟨v, hv, h⟩ := h
    obtain ⟨h1, h2⟩ := allL_good n v hv
    simp only [ext3, List.mem_cons, List.not_mem_nil, or_false] at h
    rcases h with rfl | rfl | rfl <;> simp [h1, h2, isSign, List.all_append]
theorem allL_length : ∀ n : Nat, (allL n).length = 3 ^ n
  | 0 => rfl
  | n + 1 => by
    have key : ∀ l : List (List UInt8), (l.flatMap ext3).length = l.length * 3 := by
      intro l
      induction l with
      | nil => rfl
      | cons a l ih => rw [List.flatMap_cons, List.length_append, ih]; simp [ext3]; omega
    rw [allL, key, allL_length n, Nat.pow_succ]
end Go.Proofs.YtejhhdpfndiliaaGreatDoor.Ab

/- A CELL that holds a slice of one's own, to which is appended through a pointer. -/
namespace Go.Proofs.YtejhhdpfndiliaaGreatDoor.Ab
open Go
set_option maxRecDepth 100000
set_option maxHeartbeats 4000000

/-- Rows that belong to a cell: its own, and those of the slices that it holds. -/
def grc (c : Nat) (h : AH) (i : Nat) : Prop := i = c ∨ ∃ cs ver fl ro, h[c]? = some (.row cs ver fl ro) ∧ ∃ v ∈ cs, rowOf v = some i
def FrC (c : Nat) (h h' : AH) : Prop := h.length ≤ h'.length ∧ ∀ i, i < h.length → ¬ grc c h i → h'[i]? = h[i]? ∧ ¬ grc c h' i
theorem FrC.refl (c : Nat) (h : AH) : FrC c h h := ⟨Nat.le_refl _, fun _ _ hg => ⟨rfl, hg⟩⟩
theorem FrC.trans {c : Nat} {x y z : AH} (p : FrC c x y) (q : FrC c y z) : FrC c x z := ⟨Nat.le_trans p.1 q.1, fun i hi hg => by
  obtain ⟨h1, h2⟩ := p.2 i hi hg
  obtain ⟨h3, h4⟩ := q.2 i (Nat.lt_of_lt_of_le hi p.1) h2
  exact ⟨by rw [h3, h1], h4⟩⟩
theorem grc_pre {c : Nat} {h h' : AH} (hp : Pre h h') (hc : c < h.length) (i : Nat) : grc c h' i ↔ grc c h i := by
  unfold grc; rw [hp.2 c hc]
theorem Pre.frc {c : Nat} {h h' : AH} (hp : Pre h h') (hc : c < h.length) : FrC c h h' := ⟨hp.1, fun i hi hg => ⟨hp.2 i hi, by rw [grc_pre hp hc]; exact hg⟩⟩
theorem rd_frc {c : Nat} {h h' : AH} (hf : FrC c h h') {r k o n : Nat} {cs : List AV} (hg : ¬ grc c h r) (hr : rdRow h r k o n = some cs) : rdRow h' r k o n = some cs := by
  have := rd_lt hr
  unfold rdRow at hr ⊢
  rw [(hf.2 r this hg).1]; exact hr
/-- A slice that is read, and does not belong to the cell. -/
def SlcC {α : Type} (esz : Nat) (enc : α → List AV) (c : Nat) (h : AH) (v : AV) (L : List α) : Prop := Slc esz enc h v L ∧ ∀ r, rowOf v = some r → ¬ grc c h r
theorem SlcC.fr {α : Type} {esz : Nat} {enc : α → List AV} {c : Nat} {h h' : AH} {v : AV} {L : List α} (hs : SlcC esz enc c h v L) (hf : FrC c h h') : SlcC esz enc c h' v L := by
  obtain ⟨h1, h2⟩ := hs
  unfold SlcC Slc Sl at *
  cases v <;> simp only [rowOf] at * <;> first
    | (exact ⟨h1, fun r hr => by cases hr⟩)
    | (obtain ⟨k1, k2, k3, k4⟩ := h1
       exact ⟨⟨k1, k2, k3, rd_frc hf (h2 _ rfl) k4⟩, fun r hr => by cases hr; exact (hf.2 _ (rd_lt k4) (h2 _ rfl)).2⟩)
section
variable {α : Type} {esz : Nat} {enc : α → List AV}
/-- The cell r holds a slice of one's own. -/
def OutP (esz : Nat) (enc : α → List AV) (r : Nat) (b h : AH) (l : List α) : Prop := ∃ vo, h[r]? = some (.row [vo] 0 0 false) ∧ OwL esz enc b h vo l ∧ rowOf vo ≠ some r
theorem OutP.lt {r : Nat} {b h : AH} {l : List α} (ho : OutP esz enc r b h l) : r < h.length := by
  obtain ⟨vo, h1, _⟩ := ho
  exact (List.getElem?_eq_some_iff.1 h1).1
theorem OutP.pre {r : Nat} {b h h' : AH} {l : List α} (ho : OutP esz enc r b h l) (hp : Pre h h') : OutP esz enc r b h' l := by
  have := ho.lt
  obtain ⟨vo, h1, h2, h3⟩ := ho
  exact ⟨vo, by rw [hp.2 r this]; exact h1, h2.pre hp, h3⟩
theorem OutP.grc_lt {r : Nat} {b h : AH} {l : List α} (ho : OutP esz enc r b h l) {i : Nat} (hg : grc r h i) : i < h.length := by
  have hlt := ho.lt
  obtain ⟨vo, h1, h2, h3⟩ := ho
  rcases hg with rfl | ⟨cs, ver, fl, ro, h4, v, hv, h5⟩
  · exact hlt
  · rw [h1] at h4
    simp only [Option.some.injEq, AO.row.injEq] at h4
    obtain ⟨rfl, _⟩ := h4
    simp at hv
    subst hv
    exact own_lt h2 h5
theorem OutP.fresh {r : Nat} {b h h' : AH} {l : List α} (ho : OutP esz enc r b h l) (hp : Pre h h') {i : Nat} (hi : h.length ≤ i) : ¬ grc r h' i := by
  rw [grc_pre hp ho.lt]
  intro hg
  have := ho.grc_lt hg
  omega
theorem OutP.rd {r : Nat} {b h : AH} {l : List α} (ho : OutP esz enc r b h l) : ∃ vo, rdRow h r 0 0 1 = some [vo] ∧ OwL esz enc b h vo l := by
  obtain ⟨vo, h1, h2, _⟩ := ho
  exact ⟨vo, by simp [rdRow, h1], h2⟩
theorem OutP.push (hl : ∀ x, (enc x).length = esz) (hsc : ∀ x, (enc x).all AV.sc = true) {r : Nat} {b h : AH} {l : List α} (ho : OutP esz enc r b h l) (hb : b.length ≤ h.length) (x : α) (hr : l.length + 1 ≤ 1099511627776) :
    ∃ vo v' h3, rdRow h r 0 0 1 = some [vo] ∧ rdRow (h ++ [AO.row (enc x) 0 0 false]) h.length 0 0 esz = some (enc x) ∧ apRow (h ++ [AO.row (enc x) 0 0 false]) esz vo 1 (enc x) = some (v', h3) ∧ v'.cells = [v'] ∧ v'.sc = true ∧
      wrRow h3 r 0 0 [v'] = some (h3.set r (.row [v'] 0 0 false)) ∧ OutP esz enc r b (h3.set r (.row [v'] 0 0 false)) (l ++ [x]) ∧ FrC r h (h3.set r (.row [v'] 0 0 false)) := by
  have hlt := ho.lt
  obtain ⟨vo, h1, h2, h3⟩ := ho
  have hpush := Pre.push h (AO.row (enc x) 0 0 false)
  obtain ⟨v', g, ha, ho', hag⟩ := apA hl hsc (h2.pre hpush) (by simp; omega) x hr
  obtain ⟨f1, f2, f3⟩ := apRow_fr ha
  have hll : (h ++ [AO.row (enc x) 0 0 false]).length = h.length + 1 := by simp
  have hrg : g[r]? = some (.row [vo] 0 0 false) := by rw [f1 r (by omega) h3, hpush.2 r hlt, h1]
  have hlg : r < g.length := by omega
  have n1 : rowOf v' ≠ some r := fun e => by
    rcases f3 r e with h4 | h4
    · exact h3 h4
    · omega
  have hrx : rdRow (h ++ [AO.row (enc x) 0 0 false]) h.length 0 0 esz = some (enc x) := by
    rw [rd_last, if_pos (by rw [hl]; omega), List.drop_zero, List.take_of_length_le (by rw [hl]; exact Nat.le_refl _)]
  refine ⟨vo, v', g, by simp [rdRow, h1], hrx, ha, ho'.cells, ho'.sc1, ?_, ?_, ?_⟩
  · simp [wrRow, hrg, splice, ho'.sc1]
  · refine ⟨v', by rw [List.getElem?_set, if_pos rfl, if_pos hlg], own_row ho' fun i hi => ?_, n1⟩
    rw [List.getElem?_set, if_neg (by rintro rfl; exact n1 hi)]
  · refine ⟨by simp; omega, fun i hi hg => ?_⟩
    have g1 : i ≠ r := fun e => hg (.inl e)
    have g2 : rowOf vo ≠ some i := fun e => hg (.inr ⟨_, _, _, _, h1, vo, by simp, e⟩)
    refine ⟨by rw [List.getElem?_set, if_neg (Ne.symm g1), f1 i (by omega) g2, hpush.2 i hi], ?_⟩
    rintro (e | ⟨cs, ver, fl, ro, e1, v, hv, e2⟩)
    · exact g1 e
    · rw [List.getElem?_set, if_pos rfl, if_pos hlg] at e1
      simp only [Option.some.injEq, AO.row.injEq] at e1
      obtain ⟨rfl, _⟩ := e1
      simp at hv
      subst hv
      rcases f3 i e2 with h4 | h4
      · exact g2 h4
      · omega
theorem OwL.slcC {esz' : Nat} {β : Type} {enc' : β → List AV} {r : Nat} {b h h' : AH} {l : List α} {v : AV} {L : List β} (ho : OwL esz' enc' h h' v L) (hk : OutP esz enc r b h l) (hp : Pre h h') : SlcC esz' enc' r h' v L :=
  ⟨ho.slc, fun _ hr => hk.fresh hp (own_ge ho hr)⟩
end
end Go.Proofs.YtejhhdpfndiliaaGreatDoor.Ab

/- PUZZLES: all lines, and those that fit. -/
namespace Go.Proofs.YtejhhdpfndiliaaGreatDoor.Ab
open Go
set_option maxRecDepth 100000
set_option maxHeartbeats 4000000

theorem dec3 (i : Nat) (h : i < 3) : dec [46, 70, 84] i = (((([46, 70, 84] : List UInt8).getD i 0).toNat : Int), 1) := dec_low h (by
  have : ∀ i, i < 3 → (([46, 70, 84] : List UInt8).getD i 0).toNat < 128 := by decide
  exact this i h)
theorem enc3 : ∀ b : UInt8, b = 46 ∨ b = 70 ∨ b = 84 → (Utf8.encode (b.toNat : Int)).data.toList = [b] := by
  rintro b (rfl | rfl | rfl) <;> decide +kernel
theorem own_ne_iter {esz : Nat} {b h : AH} {v : AV} {n : Nat} {cs : List AV} (ho : Own esz b h v n cs) {c : Nat} {s : List UInt8} {p : Nat} (hc : h[c]? = some (.iter s p)) : rowOf v ≠ some c := by
  unfold Own at ho
  intro hr
  cases v <;> simp only [rowOf] at ho hr <;> first
    | (cases hr; done)
    | (cases hr
       obtain ⟨_, _, _, _, cells, fl, h5, _⟩ := ho
       rw [hc] at h5; cases h5)
abbrev Clu := Int × Int × Int
/-- All lines that fit. -/
def fitL (n : Nat) (cs : List Clu) : List (List UInt8) := (allL n).filter fun w => cs.all fun c => fitB c w
theorem goOn_length : ∀ (d : Nat) (w : List UInt8), (goOn d w).length = 3 ^ d
  | 0, _ => rfl
  | d + 1, w => by simp only [goOn, List.length_append, goOn_length d]; rw [Nat.pow_succ]; omega
abbrev S3 : List (List UInt8) := [[46], [70], [84]]
end Go.Proofs.YtejhhdpfndiliaaGreatDoor.Ab

/- PUZZLES: which there are, their solutions; the law's helpers. -/
namespace Go.Proofs.YtejhhdpfndiliaaGreatDoor.Ab
open Go
set_option maxRecDepth 100000
set_option maxHeartbeats 4000000

def goodP (n : Int) (cs : List Clu) : Bool := decide (1 ≤ n ∧ n ≤ 5) && (decide (cs.length ≤ 6) && cs.all fun c => clueOk n c)
theorem goodP_iff {n : Int} {cs : List Clu} (h : goodP n cs = true) : ∃ m : Nat, n = m ∧ 1 ≤ m ∧ m ≤ 5 ∧ cs.length ≤ 6 ∧ ∀ c ∈ cs, clueOk n c = true := by
  simp only [goodP, Bool.and_eq_true, decide_eq_true_eq, List.all_eq_true] at h
  obtain ⟨⟨h1, h2⟩, h3, h4⟩ := h
  exact ⟨n.toNat, by omega, by omega, by omega, h3, h4⟩
abbrev pzV (n : Int) (v : AV) : AV := .agg [.int .i64 n, v]
theorem sl_cells {α : Type} {esz : Nat} {enc : α → List AV} {h : AH} {v : AV} {L : List α} (hs : Slc esz enc h v L) : v.cells = [v] ∧ v.sc = true := by
  unfold Slc Sl at hs
  cases v <;> simp only at hs <;> first
    | exact ⟨rfl, rfl⟩
    | (exact hs.elim)
def solN (n : Int) (cs : List Clu) : List (List UInt8) := fitL n.toNat cs
def countP (n : Int) (cs : List Clu) : Int := if goodP n cs then (solN n cs).length else 0
theorem rep_flat (n : Nat) : (List.replicate n [AV.int .i64 0, AV.int .i64 0, AV.int .i64 0]).flatten = (List.replicate n ((0, 0, 0) : Clu)).flatMap encC := by
  induction n with
  | zero => rfl
  | succ n ih => rw [List.replicate_succ, List.replicate_succ, List.flatten_cons, List.flatMap_cons, ih]
theorem beq_cc {α : Type} [BEq α] (x y : α) (l l' : List α) : (x :: l == y :: l') = (x == y && l == l') := rfl
end Go.Proofs.YtejhhdpfndiliaaGreatDoor.Ab

/- PUZZLES: the first solution, whether one alone is left; their laws. -/
namespace Go.Proofs.YtejhhdpfndiliaaGreatDoor.Ab
open Go
set_option maxRecDepth 100000
set_option maxHeartbeats 4000000

def solP (n : Int) (cs : List Clu) : List (List UInt8) := if goodP n cs then solN n cs else []

end Go.Proofs.YtejhhdpfndiliaaGreatDoor.Ab

/- MARKS: what the laws' helpers write into a slice and find there again; slices of numbers compared. -/
namespace Go.Proofs.YtejhhdpfndiliaaGreatDoor.Ab
open Go
set_option maxRecDepth 100000
set_option maxHeartbeats 4000000

theorem splice_in {X vs : List AV} {o : Nat} (h : o + vs.length ≤ X.length) (A Z : List AV) {n : Nat} (hn : n = A.length + o) : splice (A ++ (X ++ Z)) n vs = A ++ (splice X o vs ++ Z) := by
  subst hn
  unfold splice
  rw [List.take_append, List.take_of_length_le (by omega), show A.length + o - A.length = o by omega, List.take_append_of_le_length (by omega),
    List.drop_append, List.drop_of_length_le (by omega), show A.length + o + vs.length - A.length = o + vs.length by omega, List.drop_append_of_le_length (by omega)]
  simp
theorem OwW.store {α : Type} {esz : Nat} {enc : α → List AV} (hl : ∀ x, (enc x).length = esz) {b h : AH} {v : AV} {pre : List α} {x : α} {rest : List α} (ho : OwW esz enc b h v (pre ++ x :: rest)) (y : α) (o : Nat) (vs : List AV) (hvs : o + vs.length ≤ esz) (hsc : vs.all AV.sc = true) (hy : splice (enc x) o vs = enc y) :
    ∃ c kk off h', v = .slice c kk off (pre ++ x :: rest).length esz ∧ wrRow h c kk (off + pre.length * esz + o) vs = some h' ∧ OwW esz enc b h' v (pre ++ y :: rest) ∧ PreV v h h' := by
  unfold OwW at ho
  cases v <;> simp only at ho <;> first
    | (exact ho.elim)
    | (simp at ho; done)
    | skip
  rename_i c kk off len e
  obtain ⟨rfl, rfl, h3, A, Z, fl, h4, h5, h6⟩ := ho
  have hlt := (List.getElem?_eq_some_iff.1 h4).1
  have hpl := flat_len hl pre
  have hrow : A ++ (pre ++ x :: rest).flatMap enc ++ Z = (A ++ pre.flatMap enc) ++ (enc x ++ (rest.flatMap enc ++ Z)) := by simp
  have hsp := splice_in (X := enc x) (vs := vs) (o := o) (by rw [hl]; exact hvs) (A ++ pre.flatMap enc) (rest.flatMap enc ++ Z) (n := off + pre.length * e + o) (by rw [List.length_append, hpl, h6])
  rw [hrow] at h4
  refine ⟨c, kk, off, h.set c (.row (splice ((A ++ pre.flatMap enc) ++ (enc x ++ (rest.flatMap enc ++ Z))) (off + pre.length * e + o) vs) kk kk false), rfl, ?_, ?_, ?_⟩
  · unfold wrRow
    rw [h4]
    simp only
    rw [if_pos ⟨trivial, h5, by simp only [List.length_append, hpl, hl, h6]; omega, hsc⟩]
  · unfold OwW
    simp only
    refine ⟨trivial, by simp, h3, A, Z, kk, ?_, Nat.le_refl _, h6⟩
    rw [List.getElem?_set, if_pos rfl, if_pos hlt, hsp, hy]
    simp
  · exact ⟨by simp, fun i _ hc => by rw [List.getElem?_set, if_neg (hc c kk off _ e rfl ·.symm)]⟩
theorem PreV.trans {v : AV} {a b c : AH} (x : PreV v a b) (y : PreV v b c) : PreV v a c := ⟨Nat.le_trans x.1 y.1, fun i hi hc => by rw [y.2 i (Nat.lt_of_lt_of_le hi x.1) hc, x.2 i hi hc]⟩
theorem PreV.refl (v : AV) (a : AH) : PreV v a a := ⟨Nat.le_refl _, fun _ _ _ => rfl⟩

def cntL : Int → Nat → List Int
  | _, 0 => []
  | q, n + 1 => q :: cntL (q + 1) n
theorem cntL_len : ∀ (n : Nat) (q : Int), (cntL q n).length = n
  | 0, _ => rfl
  | n + 1, q => by simp [cntL, cntL_len n]
def cntC : Int → Nat → List Clu
  | _, 0 => []
  | q, n + 1 => (q, q + 1, q + 2) :: cntC (q + 3) n
theorem cntC_len : ∀ (n : Nat) (q : Int), (cntC q n).length = n
  | 0, _ => rfl
  | n + 1, q => by simp [cntC, cntC_len n]
theorem PreV.keep {α : Type} {esz : Nat} {enc : α → List AV} {a b h h' : AH} {v : AV} {L : List α} (hp : PreV v h h') (ho : OwW esz enc b h v L) (ha : Pre a h) (hab : a.length ≤ b.length) : Pre a h' :=
  ⟨Nat.le_trans ha.1 hp.1, fun i hi => by
    rw [hp.2 i (Nat.lt_of_lt_of_le hi ha.1) (fun c kk off n e hv => by
      subst hv
      unfold OwW at ho
      have := ho.2.2.1
      omega), ha.2 i hi]⟩
theorem Slc.row_lt {α : Type} {esz : Nat} {enc : α → List AV} {h : AH} {v : AV} {L : List α} (hs : Slc esz enc h v L) : ∀ c kk off n e, v = .slice c kk off n e → c < h.length := by
  rintro c kk off n e rfl
  exact rd_lt hs.all.2.2
theorem OwW.keep {α : Type} {esz : Nat} {enc : α → List AV} {b h h' : AH} {v u : AV} {L : List α} (ho : OwW esz enc b h v L) (hp : PreV u h h') (hu : ∀ c kk off n e, u = .slice c kk off n e → c < b.length) : OwW esz enc b h' v L := by
  unfold OwW at ho ⊢
  cases v <;> simp only at ho ⊢ <;> first
    | exact ho
    | (obtain ⟨h1, h2, h3, A, Z, fl, h4, h5⟩ := ho
       exact ⟨h1, h2, h3, A, Z, fl, by rw [hp.2 _ (List.getElem?_eq_some_iff.1 h4).1 (fun c kk off n e hv => by have := hu c kk off n e hv; omega)]; exact h4, h5⟩)
end Go.Proofs.YtejhhdpfndiliaaGreatDoor.Ab

/- PUZZLES: the cells that all solutions share; the law of SureCells. -/
namespace Go.Proofs.YtejhhdpfndiliaaGreatDoor.Ab
open Go
set_option maxRecDepth 100000
set_option maxHeartbeats 4000000

abbrev encU (b : UInt8) : List AV := [.int .u8 b.toNat]
theorem hlU (s : UInt8) : (encU s).length = 1 := rfl
theorem flatU : ∀ s : List UInt8, s.flatMap encU = s.map fun b => AV.int .u8 b.toNat
  | [] => rfl
  | b :: s => by rw [List.flatMap_cons, flatU s]; rfl
def mg (c x : UInt8) : UInt8 := if x == c then c else 63
def mgL (cur w : List UInt8) : List UInt8 := List.zipWith mg cur w
theorem mgL_len (cur w : List UInt8) (h : w.length = cur.length) : (mgL cur w).length = cur.length := by unfold mgL; rw [List.length_zipWith, h]; omega
def sg (L : List (List UInt8)) (hd : List UInt8) (i : Nat) : List UInt8 := if L.all (fun w => (w.drop i).take 1 == (hd.drop i).take 1) then (hd.drop i).take 1 else [63]
def acc (L : List (List UInt8)) (hd : List UInt8) (i : Nat) : List UInt8 := (List.range i).flatMap (sg L hd)
theorem sg_len (L : List (List UInt8)) (hd : List UInt8) (i : Nat) : (sg L hd i).length ≤ 1 := by unfold sg; split <;> simp; omega
theorem acc_succ (L : List (List UInt8)) (hd : List UInt8) (i : Nat) : acc L hd (i + 1) = acc L hd i ++ sg L hd i := by unfold acc; rw [List.range_succ, List.flatMap_append]; simp
theorem acc_len (L : List (List UInt8)) (hd : List UInt8) : ∀ i, (acc L hd i).length ≤ i
  | 0 => by simp [acc]
  | i + 1 => by have := acc_len L hd i; have := sg_len L hd i; rw [acc_succ, List.length_append]; omega
theorem tk1 (w : List UInt8) (i : Nat) (h : i < w.length) : (w.drop i).take 1 = [w.getD i 0] := by
  rw [List.drop_eq_getElem_cons h, List.take_succ_cons, List.take_zero]
  simp [List.getD, h]
theorem mgL_at (cur w : List UInt8) (i : Nat) (h : i < cur.length) (hw : w.length = cur.length) : (mgL cur w).getD i 0 = mg (cur.getD i 0) (w.getD i 0) := by
  have h2 : i < w.length := by omega
  have h3 : i < (List.zipWith mg cur w).length := by simp; omega
  unfold mgL
  simp only [List.getD, List.getElem?_eq_getElem h, List.getElem?_eq_getElem h2, List.getElem?_eq_getElem h3, Option.getD_some, List.getElem_zipWith]
theorem fold_at (n : Nat) : ∀ (L : List (List UInt8)) (cur : List UInt8), cur.length = n → (∀ w ∈ L, w.length = n) →
    L.foldl mgL cur = (List.range n).map fun i => if L.all (fun w => w.getD i 0 == cur.getD i 0) then cur.getD i 0 else 63
  | [], cur, hc, _ => by
    simp only [List.foldl_nil, List.all_nil, if_true]
    apply List.ext_getElem
    · simp [hc]
    · intro i h1 h2
      simp [List.getD, h1]
  | w :: L, cur, hc, hw => by
    have hwl := hw w (by simp)
    rw [List.foldl_cons, fold_at n L (mgL cur w) (by rw [mgL_len _ _ (by omega), hc]) (fun x hx => hw x (by simp [hx]))]
    apply List.map_congr_left
    intro i hi
    have hi := List.mem_range.1 hi
    rw [mgL_at cur w i (by omega) (by omega)]
    simp only [List.all_cons]
    unfold mg
    by_cases e : (w.getD i 0 == cur.getD i 0) = true
    · simp only [e, if_true, Bool.true_and]
    · rw [Bool.not_eq_true] at e
      simp only [e, Bool.false_and, Bool.false_eq_true, if_false]
      split <;> rfl
theorem acc_eq (n : Nat) (L : List (List UInt8)) (hd : List UInt8) (hn : hd.length = n) (hw : ∀ w ∈ L, w.length = n) : acc L hd n = L.foldl mgL hd := by
  rw [fold_at n L hd hn hw]
  unfold acc
  rw [List.map_eq_flatMap]
  have : ∀ (R : List Nat), (∀ i ∈ R, i < n) → R.flatMap (sg L hd) = R.flatMap fun i => [if L.all (fun w => w.getD i 0 == hd.getD i 0) then hd.getD i 0 else 63] := by
    intro R hR
    induction R with
    | nil => rfl
    | cons i R ih =>
      rw [List.flatMap_cons, List.flatMap_cons, ih fun j hj => hR j (by simp [hj])]
      congr 1
      have hi := hR i (by simp)
      unfold sg
      rw [tk1 hd i (by omega)]
      have hall : (L.all fun w => (w.drop i).take 1 == [hd.getD i 0]) = L.all fun w => w.getD i 0 == hd.getD i 0 := by
        rw [Bool.eq_iff_iff, List.all_eq_true, List.all_eq_true]
        constructor
        · intro h x hx
          have := h x hx
          rw [tk1 x i (by rw [hw x hx]; exact hi)] at this
          simpa using this
        · intro h x hx
          have := h x hx
          rw [tk1 x i (by rw [hw x hx]; exact hi)]
          simpa using this
      rw [hall]
      split <;> rfl
  exact this _ fun i hi => List.mem_range.1 hi

/-! ### The program's -/
def sureP (n : Int) (cs : List Clu) : List UInt8 := (solP n cs).foldl mgL ((solP n cs).headD [])
theorem solP_word (n : Int) (cs : List Clu) : ∀ w ∈ solP n cs, w.length = n.toNat ∧ n.toNat ≤ 5 := by
  unfold solP
  intro w hw
  cases e : goodP n cs
  · rw [e] at hw; simp at hw
  · obtain ⟨m, rfl, m1, m5, _⟩ := goodP_iff e
    rw [e] at hw
    exact ⟨(allL_good m w (List.mem_filter.1 hw).1).1, m5⟩
theorem solP_len (n : Int) (cs : List Clu) : (solP n cs).length ≤ 243 := by
  unfold solP
  cases e : goodP n cs
  · simp
  · obtain ⟨m, rfl, m1, m5, _⟩ := goodP_iff e
    have h1 := List.length_filter_le (fun w => cs.all fun c => fitB c w) (allL m)
    have h2 := allL_length m
    have h3 : 3 ^ m ≤ 3 ^ 5 := Nat.pow_le_pow_right (by omega) m5
    have h4 : (solN (m : Int) cs).length ≤ (allL m).length := h1
    simp only [if_true]
    omega
theorem ownU {h : AH} (s : List UInt8) : OwW 1 encU h (h ++ [AO.row (s.map fun b => AV.int .u8 b.toNat) 0 0 false]) (.slice h.length 0 0 s.length 1) s := by
  unfold OwW
  simp only
  refine ⟨trivial, trivial, Nat.le_refl _, [], [], 0, ?_, Nat.le_refl _, rfl⟩
  rw [List.getElem?_append_right (Nat.le_refl _), flatU]
  simp
end Go.Proofs.YtejhhdpfndiliaaGreatDoor.Ab

/- ARGUMENTS: slices of bytes, one behind the other; they may share a row. -/
namespace Go.Proofs.YtejhhdpfndiliaaGreatDoor.Ab
open Go Go.RowKit Go.ChangeShapes Go.WideShapes Go.Deep Go.Joins
set_option maxRecDepth 100000

/-- One more row that is read alone. -/
theorem rel_more {F : Nat → Nat} {W : World} {m : Emb} {h : AH} (hr : RelH F W.heap.size m h W) {p : Place} {cs : List AV} {C : Array Value} {e : TypeId} {fr : Nat × Nat} (hb : W.heap[p.blk]? = some (.cells C e fr)) (hs : C.size = p.siz) (hlo : p.lo = 0) (hext : p.ext = cs.length) (hle : p.base + p.ext ≤ p.siz)
    (hv : ∀ j x, cs[j]? = some x → ∃ v, C[p.base + j]? = some v ∧ RelV F m x v) : m.le (m.addRow h.length 0 p) ∧ RelH F W.heap.size (m.addRow h.length 0 p) (h ++ [.row cs 0 0 true]) W := by
  have hlt : p.blk < W.heap.size := (Array.getElem?_eq_some_iff.1 hb).1
  have hnone : ∀ k, m.row h.length k = none := by
    intro k
    cases hk : m.row h.length k with
    | none => rfl
    | some p => obtain ⟨o, ho, _⟩ := hr.rowc _ _ _ hk; simp at ho
  have hm : m.le (m.addRow h.length 0 p) := Emb.le_addRow (hnone 0)
  have hobj : ∀ c b, m.obj c = some b → W.heap.size ≤ b := by
    intro c b hb
    obtain ⟨o, ho, hi⟩ := hr.objc c b hb
    have := hr.ob c o ho
    cases o with
    | row cs ver fl ro => cases hi
    | map es => exact (this b hb).1
    | iter s pos => exact (this b hb).1
    | mit cm since seen => exact (this b hb).1
  refine ⟨hm, ?_, ?_, ?_, ?_, hr.injo, ?_, ?_, hr.lto, ?_, Nat.le_refl _⟩
  · intro c k q hq
    rcases Emb.addRow_inv hq with ⟨rfl, _, _⟩ | hq
    · exact ⟨.row cs 0 0 true, by simp, rfl⟩
    · obtain ⟨o, ho, hi⟩ := hr.rowc c k q hq
      exact ⟨o, by rw [List.getElem?_append_left (by have := List.getElem?_eq_some_iff.1 ho; exact this.1)]; exact ho, hi⟩
  · intro c b hb
    obtain ⟨o, ho, hi⟩ := hr.objc c b hb
    exact ⟨o, by rw [List.getElem?_append_left (by have := List.getElem?_eq_some_iff.1 ho; exact this.1)]; exact ho, hi⟩
  · intro c o hc
    by_cases hlt' : c < h.length
    · rw [List.getElem?_append_left hlt'] at hc
      refine ObjRel.keep (hr.ob c o hc) hm ?_ (fun b hb => hb) (fun _ _ _ => rfl) (fun _ _ => rfl)
      intro k q hq
      rcases Emb.addRow_inv hq with ⟨rfl, _, _⟩ | hq
      · omega
      · exact hq
    · rw [List.getElem?_append_right (by omega)] at hc
      have hce : c = h.length := by
        by_cases he : c = h.length
        · exact he
        · rw [List.getElem?_eq_none (by simp; omega)] at hc; cases hc
      subst hce
      simp only [Nat.sub_self, List.getElem?_cons_zero, Option.some.injEq] at hc
      subst hc
      intro k q hq hk
      rcases Emb.addRow_inv hq with ⟨_, rfl, rfl⟩ | hq
      · refine ⟨Nat.le_refl _, by omega, fun _ => hext, (fun h => by cases h), C, e, fr, hb, hs, by omega, (fun h => by cases h), ?_⟩
        intro j h1 h2
        have hj : j < cs.length := by omega
        obtain ⟨v, h3, h4⟩ := hv j cs[j] (by simp)
        exact ⟨cs[j], v, by simp, by rw [hlo]; simpa using h3, RelV.mono hm _ _ h4⟩
      · rw [hnone k] at hq; cases hq
  · intro c k q c' k' q' hq hq' hb he
    rcases Emb.addRow_inv hq with ⟨rfl, rfl, rfl⟩ | hq
    · omega
    · rcases Emb.addRow_inv hq' with ⟨rfl, rfl, rfl⟩ | hq'
      · omega
      · exact hr.inj c k q c' k' q' hq hq' hb he
  · intro c k q c' b hq hb' e
    rcases Emb.addRow_inv hq with ⟨rfl, rfl, rfl⟩ | hq
    · have := hobj c' b hb'; omega
    · exact hr.injr c k q c' b hq hb' e
  · intro c k q hq
    rcases Emb.addRow_inv hq with ⟨rfl, rfl, rfl⟩ | hq
    · exact hlt
    · exact hr.ltr c k q hq
  · intro c cs' ver fl ro k q hc hq
    rcases Emb.addRow_inv hq with ⟨_, rfl, _⟩ | hq
    · omega
    · obtain ⟨o, ho, _⟩ := hr.rowc c k q hq
      have hlt' := (List.getElem?_eq_some_iff.1 ho).1
      rw [List.getElem?_append_left hlt'] at hc
      exact hr.vers c cs' ver fl ro k q hc hq

section
variable {H : Type} {enc : TypeId × Value → H} {P : Program}
theorem open_u8 {W : World} {b0 fuel : Nat} {sp : Nat → Bool} {hd : Bool} {t : TypeId} (ht : P.underlying t = some (.int .u8)) {cs : List Value} {y : DataW H × List MemPlace} (h : DataW.trod enc P W b0 sp hd fuel t cs = some y) : ∃ b : UInt8, cs = [.int .u8 b.toNat] := by
  obtain ⟨n, h1, _, hw⟩ := DataW.trod_int ht h
  have hr : 0 ≤ n ∧ n < 256 := by
    have h2 : IntKind.u8.min ≤ n ∧ n ≤ IntKind.u8.max := by simpa [Lit.wf] using hw
    have h3 : IntKind.u8.min = 0 := rfl
    have h4 : IntKind.u8.max = 255 := rfl
    omega
  refine ⟨UInt8.ofNat n.toNat, ?_⟩
  rw [h1]
  have : (UInt8.ofNat n.toNat).toNat = n.toNat := by
    rw [UInt8.toNat_ofNat']; omega
  rw [this, Int.toNat_of_nonneg hr.1]
/-- A slice of bytes, behind what has been opened. -/
theorem open_bytes0 {F : Nat → Nat} {W : World} {m0 : Emb} {g0 : AH} (hrel : RelH F W.heap.size m0 g0 W) {fuel : Nat} {t e : TypeId} (ht : P.underlying t = some (.slice e)) (he : P.underlying e = some (.int .u8)) (hC : P.cellsOf e = 1)
    {v : Value} {x : DataW H × List MemPlace} (h : DataW.trod enc P W 0 (fun _ => true) true fuel t [v] = some x) :
    ∃ (cs : List UInt8) (m : Emb) (g : AH) (a : AV), m0.le m ∧ Pre g0 g ∧ Slc 1 encU g a cs ∧ RelV F m a v ∧ RelH F W.heap.size m g W := by
  rcases open_slice ht h with ⟨hv, _⟩ | ⟨a, len, cap, m, n, D, Pl, hv, hb, hl, hmax, hm, hx, hi⟩
  · simp at hv
    subst hv
    exact ⟨[], m0, g0, .nilS, Emb.le_refl _, Pre.refl _, Slc.nil, by simp only [RelV], hrel⟩
  · simp at hv
    subst hv
    simp only [if_true] at hm
    subst hm
    rw [hC] at hi
    have hcell : ∀ i, i < m → ∃ b : UInt8, W.cell? (a.add (i * 1)) = some (.int .u8 b.toNat) := by
      intro i him
      obtain ⟨cs', hc, ht'⟩ := hi i him
      obtain ⟨_, hcl, hat⟩ := World.cells?_some hc
      obtain ⟨b, rfl⟩ := open_u8 he ht'
      exact ⟨b, by simpa [Addr.add] using hat 0 (by omega)⟩
    by_cases hz : m = 0
    · subst hz
      obtain rfl : len = 0 := by omega
      exact ⟨[], m0, g0, .empS, Emb.le_refl _, Pre.refl _, Slc.emp, by simp only [RelV]; exact ⟨a, rfl⟩, hrel⟩
    · obtain ⟨c0, q0⟩ := hcell 0 (by omega)
      have hspot : a.spot = none := by
        unfold World.cell? at q0
        split at q0
        · split at q0
          · cases q0
          · rename_i hs; simpa [Addr.add] using hs
        · cases q0
      obtain ⟨blk, off, spot⟩ := a
      simp only at hspot
      subst hspot
      obtain ⟨C, ee, fr, hblk⟩ : ∃ C ee fr, W.heap[blk]? = some (.cells C ee fr) := by
        unfold World.cell? at q0
        split at q0
        · rename_i C ee fr hh; exact ⟨C, ee, fr, hh⟩
        · cases q0
      have hC' : ∀ i, i < m → ∃ b : UInt8, C[off + i]? = some (.int .u8 b.toNat) := by
        intro i him
        obtain ⟨b, e1⟩ := hcell i him
        rw [cell_atA hblk, Nat.mul_one] at e1
        exact ⟨b, e1⟩
      have hsize : off + m ≤ C.size := by
        obtain ⟨c, e3⟩ := hC' (m - 1) (by omega)
        have := (Array.getElem?_eq_some_iff.1 e3).1
        omega
      have hel : ∀ l, l ≤ m → ∃ cs : List UInt8, cs.length = l ∧ ∀ j x, (cs.flatMap encU)[j]? = some x → ∃ v, C[off + j]? = some v ∧ ∀ F m', RelV F m' x v := by
        intro l
        induction l with
        | zero => intro _; exact ⟨[], rfl, fun j x hx => by simp at hx⟩
        | succ l ih =>
          intro hlm
          obtain ⟨cs, hcs, hh⟩ := ih (by omega)
          obtain ⟨c, e1⟩ := hC' l (by omega)
          refine ⟨cs ++ [c], by simp [hcs], ?_⟩
          intro j x hx
          have hfl : (cs.flatMap encU).length = l * 1 := by rw [flat_len hlU, hcs]
          rw [List.flatMap_append] at hx
          by_cases hj : j < l
          · rw [List.getElem?_append_left (by omega)] at hx
            exact hh j x hx
          · rw [List.getElem?_append_right (by omega), hfl] at hx
            simp only [List.flatMap_cons, List.flatMap_nil, List.append_nil, encU] at hx
            have hj3 : j - l * 1 = 0 := by
              have := (List.getElem?_eq_some_iff.1 hx).1
              simp at this
              omega
            rw [hj3] at hx
            simp at hx
            subst hx
            exact ⟨_, (by rw [show off + j = off + l by omega]; exact e1), fun F m' => by simp only [RelV]⟩
      obtain ⟨cs, hcs, hh⟩ := hel len hl
      have hfl : (cs.flatMap encU).length = len * 1 := by rw [flat_len hlU, hcs]
      obtain ⟨hle, hr'⟩ := rel_more hrel (p := ⟨blk, off, 0, len * 1, C.size⟩) (cs := cs.flatMap encU) (C := C) hblk rfl rfl hfl.symm (by simp only; omega) (fun j x hx => by
        obtain ⟨v, h3, h4⟩ := hh j x hx
        exact ⟨v, h3, h4 _ _⟩)
      refine ⟨cs, _, g0 ++ [.row (cs.flatMap encU) 0 0 true], .slice g0.length 0 0 len 1, hle, Pre.push _ _, ?_, ?_, hr'⟩
      · unfold Slc Sl
        refine ⟨rfl, hcs.symm, by rw [hfl, hcs], ?_⟩
        exact rdRow_push g0 _ true (by rw [hfl, hcs])
      · simp only [RelV]
        exact ⟨⟨blk, off, 0, len * 1, C.size⟩, off, m, Emb.addRow_at _ _ _ _, rfl, hl, .inr ⟨Nat.le_refl _, by simp, by simp, by simp; omega⟩⟩
theorem open_bytes {F : Nat → Nat} {W : World} {m0 : Emb} {g0 : AH} (hrel : RelH F W.heap.size m0 g0 W) {base : Nat} {t e : TypeId} (ht : P.underlying t = some (.slice e)) (he : P.underlying e = some (.int .u8)) (hC : P.cellsOf e = 1)
    {v : Value} {d : DataW H} {p : List MemPlace} (hval : Value.okWide P W .any base t v) (h : DataW.Trod enc P W 0 (fun _ => true) true t v d p) :
    ∃ (cs : List UInt8) (m : Emb) (g : AH) (a : AV), m0.le m ∧ Pre g0 g ∧ Slc 1 encU g a cs ∧ RelV F m a v ∧ RelH F W.heap.size m g W := by
  obtain ⟨fuel, h⟩ := h
  obtain ⟨a, len, cap, rfl⟩ := okWide_slice ht hval
  exact open_bytes0 hrel ht he hC h
end
end Go.Proofs.YtejhhdpfndiliaaGreatDoor.Ab

/- PLAIN: a sum of two lines as one text with a blank between them: who wins is the same. -/
namespace Go.Proofs.YtejhhdpfndiliaaGreatDoor.Ab
set_option maxHeartbeats 1000000

theorem gJ1 {w v : List UInt8} {x : Nat} (h : x < w.length) : (w ++ 32 :: v).getD x 0 = w.getD x 0 := by
  simp [List.getD, List.getElem?_append_left h]
theorem gJ2 {w v : List UInt8} : (w ++ 32 :: v).getD w.length 0 = 32 := by simp [List.getD]
theorem gJ3 {w v : List UInt8} (j : Nat) : (w ++ 32 :: v).getD (w.length + 1 + j) 0 = v.getD j 0 := by
  simp only [List.getD]
  rw [List.getElem?_append_right (by omega), show w.length + 1 + j - w.length = j + 1 by omega, List.getElem?_cons_succ]
theorem jL (w v : List UInt8) : (w ++ 32 :: v).length = w.length + 1 + v.length := by simp; omega
theorem mv_l {w v : List UInt8} {i t : Nat} (h : Mv w i t) : Mv (w ++ 32 :: v) i t := by
  obtain ⟨h1, h2, h3, h4⟩ := h
  refine ⟨by rw [jL]; omega, by rw [jL]; omega, by rw [gJ1 h2]; exact h3, ?_⟩
  rw [gJ1 h1]
  rcases h4 with ⟨e, h4 | ⟨h4, h5⟩⟩ | ⟨e, h4 | ⟨h4, h5⟩⟩
  · exact .inl ⟨e, .inl h4⟩
  · exact .inl ⟨e, .inr ⟨h4, by rw [gJ1 (by omega)]; exact h5⟩⟩
  · exact .inr ⟨e, .inl h4⟩
  · exact .inr ⟨e, .inr ⟨h4, by rw [gJ1 (by omega)]; exact h5⟩⟩
theorem mv_r {w v : List UInt8} {i t : Nat} (h : Mv v i t) : Mv (w ++ 32 :: v) (w.length + 1 + i) (w.length + 1 + t) := by
  obtain ⟨h1, h2, h3, h4⟩ := h
  refine ⟨by rw [jL]; omega, by rw [jL]; omega, by rw [gJ3]; exact h3, ?_⟩
  rw [gJ3]
  rcases h4 with ⟨e, h4 | ⟨h4, h5⟩⟩ | ⟨e, h4 | ⟨h4, h5⟩⟩
  · exact .inl ⟨e, .inl (by omega)⟩
  · exact .inl ⟨e, .inr ⟨by omega, by rw [show w.length + 1 + i + 1 = w.length + 1 + (i + 1) by omega, gJ3]; exact h5⟩⟩
  · exact .inr ⟨e, .inl (by omega)⟩
  · exact .inr ⟨e, .inr ⟨by omega, by rw [show w.length + 1 + i - 1 = w.length + 1 + (i - 1) by omega, gJ3]; exact h5⟩⟩
theorem mv_inv {w v : List UInt8} {i t : Nat} (h : Mv (w ++ 32 :: v) i t) : Mv w i t ∨ ∃ i' t', i = w.length + 1 + i' ∧ t = w.length + 1 + t' ∧ Mv v i' t' := by
  obtain ⟨h1, h2, h3, h4⟩ := h
  rw [jL] at h1 h2
  have ht : t ≠ w.length := by rintro rfl; rw [gJ2] at h3; cases h3
  have hi : i ≠ w.length := by
    rintro rfl
    rw [gJ2] at h4
    rcases h4 with ⟨e, _⟩ | ⟨e, _⟩ <;> cases e
  by_cases hil : i < w.length
  · left
    rw [gJ1 hil] at h4
    have htl : t < w.length := by
      rcases h4 with ⟨e, h4 | ⟨h4, h5⟩⟩ | ⟨e, h4 | ⟨h4, h5⟩⟩
      · omega
      · by_cases hx : i + 1 = w.length
        · rw [hx, gJ2] at h5; cases h5
        · omega
      · omega
      · omega
    rw [gJ1 htl] at h3
    refine ⟨hil, htl, h3, ?_⟩
    rcases h4 with ⟨e, h4 | ⟨h4, h5⟩⟩ | ⟨e, h4 | ⟨h4, h5⟩⟩
    · exact .inl ⟨e, .inl h4⟩
    · exact .inl ⟨e, .inr ⟨h4, by rw [gJ1 (by omega)] at h5; exact h5⟩⟩
    · exact .inr ⟨e, .inl h4⟩
    · exact .inr ⟨e, .inr ⟨h4, by rw [gJ1 (by omega)] at h5; exact h5⟩⟩
  · right
    obtain ⟨i', rfl⟩ : ∃ i', i = w.length + 1 + i' := ⟨i - w.length - 1, by omega⟩
    rw [gJ3] at h4
    have htl : w.length < t := by
      rcases h4 with ⟨e, h4 | ⟨h4, h5⟩⟩ | ⟨e, h4 | ⟨h4, h5⟩⟩
      · omega
      · omega
      · omega
      · by_cases hx : w.length + 1 + i' - 1 = w.length
        · rw [hx, gJ2] at h5; cases h5
        · omega
    obtain ⟨t', rfl⟩ : ∃ t', t = w.length + 1 + t' := ⟨t - w.length - 1, by omega⟩
    rw [gJ3] at h3
    refine ⟨i', t', rfl, rfl, by omega, by omega, h3, ?_⟩
    rcases h4 with ⟨e, h4 | ⟨h4, h5⟩⟩ | ⟨e, h4 | ⟨h4, h5⟩⟩
    · exact .inl ⟨e, .inl (by omega)⟩
    · exact .inl ⟨e, .inr ⟨by omega, by rw [show w.length + 1 + i' + 1 = w.length + 1 + (i' + 1) by omega, gJ3] at h5; exact h5⟩⟩
    · exact .inr ⟨e, .inl (by omega)⟩
    · exact .inr ⟨e, .inr ⟨by omega, by rw [show w.length + 1 + i' - 1 = w.length + 1 + (i' - 1) by omega, gJ3] at h5; exact h5⟩⟩
theorem goal_l {w v : List UInt8} {i : Nat} (hi : i < w.length) : goalB (w ++ 32 :: v) i = goalB w i := by
  cases h : goalB w i with
  | some t =>
    obtain ⟨t', rfl, hm⟩ := goalB_mv hi h
    exact mv_goalB (mv_l hm)
  | none =>
    cases h2 : goalB (w ++ 32 :: v) i with
    | none => rfl
    | some t =>
      obtain ⟨t', rfl, hm⟩ := goalB_mv (by rw [jL]; omega) h2
      rcases mv_inv hm with hm | ⟨i', _, e, _⟩
      · rw [mv_goalB hm] at h; cases h
      · omega
theorem goal_m {w v : List UInt8} : goalB (w ++ 32 :: v) w.length = none := by
  cases h2 : goalB (w ++ 32 :: v) w.length with
  | none => rfl
  | some t =>
    obtain ⟨t', rfl, hm⟩ := goalB_mv (by rw [jL]; omega) h2
    rcases mv_inv hm with hm | ⟨i', _, e, _⟩
    · exact absurd hm.1 (by omega)
    · omega
theorem goal_r {w v : List UInt8} {j : Nat} (hj : j < v.length) : goalB (w ++ 32 :: v) (w.length + 1 + j) = (goalB v j).map fun t => ((w.length + 1 : Nat) : Int) + t := by
  cases h : goalB v j with
  | some t =>
    obtain ⟨t', rfl, hm⟩ := goalB_mv hj h
    rw [mv_goalB (mv_r hm)]
    simp only [Option.map_some]
    congr 1
  | none =>
    cases h2 : goalB (w ++ 32 :: v) (w.length + 1 + j) with
    | none => rfl
    | some t =>
      obtain ⟨t', rfl, hm⟩ := goalB_mv (by rw [jL]; omega) h2
      rcases mv_inv hm with hm | ⟨i', t2, e, _, hm⟩
      · exact absurd hm.1 (by omega)
      · obtain rfl : j = i' := by omega
        rw [mv_goalB hm] at h; cases h
def shB (n : Nat) (m : Int × Int) : Int × Int := (((n : Nat) : Int) + m.1, ((n : Nat) : Int) + m.2)
theorem moves_join (w v kd : List UInt8) : movesB (w ++ 32 :: v) kd = movesB w kd ++ (movesB v kd).map (shB (w.length + 1)) := by
  unfold movesB
  rw [jL, List.range_add, List.range_succ, List.flatMap_append, List.flatMap_append, List.append_assoc]
  congr 1
  · apply flatMap_congr'
    intro i hi
    have hi := List.mem_range.1 hi
    unfold moveB
    rw [goal_l hi, gJ1 hi]
  · have hm : moveB (w ++ 32 :: v) kd w.length = [] := by unfold moveB; rw [goal_m]
    rw [List.flatMap_cons, hm, List.flatMap_nil, List.append_nil, List.nil_append, List.flatMap_map, List.map_flatMap]
    apply flatMap_congr'
    intro j hj
    have hj := List.mem_range.1 hj
    unfold moveB
    rw [goal_r hj, gJ3]
    cases goalB v j with
    | none => rfl
    | some t =>
      simp only [Option.map_some]
      split
      · simp [shB]
      · rfl
theorem next_join (w v kd : List UInt8) : nextB (w ++ 32 :: v) kd = (nextB w kd).map (fun x => x ++ 32 :: v) ++ (nextB v kd).map (fun x => w ++ 32 :: x) := by
  unfold nextB
  rw [moves_join, List.map_append, List.map_map, List.map_map, List.map_map]
  congr 1
  · apply List.map_congr_left
    intro m hm
    obtain ⟨i, t, rfl, hmv⟩ := movesB_mv hm
    simp only [Function.comp, Int.toNat_natCast, madeB]
    rw [gJ1 hmv.fst, List.set_append_left _ _ hmv.snd, List.set_append_left _ _ (by rw [List.length_set]; exact hmv.fst)]
  · apply List.map_congr_left
    intro m hm
    obtain ⟨i, t, rfl, hmv⟩ := movesB_mv hm
    have e1 : (((w.length + 1 : Nat) : Int) + (i : Int)).toNat = w.length + 1 + i := by omega
    have e2 : (((w.length + 1 : Nat) : Int) + (t : Int)).toNat = w.length + 1 + t := by omega
    simp only [Function.comp, shB, Int.toNat_natCast, madeB]
    rw [e1, e2, gJ3, List.set_append_right _ _ (by omega), show w.length + 1 + t - w.length = t + 1 by omega, List.set_cons_succ,
      List.set_append_right _ _ (by omega), show w.length + 1 + i - w.length = i + 1 by omega, List.set_cons_succ]
theorem winB_next (w : List UInt8) (t : Bool) : winB w t = (nextB w (kindS t)).any fun x => !winB x (!t) := by
  rw [winB_eq]; unfold nextB; rw [List.any_map]; rfl
theorem winL_pair : ∀ (n : Nat) (w v : List UInt8) (t : Bool), mu w + mu v < n → winL [w, v] t = winB (w ++ 32 :: v) t
  | 0, _, _, _, h => by omega
  | n + 1, w, v, t, h => by
    rw [winL_eq, winB_next, next_join]
    simp only [nextZ, List.append_nil, List.nil_append, List.any_append, List.any_map, List.cons_append]
    congr 1
    · apply any_congr'
      intro x hx
      have := nextB_mu hx
      simp only [Function.comp]
      rw [winL_pair n _ _ _ (by omega)]
    · apply any_congr'
      intro x hx
      have := nextB_mu hx
      simp only [Function.comp]
      rw [winL_pair n _ _ _ (by omega)]
end Go.Proofs.YtejhhdpfndiliaaGreatDoor.Ab

/- LINES from the other side, sums of two lines, whole values: what both sides' functions answer. -/
namespace Go.Proofs.YtejhhdpfndiliaaGreatDoor.Ab
open Go
set_option maxRecDepth 100000
set_option maxHeartbeats 4000000

def otherL (w : List UInt8) : List UInt8 := (w.map otherB).reverse
theorem otherL_len (w : List UInt8) : (otherL w).length = w.length := by simp [otherL]
theorem otherB_sign {b : UInt8} (h : isSign b = true) : isSign (otherB b) = true := by
  unfold isSign at h
  simp only [Bool.or_eq_true, beq_iff_eq] at h
  rcases h with (rfl | rfl) | rfl <;> rfl
theorem otherL_signs {w : List UInt8} (h : signs w) : signs (otherL w) := by
  unfold signs otherL at *
  rw [List.all_eq_true] at h ⊢
  intro x hx
  simp only [List.mem_reverse, List.mem_map] at hx
  obtain ⟨b, hb, rfl⟩ := hx
  exact otherB_sign (h b hb)
theorem lp_Reverse {b : AH} {v : AV} {R : X → Env → AH → Prop} : ∀ (d : Nat) (M A S : List UInt8) (h : AH), M.length ≤ d → A.length = S.length → A.length + M.length + S.length < 2 ^ 30 → OwW 1 encU b h v (A ++ (M ++ S)) →
    (∀ h', OwW 1 encU b h' v (A ++ (M.reverse ++ S)) → PreV v h h' → R (.exit 0) [] h') →
    Cx (.loop lp110_0) [(0, v), (2, .int .i64 A.length), (3, .int .i64 ((A.length : Int) + M.length - 1))] h R k k
  | d, [], A, S, h, hd, hl, hb, ho, hR => by
    have hn : ¬ ((A.length : Int) < (A.length : Int) + (([] : List UInt8).length : Int) - 1) := by simp only [List.length_nil]; omega
    rw [w_loopb (c := lp110_0) (d := lb110_0) rfl]; unfold lb110_0
    simp (maxSteps := 1000000) (disch := first | omega | rfl | (simp only [zL, two63, room] <;> omega) | fail) only [↓reduceIte, ↓zP, zW, WOp, evOp, evBin, binI, binSh, binS, evNil, keyIs, keyEq, mkv, AV.cells, AV.sc, optv, bnd, env, put, Env.get, Env.set, Env.del, Env.dels, Env.init, res1, resL, resV, fillP, splice, newRow, Nat.reduceEqDiff, Nat.reduceLT, Nat.reduceLeDiff, Nat.reduceAdd, Nat.reduceMul, Nat.reduceSub, Nat.reduceBEq, reduceCtorEq, ↓zR, zQ, Tr, StA, StT, hn]
    exact hR h (by simpa using ho) (PreV.refl _ _)
  | d, [x], A, S, h, hd, hl, hb, ho, hR => by
    have hn : ¬ ((A.length : Int) < (A.length : Int) + ((1 : Nat) : Int) - 1) := by omega
    rw [w_loopb (c := lp110_0) (d := lb110_0) rfl]; unfold lb110_0
    simp (maxSteps := 1000000) (disch := first | omega | rfl | (simp only [zL, two63, room] <;> omega) | fail) only [↓reduceIte, ↓zP, zW, WOp, evOp, evBin, binI, binSh, binS, evNil, keyIs, keyEq, mkv, AV.cells, AV.sc, optv, bnd, env, put, Env.get, Env.set, Env.del, Env.dels, Env.init, res1, resL, resV, fillP, splice, newRow, Nat.reduceEqDiff, Nat.reduceLT, Nat.reduceLeDiff, Nat.reduceAdd, Nat.reduceMul, Nat.reduceSub, Nat.reduceBEq, reduceCtorEq, ↓zR, zQ, Tr, StA, StT, hn]
    exact hR h (by simpa using ho) (PreV.refl _ _)
  | 0, x :: y :: M, A, S, h, hd, hl, hb, ho, hR => by simp at hd
  | d + 1, x :: y :: M, A, S, h, hd, hl, hb, ho, hR => by
    obtain ⟨M', z, hM⟩ : ∃ M' z, y :: M = M' ++ [z] := ⟨(y :: M).dropLast, (y :: M).getLast (by simp), (List.dropLast_concat_getLast (by simp)).symm⟩
    rw [hM] at hd hb ho hR ⊢
    simp only [List.length_cons, List.length_append, List.length_nil] at hd hb
    have ih := lp_Reverse (b := b) (v := v) (R := R) d M' (A ++ [z]) (x :: S)
    have ho1 : OwW 1 encU b h v (A ++ x :: (M' ++ (z :: S))) := by simpa using ho
    have ho2 : OwW 1 encU b h v ((A ++ x :: M') ++ z :: S) := by simpa using ho
    obtain ⟨c, kk, off, hve, hr1⟩ := (ho1.slc hlU).at hlU
    obtain ⟨c2, kk2, off2, hve2, hr2⟩ := (ho2.slc hlU).at hlU
    obtain ⟨c3, kk3, off3, h3, hve3, hw3, ho3, hpv3⟩ := ho1.store hlU z 0 [.int .u8 z.toNat] (by simp) rfl rfl
    have ho3' : OwW 1 encU b h3 v ((A ++ z :: M') ++ z :: S) := by simpa using ho3
    obtain ⟨c4, kk4, off4, h4, hve4, hw4, ho4, hpv4⟩ := ho3'.store hlU x 0 [.int .u8 x.toNat] (by simp) rfl rfl
    rw [hve] at hve2 hve3 hve4
    simp only [AV.slice.injEq] at hve2 hve3 hve4
    obtain ⟨rfl, rfl, rfl, -⟩ := hve2
    obtain ⟨rfl, rfl, rfl, -⟩ := hve3
    obtain ⟨rfl, rfl, rfl, -⟩ := hve4
    have hl1 : (A ++ x :: (M' ++ (z :: S))).length = A.length + M'.length + S.length + 2 := by simp; omega
    have hl2 : (A ++ x :: M').length = A.length + M'.length + 1 := by simp; omega
    have hl4 : (A ++ z :: M').length = A.length + M'.length + 1 := by simp; omega
    rw [hl1] at hve
    rw [hl2] at hr2
    rw [hl4] at hw4
    rw [Nat.add_zero] at hw3 hw4
    subst hve
    have hlm : ((x :: (M' ++ [z])).length : Int) = ((M'.length + 2 : Nat) : Int) := by simp; omega
    rw [hlm]
    have hj : (A.length : Int) + ((M'.length + 2 : Nat) : Int) - 1 = ((A.length + M'.length + 1 : Nat) : Int) := by omega
    rw [hj]
    have hlt : (A.length : Int) < ((A.length + M'.length + 1 : Nat) : Int) := by omega
    have hi1 : (A.length : Int) < ((A.length + M'.length + S.length + 2 : Nat) : Int) := by omega
    have hi2 : ((A.length + M'.length + 1 : Nat) : Int) < ((A.length + M'.length + S.length + 2 : Nat) : Int) := by omega
    have hw1 : (A.length : Int) + 1 = ((A ++ [z]).length : Int) := by simp
    have hw2 : ((A.length + M'.length + 1 : Nat) : Int) - 1 = ((A ++ [z]).length : Int) + (M'.length : Int) - 1 := by simp; omega
    have hwr1 : IntKind.i64.wrap ((A.length : Int) + 1) = (A.length : Int) + 1 := wrap_i (by omega)
    have hwr2 : IntKind.i64.wrap (((A.length + M'.length + 1 : Nat) : Int) - 1) = ((A.length + M'.length + 1 : Nat) : Int) - 1 := wrap_i (by omega)
    rw [w_loopb (c := lp110_0) (d := lb110_0) rfl]; unfold lb110_0
    simp (maxSteps := 1000000) (disch := first | omega | rfl | (simp only [zL, two63, room] <;> omega) | fail) only [↓reduceIte, ↓zP, zW, WOp, evOp, evBin, binI, binSh, binS, evNil, keyIs, keyEq, mkv, AV.cells, AV.sc, optv, bnd, env, put, Env.get, Env.set, Env.del, Env.dels, Env.init, res1, resL, resV, fillP, splice, newRow, Nat.reduceEqDiff, Nat.reduceLT, Nat.reduceLeDiff, Nat.reduceAdd, Nat.reduceMul, Nat.reduceSub, Nat.reduceBEq, reduceCtorEq, ↓zR, zQ, Tr, StA, StT, hlt, hi1, hi2, hr1, hr2, hw3, hw4, hwr1, hwr2]
    rw [hw1, hw2]
    rw [w_loopn (c := lp110_0) rfl]
    simp (maxSteps := 1000000) (disch := first | omega | rfl | (simp only [zL, two63, room] <;> omega) | fail) only [↓reduceIte, ↓zP, zW, WOp, evOp, evBin, binI, binSh, binS, evNil, keyIs, keyEq, mkv, AV.cells, AV.sc, optv, bnd, env, put, Env.get, Env.set, Env.del, Env.dels, Env.init, res1, resL, resV, fillP, splice, newRow, Nat.reduceEqDiff, Nat.reduceLT, Nat.reduceLeDiff, Nat.reduceAdd, Nat.reduceMul, Nat.reduceSub, Nat.reduceBEq, reduceCtorEq, ↓zR, zQ, Tr, StA, StT]
    refine ih h4 (by omega) (by simp; omega) (by simp; omega) (by simpa using ho4) ?_
    intro h' ho' hpv'
    exact hR h' (by simpa using ho') ((hpv3.trans hpv4).trans hpv')
theorem lp_turned (b : AH) {v : AV} {R : X → Env → AH → Prop} : ∀ (rest pre : List UInt8) (h : AH), pre.length + rest.length < 2 ^ 30 → OwW 1 encU b h v (pre ++ rest) →
    (∀ h', OwW 1 encU b h' v (pre ++ rest.map otherB) → PreV v h h' → R (.exit 0) [(3, v)] h') →
    Cx (.loop lp80_0) [(3, v), (10, v), (11, .int .i64 ((pre.length + rest.length : Nat) : Int)), (12, .int .i64 pre.length)] h R k k
  | [], pre, h, hb, ho, hR => by
    have hn : ¬ ((pre.length : Int) < ((pre.length + 0 : Nat) : Int)) := by omega
    rw [w_loopb (c := lp80_0) (d := lb80_0) rfl]; unfold lb80_0
    simp (maxSteps := 1000000) (disch := first | omega | rfl | (simp only [zL, two63, room] <;> omega) | fail) only [↓reduceIte, ↓zP, zW, WOp, evOp, evBin, binI, binSh, binS, evNil, keyIs, keyEq, mkv, AV.cells, AV.sc, optv, bnd, env, put, Env.get, Env.set, Env.del, Env.dels, Env.init, res1, resL, resV, fillP, splice, newRow, Nat.reduceEqDiff, Nat.reduceLT, Nat.reduceLeDiff, Nat.reduceAdd, Nat.reduceMul, Nat.reduceSub, Nat.reduceBEq, reduceCtorEq, ↓zR, zQ, Tr, StA, StT, hn]
    exact hR h (by simpa using ho) (PreV.refl _ _)
  | x :: rest, pre, h, hb, ho, hR => by
    have ih := lp_turned b (v := v) (R := R) rest (pre ++ [otherB x])
    simp only [List.length_cons] at hb ⊢
    obtain ⟨c, kk, off, hve, hr⟩ := (ho.slc hlU).at hlU
    obtain ⟨c3, kk3, off3, h3, hve3, hw3, ho3, hpv3⟩ := ho.store hlU (otherB x) 0 [.int .u8 (otherB x).toNat] (by simp) rfl rfl
    rw [hve] at hve3
    simp only [AV.slice.injEq] at hve3
    obtain ⟨rfl, rfl, rfl, -⟩ := hve3
    rw [Nat.add_zero] at hw3
    have hl1 : (pre ++ x :: rest).length = pre.length + (rest.length + 1) := by simp
    rw [hl1] at hve
    subst hve
    have hlt : (pre.length : Int) < ((pre.length + (rest.length + 1) : Nat) : Int) := by omega
    have hw1 : (pre.length : Int) + 1 = ((pre ++ [otherB x]).length : Int) := by simp
    have hwr1 : IntKind.i64.wrap ((pre.length : Int) + 1) = (pre.length : Int) + 1 := wrap_i (by omega)
    have hl2 : (pre ++ [otherB x]).length + rest.length = pre.length + (rest.length + 1) := by simp; omega
    rw [hl2] at ih
    rw [w_loopb (c := lp80_0) (d := lb80_0) rfl]; unfold lb80_0
    simp (maxSteps := 1000000) (disch := first | omega | rfl | (simp only [zL, two63, room] <;> omega) | fail) only [↓reduceIte, ↓zP, zW, WOp, evOp, evBin, binI, binSh, binS, evNil, keyIs, keyEq, mkv, AV.cells, AV.sc, optv, bnd, env, put, Env.get, Env.set, Env.del, Env.dels, Env.init, res1, resL, resV, fillP, splice, newRow, Nat.reduceEqDiff, Nat.reduceLT, Nat.reduceLeDiff, Nat.reduceAdd, Nat.reduceMul, Nat.reduceSub, Nat.reduceBEq, reduceCtorEq, ↓zR, zQ, Tr, StA, StT, hlt, hr]
    refine c_other x ?_
    simp (maxSteps := 1000000) (disch := first | omega | rfl | (simp only [zL, two63, room] <;> omega) | fail) only [↓reduceIte, ↓zP, zW, WOp, evOp, evBin, binI, binSh, binS, evNil, keyIs, keyEq, mkv, AV.cells, AV.sc, optv, bnd, env, put, Env.get, Env.set, Env.del, Env.dels, Env.init, res1, resL, resV, fillP, splice, newRow, Nat.reduceEqDiff, Nat.reduceLT, Nat.reduceLeDiff, Nat.reduceAdd, Nat.reduceMul, Nat.reduceSub, Nat.reduceBEq, reduceCtorEq, ↓zR, zQ, Tr, StA, StT, hlt, hw3, hwr1]
    simp (maxSteps := 1000000) (disch := first | omega | rfl | (simp only [zL, two63, room] <;> omega) | fail) only [↓reduceIte, ↓zP, zW, WOp, evOp, evBin, binI, binSh, binS, evNil, keyIs, keyEq, mkv, AV.cells, AV.sc, optv, bnd, env, put, Env.get, Env.set, Env.del, Env.dels, Env.init, res1, resL, resV, fillP, splice, newRow, Nat.reduceEqDiff, Nat.reduceLT, Nat.reduceLeDiff, Nat.reduceAdd, Nat.reduceMul, Nat.reduceSub, Nat.reduceBEq, reduceCtorEq, ↓zR, zQ, Tr, StA, StT, hw1]
    rw [w_loopn (c := lp80_0) rfl]
    simp (maxSteps := 1000000) (disch := first | omega | rfl | (simp only [zL, two63, room] <;> omega) | fail) only [↓reduceIte, ↓zP, zW, WOp, evOp, evBin, binI, binSh, binS, evNil, keyIs, keyEq, mkv, AV.cells, AV.sc, optv, bnd, env, put, Env.get, Env.set, Env.del, Env.dels, Env.init, res1, resL, resV, fillP, splice, newRow, Nat.reduceEqDiff, Nat.reduceLT, Nat.reduceLeDiff, Nat.reduceAdd, Nat.reduceMul, Nat.reduceSub, Nat.reduceBEq, reduceCtorEq, ↓zR, zQ, Tr, StA, StT]
    refine ih h3 (by omega) (by simpa using ho3) ?_
    intro h' ho' hpv'
    exact hR h' (by simpa using ho') (hpv3.trans hpv')
theorem c_turned (w : List UInt8) (hw : w.length < 2 ^ 30) {h : AH} {post : AV → AH → Prop} (hp : ∀ h', Pre h h' → post (.str (otherL w)) h') : S 80 [.str w] h post k := by
  have hrm : w.length ≤ room := by unfold room; omega
  have hsb := sc_bytes w
  have key1 := fun R => lp_Reverse (b := h) (v := .slice h.length 0 0 w.length 1) (R := R) w.length w [] []
  have key2 := fun R => lp_turned h (v := .slice h.length 0 0 w.length 1) (R := R) w.reverse []
  simp only [List.length_nil, List.length_reverse, List.nil_append, List.append_nil, Nat.zero_add] at key1 key2
  refine S_of rfl T80 ?_; unfold fi80
  simp (maxSteps := 1000000) (disch := first | omega | rfl | (simp only [zL, two63, room] <;> omega) | fail) only [↓reduceIte, ↓zP, zW, WOp, evOp, evBin, binI, binSh, binS, evNil, keyIs, keyEq, mkv, AV.cells, AV.sc, optv, bnd, env, put, Env.get, Env.set, Env.del, Env.dels, Env.init, res1, resL, resV, fillP, splice, newRow, Nat.reduceEqDiff, Nat.reduceLT, Nat.reduceLeDiff, Nat.reduceAdd, Nat.reduceMul, Nat.reduceSub, Nat.reduceBEq, reduceCtorEq, ↓zR, zQ, Tr, StA, StT, hrm, hsb]
  refine S_of rfl T110 ?_; unfold fi110
  have hj : (w.length : Int) - 1 = ((0 : Nat) : Int) + (w.length : Int) - 1 := by omega
  have hwr : IntKind.i64.wrap ((w.length : Int) - 1) = (w.length : Int) - 1 := wrap_i (by omega)
  simp (maxSteps := 1000000) (disch := first | omega | rfl | (simp only [zL, two63, room] <;> omega) | fail) only [↓reduceIte, ↓zP, zW, WOp, evOp, evBin, binI, binSh, binS, evNil, keyIs, keyEq, mkv, AV.cells, AV.sc, optv, bnd, env, put, Env.get, Env.set, Env.del, Env.dels, Env.init, res1, resL, resV, fillP, splice, newRow, Nat.reduceEqDiff, Nat.reduceLT, Nat.reduceLeDiff, Nat.reduceAdd, Nat.reduceMul, Nat.reduceSub, Nat.reduceBEq, reduceCtorEq, ↓zR, zQ, Tr, StA, StT, hwr]
  rw [hj]
  refine key1 _ _ (Nat.le_refl _) trivial (by omega) (ownU w) ?_
  intro h2 ho2 hpv2
  simp (maxSteps := 1000000) (disch := first | omega | rfl | (simp only [zL, two63, room] <;> omega) | fail) only [↓reduceIte, ↓zP, zW, WOp, evOp, evBin, binI, binSh, binS, evNil, keyIs, keyEq, mkv, AV.cells, AV.sc, optv, bnd, env, put, Env.get, Env.set, Env.del, Env.dels, Env.init, res1, resL, resV, fillP, splice, newRow, Nat.reduceEqDiff, Nat.reduceLT, Nat.reduceLeDiff, Nat.reduceAdd, Nat.reduceMul, Nat.reduceSub, Nat.reduceBEq, reduceCtorEq, ↓zR, zQ, Tr, StA, StT]
  refine key2 _ _ (by omega) ho2 ?_
  intro h3 ho3 hpv3
  have hp3 := hpv3.keep ho2 (hpv2.keep (ownU w) (Pre.push _ _) (Nat.le_refl _)) (Nat.le_refl _)
  have hq := hp h3 hp3
  obtain ⟨_, _, hrd⟩ := (ho3.slc hlU).all
  rw [flatU, Nat.mul_one] at hrd
  have hbl := bytesL_map (w.reverse.map otherB)
  have he : w.reverse.map otherB = otherL w := by unfold otherL; rw [List.map_reverse]
  rw [he] at hrd hbl
  simp (maxSteps := 1000000) (disch := first | omega | rfl | (simp only [zL, two63, room] <;> omega) | fail) only [↓reduceIte, ↓zP, zW, WOp, evOp, evBin, binI, binSh, binS, evNil, keyIs, keyEq, mkv, AV.cells, AV.sc, optv, bnd, env, put, Env.get, Env.set, Env.del, Env.dels, Env.init, res1, resL, resV, fillP, splice, newRow, Nat.reduceEqDiff, Nat.reduceLT, Nat.reduceLeDiff, Nat.reduceAdd, Nat.reduceMul, Nat.reduceSub, Nat.reduceBEq, reduceCtorEq, ↓zR, zQ, Tr, StA, StT, hrd, hbl]
  exact hq
end Go.Proofs.YtejhhdpfndiliaaGreatDoor.Ab

/- WHOLE VALUES of lines; the law of WholeValue. -/
namespace Go.Proofs.YtejhhdpfndiliaaGreatDoor.Ab
open Go
set_option maxRecDepth 100000
set_option maxHeartbeats 4000000

def wholeL (n : Int) : List UInt8 := if n < 0 then List.replicate (-n).toNat 46 ++ [70] else 84 :: List.replicate n.toNat 46
def outP (w v : List UInt8) : List UInt8 := outcS (winB (w ++ 32 :: otherL v) true) (winB (w ++ 32 :: otherL v) false)
def cmpS (s : List UInt8) : List UInt8 := if s == [50] then [61] else if s == [84] then [62] else if s == [70] then [60] else [124]
theorem cmp_eq (s : List UInt8) : (cmpS s == [61]) = (s == [50]) := by
  unfold cmpS
  split
  · rename_i h; rw [h]; rfl
  · rename_i h
    rw [Bool.not_eq_true] at h
    rw [h]
    split
    · rfl
    · split <;> rfl
def eqW (w : List UInt8) (n : Int) : Bool := outP w (wholeL n) == [50]
def firstW (w : List UInt8) : Nat → Int → Option Int
  | 0, _ => none
  | d + 1, n => if eqW w n then some n else firstW w d (n + 1)
def okW (s : List UInt8) : Bool := decide (1 ≤ (s.length : Int) ∧ (s.length : Int) ≤ 5) && s.all isSign
theorem wholeL_ok {n : Int} (h : -4 ≤ n ∧ n ≤ 4) : signs (wholeL n) ∧ 1 ≤ (wholeL n).length ∧ (wholeL n).length ≤ 5 := by
  unfold wholeL signs
  have hr : ∀ k : Nat, (List.replicate k (46 : UInt8)).all isSign = true := fun k => by
    rw [List.all_eq_true]; intro x hx; rw [List.eq_of_mem_replicate hx]; rfl
  split
  · refine ⟨by rw [List.all_append, hr]; rfl, by simp, by simp; omega⟩
  · refine ⟨by rw [List.all_cons, hr]; rfl, by simp, by simp; omega⟩

/-! ### The reference's -/
theorem lp_liTimes {h : AH} {R : X → Env → AH → Prop} : ∀ (n : Nat) (out : List UInt8), out.length + n < 2 ^ 30 → R (.exit 0) [(5, .str (out ++ List.replicate n 46))] h →
    Cx (.loop lp124_0) [(0, .str [46]), (1, .int .i64 n), (5, .str out)] h R k k
  | 0, out, hb, hR => by
    have hn : ¬ (((0 : Nat) : Int) > 0) := by omega
    rw [w_loopb (c := lp124_0) (d := lb124_0) rfl]; unfold lb124_0
    simp (maxSteps := 1000000) (disch := first | omega | rfl | (simp only [zL, two63, room] <;> omega) | fail) only [↓reduceIte, ↓zP, zW, WOp, evOp, evBin, binI, binSh, binS, evNil, keyIs, keyEq, mkv, AV.cells, AV.sc, optv, bnd, env, put, Env.get, Env.set, Env.del, Env.dels, Env.init, res1, resL, resV, fillP, splice, newRow, Nat.reduceEqDiff, Nat.reduceLT, Nat.reduceLeDiff, Nat.reduceAdd, Nat.reduceMul, Nat.reduceSub, Nat.reduceBEq, reduceCtorEq, ↓zR, zQ, Tr, StA, StT, hn]
    simpa using hR
  | n + 1, out, hb, hR => by
    have ih := lp_liTimes (h := h) (R := R) n (out ++ [46]) (by simp; omega) (by simpa [List.replicate_succ] using hR)
    have hn : ((n + 1 : Nat) : Int) > 0 := by omega
    have hw : ((n + 1 : Nat) : Int) - 1 = (n : Int) := by omega
    have hwr : IntKind.i64.wrap (n : Int) = (n : Int) := wrap_i (by omega)
    rw [w_loopb (c := lp124_0) (d := lb124_0) rfl]; unfold lb124_0
    simp (maxSteps := 1000000) (disch := first | omega | rfl | (simp only [zL, two63, room] <;> omega) | fail) only [↓reduceIte, ↓zP, zW, WOp, evOp, evBin, binI, binSh, binS, evNil, keyIs, keyEq, mkv, AV.cells, AV.sc, optv, bnd, env, put, Env.get, Env.set, Env.del, Env.dels, Env.init, res1, resL, resV, fillP, splice, newRow, Nat.reduceEqDiff, Nat.reduceLT, Nat.reduceLeDiff, Nat.reduceAdd, Nat.reduceMul, Nat.reduceSub, Nat.reduceBEq, reduceCtorEq, ↓zR, zQ, Tr, StA, StT, hn, hw, hwr]
    rw [w_loopn (c := lp124_0) rfl]
    simp (maxSteps := 1000000) (disch := first | omega | rfl | (simp only [zL, two63, room] <;> omega) | fail) only [↓reduceIte, ↓zP, zW, WOp, evOp, evBin, binI, binSh, binS, evNil, keyIs, keyEq, mkv, AV.cells, AV.sc, optv, bnd, env, put, Env.get, Env.set, Env.del, Env.dels, Env.init, res1, resL, resV, fillP, splice, newRow, Nat.reduceEqDiff, Nat.reduceLT, Nat.reduceLeDiff, Nat.reduceAdd, Nat.reduceMul, Nat.reduceSub, Nat.reduceBEq, reduceCtorEq, ↓zR, zQ, Tr, StA, StT]
    exact ih
theorem c_liTimes (n : Nat) (hn : n < 1000) {h : AH} {post : AV → AH → Prop} (hp : post (.str (List.replicate n 46)) h) : S 124 [.str [46], .int .i64 n] h post k := by
  refine S_of rfl T124 ?_; unfold fi124
  simp (maxSteps := 1000000) (disch := first | omega | rfl | (simp only [zL, two63, room] <;> omega) | fail) only [↓reduceIte, ↓zP, zW, WOp, evOp, evBin, binI, binSh, binS, evNil, keyIs, keyEq, mkv, AV.cells, AV.sc, optv, bnd, env, put, Env.get, Env.set, Env.del, Env.dels, Env.init, res1, resL, resV, fillP, splice, newRow, Nat.reduceEqDiff, Nat.reduceLT, Nat.reduceLeDiff, Nat.reduceAdd, Nat.reduceMul, Nat.reduceSub, Nat.reduceBEq, reduceCtorEq, ↓zR, zQ, Tr, StA, StT]
  refine lp_liTimes n [] (by simp; omega) ?_
  simp (maxSteps := 1000000) (disch := first | omega | rfl | (simp only [zL, two63, room] <;> omega) | fail) only [↓reduceIte, ↓zP, zW, WOp, evOp, evBin, binI, binSh, binS, evNil, keyIs, keyEq, mkv, AV.cells, AV.sc, optv, bnd, env, put, Env.get, Env.set, Env.del, Env.dels, Env.init, res1, resL, resV, fillP, splice, newRow, Nat.reduceEqDiff, Nat.reduceLT, Nat.reduceLeDiff, Nat.reduceAdd, Nat.reduceMul, Nat.reduceSub, Nat.reduceBEq, reduceCtorEq, ↓zR, zQ, Tr, StA, StT]
  exact hp
theorem slc2 (h : AH) (x y : List UInt8) : Slc 1 encS (h ++ [AO.row [.str x, .str y] 0 0 false]) (.slice h.length 0 0 2 1) [x, y] := by
  unfold Slc Sl
  refine ⟨rfl, rfl, rfl, ?_⟩
  rw [rd_last, if_pos (by simp)]
  simp
def wvV (s : List UInt8) : AV := if okW s then (match firstW s 9 (-4) with | some n => .tup [.int .i64 n, .bool true] | none => .tup [.int .i64 0, .bool false]) else .tup [.int .i64 0, .bool false]
theorem c_isPlayed (s : List UInt8) (hs : s.length < 2 ^ 60) {h : AH} {post : AV → AH → Prop} (hp : post (.bool (decide (1 ≤ (s.length : Int) ∧ (s.length : Int) ≤ 10) && s.all isSign)) h) : S 254 [.str s] h post k := by
  refine S_of rfl T254 ?_; unfold fi254
  simp (maxSteps := 1000000) (disch := first | omega | rfl | (simp only [zL, two63, room] <;> omega) | fail) only [↓reduceIte, ↓zP, zW, WOp, evOp, evBin, binI, binSh, binS, evNil, keyIs, keyEq, mkv, AV.cells, AV.sc, optv, bnd, env, put, Env.get, Env.set, Env.del, Env.dels, Env.init, res1, resL, resV, fillP, splice, newRow, Nat.reduceEqDiff, Nat.reduceLT, Nat.reduceLeDiff, Nat.reduceAdd, Nat.reduceMul, Nat.reduceSub, Nat.reduceBEq, reduceCtorEq, ↓zR, zQ, Tr, StA, StT]
  refine c_isLineOf s 10 (by omega) hs ?_
  simp (maxSteps := 1000000) (disch := first | omega | rfl | (simp only [zL, two63, room] <;> omega) | fail) only [↓reduceIte, ↓zP, zW, WOp, evOp, evBin, binI, binSh, binS, evNil, keyIs, keyEq, mkv, AV.cells, AV.sc, optv, bnd, env, put, Env.get, Env.set, Env.del, Env.dels, Env.init, res1, resL, resV, fillP, splice, newRow, Nat.reduceEqDiff, Nat.reduceLT, Nat.reduceLeDiff, Nat.reduceAdd, Nat.reduceMul, Nat.reduceSub, Nat.reduceBEq, reduceCtorEq, ↓zR, zQ, Tr, StA, StT]
  exact hp
theorem lp_sumOf {v : AV} {L : List (List UInt8)} (hL : L.length < 1000) (hok : ∀ x ∈ L, signs x ∧ 1 ≤ x.length ∧ x.length ≤ 5) {h : AH} (hs : Slc 1 encS h v L) {R : X → Env → AH → Prop} : ∀ (rest pre : List (List UInt8)) (n : Nat), L = pre ++ rest → n + 5 * rest.length < 2 ^ 30 →
    R (.exit 0) [(0, v), (4, .int .i64 ((n + (rest.map List.length).sum : Nat) : Int))] h →
    Cx (.loop lp249_0) [(0, v), (4, .int .i64 n), (7, v), (8, .int .i64 L.length), (9, .int .i64 pre.length)] h R k k
  | [], pre, n, hpre, hb, hR => by
    subst hpre
    rw [w_loopb (c := lp249_0) (d := lb249_0) rfl]; unfold lb249_0
    simp only [List.append_nil]
    simp (maxSteps := 1000000) (disch := first | omega | rfl | (simp only [zL, two63, room] <;> omega) | fail) only [↓reduceIte, ↓zP, zW, WOp, evOp, evBin, binI, binSh, binS, evNil, keyIs, keyEq, mkv, AV.cells, AV.sc, optv, bnd, env, put, Env.get, Env.set, Env.del, Env.dels, Env.init, res1, resL, resV, fillP, splice, newRow, Nat.reduceEqDiff, Nat.reduceLT, Nat.reduceLeDiff, Nat.reduceAdd, Nat.reduceMul, Nat.reduceSub, Nat.reduceBEq, reduceCtorEq, ↓zR, zQ, Tr, StA, StT]
    simpa using hR
  | x :: rest, pre, n, hpre, hb, hR => by
    obtain ⟨hx1, hx2, hx3⟩ := hok x (by rw [hpre]; simp)
    simp only [List.length_cons] at hb
    have ih := lp_sumOf hL hok hs (R := R) rest (pre ++ [x]) (n + x.length) (by rw [hpre]; simp) (by omega) (by simpa [Nat.add_assoc] using hR)
    have hll : L.length = pre.length + 1 + rest.length := by rw [hpre]; simp; omega
    have hs' := hs
    rw [hpre] at hs'
    obtain ⟨r1, k1, o1, hv, hr⟩ := hs'.at hlS
    rw [← hpre, hll] at hv
    subst hv
    rw [hll] at ih hL ⊢
    have hlt : (pre.length : Int) < ((pre.length + 1 + rest.length : Nat) : Int) := by omega
    have hw1 : (pre.length : Int) + 1 = ((pre ++ [x]).length : Int) := by simp
    have hw2 : (n : Int) + (x.length : Int) = ((n + x.length : Nat) : Int) := by omega
    have hwr : IntKind.i64.wrap ((n + x.length : Nat) : Int) = ((n + x.length : Nat) : Int) := wrap_i (by omega)
    have hgood : (decide (1 ≤ (x.length : Int) ∧ (x.length : Int) ≤ 10) && x.all isSign) = true := by
      unfold signs at hx1
      rw [hx1, decide_eq_true (by omega)]; rfl
    rw [w_loopb (c := lp249_0) (d := lb249_0) rfl]; unfold lb249_0
    simp (maxSteps := 1000000) (disch := first | omega | rfl | (simp only [zL, two63, room] <;> omega) | fail) only [↓reduceIte, ↓zP, zW, WOp, evOp, evBin, binI, binSh, binS, evNil, keyIs, keyEq, mkv, AV.cells, AV.sc, optv, bnd, env, put, Env.get, Env.set, Env.del, Env.dels, Env.init, res1, resL, resV, fillP, splice, newRow, Nat.reduceEqDiff, Nat.reduceLT, Nat.reduceLeDiff, Nat.reduceAdd, Nat.reduceMul, Nat.reduceSub, Nat.reduceBEq, reduceCtorEq, ↓zR, zQ, Tr, StA, StT, hlt, hr]
    refine c_isPlayed x (by omega) ?_
    have hx1' : x.all isSign = true := hx1
    simp (maxSteps := 1000000) (disch := first | omega | rfl | (simp only [zL, two63, room] <;> omega) | fail) only [↓reduceIte, ↓zP, zW, WOp, evOp, evBin, binI, binSh, binS, evNil, keyIs, keyEq, mkv, AV.cells, AV.sc, optv, bnd, env, put, Env.get, Env.set, Env.del, Env.dels, Env.init, res1, resL, resV, fillP, splice, newRow, Nat.reduceEqDiff, Nat.reduceLT, Nat.reduceLeDiff, Nat.reduceAdd, Nat.reduceMul, Nat.reduceSub, Nat.reduceBEq, reduceCtorEq, ↓zR, zQ, Tr, StA, StT, hx1', hgood, hw2, hwr]
    simp (maxSteps := 1000000) (disch := first | omega | rfl | (simp only [zL, two63, room] <;> omega) | fail) only [↓reduceIte, ↓zP, zW, WOp, evOp, evBin, binI, binSh, binS, evNil, keyIs, keyEq, mkv, AV.cells, AV.sc, optv, bnd, env, put, Env.get, Env.set, Env.del, Env.dels, Env.init, res1, resL, resV, fillP, splice, newRow, Nat.reduceEqDiff, Nat.reduceLT, Nat.reduceLeDiff, Nat.reduceAdd, Nat.reduceMul, Nat.reduceSub, Nat.reduceBEq, reduceCtorEq, ↓zR, zQ, Tr, StA, StT, hw1]
    rw [w_loopn (c := lp249_0) rfl]
    simp (maxSteps := 1000000) (disch := first | omega | rfl | (simp only [zL, two63, room] <;> omega) | fail) only [↓reduceIte, ↓zP, zW, WOp, evOp, evBin, binI, binSh, binS, evNil, keyIs, keyEq, mkv, AV.cells, AV.sc, optv, bnd, env, put, Env.get, Env.set, Env.del, Env.dels, Env.init, res1, resL, resV, fillP, splice, newRow, Nat.reduceEqDiff, Nat.reduceLT, Nat.reduceLeDiff, Nat.reduceAdd, Nat.reduceMul, Nat.reduceSub, Nat.reduceBEq, reduceCtorEq, ↓zR, zQ, Tr, StA, StT]
    exact ih
theorem join2 (x y : List UInt8) : Go.Lib.join [x, y] [32] = x ++ 32 :: y := by simp [Go.Lib.join, List.intercalate, List.intersperse]
theorem c_sumOf2 (x y : List UInt8) (hx : signs x ∧ 1 ≤ x.length ∧ x.length ≤ 5) (hy : signs y ∧ 1 ≤ y.length ∧ y.length ≤ 5) {h : AH} {c kk off : Nat} (hs : Slc 1 encS h (.slice c kk off 2 1) [x, y]) {post : AV → AH → Prop} (hp : post (.tup [.str (x ++ 32 :: y), .bool true]) h) : S 249 [.slice c kk off 2 1] h post k := by
  have key := fun R => lp_sumOf (v := .slice c kk off 2 1) (L := [x, y]) (by simp) (by
    intro z hz
    simp only [List.mem_cons, List.not_mem_nil, or_false] at hz
    rcases hz with rfl | rfl
    · exact hx
    · exact hy) hs (R := R) [x, y] [] 0 rfl (by simp)
  have hsum : (0 + ([x, y].map List.length).sum : Nat) = x.length + y.length := by simp
  rw [hsum] at key
  refine S_of rfl T249 ?_; unfold fi249
  simp (maxSteps := 1000000) (disch := first | omega | rfl | (simp only [zL, two63, room] <;> omega) | fail) only [↓reduceIte, ↓zP, zW, WOp, evOp, evBin, binI, binSh, binS, evNil, keyIs, keyEq, mkv, AV.cells, AV.sc, optv, bnd, env, put, Env.get, Env.set, Env.del, Env.dels, Env.init, res1, resL, resV, fillP, splice, newRow, Nat.reduceEqDiff, Nat.reduceLT, Nat.reduceLeDiff, Nat.reduceAdd, Nat.reduceMul, Nat.reduceSub, Nat.reduceBEq, reduceCtorEq, ↓zR, zQ, Tr, StA, StT]
  refine key _ ?_
  simp (maxSteps := 1000000) (disch := first | omega | rfl | (simp only [zL, two63, room] <;> omega) | fail) only [↓reduceIte, ↓zP, zW, WOp, evOp, evBin, binI, binSh, binS, evNil, keyIs, keyEq, mkv, AV.cells, AV.sc, optv, bnd, env, put, Env.get, Env.set, Env.del, Env.dels, Env.init, res1, resL, resV, fillP, splice, newRow, Nat.reduceEqDiff, Nat.reduceLT, Nat.reduceLeDiff, Nat.reduceAdd, Nat.reduceMul, Nat.reduceSub, Nat.reduceBEq, reduceCtorEq, ↓zR, zQ, Tr, StA, StT]
  obtain ⟨_, _, hrd⟩ := hs.all
  refine S_ext (r := .str (x ++ 32 :: y)) rfl ?_ ?_
  · simp only [xJoin, if_true]
    rw [show (2 * 1 : Nat) = 2 from rfl] at hrd
    rw [hrd]
    simp only [List.flatMap_cons, List.flatMap_nil, encS, List.cons_append, List.nil_append, strsOf, Option.map_some]
    rw [join2, if_pos ⟨by simp; omega, by omega⟩]
  · have h10 : ((x.length + y.length : Nat) : Int) ≤ 10 := by omega
    have hin : decide ((1 : Int) ≤ 2 ∧ (2 : Int) ≤ 3) = true := by decide
    have h2 : (((2 : Nat)) : Int) = 2 := rfl
    simp (maxSteps := 1000000) (disch := first | omega | rfl | (simp only [zL, two63, room] <;> omega) | fail) only [↓reduceIte, ↓zP, zW, WOp, evOp, evBin, binI, binSh, binS, evNil, keyIs, keyEq, mkv, AV.cells, AV.sc, optv, bnd, env, put, Env.get, Env.set, Env.del, Env.dels, Env.init, res1, resL, resV, fillP, splice, newRow, Nat.reduceEqDiff, Nat.reduceLT, Nat.reduceLeDiff, Nat.reduceAdd, Nat.reduceMul, Nat.reduceSub, Nat.reduceBEq, reduceCtorEq, ↓zR, zQ, Tr, StA, StT, h2, e_within, hin, h10]
    exact hp
theorem c_OutcomeOfSum2 (x y : List UInt8) (hx : signs x ∧ 1 ≤ x.length ∧ x.length ≤ 5) (hy : signs y ∧ 1 ≤ y.length ∧ y.length ≤ 5) {h : AH} {c kk off : Nat} (hs : Slc 1 encS h (.slice c kk off 2 1) [x, y]) {post : AV → AH → Prop} (hp : ∀ h', Pre h h' → post (.tup [.str (outcS (winB (x ++ 32 :: y) true) (winB (x ++ 32 :: y) false)), .bool true]) h') : S 241 [.slice c kk off 2 1] h post k := by
  refine S_of rfl T241 ?_; unfold fi241
  simp (maxSteps := 1000000) (disch := first | omega | rfl | (simp only [zL, two63, room] <;> omega) | fail) only [↓reduceIte, ↓zP, zW, WOp, evOp, evBin, binI, binSh, binS, evNil, keyIs, keyEq, mkv, AV.cells, AV.sc, optv, bnd, env, put, Env.get, Env.set, Env.del, Env.dels, Env.init, res1, resL, resV, fillP, splice, newRow, Nat.reduceEqDiff, Nat.reduceLT, Nat.reduceLeDiff, Nat.reduceAdd, Nat.reduceMul, Nat.reduceSub, Nat.reduceBEq, reduceCtorEq, ↓zR, zQ, Tr, StA, StT]
  refine c_sumOf2 x y hx hy hs ?_
  simp (maxSteps := 1000000) (disch := first | omega | rfl | (simp only [zL, two63, room] <;> omega) | fail) only [↓reduceIte, ↓zP, zW, WOp, evOp, evBin, binI, binSh, binS, evNil, keyIs, keyEq, mkv, AV.cells, AV.sc, optv, bnd, env, put, Env.get, Env.set, Env.del, Env.dels, Env.init, res1, resL, resV, fillP, splice, newRow, Nat.reduceEqDiff, Nat.reduceLT, Nat.reduceLeDiff, Nat.reduceAdd, Nat.reduceMul, Nat.reduceSub, Nat.reduceBEq, reduceCtorEq, ↓zR, zQ, Tr, StA, StT]
  refine c_newGames ?_
  intro c2 h2 hp2 hc2 hm2
  simp (maxSteps := 1000000) (disch := first | omega | rfl | (simp only [zL, two63, room] <;> omega) | fail) only [↓reduceIte, ↓zP, zW, WOp, evOp, evBin, binI, binSh, binS, evNil, keyIs, keyEq, mkv, AV.cells, AV.sc, optv, bnd, env, put, Env.get, Env.set, Env.del, Env.dels, Env.init, res1, resL, resV, fillP, splice, newRow, Nat.reduceEqDiff, Nat.reduceLT, Nat.reduceLeDiff, Nat.reduceAdd, Nat.reduceMul, Nat.reduceSub, Nat.reduceBEq, reduceCtorEq, ↓zR, zQ, Tr, StA, StT]
  refine c_outcome _ (by simp; omega) hm2 ?_
  intro h3 hp3
  simp (maxSteps := 1000000) (disch := first | omega | rfl | (simp only [zL, two63, room] <;> omega) | fail) only [↓reduceIte, ↓zP, zW, WOp, evOp, evBin, binI, binSh, binS, evNil, keyIs, keyEq, mkv, AV.cells, AV.sc, optv, bnd, env, put, Env.get, Env.set, Env.del, Env.dels, Env.init, res1, resL, resV, fillP, splice, newRow, Nat.reduceEqDiff, Nat.reduceLT, Nat.reduceLeDiff, Nat.reduceAdd, Nat.reduceMul, Nat.reduceSub, Nat.reduceBEq, reduceCtorEq, ↓zR, zQ, Tr, StA, StT]
  exact hp h3 (hp2.trans' ⟨hp3.1, fun i hi => hp3.2 i (by have := hp2.1; omega) (by omega)⟩)
end Go.Proofs.YtejhhdpfndiliaaGreatDoor.Ab

/- MOVES in slices: compared, marked, their marks found again. -/
namespace Go.Proofs.YtejhhdpfndiliaaGreatDoor.Ab
open Go
set_option maxRecDepth 100000
set_option maxHeartbeats 4000000

theorem beq_cm {α : Type} [BEq α] (x y : α) (l l' : List α) : (x :: l == y :: l') = (x == y && l == l') := rfl
def cntM : Int → Nat → List (Int × Int)
  | _, 0 => []
  | q, n + 1 => (q, q + 1) :: cntM (q + 2) n
theorem cntM_len : ∀ (n : Nat) (q : Int), (cntM q n).length = n
  | 0, _ => rfl
  | n + 1, q => by simp [cntM, cntM_len n]
theorem Slc.fldM0 {h : AH} {c kk off n e : Nat} {pre rest : List (Int × Int)} {x : Int × Int} (hs : Slc 2 encM h (.slice c kk off n e) (pre ++ x :: rest)) : rdRow h c kk (off + pre.length * 2 + 0) 1 = some [.int .i64 x.1] ∧ rdRow h c kk (off + pre.length * 2 + 1) 1 = some [.int .i64 x.2] := by
  have hr := hs.rd hlM
  exact ⟨rd_part hr (o := 0) (m := 1) (by omega), rd_part hr (o := 1) (m := 1) (by omega)⟩
end Go.Proofs.YtejhhdpfndiliaaGreatDoor.Ab

/- FRAMES: a map and a cell with its slices may turn, all else stays. -/
namespace Go.Proofs.YtejhhdpfndiliaaGreatDoor.Ab
open Go
set_option maxRecDepth 100000
set_option maxHeartbeats 4000000

def FrW (c r : Nat) (h h' : AH) : Prop := h.length ≤ h'.length ∧ ∀ i, i < h.length → i ≠ c → ¬ grc r h i → h'[i]? = h[i]? ∧ ¬ grc r h' i
section
variable {c r : Nat} {h h' : AH}
theorem FrW.refl : FrW c r h h := ⟨Nat.le_refl _, fun _ _ _ hg => ⟨rfl, hg⟩⟩
theorem FrW.trans {x y z : AH} (p : FrW c r x y) (q : FrW c r y z) : FrW c r x z := ⟨Nat.le_trans p.1 q.1, fun i hi hc hg => by
  obtain ⟨h1, h2⟩ := p.2 i hi hc hg
  obtain ⟨h3, h4⟩ := q.2 i (Nat.lt_of_lt_of_le hi p.1) hc h2
  exact ⟨by rw [h3, h1], h4⟩⟩
theorem FrC.frw (hf : FrC r h h') : FrW c r h h' := ⟨hf.1, fun i hi _ hg => hf.2 i hi hg⟩
theorem Pre.frw (hp : Pre h h') (hr : r < h.length) : FrW c r h h' := (hp.frc hr).frw
theorem grc_row (hr : h'[r]? = h[r]?) (i : Nat) : grc r h' i ↔ grc r h i := by unfold grc; rw [hr]
theorem PreX.frw (hp : PreX c h h') (hr : r < h.length) (hrc : r ≠ c) : FrW c r h h' := ⟨hp.1, fun i hi hc hg => ⟨hp.2 i hi hc, by rw [grc_row (hp.2 r hr hrc)]; exact hg⟩⟩
theorem rd_frw (hf : FrW c r h h') {i k o n : Nat} {cs : List AV} (hc : i ≠ c) (hg : ¬ grc r h i) (hr : rdRow h i k o n = some cs) : rdRow h' i k o n = some cs := by
  have := rd_lt hr
  unfold rdRow at hr ⊢
  rw [(hf.2 i this hc hg).1]; exact hr
def SlcW {α : Type} (esz : Nat) (enc : α → List AV) (c r : Nat) (h : AH) (v : AV) (L : List α) : Prop := Slc esz enc h v L ∧ ∀ i, rowOf v = some i → i ≠ c ∧ ¬ grc r h i
theorem SlcW.fr {α : Type} {esz : Nat} {enc : α → List AV} {v : AV} {L : List α} (hs : SlcW esz enc c r h v L) (hf : FrW c r h h') : SlcW esz enc c r h' v L := by
  obtain ⟨h1, h2⟩ := hs
  unfold SlcW Slc Sl at *
  cases v <;> simp only [rowOf] at * <;> first
    | (exact ⟨h1, fun r hr => by cases hr⟩)
    | (obtain ⟨k1, k2, k3, k4⟩ := h1
       obtain ⟨g1, g2⟩ := h2 _ rfl
       exact ⟨⟨k1, k2, k3, rd_frw hf g1 g2 k4⟩, fun r hr => by cases hr; exact ⟨g1, (hf.2 _ (rd_lt k4) g1 g2).2⟩⟩)
/-- A slice laid since. -/
theorem OutP.slcW {α β : Type} {esz esz' : Nat} {enc : α → List AV} {enc' : β → List AV} {b : AH} {l : List α} {v : AV} {L : List β} (hk : OutP esz enc r b h l) (hc : c < h.length) (ho : OwL esz' enc' h h' v L) (hp : Pre h h') : SlcW esz' enc' c r h' v L :=
  ⟨ho.slc, fun i hr => by
    have := own_ge ho hr
    exact ⟨by omega, hk.fresh hp this⟩⟩
theorem OutP.prex {α : Type} {esz : Nat} {enc : α → List AV} {b : AH} {l : List α} (hk : OutP esz enc r b h l) {es : List (AV × AV)} (hm : h[c]? = some (.map es)) (hp : PreX c h h') : OutP esz enc r b h' l ∧ r ≠ c := by
  have hlt := hk.lt
  obtain ⟨vo, h1, h2, h3⟩ := hk
  have hrc : r ≠ c := by rintro rfl; rw [h1] at hm; cases hm
  refine ⟨⟨vo, by rw [hp.2 r hlt hrc]; exact h1, own_row h2 fun i hi => ?_, h3⟩, hrc⟩
  refine hp.2 i (own_lt h2 hi) ?_
  rintro rfl
  unfold OwL Own at h2
  cases vo <;> simp only [rowOf] at hi <;> try (cases hi; done)
  obtain ⟨_, _, _, _, cells, fl, hh, _⟩ := h2
  cases hi
  rw [hm] at hh; cases hh
end
end Go.Proofs.YtejhhdpfndiliaaGreatDoor.Ab

/- CLUES without one of them; copies of clues; marks found again. -/
namespace Go.Proofs.YtejhhdpfndiliaaGreatDoor.Ab
open Go
set_option maxRecDepth 100000
set_option maxHeartbeats 4000000

section
variable {α : Type} {esz : Nat} {enc : α → List AV}
theorem apM (hl : ∀ x, (enc x).length = esz) (hsc : ∀ x, (enc x).all AV.sc = true) {h0 h : AH} {v : AV} {L : List α} (ho : OwL esz enc h0 h v L) (hp : Pre h0 h) (M : List α) (hr : L.length + M.length ≤ 1099511627776) :
    ∃ v' h', apRow h esz v M.length (M.flatMap enc) = some (v', h') ∧ OwL esz enc h0 h' v' (L ++ M) ∧ Pre h0 h' := by
  have hs : (M.flatMap enc).all AV.sc = true := by
    rw [List.all_eq_true]
    intro x hx
    obtain ⟨a, _, ha⟩ := List.mem_flatMap.1 hx
    exact List.all_eq_true.1 (hsc a) x ha
  obtain ⟨v', h', h1, h2, h3⟩ := ap_own ho hp (q := M.length) (vs := M.flatMap enc) (by rw [flat_len hl]) hs hr
  refine ⟨v', h', h1, ?_, h3⟩
  unfold OwL
  rw [List.length_append, List.flatMap_append]
  exact h2
theorem Slc.ahead (hl : ∀ x, (enc x).length = esz) {h : AH} {c kk off n e : Nat} {pre rest : List α} (hs : Slc esz enc h (.slice c kk off n e) (pre ++ rest)) : rdRow h c kk off (pre.length * esz) = some (pre.flatMap enc) := by
  obtain ⟨h1, rfl, h3⟩ := hs.all
  have hm := Nat.mul_le_mul_right e (show pre.length ≤ n by rw [h1]; simp)
  have := rd_part h3 (o := 0) (m := pre.length * e) (by omega)
  rw [Nat.add_zero, List.drop_zero, List.flatMap_append, List.take_left' (flat_len hl pre)] at this
  exact this
theorem Slc.behind (hl : ∀ x, (enc x).length = esz) {h : AH} {c kk off n e : Nat} {pre rest : List α} (hs : Slc esz enc h (.slice c kk off n e) (pre ++ rest)) : rdRow h c kk (off + pre.length * esz) (rest.length * esz) = some (rest.flatMap enc) := by
  obtain ⟨h1, rfl, h3⟩ := hs.all
  have hn : n * e = pre.length * e + rest.length * e := by rw [h1, List.length_append, Nat.add_mul]
  have := rd_part h3 (o := pre.length * e) (m := rest.length * e) (by omega)
  rw [List.flatMap_append, List.drop_left' (flat_len hl pre), List.take_of_length_le (by rw [flat_len hl]; exact Nat.le_refl _)] at this
  exact this
end
end Go.Proofs.YtejhhdpfndiliaaGreatDoor.Ab

/- PLAIN LAWS of reaching: lines in order, layer by layer, and plays counted. -/
namespace Go.Proofs.YtejhhdpfndiliaaGreatDoor.Ab
open Go

abbrev Ln := List UInt8
theorem bl_eq : ∀ (x y : Ln), Op.bytesLess x y = decide (x < y)
  | _, [] => by simp [Op.bytesLess]
  | [], _ :: _ => by simp [Op.bytesLess]
  | a :: x, b :: y => by
    simp only [Op.bytesLess, bl_eq x y, List.cons_lt_cons_iff]
    by_cases h : a < b
    · simp [h]
    · by_cases e : a = b
      · subst e; simp
      · simp [h, e]
theorem ln_irrefl (x : Ln) : ¬ x < x := List.lt_irrefl x
theorem ln_trans {x y z : Ln} (h : x < y) (h' : y < z) : x < z := List.lt_trans h h'
theorem ln_tri {x y : Ln} (h : ¬ x < y) (hn : x ≠ y) : y < x := by
  rcases List.le_total x y with h1 | h1
  · rcases (List.le_iff_lt_or_eq).1 h1 with h2 | h2
    · exact absurd h2 h
    · exact absurd h2 hn
  · rcases (List.le_iff_lt_or_eq).1 h1 with h2 | h2
    · exact h2
    · exact absurd h2.symm hn
abbrev Srt (l : List Ln) : Prop := l.Pairwise (· < ·)
theorem Srt.nodup {l : List Ln} (h : Srt l) : l.Nodup := h.imp fun hlt e => by subst e; exact ln_irrefl _ hlt
/-- Sorted lists of the same members are one. -/
theorem Srt.ext : ∀ {l l' : List Ln}, Srt l → Srt l' → (∀ x, x ∈ l ↔ x ∈ l') → l = l'
  | [], [], _, _, _ => rfl
  | [], b :: t, _, _, h => by have := (h b).2 (by simp); simp at this
  | a :: s, [], _, _, h => by have := (h a).1 (by simp); simp at this
  | a :: s, b :: t, h1, h2, h => by
    unfold Srt at h1 h2
    rw [List.pairwise_cons] at h1 h2
    obtain rfl : a = b := by
      have ha := (h a).1 (by simp)
      have hb := (h b).2 (by simp)
      rw [List.mem_cons] at ha hb
      rcases ha with rfl | ha
      · rfl
      · rcases hb with rfl | hb
        · rfl
        · exact absurd (ln_trans (h1.1 _ hb) (h2.1 _ ha)) (ln_irrefl _)
    congr 1
    refine Srt.ext h1.2 h2.2 fun x => ?_
    have hx := h x
    rw [List.mem_cons, List.mem_cons] at hx
    constructor
    · intro hm
      rcases hx.1 (.inr hm) with rfl | h3
      · exact absurd (h1.1 _ hm) (ln_irrefl _)
      · exact h3
    · intro hm
      rcases hx.2 (.inr hm) with rfl | h3
      · exact absurd (h2.1 _ hm) (ln_irrefl _)
      · exact h3
def lowB (x : Ln) : List Ln → Nat
  | [] => 0
  | a :: t => if a < x then lowB x t + 1 else 0
theorem lowB_le (x : Ln) : ∀ l : List Ln, lowB x l ≤ l.length
  | [] => Nat.le_refl _
  | a :: t => by
    unfold lowB
    split
    · have := lowB_le x t; simp; omega
    · simp
theorem low_iff (x : Ln) : ∀ {l : List Ln}, Srt l → ∀ (i : Nat) (y : Ln), l[i]? = some y → (y < x ↔ i < lowB x l)
  | [], _, i, y, h => by simp at h
  | a :: t, hs, i, y, h => by
    unfold Srt at hs
    rw [List.pairwise_cons] at hs
    unfold lowB
    cases i with
    | zero =>
      simp at h; subst h
      split <;> simp [*]
    | succ i =>
      rw [List.getElem?_cons_succ] at h
      split
      · rw [low_iff x hs.2 i y h]; omega
      · rename_i hn
        constructor
        · intro hy
          exact absurd (ln_trans (hs.1 y (List.mem_of_getElem? h)) hy) hn
        · intro hy; omega
def insS (x : Ln) : List Ln → List Ln
  | [] => [x]
  | a :: t => if a < x then a :: insS x t else if a = x then a :: t else x :: a :: t
theorem insS_low (x : Ln) : ∀ l : List Ln, insS x l = if l[lowB x l]? = some x then l else l.take (lowB x l) ++ x :: l.drop (lowB x l)
  | [] => by simp [insS, lowB]
  | a :: t => by
    unfold insS lowB
    by_cases h : a < x
    · simp only [if_pos h, insS_low x t, List.getElem?_cons_succ, List.take_succ_cons, List.drop_succ_cons]
      split <;> simp
    · simp only [if_neg h]
      by_cases e : a = x
      · simp [e]
      · simp [e]
theorem insS_mem (x y : Ln) : ∀ l : List Ln, y ∈ insS x l ↔ y = x ∨ y ∈ l
  | [] => by simp [insS]
  | a :: t => by
    unfold insS
    split
    · rw [List.mem_cons, insS_mem x y t, List.mem_cons]
      constructor
      · rintro (h | h | h) <;> simp [h]
      · rintro (h | h | h) <;> simp [h]
    · split
      · rename_i e; subst e
        simp
      · simp
theorem insS_srt (x : Ln) : ∀ {l : List Ln}, Srt l → Srt (insS x l)
  | [], _ => by simp [insS]
  | a :: t, hs => by
    have hs0 := hs
    unfold Srt at hs
    rw [List.pairwise_cons] at hs
    unfold insS
    split
    · rename_i h
      rw [Srt, List.pairwise_cons]
      refine ⟨fun y hy => ?_, insS_srt x hs.2⟩
      rcases (insS_mem x y t).1 hy with rfl | hy
      · exact h
      · exact hs.1 y hy
    · split
      · exact hs0
      · rename_i h e
        have hx := ln_tri h e
        rw [Srt, List.pairwise_cons]
        refine ⟨fun y hy => ?_, hs0⟩
        rcases List.mem_cons.1 hy with rfl | hy
        · exact hx
        · exact ln_trans hx (hs.1 y hy)
theorem insS_len (x : Ln) : ∀ l : List Ln, (insS x l).length ≤ l.length + 1
  | [] => by simp [insS]
  | a :: t => by
    unfold insS
    split
    · have := insS_len x t; simp; omega
    · split <;> simp
def addS (l acc : List Ln) : List Ln := l.foldl (fun a x => insS x a) acc
theorem addS_mem (y : Ln) : ∀ (l acc : List Ln), y ∈ addS l acc ↔ y ∈ l ∨ y ∈ acc
  | [], acc => by simp [addS]
  | x :: l, acc => by
    show y ∈ addS l (insS x acc) ↔ _
    rw [addS_mem y l, insS_mem, List.mem_cons]
    constructor
    · rintro (h | h | h) <;> simp [h]
    · rintro ((h | h) | h) <;> simp [h]
theorem addS_srt : ∀ (l : List Ln) {acc : List Ln}, Srt acc → Srt (addS l acc)
  | [], _, h => h
  | x :: l, acc, h => addS_srt l (insS_srt x h)
theorem addS_app (l l' acc : List Ln) : addS (l ++ l') acc = addS l' (addS l acc) := List.foldl_append

/-- Lines behind one move. -/
def nx (w : Ln) : List Ln := nextB w [84, 70]
def stepL (l : List Ln) : List Ln := addS (l.flatMap nx) []
theorem stepL_mem (l : List Ln) (y : Ln) : y ∈ stepL l ↔ ∃ u ∈ l, y ∈ nx u := by
  unfold stepL
  rw [addS_mem, List.mem_flatMap]
  simp
theorem stepL_srt (l : List Ln) : Srt (stepL l) := addS_srt _ List.Pairwise.nil
def lay (w : Ln) : Nat → List Ln
  | 0 => [w]
  | j + 1 => stepL (lay w j)
theorem lay_srt (w : Ln) : ∀ j, Srt (lay w j)
  | 0 => by simp [lay]
  | _ + 1 => stepL_srt _
theorem lay_mu (w : Ln) : ∀ (j : Nat) (v : Ln), v ∈ lay w j → mu v + j ≤ mu w
  | 0, v, h => by
    simp only [lay, List.mem_singleton] at h
    subst h; omega
  | j + 1, v, h => by
    obtain ⟨u, hu, hv⟩ := (stepL_mem _ _).1 h
    have h1 := lay_mu w j u hu
    have h2 := nextB_mu hv
    omega
theorem lay_empty (w : Ln) {j : Nat} (h : lay w j = []) : ∀ d, lay w (j + d) = []
  | 0 => h
  | d + 1 => by
    show stepL (lay w (j + d)) = []
    rw [lay_empty w h d]; rfl
theorem lay_end (w : Ln) : lay w (mu w + 1) = [] := by
  rw [List.eq_nil_iff_forall_not_mem]
  intro v hv
  have := lay_mu w _ v hv
  omega

/-! ### Plays counted -/
def cntP : Nat → Ln → Nat
  | 0, _ => 1
  | j + 1, w => ((nx w).map (cntP j)).sum
def pcs (L : List Ln) (p : Ln → Nat) (v : Ln) : Nat := (L.map fun u => (nx u).count v * p u).sum
def pc (w : Ln) : Nat → Ln → Nat
  | 0, _ => 1
  | j + 1, v => pcs (lay w j) (pc w j) v
theorem sum_zero {α : Type} (l : List α) : (l.map fun _ => 0).sum = 0 := by
  induction l with
  | nil => rfl
  | cons a l ih => simp [ih]
theorem sum_congr {α : Type} {f g : α → Nat} : ∀ {l : List α}, (∀ x ∈ l, f x = g x) → (l.map f).sum = (l.map g).sum
  | [], _ => rfl
  | a :: l, h => by
    rw [List.map_cons, List.map_cons, List.sum_cons, List.sum_cons, h a (by simp), sum_congr fun x hx => h x (by simp [hx])]
theorem sum_add' {α : Type} (f g : α → Nat) : ∀ l : List α, (l.map fun x => f x + g x).sum = (l.map f).sum + (l.map g).sum
  | [] => rfl
  | a :: l => by simp only [List.map_cons, List.sum_cons, sum_add' f g l]; omega
theorem sum_mul' {α : Type} (f : α → Nat) (c : Nat) : ∀ l : List α, (l.map fun x => c * f x).sum = c * (l.map f).sum
  | [] => by simp
  | a :: l => by simp only [List.map_cons, List.sum_cons, sum_mul' f c l, Nat.mul_add]
theorem count_sum (f : Ln → Nat) {S : List Ln} (hn : S.Nodup) : ∀ l : List Ln, (∀ x ∈ l, x ∈ S) → (S.map fun v => l.count v * f v).sum = (l.map f).sum
  | [], _ => by simp [sum_zero]
  | x :: l, h => by
    have ih := count_sum f hn l fun y hy => h y (by simp [hy])
    have one : ∀ {S : List Ln}, S.Nodup → x ∈ S → (S.map fun v => (if x == v then 1 else 0) * f v).sum = f x := by
      intro S
      induction S with
      | nil => intro _ hx; simp at hx
      | cons a S ih2 =>
        intro hn hx
        rw [List.nodup_cons] at hn
        rw [List.map_cons, List.sum_cons]
        by_cases e : x = a
        · subst e
          have : (S.map fun v => (if x == v then 1 else 0) * f v).sum = (S.map fun _ => 0).sum := sum_congr fun v hv => by
            have : x ≠ v := by rintro rfl; exact hn.1 hv
            simp [this]
          rw [this, sum_zero]; simp
        · rw [ih2 hn.2 (by rcases List.mem_cons.1 hx with h | h; exact absurd h e; exact h)]
          simp [e]
    rw [List.map_cons, List.sum_cons, ← ih, ← one hn (h x (by simp)), ← sum_add']
    refine sum_congr fun v _ => ?_
    rw [List.count_cons, Nat.add_mul, Nat.add_comm]
theorem pcs_sum (f p : Ln → Nat) (S : List Ln) (hn : S.Nodup) : ∀ L : List Ln, (∀ u ∈ L, ∀ x ∈ nx u, x ∈ S) → (S.map fun v => pcs L p v * f v).sum = (L.map fun u => p u * ((nx u).map f).sum).sum
  | [], _ => by simp [pcs, sum_zero]
  | u :: L, h => by
    have ih := pcs_sum f p S hn L fun y hy => h y (by simp [hy])
    rw [List.map_cons, List.sum_cons, ← ih, ← count_sum f hn (nx u) (h u (by simp)), ← sum_mul', ← sum_add']
    refine sum_congr fun v _ => ?_
    simp only [pcs, List.map_cons, List.sum_cons]
    rw [Nat.add_mul, Nat.mul_right_comm, Nat.mul_comm _ (p u)]
theorem pc_sum (w : Ln) : ∀ (j d : Nat), ((lay w j).map fun v => pc w j v * cntP d v).sum = cntP (j + d) w
  | 0, d => by simp [lay, pc]
  | j + 1, d => by
    have := pc_sum w j (d + 1)
    rw [show j + 1 + d = j + (d + 1) by omega, ← this]
    exact pcs_sum (cntP d) (pc w j) (lay w (j + 1)) (lay_srt w (j + 1)).nodup (lay w j) fun u hu x hx => (stepL_mem _ _).2 ⟨u, hu, hx⟩
theorem sum_le_of_mem {α : Type} (f : α → Nat) : ∀ {l : List α} {x : α}, x ∈ l → f x ≤ (l.map f).sum
  | a :: l, x, h => by
    rw [List.map_cons, List.sum_cons]
    rcases List.mem_cons.1 h with rfl | h
    · omega
    · have := sum_le_of_mem f h; omega
theorem pc_sum0 (w : Ln) (j : Nat) : ((lay w j).map (pc w j)).sum = cntP j w := by
  have := pc_sum w j 0
  simpa [cntP] using this
theorem pc_le (w : Ln) (j : Nat) {v : Ln} (h : v ∈ lay w j) : pc w j v ≤ cntP j w := by
  rw [← pc_sum0]; exact sum_le_of_mem _ h

/-! ### Lines with one gap -/
def oneGap (w : Ln) : Prop := w.all isSign = true ∧ w.count 46 = 1
theorem flat_one {β : Type} {f : Nat → List β} : ∀ {l : List Nat}, l.Nodup → (∀ i ∈ l, (f i).length ≤ 1) → (∀ i ∈ l, ∀ j ∈ l, f i ≠ [] → f j ≠ [] → i = j) → (l.flatMap f).length ≤ 1
  | [], _, _, _ => by simp
  | a :: l, hn, h1, h2 => by
    rw [List.nodup_cons] at hn
    rw [List.flatMap_cons, List.length_append]
    by_cases e : f a = []
    · rw [e]
      have := flat_one hn.2 (fun i hi => h1 i (by simp [hi])) (fun i hi j hj => h2 i (by simp [hi]) j (by simp [hj]))
      simpa using this
    · have : l.flatMap f = [] := by
        rw [List.flatMap_eq_nil_iff]
        intro j hj
        apply Classical.byContradiction
        intro hne
        have := h2 a (by simp) j (by simp [hj]) e hne
        subst this; exact hn.1 hj
      rw [this]
      have := h1 a (by simp)
      simpa using this
end Go.Proofs.YtejhhdpfndiliaaGreatDoor.Ab

/- PLAIN LAWS of words: in a line with one gap a toad has one move at most, and so a frog. -/
namespace Go.Proofs.YtejhhdpfndiliaaGreatDoor.Ab
open Go

theorem flatMap_sum {α β : Type} (g : β → Nat) (f : α → List β) : ∀ l : List α, ((l.flatMap f).map g).sum = (l.map fun i => ((f i).map g).sum).sum
  | [] => rfl
  | a :: l => by rw [List.flatMap_cons, List.map_append, List.sum_append, flatMap_sum g f l, List.map_cons, List.sum_cons]
theorem has2 (b : UInt8) : hasB [84, 70] b = ((b == 84) || (b == 70)) := by have := hasB_kinds true true b; simpa [kindsS] using this
theorem has84 (b : UInt8) : hasB [84] b = (b == 84) := by have := hasB_kinds true false b; simpa [kindsS] using this
theorem has70 (b : UInt8) : hasB [70] b = (b == 70) := by have := hasB_kinds false true b; simpa [kindsS] using this
theorem moveB_parts (g : Int × Int → Nat) (w : Ln) (i : Nat) : ((moveB w [84, 70] i).map g).sum = ((moveB w [70] i).map g).sum + ((moveB w [84] i).map g).sum := by
  unfold moveB
  rw [has2, has84, has70]
  cases goalB w i with
  | none => rfl
  | some t =>
    simp only
    generalize w.getD i 0 = b
    by_cases h1 : b = 84
    · subst h1; simp
    · by_cases h2 : b = 70
      · subst h2; simp
      · simp [h1, h2]
theorem nx_parts (f : Ln → Nat) (w : Ln) : ((nx w).map f).sum = ((nextB w [70]).map f).sum + ((nextB w [84]).map f).sum := by
  unfold nx nextB movesB
  simp only [List.map_map]
  rw [flatMap_sum, flatMap_sum, flatMap_sum, ← sum_add']
  exact sum_congr fun i _ => moveB_parts _ w i
theorem count_set {b x : UInt8} : ∀ {l : Ln} {i : Nat}, i < l.length → (l.set i b).count x + (if l.getD i 0 = x then 1 else 0) = l.count x + (if b = x then 1 else 0)
  | [], i, h => by simp at h
  | a :: l, 0, _ => by
    simp only [List.set_cons_zero, List.count_cons, List.getD_cons_zero, beq_iff_eq]
    omega
  | a :: l, i + 1, h => by
    have := count_set (b := b) (x := x) (l := l) (i := i) (by simpa using h)
    simp only [List.set_cons_succ, List.count_cons, List.getD_cons_succ]
    omega
theorem Mv.ne {w : Ln} {i t : Nat} (h : Mv w i t) : i ≠ t := by
  obtain ⟨_, _, h3, h4⟩ := h
  rintro rfl
  rcases h4 with ⟨h5, _⟩ | ⟨h5, _⟩ <;> rw [h5] at h3 <;> cases h3
theorem Mv.sign {w : Ln} {i t : Nat} (h : Mv w i t) : w.getD i 0 = 84 ∨ w.getD i 0 = 70 := by
  obtain ⟨_, _, _, h4⟩ := h
  rcases h4 with ⟨h5, _⟩ | ⟨h5, _⟩
  · exact .inl h5
  · exact .inr h5
theorem getD_setL {l : Ln} {i j : Nat} {b : UInt8} (h : i < l.length) : (l.set i b).getD j 0 = if i = j then b else l.getD j 0 := by
  simp only [List.getD_eq_getElem?_getD, List.getElem?_set]
  by_cases e : i = j
  · subst e; simp [h]
  · simp [e]
theorem count_made {w : Ln} {i t : Nat} (h : Mv w i t) : (madeB w i t).count 46 = w.count 46 := by
  have hne := h.ne
  have hs := h.sign
  obtain ⟨h1, h2, h3, h4⟩ := h
  have e1 := count_set (b := w.getD i 0) (x := 46) (l := w) (i := t) h2
  have e2 := count_set (b := 46) (x := 46) (l := w.set t (w.getD i 0)) (i := i) (by simpa using h1)
  rw [getD_setL h2, if_neg (Ne.symm hne)] at e2
  unfold madeB
  have hb : w.getD i 0 ≠ 46 := by rcases hs with h | h <;> rw [h] <;> decide
  rw [h3] at e1
  simp only [if_true, if_neg hb] at e1 e2
  omega
theorem signs_made {w : Ln} {i t : Nat} (h : Mv w i t) (hs : w.all isSign = true) : (madeB w i t).all isSign = true := by
  rw [List.all_eq_true] at hs ⊢
  unfold madeB
  intro x hx
  rcases List.mem_or_eq_of_mem_set hx with hx | rfl
  · rcases List.mem_or_eq_of_mem_set hx with hx | rfl
    · exact hs x hx
    · rcases h.sign with h | h <;> rw [h] <;> rfl
  · rfl
theorem nextB_mv {w kinds v : Ln} (h : v ∈ nextB w kinds) : ∃ i t : Nat, ((i : Int), (t : Int)) ∈ movesB w kinds ∧ Mv w i t ∧ v = madeB w i t := by
  obtain ⟨m, hm, rfl⟩ := List.mem_map.1 h
  obtain ⟨i, t, rfl, hv⟩ := movesB_mv hm
  exact ⟨i, t, hm, hv, by simp⟩
theorem oneGap.next {w kinds v : Ln} (h : oneGap w) (hv : v ∈ nextB w kinds) : oneGap v := by
  obtain ⟨i, t, _, hm, rfl⟩ := nextB_mv hv
  exact ⟨signs_made hm h.1, (count_made hm).trans h.2⟩
theorem count_two {x : UInt8} : ∀ {l : Ln} {i j : Nat}, i < j → l.getD i 0 = x → l.getD j 0 = x → j < l.length → 2 ≤ l.count x
  | [], _, _, _, _, _, h => by simp at h
  | a :: l, 0, j + 1, _, h1, h2, h3 => by
    simp only [List.getD_cons_zero, List.getD_cons_succ] at h1 h2
    subst h1
    have : a ∈ l := by
      have hj : j < l.length := by simpa using h3
      rw [← h2, List.getD_eq_getElem?_getD, List.getElem?_eq_getElem hj]
      simp
    have := List.count_pos_iff.2 this
    simp only [List.count_cons, beq_self_eq_true, if_true]
    omega
  | a :: l, i + 1, j + 1, h, h1, h2, h3 => by
    have := count_two (l := l) (i := i) (j := j) (by omega) (by simpa using h1) (by simpa using h2) (by simpa using h3)
    rw [List.count_cons]; omega
theorem gap_one {w : Ln} (h : w.count 46 = 1) {t t' : Nat} (ht : t < w.length) (ht' : t' < w.length) (h1 : w.getD t 0 = 46) (h2 : w.getD t' 0 = 46) : t = t' := by
  rcases Nat.lt_trichotomy t t' with hl | hl | hl
  · have := count_two hl h1 h2 ht'; omega
  · exact hl
  · have := count_two hl h2 h1 ht; omega
theorem moveB_some {w kinds : Ln} {i : Nat} (hi : i < w.length) (h : moveB w kinds i ≠ []) : ∃ t : Nat, Mv w i t ∧ hasB kinds (w.getD i 0) = true := by
  unfold moveB at h
  cases hg : goalB w i with
  | none => rw [hg] at h; exact absurd rfl h
  | some t =>
    rw [hg] at h
    simp only at h
    obtain ⟨t', rfl, hm⟩ := goalB_mv hi hg
    refine ⟨t', hm, ?_⟩
    cases hk : hasB kinds (w.getD i 0)
    · rw [hk] at h; simp at h
    · rfl
theorem kind_one {w : Ln} (h : oneGap w) {s : UInt8} (hs : s = 84 ∨ s = 70) : (nextB w [s]).length ≤ 1 := by
  unfold nextB movesB
  rw [List.length_map]
  refine flat_one List.nodup_range (fun i _ => moveB_len w [s] i) ?_
  intro i hi j hj h1 h2
  rw [List.mem_range] at hi hj
  obtain ⟨t, ⟨_, a2, a3, a4⟩, ak⟩ := moveB_some hi h1
  obtain ⟨t', ⟨_, b2, b3, b4⟩, bk⟩ := moveB_some hj h2
  obtain rfl := gap_one h.2 a2 b2 a3 b3
  rcases hs with rfl | rfl
  · rw [has84] at ak bk
    have ea := beq_iff_eq.1 ak
    have eb := beq_iff_eq.1 bk
    rcases a4 with ⟨_, a5⟩ | ⟨a6, _⟩
    · rcases b4 with ⟨_, b5⟩ | ⟨b6, _⟩
      · rcases a5 with a5 | ⟨a5, a7⟩ <;> rcases b5 with b5 | ⟨b5, b7⟩
        · omega
        · have : j + 1 = i := by omega
          rw [this, ea] at b7; cases b7
        · have : i + 1 = j := by omega
          rw [this, eb] at a7; cases a7
        · omega
      · rw [eb] at b6; cases b6
    · rw [ea] at a6; cases a6
  · rw [has70] at ak bk
    have ea := beq_iff_eq.1 ak
    have eb := beq_iff_eq.1 bk
    rcases a4 with ⟨a6, _⟩ | ⟨_, a5⟩
    · rw [ea] at a6; cases a6
    · rcases b4 with ⟨b6, _⟩ | ⟨_, b5⟩
      · rw [eb] at b6; cases b6
      · rcases a5 with a5 | ⟨a5, a7⟩ <;> rcases b5 with b5 | ⟨b5, b7⟩
        · omega
        · have : j - 1 = i := by omega
          rw [this, ea] at b7; cases b7
        · have : i - 1 = j := by omega
          rw [this, eb] at a7; cases a7
        · omega
theorem cntP_le : ∀ (j : Nat) {w : Ln}, oneGap w → cntP j w ≤ 2 ^ j
  | 0, _, _ => Nat.le_refl _
  | j + 1, w, h => by
    have part : ∀ {s : UInt8}, s = 84 ∨ s = 70 → ((nextB w [s]).map (cntP j)).sum ≤ 2 ^ j := by
      intro s hs
      have hl := kind_one h hs
      match hn : nextB w [s], hl with
      | [], _ => simp
      | [v], _ =>
        have := cntP_le j (h.next (kinds := [s]) (v := v) (by rw [hn]; simp))
        simpa using this
    unfold cntP
    rw [nx_parts]
    have h1 := part (s := 84) (.inl rfl)
    have h2 := part (s := 70) (.inr rfl)
    rw [Nat.pow_succ]; omega

/-! ### Words -/
def words : Nat → Ln → List Ln
  | 0, _ => [[]]
  | j + 1, w => ((nextB w [70]).flatMap fun v => (words j v).map (70 :: ·)) ++ ((nextB w [84]).flatMap fun v => (words j v).map (84 :: ·))
theorem words_len : ∀ (j : Nat) (w : Ln), (words j w).length = cntP j w
  | 0, _ => rfl
  | j + 1, w => by
    have part : ∀ (s : UInt8) (l : List Ln), (l.flatMap fun v => (words j v).map (s :: ·)).length = (l.map (cntP j)).sum := by
      intro s l
      induction l with
      | nil => rfl
      | cons v l ih => rw [List.flatMap_cons, List.length_append, ih, List.length_map, words_len j v, List.map_cons, List.sum_cons]
    unfold words cntP
    rw [List.length_append, part, part, nx_parts]
theorem cntP_next {j : Nat} {w v s : Ln} (h : v ∈ nextB w s) (hs : s = [84] ∨ s = [70]) : cntP j v ≤ cntP (j + 1) w := by
  show cntP j v ≤ ((nx w).map (cntP j)).sum
  rw [nx_parts]
  rcases hs with rfl | rfl
  · have := sum_le_of_mem (cntP j) h; omega
  · have := sum_le_of_mem (cntP j) h; omega
end Go.Proofs.YtejhhdpfndiliaaGreatDoor.Ab

/- REACHING, the reference's side: texts in order with one more, layers of lines. -/
namespace Go.Proofs.YtejhhdpfndiliaaGreatDoor.Ab
open Go
set_option maxRecDepth 100000
set_option maxHeartbeats 4000000

theorem two_ne : ((2 : Int) = 0) = False := by simp
def fewB (s : Ln) : Bool := goodLine s && decide ((s.length : Int) ≤ 10)
end Go.Proofs.YtejhhdpfndiliaaGreatDoor.Ab

/- REACHING, the reference's side: layers of lines. -/
namespace Go.Proofs.YtejhhdpfndiliaaGreatDoor.Ab
open Go
set_option maxRecDepth 100000
set_option maxHeartbeats 4000000

def GoodL (n : Nat) (A : List Ln) : Prop := Srt A ∧ ∀ x ∈ A, x.length = n ∧ x.all isSign = true
theorem GoodL.len {n : Nat} {A : List Ln} (h : GoodL n A) (hn : n ≤ 10) : A.length ≤ 59049 := by
  have := nodup_bound (A := [46, 70, 84]) (n := n) h.1.nodup (fun x hx => ⟨(h.2 x hx).1, fun b hb => by
    have := List.all_eq_true.1 (h.2 x hx).2 b hb
    unfold isSign at this
    simp at this ⊢
    rcases this with h | h
    · rcases h with h | h <;> simp [h]
    · simp [h]⟩)
  exact Nat.le_trans this (Nat.le_trans (Nat.pow_le_pow_right (by simp) hn) (by decide))
theorem GoodL.nil {n : Nat} : GoodL n [] := ⟨List.Pairwise.nil, fun x hx => by simp at hx⟩
theorem GoodL.ins {n : Nat} {A : List Ln} (h : GoodL n A) {x : Ln} (hx : x.length = n ∧ x.all isSign = true) : GoodL n (insS x A) :=
  ⟨insS_srt x h.1, fun y hy => by
    rcases (insS_mem x y A).1 hy with rfl | hy
    · exact hx
    · exact h.2 y hy⟩
theorem GoodL.add {n : Nat} : ∀ {l A : List Ln}, GoodL n A → (∀ x ∈ l, x.length = n ∧ x.all isSign = true) → GoodL n (addS l A)
  | [], _, h, _ => h
  | x :: l, A, h, hx => GoodL.add (l := l) (h.ins (hx x (by simp))) fun y hy => hx y (by simp [hy])
theorem nx_good {w v : Ln} (hg : w.all isSign = true) (h : v ∈ nx w) : v.length = w.length ∧ v.all isSign = true := by
  obtain ⟨i, t, _, hm, rfl⟩ := nextB_mv h
  exact ⟨madeB_length w i t, signs_made hm hg⟩
theorem lay_good {w : Ln} (hg : w.all isSign = true) : ∀ j, GoodL w.length (lay w j)
  | 0 => ⟨lay_srt w 0, fun x hx => by
    simp only [lay, List.mem_singleton] at hx
    subst hx; exact ⟨rfl, hg⟩⟩
  | j + 1 => ⟨lay_srt w _, fun x hx => by
    obtain ⟨u, hu, hv⟩ := (stepL_mem _ _).1 hx
    obtain ⟨h1, h2⟩ := (lay_good hg j).2 u hu
    obtain ⟨h3, h4⟩ := nx_good h2 hv
    exact ⟨h3.trans h1, h4⟩⟩
theorem muF_le (n : Nat) : ∀ (l : Ln) (i : Nat), i + l.length ≤ n → muF n i l ≤ n * l.length
  | [], _, _ => by simp [muF]
  | b :: l, i, h => by
    have := muF_le n l (i + 1) (by simp at h; omega)
    have hb : fmu n i b ≤ n := by
      unfold fmu
      simp at h
      split
      · omega
      · split <;> omega
    simp only [muF, List.length_cons, Nat.mul_add, Nat.mul_one]
    omega
theorem mu_le (w : Ln) (hw : w.length ≤ 10) : mu w ≤ 100 := by
  have := muF_le w.length w 0 (by omega)
  unfold mu
  exact Nat.le_trans this (Nat.mul_le_mul hw hw)
def mkM (w : Ln) (m : Int × Int) : Ln := madeB w m.1.toNat m.2.toNat
theorem nx_eq (w : Ln) : nx w = (movesB w [84, 70]).map (mkM w) := rfl
theorem liM_eq (w : Ln) : liMovesB w true true = movesB w [84, 70] := liMovesB_eq w true true

/-- A value that fills one cell. -/
abbrev SV := {v : AV // v.sc = true}
def encV (x : SV) : List AV := [x.1]
theorem hlV (x : SV) : (encV x).length = 1 := rfl
theorem scV (x : SV) : (encV x).all AV.sc = true := by simp [encV, x.2]
def LL (h : AH) (o : AV) (vs : List SV) (Ls : List (List Ln)) : Prop := vs.length = Ls.length ∧ ∀ (i : Nat) (v : SV) (L : List Ln), vs[i]? = some v → Ls[i]? = some L → Slc 1 encS h v.1 L ∧ ∀ r, rowOf v.1 = some r → rowOf o ≠ some r
theorem Slc.lt {α : Type} {esz : Nat} {enc : α → List AV} {h : AH} {v : AV} {L : List α} (hs : Slc esz enc h v L) {r : Nat} (hr : rowOf v = some r) : r < h.length := by
  cases v <;> simp only [rowOf] at hr <;> try (cases hr; done)
  cases hr
  exact hs.row_lt _ _ _ _ _ rfl
theorem Slc.stay {α : Type} {esz : Nat} {enc : α → List AV} {h h' : AH} {v : AV} {L : List α} (hs : Slc esz enc h v L) (hr : ∀ r, rowOf v = some r → h'[r]? = h[r]?) : Slc esz enc h' v L := by
  unfold Slc Sl at *
  cases v <;> simp only [rowOf] at * <;> first
    | exact hs
    | (obtain ⟨k1, k2, k3, k4⟩ := hs
       refine ⟨k1, k2, k3, ?_⟩
       unfold rdRow at k4 ⊢
       rw [hr _ rfl]; exact k4)
theorem LL.pre {h h' : AH} {o : AV} {vs : List SV} {Ls : List (List Ln)} (hl : LL h o vs Ls) (hp : Pre h h') : LL h' o vs Ls := ⟨hl.1, fun i v L h1 h2 => ⟨(hl.2 i v L h1 h2).1.pre hp, (hl.2 i v L h1 h2).2⟩⟩
/-- Behind an append to the outer slice. -/
theorem LL.app {h h3 : AH} {o o3 : AV} {vs : List SV} {Ls : List (List Ln)} (hl : LL h o vs Ls) {w : SV} {M : List Ln} (hw : Slc 1 encS h w.1 M) (hn : ∀ r, rowOf w.1 = some r → rowOf o ≠ some r)
    (f1 : ∀ i, i < h.length → rowOf o ≠ some i → h3[i]? = h[i]?) (f3 : ∀ r, rowOf o3 = some r → rowOf o = some r ∨ h.length ≤ r) : LL h3 o3 (vs ++ [w]) (Ls ++ [M]) := by
  have one : ∀ {v : SV} {L : List Ln}, Slc 1 encS h v.1 L → (∀ r, rowOf v.1 = some r → rowOf o ≠ some r) → Slc 1 encS h3 v.1 L ∧ ∀ r, rowOf v.1 = some r → rowOf o3 ≠ some r := by
    intro v L hs hd
    refine ⟨hs.stay fun r hr => f1 r (hs.lt hr) (hd r hr), fun r hr e => ?_⟩
    rcases f3 r e with h1 | h1
    · exact hd r hr h1
    · have := hs.lt hr; omega
  refine ⟨by simp [hl.1], fun i u N h1 h2 => ?_⟩
  have h0 := hl.1
  rcases Nat.lt_trichotomy i vs.length with hi | hi | hi
  · rw [List.getElem?_append_left hi] at h1
    rw [List.getElem?_append_left (by omega)] at h2
    obtain ⟨g1, g2⟩ := hl.2 i u N h1 h2
    exact one g1 g2
  · subst hi
    rw [List.getElem?_append_right (Nat.le_refl _)] at h1
    rw [List.getElem?_append_right (by omega), ← h0] at h2
    simp at h1 h2
    subst h1; subst h2; exact one hw hn
  · rw [List.getElem?_eq_none (by simp; omega)] at h1; cases h1
def lays (w : Ln) (n : Nat) : List (List Ln) := (List.range n).map (lay w)
theorem lays_succ (w : Ln) (n : Nat) : lays w (n + 1) = lays w n ++ [lay w n] := by unfold lays; rw [List.range_succ, List.map_append]; rfl
end Go.Proofs.YtejhhdpfndiliaaGreatDoor.Ab

/- WORDS counted by layers: the reference's side. -/
namespace Go.Proofs.YtejhhdpfndiliaaGreatDoor.Ab
open Go
set_option maxRecDepth 100000
set_option maxHeartbeats 4000000

theorem Slc.get {α : Type} {esz : Nat} {enc : α → List AV} (hl : ∀ x, (enc x).length = esz) {h : AH} {v : AV} {L : List α} (hs : Slc esz enc h v L) {i : Nat} (hi : i < L.length) : ∃ c kk off, v = .slice c kk off L.length esz ∧ rdRow h c kk (off + i * esz) esz = some (enc L[i]) := by
  have hsp : L = L.take i ++ L[i] :: L.drop (i + 1) := by rw [← List.drop_eq_getElem_cons, List.take_append_drop]
  have hpl : (L.take i).length = i := by rw [List.length_take]; omega
  have hs' : Slc esz enc h v (L.take i ++ L[i] :: L.drop (i + 1)) := by rw [← hsp]; exact hs
  obtain ⟨c, kk, off, hv, hr⟩ := hs'.at hl
  rw [← hsp] at hv
  rw [hpl] at hr
  exact ⟨c, kk, off, hv, hr⟩
def SlcX {α : Type} (esz : Nat) (enc : α → List AV) (c : Nat) (h : AH) (v : AV) (L : List α) : Prop := Slc esz enc h v L ∧ ∀ r, rowOf v = some r → r ≠ c
theorem SlcX.fr {α : Type} {esz : Nat} {enc : α → List AV} {c : Nat} {h h' : AH} {v : AV} {L : List α} (hs : SlcX esz enc c h v L) (hp : PreX c h h') : SlcX esz enc c h' v L :=
  ⟨hs.1.stay fun r hr => hp.2 r (hs.1.lt hr) (hs.2 r hr), hs.2⟩
theorem Slc.x {α : Type} {esz : Nat} {enc : α → List AV} {c : Nat} {h : AH} {v : AV} {L : List α} (hs : Slc esz enc h v L) (hc : h.length ≤ c) : SlcX esz enc c h v L := ⟨hs, fun r hr => by have := hs.lt hr; omega⟩

theorem pcs_snoc (L : List Ln) (w : Ln) (p : Ln → Nat) (x : Ln) : pcs (L ++ [w]) p x = pcs L p x + (nx w).count x * p w := by simp [pcs]
theorem pcs_mono {L L' : List Ln} (w : Ln) (p : Ln → Nat) (x : Ln) : pcs (L ++ [w]) p x ≤ pcs (L ++ w :: L') p x := by simp [pcs]
theorem rep0_flat (n : Nat) : (List.replicate n [AV.int .i64 0]).flatten = (List.replicate n (0 : Int)).flatMap encI := by
  induction n with
  | zero => rfl
  | succ n ih => rw [List.replicate_succ, List.replicate_succ, List.flatten_cons, List.flatMap_cons, ih]
theorem lays_get {w : Ln} {j n : Nat} (h : j < n) : (lays w n)[j]? = some (lay w j) := by
  unfold lays; rw [List.getElem?_map, List.getElem?_range h]; rfl
theorem words_mem_len : ∀ (j : Nat) (w x : Ln), x ∈ words j w → x.length = j
  | 0, w, x, h => by simp [words] at h; subst h; rfl
  | j + 1, w, x, h => by
    unfold words at h
    rw [List.mem_append] at h
    rcases h with h | h
    all_goals
      obtain ⟨v, _, hv⟩ := List.mem_flatMap.1 h
      obtain ⟨y, hy, rfl⟩ := List.mem_map.1 hv
      rw [List.length_cons, words_mem_len j v y hy]
theorem liB_eq (w : Ln) (tf ff : Bool) : liMovesB w tf ff = movesB w (kindsS tf ff) := liMovesB_eq w tf ff
/-- One kind's part of the words. -/
def part (s : UInt8) (j : Nat) (w : Ln) : List Ln := (nextB w [s]).flatMap fun v => (words j v).map (s :: ·)
theorem words_succ (j : Nat) (w : Ln) : words (j + 1) w = part 70 j w ++ part 84 j w := rfl
end Go.Proofs.YtejhhdpfndiliaaGreatDoor.Ab

/- WORDS counted by the program. -/
namespace Go.Proofs.YtejhhdpfndiliaaGreatDoor.Ab
open Go
set_option maxRecDepth 100000
set_option maxHeartbeats 4000000

def oneB (w : Ln) : Bool := fewB w && ((w.count 46 : Nat) : Int) == 1
theorem fewB_iff {w : Ln} (h : fewB w = true) : w.all isSign = true ∧ 1 ≤ w.length ∧ w.length ≤ 10 := by
  simp only [fewB, goodLine, Bool.and_eq_true, decide_eq_true_eq] at h
  exact ⟨h.1.2, by omega, by omega⟩
theorem oneB_iff {w : Ln} (h : oneB w = true) : oneGap w ∧ w.length ≤ 10 := by
  simp only [oneB, Bool.and_eq_true, beq_iff_eq] at h
  obtain ⟨h1, h2⟩ := h
  obtain ⟨h3, h4, h5⟩ := fewB_iff h1
  exact ⟨⟨h3, by omega⟩, h5⟩
theorem few_eq (s : Ln) : (decide (1 ≤ (s.length : Int) ∧ (s.length : Int) ≤ 10) && s.all isSign) = fewB s := by
  unfold fewB goodLine
  rw [Bool.eq_iff_iff]
  simp only [Bool.and_eq_true, decide_eq_true_eq]
  constructor
  · rintro ⟨h1, h2⟩; exact ⟨⟨by omega, h2⟩, by omega⟩
  · rintro ⟨⟨h1, h2⟩, h3⟩; exact ⟨by omega, h2⟩
theorem cntb (c : UInt8) (s : Ln) : Go.Lib.countByte s c = s.count c := rfl
abbrev OfS := {p : Ln × Nat // p.1.all isSign = true}
def ofK (s : OfS) : Ln := s.1.1 ++ List.replicate s.1.2 33
def ofV (s : OfS) : AV := .int .i64 (cntP s.1.2 s.1.1 : Nat)
theorem ofK_inj (s s' : OfS) (h : ofK s = ofK s') : ofV s = ofV s' := by
  obtain ⟨⟨w, n⟩, hw⟩ := s
  obtain ⟨⟨w', n'⟩, hw'⟩ := s'
  unfold ofK at h
  simp only at h hw hw'
  have key : ∀ {w w' : Ln} {n n' : Nat}, w.all isSign = true → w'.all isSign = true → w ++ List.replicate n 33 = w' ++ List.replicate n' 33 → w = w' ∧ n = n' := by
    intro w
    induction w with
    | nil =>
      intro w' n n' _ h2 h
      cases w' with
      | nil => simpa using h
      | cons b w' =>
        simp only [List.all_cons, Bool.and_eq_true] at h2
        cases n with
        | zero => simp at h
        | succ n =>
          rw [List.replicate_succ] at h
          simp at h
          rw [← h.1] at h2
          exact absurd h2.1 (by decide)
    | cons a w ih =>
      intro w' n n' h1 h2 h
      simp only [List.all_cons, Bool.and_eq_true] at h1
      cases w' with
      | nil =>
        cases n' with
        | zero => simp at h
        | succ n' =>
          rw [List.replicate_succ] at h
          simp at h
          rw [h.1] at h1
          exact absurd h1.1 (by decide)
      | cons b w' =>
        simp only [List.all_cons, Bool.and_eq_true] at h2
        simp only [List.cons_append, List.cons.injEq] at h
        obtain ⟨e1, e2⟩ := ih h1.2 h2.2 h.2
        exact ⟨by rw [h.1, e1], e2⟩
  obtain ⟨rfl, rfl⟩ := key hw hw' h
  rfl
theorem rep33 : ∀ n : Nat, Go.Lib.repeatL [33] n = List.replicate n 33
  | 0 => rfl
  | n + 1 => by rw [Go.Lib.repeatL, rep33 n, List.replicate_succ]; rfl
theorem pow40 {j : Nat} (h : j ≤ 40) : 2 ^ j ≤ 1099511627776 := Nat.le_trans (Nat.pow_le_pow_right (by omega) h) (by decide)
end Go.Proofs.YtejhhdpfndiliaaGreatDoor.Ab

/- PLAIN LAWS: each move turns one pair of neighbours in order: all plays from a line to another have as many moves. -/
namespace Go.Proofs.YtejhhdpfndiliaaGreatDoor.Ab
open Go

def cr (a : UInt8) (l : Ln) : Nat := if a = 84 then l.count 46 + l.count 70 else if a = 46 then l.count 70 else 0
def inv : Ln → Nat
  | [] => 0
  | a :: l => cr a l + inv l
theorem inv_app : ∀ (A l : Ln), inv (A ++ l) = inv A + (A.map fun a => cr a l).sum + inv l
  | [], l => by simp [inv]
  | a :: A, l => by
    have ih := inv_app A l
    have hc : cr a (A ++ l) = cr a A + cr a l := by
      unfold cr
      simp only [List.count_append]
      split
      · omega
      · split <;> omega
    simp only [List.cons_append, inv, List.map_cons, List.sum_cons, ih, hc]
    omega
theorem inv_turn {A l l' : Ln} (h1 : l.count 46 = l'.count 46) (h2 : l.count 70 = l'.count 70) (h3 : inv l = inv l' + 1) : inv (A ++ l) = inv (A ++ l') + 1 := by
  rw [inv_app, inv_app, h3]
  have : (A.map fun a => cr a l).sum = (A.map fun a => cr a l').sum := sum_congr fun a _ => by unfold cr; rw [h1, h2]
  omega
theorem at_split {w : Ln} {i : Nat} (h : i < w.length) : w = w.take i ++ w.getD i 0 :: w.drop (i + 1) := by
  rw [List.getD_eq_getElem?_getD, List.getElem?_eq_getElem h]
  simp only [Option.getD_some]
  rw [← List.drop_eq_getElem_cons, List.take_append_drop]
theorem split2 {w : Ln} {i : Nat} (h : i + 1 < w.length) : ∃ A B, A.length = i ∧ w = A ++ w.getD i 0 :: w.getD (i + 1) 0 :: B := by
  refine ⟨w.take i, w.drop (i + 2), by simp; omega, ?_⟩
  have h1 := at_split (w := w) (i := i) (by omega)
  have h2 : w.drop (i + 1) = w.getD (i + 1) 0 :: w.drop (i + 2) := by
    rw [List.drop_eq_getElem_cons h, List.getD_eq_getElem?_getD, List.getElem?_eq_getElem h]; rfl
  rw [← h2]; exact h1
theorem split3 {w : Ln} {i : Nat} (h : i + 2 < w.length) : ∃ A B, A.length = i ∧ w = A ++ w.getD i 0 :: w.getD (i + 1) 0 :: w.getD (i + 2) 0 :: B := by
  obtain ⟨A, B, hA, hw⟩ := split2 (w := w) (i := i) (by omega)
  have h2 : w.drop (i + 2) = w.getD (i + 2) 0 :: w.drop (i + 3) := by
    rw [List.drop_eq_getElem_cons h, List.getD_eq_getElem?_getD, List.getElem?_eq_getElem h]; rfl
  have h3 : w.drop (i + 2) = B := by
    have e := congrArg (List.drop (i + 2)) hw
    have hl : (A ++ [w.getD i 0, w.getD (i + 1) 0]).length = i + 2 := by simp [hA]
    rw [e, show A ++ w.getD i 0 :: w.getD (i + 1) 0 :: B = (A ++ [w.getD i 0, w.getD (i + 1) 0]) ++ B by simp, List.drop_left' hl]
  refine ⟨A, w.drop (i + 3), hA, ?_⟩
  rw [← h2, h3]; exact hw
theorem set_at {A B : Ln} {a b : UInt8} : (A ++ a :: B).set A.length b = A ++ b :: B := by
  rw [List.set_append_right _ _ (Nat.le_refl _), Nat.sub_self, List.set_cons_zero]
theorem set_at1 {A B : Ln} {a b c : UInt8} : (A ++ a :: b :: B).set (A.length + 1) c = A ++ a :: c :: B := by
  rw [List.set_append_right _ _ (by omega), Nat.add_sub_cancel_left, List.set_cons_succ, List.set_cons_zero]
theorem set_at2 {A B : Ln} {a b c d : UInt8} : (A ++ a :: b :: c :: B).set (A.length + 2) d = A ++ a :: b :: d :: B := by
  rw [List.set_append_right _ _ (by omega), Nat.add_sub_cancel_left, List.set_cons_succ, List.set_cons_succ, List.set_cons_zero]
theorem inv_made {w : Ln} {i t : Nat} (h : Mv w i t) : inv w = inv (madeB w i t) + 1 := by
  obtain ⟨h1, h2, h3, h4⟩ := h
  unfold madeB
  rcases h4 with ⟨h5, h6⟩ | ⟨h5, h6⟩
  · rcases h6 with h6 | ⟨h6, h7⟩
    · subst h6
      obtain ⟨A, B, hA, hw⟩ := split2 (w := w) (i := i) h2
      rw [h5, h3] at hw
      rw [h5]
      generalize w = w0 at hw
      subst hw; subst hA
      rw [set_at1, set_at]
      refine inv_turn ?_ ?_ ?_
      · simp
      · simp
      · simp [inv, cr]; omega
    · subst h6
      obtain ⟨A, B, hA, hw⟩ := split3 (w := w) (i := i) h2
      rw [h5, h3, h7] at hw
      rw [h5]
      generalize w = w0 at hw
      subst hw; subst hA
      rw [set_at2, set_at]
      refine inv_turn ?_ ?_ ?_
      · simp
      · simp
      · simp [inv, cr]; omega
  · rcases h6 with h6 | ⟨h6, h7⟩
    · obtain rfl : i = t + 1 := by omega
      obtain ⟨A, B, hA, hw⟩ := split2 (w := w) (i := t) h1
      rw [h5, h3] at hw
      rw [h5]
      generalize w = w0 at hw
      subst hw; subst hA
      rw [set_at, set_at1]
      refine inv_turn ?_ ?_ ?_
      · simp
      · simp
      · simp [inv, cr]; omega
    · obtain rfl : i = t + 2 := by omega
      have e7 : t + 2 - 1 = t + 1 := by omega
      rw [e7] at h7
      obtain ⟨A, B, hA, hw⟩ := split3 (w := w) (i := t) h1
      rw [h5, h3, h7] at hw
      rw [h5]
      generalize w = w0 at hw
      subst hw; subst hA
      rw [set_at, set_at2]
      refine inv_turn ?_ ?_ ?_
      · simp
      · simp
      · simp [inv, cr]; omega
theorem lay_inv {w : Ln} : ∀ (j : Nat) (v : Ln), v ∈ lay w j → inv v + j = inv w
  | 0, v, h => by simp only [lay, List.mem_singleton] at h; subst h; rfl
  | j + 1, v, h => by
    obtain ⟨u, hu, hv⟩ := (stepL_mem _ _).1 h
    obtain ⟨i, t, _, hm, rfl⟩ := nextB_mv hv
    have h1 := lay_inv j u hu
    have h2 := inv_made hm
    omega
theorem lay_one {w v : Ln} {i j : Nat} (h1 : v ∈ lay w i) (h2 : v ∈ lay w j) : i = j := by
  have := lay_inv i v h1
  have := lay_inv j v h2
  omega
end Go.Proofs.YtejhhdpfndiliaaGreatDoor.Ab

/- PLAIN LAWS: how many plays lead from a line to another; which lines are live. -/
namespace Go.Proofs.YtejhhdpfndiliaaGreatDoor.Ab
open Go

/-- How many plays lead from w to g. -/
def swNx (g w : Ln) : List Ln := if w = g then [] else nx w
def swSt (g w : Ln) (l : List Nat) : Nat := if w = g then 1 else l.sum
def cE (g w : Ln) : Nat := rc (swNx g) (swSt g) mu w
theorem cE_eq (g w : Ln) : cE g w = if w = g then 1 else ((nx w).map (cE g)).sum := by
  have hm : ∀ s, ∀ s' ∈ swNx g s, mu s' < mu s := by
    intro s s' hs
    unfold swNx at hs
    split at hs
    · simp at hs
    · exact nextB_mu hs
  unfold cE
  rw [rc_eq (swNx g) (swSt g) (mu := mu) hm w]
  unfold swSt swNx
  split <;> rfl
theorem cE_self (g : Ln) : cE g g = 1 := by rw [cE_eq, if_pos rfl]
theorem cE_ne {g w : Ln} (h : w ≠ g) : cE g w = ((nx w).map (cE g)).sum := by rw [cE_eq, if_neg h]
theorem sum_pos_iff {α : Type} (f : α → Nat) : ∀ l : List α, 0 < (l.map f).sum ↔ ∃ x ∈ l, 0 < f x
  | [] => by simp
  | a :: l => by
    rw [List.map_cons, List.sum_cons]
    constructor
    · intro h
      by_cases ha : 0 < f a
      · exact ⟨a, by simp, ha⟩
      · obtain ⟨x, hx, h2⟩ := (sum_pos_iff f l).1 (by omega)
        exact ⟨x, by simp [hx], h2⟩
    · rintro ⟨x, hx, h2⟩
      rcases List.mem_cons.1 hx with rfl | hx
      · omega
      · have := (sum_pos_iff f l).2 ⟨x, hx, h2⟩; omega
theorem lay_front (w v : Ln) : ∀ j, v ∈ lay w (j + 1) ↔ ∃ u ∈ nx w, v ∈ lay u j
  | 0 => by
    rw [show lay w (0 + 1) = stepL (lay w 0) from rfl, stepL_mem]
    simp only [lay, List.mem_singleton]
    constructor
    · rintro ⟨u, rfl, h⟩; exact ⟨v, h, rfl⟩
    · rintro ⟨u, h, rfl⟩; exact ⟨w, rfl, h⟩
  | j + 1 => by
    rw [show lay w (j + 1 + 1) = stepL (lay w (j + 1)) from rfl, stepL_mem]
    constructor
    · rintro ⟨u, hu, h⟩
      obtain ⟨x, hx, hux⟩ := (lay_front w u j).1 hu
      exact ⟨x, hx, (stepL_mem _ _).2 ⟨u, hux, h⟩⟩
    · rintro ⟨x, hx, h⟩
      obtain ⟨u, hu, hv⟩ := (stepL_mem _ _).1 h
      exact ⟨u, (lay_front w u j).2 ⟨x, hx, hu⟩, hv⟩
theorem cE_pos (g : Ln) : ∀ (n : Nat) (w : Ln), mu w < n → (0 < cE g w ↔ ∃ j, g ∈ lay w j)
  | 0, _, h => by omega
  | n + 1, w, hn => by
    by_cases e : w = g
    · subst e
      rw [cE_self]
      exact ⟨fun _ => ⟨0, by simp [lay]⟩, fun _ => by omega⟩
    · rw [cE_ne e, sum_pos_iff]
      constructor
      · rintro ⟨u, hu, h⟩
        obtain ⟨j, hj⟩ := (cE_pos g n u (by have := nextB_mu hu; omega)).1 h
        exact ⟨j + 1, (lay_front w g j).2 ⟨u, hu, hj⟩⟩
      · rintro ⟨j, hj⟩
        cases j with
        | zero => simp only [lay, List.mem_singleton] at hj; exact absurd hj.symm e
        | succ j =>
          obtain ⟨u, hu, h⟩ := (lay_front w g j).1 hj
          exact ⟨u, hu, (cE_pos g n u (by have := nextB_mu hu; omega)).2 ⟨j, h⟩⟩
theorem cE_iff (g w : Ln) : 0 < cE g w ↔ ∃ j, g ∈ lay w j := cE_pos g (mu w + 1) w (by omega)
theorem cE_up {g u v : Ln} (h : v ∈ nx u) (hv : 0 < cE g v) : 0 < cE g u := by
  rw [cE_iff] at hv ⊢
  obtain ⟨j, hj⟩ := hv
  exact ⟨j + 1, (lay_front u g j).2 ⟨v, h, hj⟩⟩
theorem lay_trans {w v x : Ln} {i j : Nat} (h1 : v ∈ lay w i) : x ∈ lay v j → x ∈ lay w (i + j) := by
  induction j generalizing x with
  | zero => intro h; simp only [lay, List.mem_singleton] at h; subst h; exact h1
  | succ j ih =>
    intro h
    obtain ⟨u, hu, hx⟩ := (stepL_mem _ _).1 h
    exact (stepL_mem _ _).2 ⟨u, ih hu, hx⟩

/-! ### Few plays: they fit into 63 bits -/
theorem flat_few {β : Type} {f : Nat → List β} : ∀ {l : List Nat}, (∀ i ∈ l, (f i).length ≤ 1) → (l.flatMap f).length ≤ l.length
  | [], _ => by simp
  | a :: l, h => by
    have h1 := h a (by simp)
    have h2 := flat_few (l := l) fun i hi => h i (by simp [hi])
    simp only [List.flatMap_cons, List.length_append, List.length_cons]; omega
theorem flat_less {β : Type} {f : Nat → List β} : ∀ {l : List Nat} {t : Nat}, (∀ i ∈ l, (f i).length ≤ 1) → t ∈ l → f t = [] → (l.flatMap f).length + 1 ≤ l.length
  | [], _, _, h, _ => by simp at h
  | a :: l, t, h, ht, he => by
    have h1 := h a (by simp)
    have h2 : ∀ i ∈ l, (f i).length ≤ 1 := fun i hi => h i (by simp [hi])
    simp only [List.flatMap_cons, List.length_append, List.length_cons]
    rcases List.mem_cons.1 ht with rfl | ht
    · have := flat_few h2
      rw [he, List.length_nil]; omega
    · have := flat_less h2 ht he; omega
theorem nx_len {w : Ln} : (nx w).length ≤ w.length - 1 := by
  cases hn : nx w with
  | nil => simp
  | cons v l =>
    rw [← hn]
    have hin : v ∈ nx w := by rw [hn]; simp
    obtain ⟨i, t, hm, hv, _⟩ := nextB_mv (kinds := [84, 70]) hin
    obtain ⟨_, ht, h46, _⟩ := hv
    have h0 : moveB w [84, 70] t = [] := by
      unfold moveB
      split
      · rw [has2, h46]; rfl
      · rfl
    have := flat_less (f := moveB w [84, 70]) (l := List.range w.length) (t := t) (fun i _ => moveB_len _ _ i) (by simpa using ht) h0
    unfold nx nextB movesB
    rw [List.length_map]
    rw [List.length_range] at this
    omega
theorem sum_le_mul {α : Type} (f : α → Nat) (B : Nat) : ∀ l : List α, (∀ x ∈ l, f x ≤ B) → (l.map f).sum ≤ l.length * B
  | [], _ => by simp
  | a :: l, h => by
    have h1 := h a (by simp)
    have h2 := sum_le_mul f B l fun x hx => h x (by simp [hx])
    rw [List.map_cons, List.sum_cons, List.length_cons, Nat.succ_mul]; omega
theorem nx_length {w v : Ln} (h : v ∈ nx w) : v.length = w.length := nextB_length h
theorem nx_inv {w v : Ln} (h : v ∈ nx w) : inv w = inv v + 1 := by
  obtain ⟨i, t, _, hm, rfl⟩ := nextB_mv h
  exact inv_made hm
theorem cE_pow (g : Ln) : ∀ (n : Nat) (w : Ln), inv w < n → w.length ≤ 8 → cE g w ≤ 7 ^ inv w
  | 0, _, h, _ => by omega
  | n + 1, w, hn, hw => by
    by_cases e : w = g
    · subst e; rw [cE_self]; exact Nat.pos_of_ne_zero (by simp)
    · rw [cE_ne e]
      cases hi : inv w with
      | zero =>
        cases hx : nx w with
        | nil => simp
        | cons v l => have := nx_inv (w := w) (v := v) (by rw [hx]; simp); omega
      | succ k =>
        have h1 := sum_le_mul (cE g) (7 ^ k) (nx w) fun v hv => by
          have e1 := nx_inv hv
          have e2 := cE_pow g n v (by omega) (by rw [nx_length hv]; exact hw)
          rw [show inv v = k by omega] at e2; exact e2
        have h2 := nx_len (w := w)
        rw [Nat.pow_succ, Nat.mul_comm]
        exact Nat.le_trans h1 (Nat.mul_le_mul_right _ (by omega))
theorem inv_le : ∀ w : Ln, inv w ≤ w.count 84 * w.count 46 + w.count 84 * w.count 70 + w.count 46 * w.count 70
  | [] => by simp [inv]
  | a :: l => by
    have ih := inv_le l
    unfold inv cr
    by_cases h84 : a = 84
    · subst h84
      simp only [List.count_cons, beq_self_eq_true, if_true, show ((84 : UInt8) == 46) = false from rfl, show ((84 : UInt8) == 70) = false from rfl, Bool.false_eq_true, if_false, Nat.add_zero, Nat.add_mul, Nat.one_mul]
      omega
    · by_cases h46 : a = 46
      · subst h46
        simp only [List.count_cons, beq_self_eq_true, if_true, show ((46 : UInt8) == 84) = false from rfl, show ((46 : UInt8) == 70) = false from rfl, show ((46 : UInt8) = 84) = False from by simp, Bool.false_eq_true, if_false, Nat.add_zero, Nat.add_mul, Nat.one_mul, Nat.mul_add, Nat.mul_one]
        omega
      · by_cases h70 : a = 70
        · subst h70
          simp only [List.count_cons, beq_self_eq_true, if_true, show ((70 : UInt8) == 84) = false from rfl, show ((70 : UInt8) == 46) = false from rfl, show ((70 : UInt8) = 84) = False from by simp, show ((70 : UInt8) = 46) = False from by simp, Bool.false_eq_true, if_false, Nat.add_zero, Nat.mul_add, Nat.mul_one]
          omega
        · have e1 : (a == 84) = false := by simpa using h84
          have e2 : (a == 46) = false := by simpa using h46
          have e3 : (a == 70) = false := by simpa using h70
          simp only [List.count_cons, e1, e2, e3, h84, h46, Bool.false_eq_true, if_false, Nat.add_zero]
          omega
theorem count3 : ∀ w : Ln, w.count 84 + w.count 46 + w.count 70 ≤ w.length
  | [] => by simp
  | a :: l => by
    have ih := count3 l
    simp only [List.count_cons, List.length_cons, beq_iff_eq]
    by_cases h84 : a = 84
    · subst h84; simp; omega
    · by_cases h46 : a = 46
      · subst h46; simp; omega
      · simp only [h84, h46, if_false]; split <;> omega
theorem prod_le : ∀ t < 9, ∀ g < 9, ∀ f < 9, t + g + f ≤ 8 → t * g + t * f + g * f ≤ 21 := by decide
theorem inv_few {w : Ln} (hw : w.length ≤ 8) : inv w ≤ 21 := by
  have h1 := count3 w
  have h2 := inv_le w
  have := prod_le (w.count 84) (by omega) (w.count 46) (by omega) (w.count 70) (by omega) (by omega)
  omega
theorem cE_lt {g w : Ln} (hw : w.length ≤ 8) : cE g w < 2 ^ 60 := by
  have h1 := cE_pow g (inv w + 1) w (by omega) hw
  have h2 := Nat.pow_le_pow_right (n := 7) (by omega) (inv_few hw)
  have h3 : (7 : Nat) ^ 21 < 2 ^ 60 := by decide
  omega
end Go.Proofs.YtejhhdpfndiliaaGreatDoor.Ab

/- EXCHANGES by the program: first and last lines, how many plays lead to a line. -/
namespace Go.Proofs.YtejhhdpfndiliaaGreatDoor.Ab
open Go
set_option maxRecDepth 100000
set_option maxHeartbeats 4000000

def lnF (t g f : Nat) : Ln := List.replicate t 84 ++ List.replicate g 46 ++ List.replicate f 70
def lnL (w : Ln) : Ln := List.replicate (w.count 70) 70 ++ List.replicate (w.count 46) 46 ++ List.replicate (w.count 84) 84
theorem repB (b : UInt8) : ∀ n : Nat, Go.Lib.repeatL [b] n = List.replicate n b
  | 0 => rfl
  | n + 1 => by rw [Go.Lib.repeatL, repB b n, List.replicate_succ]; rfl
theorem enc84 : (Utf8.encode (84 : Int)).data.toList = [84] := by decide +kernel
theorem enc70 : (Utf8.encode (70 : Int)).data.toList = [70] := by decide +kernel
def swV (g w : Ln) : AV := .int .i64 (cE g w : Nat)
def Mg (g : Ln) (c : Nat) (h : AH) : Prop := Mh (fun w : Ln => w) (swV g) c h ∧ ∃ es v, h[c]? = some (.map es) ∧ mfind (.str g) es = some (some v)
theorem Mg.lt {g : Ln} {c : Nat} {h : AH} (hm : Mg g c h) : c < h.length := hm.1.lt
theorem Mg.pre {g : Ln} {c : Nat} {h h' : AH} (hm : Mg g c h) (hp : Pre h h') : Mg g c h' := by
  have hl := hm.lt
  obtain ⟨h1, es, v, h2, h3⟩ := hm
  exact ⟨h1.pre hp, es, v, by rw [hp.2 c hl]; exact h2, h3⟩
theorem Mg.prey {g : Ln} {c : Nat} {h h' : AH} (hm : Mg g c h) (he : h'[c]? = h[c]?) : Mg g c h' := by
  obtain ⟨⟨es', g1, g2, g3⟩, es, v, h2, h3⟩ := hm
  exact ⟨⟨es', by rw [he]; exact g1, g2, g3⟩, es, v, by rw [he]; exact h2, h3⟩
theorem Mg.put {g : Ln} {c : Nat} {h : AH} (hm : Mg g c h) (w : Ln) : ∃ es, h[c]? = some (.map es) ∧ (∃ o, mfind (.str w) es = some o) ∧ Mg g c (h.set c (.map (mput (.str w) (swV g w) es))) := by
  obtain ⟨h1, es, v, h2, h3⟩ := hm
  have hk : StrK es := by obtain ⟨es', a, b, _⟩ := h1; rw [h2] at a; cases a; exact b
  obtain ⟨es', a, b, d⟩ := h1.put (fun s s' (e : s = s') => by rw [e]) w
  rw [h2] at a; cases a
  refine ⟨es, h2, b, d, ?_⟩
  have hl := (List.getElem?_eq_some_iff.1 h2).1
  refine ⟨_, if (g == w) then swV g w else v, by rw [List.getElem?_set, if_pos rfl, if_pos hl], ?_⟩
  rw [mfind_mput hk]
  split <;> first | rfl | exact h3
theorem Mg.new {g : Ln} {h : AH} : Mg g h.length (h ++ [.map [(.str g, .int .i64 1)]]) := by
  refine ⟨⟨[(.str g, .int .i64 1)], by simp, ?_, ?_⟩, [(.str g, .int .i64 1)], .int .i64 1, by simp, by simp [mfind, keyEq]⟩
  · intro kv hkv; simp only [List.mem_singleton] at hkv; subst hkv; exact ⟨g, rfl⟩
  · intro s v hv
    simp only [mfind, keyEq] at hv
    by_cases e : s = g
    · subst e
      simp at hv
      subst hv
      unfold swV; rw [cE_self]; rfl
    · have : (s == g) = false := by simpa using e
      rw [this] at hv; simp at hv
end Go.Proofs.YtejhhdpfndiliaaGreatDoor.Ab

/- slices.DeleteFunc on moves, where the function handed on writes into a map. -/
namespace Go.Proofs.YtejhhdpfndiliaaGreatDoor.Ab
open Go
set_option maxRecDepth 100000
set_option maxHeartbeats 4000000

/-- All old rows are as they were, but for the slice's own and the map. -/
def PreY (v : AV) (cm : Nat) (h h' : AH) : Prop := h.length ≤ h'.length ∧ ∀ i, i < h.length → i ≠ cm → rowOf v ≠ some i → h'[i]? = h[i]?
theorem PreY.refl (v : AV) (cm : Nat) (h : AH) : PreY v cm h h := ⟨Nat.le_refl _, fun _ _ _ _ => rfl⟩
theorem PreY.trans {v : AV} {cm : Nat} {a b c : AH} (x : PreY v cm a b) (y : PreY v cm b c) : PreY v cm a c := ⟨Nat.le_trans x.1 y.1, fun i hi h1 h2 => by rw [y.2 i (Nat.lt_of_lt_of_le hi x.1) h1 h2, x.2 i hi h1 h2]⟩
theorem PreX.y {v : AV} {cm : Nat} {h h' : AH} (hp : PreX cm h h') : PreY v cm h h' := ⟨hp.1, fun i hi h1 _ => hp.2 i hi h1⟩
theorem PreV.y {v : AV} {cm : Nat} {h h' : AH} (hp : PreV v h h') : PreY v cm h h' := ⟨hp.1, fun i hi _ h2 => hp.2 i hi fun c kk off n e hv => by subst hv; rintro rfl; exact h2 rfl⟩
theorem OwW.stay {α : Type} {esz : Nat} {enc : α → List AV} {b h h' : AH} {v : AV} {L : List α} (ho : OwW esz enc b h v L) (hr : ∀ r, rowOf v = some r → h'[r]? = h[r]?) : OwW esz enc b h' v L := by
  unfold OwW at ho ⊢
  cases v <;> simp only [rowOf] at ho hr ⊢ <;> first
    | exact ho
    | (obtain ⟨h1, h2, h3, A, Z, fl, h4, h5⟩ := ho
       exact ⟨h1, h2, h3, A, Z, fl, by rw [hr _ rfl]; exact h4, h5⟩)
theorem OwW.row {α : Type} {esz : Nat} {enc : α → List AV} {b h : AH} {c kk off n e : Nat} {L : List α} (ho : OwW esz enc b h (.slice c kk off n e) L) : c < h.length ∧ b.length ≤ c := by
  unfold OwW at ho
  obtain ⟨_, _, h3, A, Z, fl, h4, _⟩ := ho
  exact ⟨(List.getElem?_eq_some_iff.1 h4).1, h3⟩

theorem lp_DeleteFuncM (f : Nat) (cap : List AV) (P : Int × Int → Bool) {c kk off n cm : Nat} (hcm : c ≠ cm) {b h0 : AH} (hc0 : cm < h0.length) (I : AH → Prop) (hIs : ∀ h h', I h → h'[cm]? = h[cm]? → I h') (hn : n < 2 ^ 40) {R : X → Env → AH → Prop} : ∀ (rest Fl mid : List (Int × Int)) (h : AH) (i j : Nat),
    (∀ x ∈ rest, ∀ h', PreY (.slice c kk off n 2) cm h0 h' → I h' → ∀ post : AV → AH → Prop, (∀ h'', PreX cm h' h'' → I h'' → post (.bool (P x)) h'') → S f ([.agg (encM x)] ++ cap) h' post k) →
    PreY (.slice c kk off n 2) cm h0 h → I h → mid ≠ [] → i = Fl.length → j = i + mid.length → OwW 2 encM b h (.slice c kk off n 2) (Fl ++ (mid ++ rest)) →
    (∀ h' mid' i', PreY (.slice c kk off n 2) cm h0 h' → I h' → i' = (Fl ++ rest.filter fun x => !P x).length → OwW 2 encM b h' (.slice c kk off n 2) ((Fl ++ rest.filter fun x => !P x) ++ mid') → R (.exit 0) [(0, .slice c kk off n 2), (5, .int .i64 (i' : Nat))] h') →
    Cx (.loop lp248_0) [(0, .slice c kk off n 2), (1, .fn f cap), (5, .int .i64 (i : Nat)), (6, .int .i64 (j : Nat))] h R k k
  | [], Fl, mid, h, i, j, hI, hp, h1, hm, hi, hj, ho, hR => by
    have hlen : n = (Fl ++ (mid ++ [])).length := by have := ho; unfold OwW at this; exact this.2.1
    have hnot : ¬ ((j : Int) < (n : Int)) := by simp at hlen; omega
    rw [w_loopb (c := lp248_0) (d := lb248_0) rfl]; unfold lb248_0
    simp (maxSteps := 1000000) (disch := first | omega | rfl | (simp only [zL, two63, room] <;> omega) | fail) only [↓reduceIte, ↓zP, zW, WOp, evOp, evBin, binI, binSh, binS, evNil, keyIs, keyEq, mkv, AV.cells, AV.sc, optv, bnd, env, put, Env.get, Env.set, Env.del, Env.dels, Env.init, res1, resL, resV, fillP, splice, newRow, Nat.reduceEqDiff, Nat.reduceLT, Nat.reduceLeDiff, Nat.reduceAdd, Nat.reduceMul, Nat.reduceSub, Nat.reduceBEq, reduceCtorEq, ↓zR, zQ, Tr, StA, StT, hnot]
    exact hR h mid i hp h1 (by simpa using hi) (by simpa using ho)
  | x :: rest, Fl, mid, h, i, j, hI, hp, h1, hm, hi, hj, ho, hR => by
    have ih := lp_DeleteFuncM f cap P hcm (kk := kk) (off := off) (b := b) (h0 := h0) hc0 I hIs hn (R := R) rest
    have hlen : n = (Fl ++ (mid ++ x :: rest)).length := by have := ho; unfold OwW at this; exact this.2.1
    have hlt : (j : Int) < (n : Int) := by simp at hlen; omega
    have hlt2 : (i : Int) < (n : Int) := by simp at hlen; omega
    have ea : Fl ++ (mid ++ x :: rest) = (Fl ++ mid) ++ x :: rest := by simp
    have hs := ho.slc hlM
    rw [ea] at hs
    obtain ⟨c', kk', off', hv, hr⟩ := hs.at hlM
    simp only [AV.slice.injEq] at hv
    obtain ⟨rfl, rfl, rfl, -, -⟩ := hv
    rw [show (Fl ++ mid).length = j by simp; omega] at hr
    obtain ⟨m0, mid, rfl⟩ := List.exists_cons_of_ne_nil hm
    simp only [List.length_cons] at hj
    have w2 : (j : Int) + 1 = ((j + 1 : Nat) : Int) := by omega
    have w1 : (i : Int) + 1 = ((i + 1 : Nat) : Int) := by omega
    have hpush := Pre.push h (AO.row (encM x) 0 0 false)
    have hcl := ho.row.1
    have hcm2 : cm < h.length := Nat.lt_of_lt_of_le hc0 hp.1
    have hic : I (h ++ [AO.row (encM x) 0 0 false]) := hIs _ _ h1 (hpush.2 cm hcm2)
    rw [w_loopb (c := lp248_0) (d := lb248_0) rfl]; unfold lb248_0
    simp (maxSteps := 1000000) (disch := first | omega | rfl | (simp only [zL, two63, room] <;> omega) | fail) only [↓reduceIte, ↓zP, zW, WOp, evOp, evBin, binI, binSh, binS, evNil, keyIs, keyEq, mkv, AV.cells, AV.sc, optv, bnd, env, put, Env.get, Env.set, Env.del, Env.dels, Env.init, res1, resL, resV, fillP, splice, newRow, Nat.reduceEqDiff, Nat.reduceLT, Nat.reduceLeDiff, Nat.reduceAdd, Nat.reduceMul, Nat.reduceSub, Nat.reduceBEq, reduceCtorEq, ↓zR, zQ, Tr, StA, StT, hlt, hr]
    refine hI x (by simp) _ (hp.trans (hpush.x cm).y) hic _ ?_
    intro h2 hp2 h12
    have hp12 := (hpush.x cm).trans hp2
    have ho2 : OwW 2 encM b h2 (.slice c kk off n 2) (Fl ++ (m0 :: mid ++ x :: rest)) := ho.stay fun r hr => by
      simp only [rowOf, Option.some.injEq] at hr
      subst hr
      exact hp12.2 c hcl hcm
    cases e : P x
    · have eb : Fl ++ (m0 :: mid ++ x :: rest) = Fl ++ m0 :: (mid ++ x :: rest) := by simp
      rw [eb] at ho2
      obtain ⟨c', kk', off', h3, hv3, hw3, ho3, hpv3⟩ := ho2.store hlM x 0 (encM x) (by simp [hlM]) (by simp [encM, AV.sc]) (by simp [splice, hlM, encM])
      simp only [AV.slice.injEq] at hv3
      obtain ⟨rfl, rfl, rfl, -, -⟩ := hv3
      rw [← hi, Nat.add_zero] at hw3
      have hbx : rdRow h2 h.length 0 0 2 = some (encM x) := rdRow_prex hp2 (by omega) (by rw [rd_last, if_pos (by simp [encM])]; simp [encM])
      have hI3 : I h3 := hIs _ _ h12 (hpv3.2 cm (Nat.lt_of_lt_of_le hcm2 hp12.1) fun c' kk' off' n' e' hv => by cases hv; exact Ne.symm hcm)
      simp (maxSteps := 1000000) (disch := first | omega | rfl | (simp only [zL, two63, room] <;> omega) | fail) only [↓reduceIte, ↓zP, zW, WOp, evOp, evBin, binI, binSh, binS, evNil, keyIs, keyEq, mkv, AV.cells, AV.sc, optv, bnd, env, put, Env.get, Env.set, Env.del, Env.dels, Env.init, res1, resL, resV, fillP, splice, newRow, Nat.reduceEqDiff, Nat.reduceLT, Nat.reduceLeDiff, Nat.reduceAdd, Nat.reduceMul, Nat.reduceSub, Nat.reduceBEq, reduceCtorEq, ↓zR, zQ, Tr, StA, StT, e, hlt2, hbx, hw3, w1, w2]
      rw [w_loopn (c := lp248_0) rfl]
      simp (maxSteps := 1000000) (disch := first | omega | rfl | (simp only [zL, two63, room] <;> omega) | fail) only [↓reduceIte, ↓zP, zW, WOp, evOp, evBin, binI, binSh, binS, evNil, keyIs, keyEq, mkv, AV.cells, AV.sc, optv, bnd, env, put, Env.get, Env.set, Env.del, Env.dels, Env.init, res1, resL, resV, fillP, splice, newRow, Nat.reduceEqDiff, Nat.reduceLT, Nat.reduceLeDiff, Nat.reduceAdd, Nat.reduceMul, Nat.reduceSub, Nat.reduceBEq, reduceCtorEq, ↓zR, zQ, Tr, StA, StT]
      have hfilt : (x :: rest).filter (fun x => !P x) = x :: rest.filter fun x => !P x := by rw [List.filter_cons, e]; rfl
      rw [hfilt] at hR
      refine ih (Fl ++ [x]) (mid ++ [x]) h3 (i + 1) (j + 1) (fun y hy => hI y (by simp [hy])) ((hp.trans hp12.y).trans hpv3.y) hI3 (by simp) (by simp; omega) (by simp; omega) (by simpa using ho3) ?_
      intro h' mid' i' q1 q2 q3 q4
      exact hR h' mid' i' q1 q2 (by simpa using q3) (by simpa using q4)
    · simp (maxSteps := 1000000) (disch := first | omega | rfl | (simp only [zL, two63, room] <;> omega) | fail) only [↓reduceIte, ↓zP, zW, WOp, evOp, evBin, binI, binSh, binS, evNil, keyIs, keyEq, mkv, AV.cells, AV.sc, optv, bnd, env, put, Env.get, Env.set, Env.del, Env.dels, Env.init, res1, resL, resV, fillP, splice, newRow, Nat.reduceEqDiff, Nat.reduceLT, Nat.reduceLeDiff, Nat.reduceAdd, Nat.reduceMul, Nat.reduceSub, Nat.reduceBEq, reduceCtorEq, ↓zR, zQ, Tr, StA, StT, e, w2]
      rw [w_loopn (c := lp248_0) rfl]
      simp (maxSteps := 1000000) (disch := first | omega | rfl | (simp only [zL, two63, room] <;> omega) | fail) only [↓reduceIte, ↓zP, zW, WOp, evOp, evBin, binI, binSh, binS, evNil, keyIs, keyEq, mkv, AV.cells, AV.sc, optv, bnd, env, put, Env.get, Env.set, Env.del, Env.dels, Env.init, res1, resL, resV, fillP, splice, newRow, Nat.reduceEqDiff, Nat.reduceLT, Nat.reduceLeDiff, Nat.reduceAdd, Nat.reduceMul, Nat.reduceSub, Nat.reduceBEq, reduceCtorEq, ↓zR, zQ, Tr, StA, StT]
      have hfilt : (x :: rest).filter (fun x => !P x) = rest.filter fun x => !P x := by rw [List.filter_cons, e]; rfl
      rw [hfilt] at hR
      exact ih Fl (m0 :: mid ++ [x]) h2 i (j + 1) (fun y hy => hI y (by simp [hy])) (hp.trans hp12.y) h12 (by simp) hi (by simp; omega) (by simpa using ho2) hR

theorem flat_rep2 : ∀ n : Nat, (List.replicate n [AV.int .i64 0, AV.int .i64 0]).flatten = (List.replicate n ((0 : Int), (0 : Int))).flatMap encM
  | 0 => rfl
  | n + 1 => by rw [List.replicate_succ, List.replicate_succ, List.flatten_cons, List.flatMap_cons, flat_rep2 n]
/-- The part behind i laid to zero. -/
theorem OwW.clear {b h : AH} {c kk off n : Nat} {L M : List (Int × Int)} (ho : OwW 2 encM b h (.slice c kk off n 2) (L ++ M)) (hM : M ≠ []) : ∃ h', wrRow h c kk (off + L.length * 2) ((List.replicate M.length ((0 : Int), (0 : Int))).flatMap encM) = some h' ∧ OwW 2 encM b h' (.slice c kk off L.length 2) L ∧ PreV (.slice c kk off n 2) h h' := by
  unfold OwW at ho
  obtain ⟨_, hn, hb, A, Z, fl, h4, h5, h6⟩ := ho
  have hlt := (List.getElem?_eq_some_iff.1 h4).1
  have hpl := flat_len hlM L
  have hml := flat_len hlM M
  have hrl := flat_len hlM (List.replicate M.length ((0 : Int), (0 : Int)))
  rw [List.length_replicate] at hrl
  have hsc : ((List.replicate M.length ((0 : Int), (0 : Int))).flatMap encM).all AV.sc = true := by
    rw [List.all_eq_true]
    intro y hy
    obtain ⟨a, _, ha⟩ := List.mem_flatMap.1 hy
    simp only [encM, List.mem_cons, List.not_mem_nil, or_false] at ha
    rcases ha with rfl | rfl <;> rfl
  have hrow : A ++ (L ++ M).flatMap encM ++ Z = A ++ (L.flatMap encM ++ (M.flatMap encM ++ Z)) := by simp
  rw [hrow] at h4
  refine ⟨h.set c (.row (A ++ (L.flatMap encM ++ ((List.replicate M.length ((0 : Int), (0 : Int))).flatMap encM ++ Z))) kk kk false), ?_, ?_, ?_⟩
  · unfold wrRow
    rw [h4]
    simp only
    rw [if_pos ⟨trivial, h5, by simp only [List.length_append, hpl, hml, hrl, h6]; omega, hsc⟩, splice_all _ _ _ _ _ (by omega) (by omega)]
  · unfold OwW
    refine ⟨rfl, rfl, hb, A, (List.replicate M.length ((0 : Int), (0 : Int))).flatMap encM ++ Z, kk, ?_, Nat.le_refl _, h6⟩
    rw [List.getElem?_set, if_pos rfl, if_pos hlt, List.append_assoc]
  · exact ⟨by simp, fun i _ hc => by rw [List.getElem?_set, if_neg (hc c kk off _ 2 rfl ·.symm)]⟩
theorem OwW.cut {b h : AH} {c kk off n : Nat} {L : List (Int × Int)} (ho : OwW 2 encM b h (.slice c kk off n 2) (L ++ [])) : OwW 2 encM b h (.slice c kk off L.length 2) L := by
  unfold OwW at ho ⊢
  simp only [List.append_nil] at ho
  exact ⟨rfl, rfl, ho.2.2⟩
theorem c_DeleteFuncM (f : Nat) (cap : List AV) (P : Int × Int → Bool) {cm : Nat} {b h : AH} (hc0 : cm < h.length) (I : AH → Prop) (hIs : ∀ h h', I h → h'[cm]? = h[cm]? → I h') {v : AV} {L : List (Int × Int)} (ho : OwW 2 encM b h v L) (hv : ∀ r, rowOf v = some r → r ≠ cm) (hL : L.length < 2 ^ 40) (h1 : I h)
    (hI : ∀ x ∈ L, ∀ h', PreY v cm h h' → I h' → ∀ post : AV → AH → Prop, (∀ h'', PreX cm h' h'' → I h'' → post (.bool (P x)) h'') → S f ([.agg (encM x)] ++ cap) h' post k) {post : AV → AH → Prop}
    (hp : ∀ v' h', OwW 2 encM b h' v' (L.filter fun x => !P x) → PreY v cm h h' → I h' → post v' h') : S 248 [v, .fn f cap] h post k := by
  have stayX : ∀ {h'}, PreX cm h h' → OwW 2 encM b h' v L := fun hp => ho.stay fun r hr => hp.2 r (by
    cases v <;> simp only [rowOf] at hr <;> first
      | (cases hr; done)
      | (cases hr; exact ho.row.1)) (hv r hr)
  refine S_of rfl T248 ?_; unfold fi248
  simp (maxSteps := 1000000) (disch := first | omega | rfl | (simp only [zL, two63, room] <;> omega) | fail) only [↓reduceIte, ↓zP, zW, WOp, evOp, evBin, binI, binSh, binS, evNil, keyIs, keyEq, mkv, AV.cells, AV.sc, optv, bnd, env, put, Env.get, Env.set, Env.del, Env.dels, Env.init, res1, resL, resV, fillP, splice, newRow, Nat.reduceEqDiff, Nat.reduceLT, Nat.reduceLeDiff, Nat.reduceAdd, Nat.reduceMul, Nat.reduceSub, Nat.reduceBEq, reduceCtorEq, ↓zR, zQ, Tr, StA, StT]
  refine c_IndexFuncM f cap P (fun h' => PreX cm h h' ∧ I h') hL (fun h' hh => (stayX hh.1).slc hlM) ?_ ⟨PreX.refl _ _, h1⟩ ?_
  · intro x hx h' hh post hpost
    exact hI x hx h' hh.1.y hh.2 post fun h'' hp'' hi'' => hpost h'' ⟨hh.1.trans hp'', hi''⟩
  intro h2 ⟨hp2, h12⟩
  unfold idxOf
  cases hf : L.findIdx? P with
  | none =>
    have hfl : (L.filter fun x => !P x) = L := by
      rw [List.findIdx?_eq_none_iff] at hf
      rw [List.filter_eq_self]
      intro x hx; simp [hf x hx]
    rw [hfl] at hp
    simp (maxSteps := 1000000) (disch := first | omega | rfl | (simp only [zL, two63, room] <;> omega) | fail) only [↓reduceIte, ↓zP, zW, WOp, evOp, evBin, binI, binSh, binS, evNil, keyIs, keyEq, mkv, AV.cells, AV.sc, optv, bnd, env, put, Env.get, Env.set, Env.del, Env.dels, Env.init, res1, resL, resV, fillP, splice, newRow, Nat.reduceEqDiff, Nat.reduceLT, Nat.reduceLeDiff, Nat.reduceAdd, Nat.reduceMul, Nat.reduceSub, Nat.reduceBEq, reduceCtorEq, ↓zR, zQ, Tr, StA, StT]
    exact hp v h2 (stayX hp2) hp2.y h12
  | some i =>
    obtain ⟨x, rest, hLe, hPx, hfl, hi⟩ := take_slice hf
    rw [hfl] at hp
    have ho2 := stayX hp2
    cases v with
    | slice c kk off n e =>
      obtain ⟨rfl, hn⟩ : e = 2 ∧ n = L.length := by have := ho2; unfold OwW at this; exact ⟨this.1, this.2.1⟩
      have hcm : c ≠ cm := hv c rfl
      have hi1 : (i : Int) + 1 = ((i + 1 : Nat) : Int) := by omega
      have hne : ((i : Int) == -1) = false := by simp
      have hil : (L.take i).length = i := by simp; omega
      have hll : L.length = i + 1 + rest.length := by
        have := congrArg List.length hLe
        simp only [List.length_append, List.length_cons, hil] at this
        omega
      simp (maxSteps := 1000000) (disch := first | omega | rfl | (simp only [zL, two63, room] <;> omega) | fail) only [↓reduceIte, ↓zP, zW, WOp, evOp, evBin, binI, binSh, binS, evNil, keyIs, keyEq, mkv, AV.cells, AV.sc, optv, bnd, env, put, Env.get, Env.set, Env.del, Env.dels, Env.init, res1, resL, resV, fillP, splice, newRow, Nat.reduceEqDiff, Nat.reduceLT, Nat.reduceLeDiff, Nat.reduceAdd, Nat.reduceMul, Nat.reduceSub, Nat.reduceBEq, reduceCtorEq, ↓zR, zQ, Tr, StA, StT, hne, hi1]
      refine lp_DeleteFuncM f cap P hcm (b := b) (h0 := h2) (Nat.lt_of_lt_of_le hc0 hp2.1) I hIs (by omega) rest (L.take i) [x] h2 i (i + 1) ?_ (PreY.refl _ _ _) h12 (by simp) hil.symm (by simp) ?_ ?_
      · intro y hy h' hpy hi' post hpost
        exact hI y (by rw [hLe]; simp [hy]) h' (hp2.y.trans hpy) hi' post hpost
      · rw [show L.take i ++ ([x] ++ rest) = L from hLe.symm]
        exact ho2
      · intro h3 mid i' hp3 h13 hi' ho3
        generalize (L.take i ++ rest.filter fun x => !P x) = M at *
        have hlen : n = (M ++ mid).length := by have := ho3; unfold OwW at this; exact this.2.1
        rw [List.length_append] at hlen
        have hle : (i' : Int) ≤ (n : Int) := by omega
        have hle' : M.length ≤ n := by omega
        have hsub : n - i' = mid.length := by omega
        have hq3 := hp2.y.trans hp3
        subst hi'
        by_cases hz : mid = []
        · subst hz
          have hz' : n - M.length = 0 := by simpa using hsub
          simp (maxSteps := 1000000) (disch := first | omega | rfl | (simp only [zL, two63, room] <;> omega) | fail) only [↓reduceIte, ↓zP, zW, WOp, evOp, evBin, binI, binSh, binS, evNil, keyIs, keyEq, mkv, AV.cells, AV.sc, optv, bnd, env, put, Env.get, Env.set, Env.del, Env.dels, Env.init, res1, resL, resV, fillP, splice, newRow, Nat.reduceEqDiff, Nat.reduceLT, Nat.reduceLeDiff, Nat.reduceAdd, Nat.reduceMul, Nat.reduceSub, Nat.reduceBEq, reduceCtorEq, ↓zR, zQ, Tr, StA, StT, hz']
          have := hp _ h3 ho3.cut hq3 h13
          simpa using this
        · have hz' : n - M.length ≠ 0 := by rw [hsub]; intro h0; exact hz (List.eq_nil_of_length_eq_zero h0)
          obtain ⟨h4, hw4, ho4, hp4⟩ := ho3.clear hz
          have hI4 : I h4 := hIs _ _ h13 (hp4.2 cm (Nat.lt_of_lt_of_le hc0 hq3.1) fun c' kk' off' n' e' hv => by cases hv; exact Ne.symm hcm)
          rw [← hsub, ← flat_rep2] at hw4
          have hrep := flat_rep2 (n - M.length)
          simp (maxSteps := 1000000) (disch := first | omega | rfl | (simp only [zL, two63, room] <;> omega) | fail) only [↓reduceIte, ↓zP, zW, WOp, evOp, evBin, binI, binSh, binS, evNil, keyIs, keyEq, mkv, AV.cells, AV.sc, optv, bnd, env, put, Env.get, Env.set, Env.del, Env.dels, Env.init, res1, resL, resV, fillP, splice, newRow, Nat.reduceEqDiff, Nat.reduceLT, Nat.reduceLeDiff, Nat.reduceAdd, Nat.reduceMul, Nat.reduceSub, Nat.reduceBEq, reduceCtorEq, ↓zR, zQ, Tr, StA, StT, hz', hw4]
          have := hp _ h4 ho4 (hq3.trans hp4.y) hI4
          simpa using this
    | nilS => unfold OwW at ho2; rw [ho2] at hi; simp at hi
    | empS => unfold OwW at ho2; rw [ho2] at hi; simp at hi
    | _ => unfold OwW at ho2; exact ho2.elim
end Go.Proofs.YtejhhdpfndiliaaGreatDoor.Ab

/- THE WAY that all have to go, the pairs, the moves from the other side: what moves make of them. -/
namespace Go.Proofs.YtejhhdpfndiliaaGreatDoor.Ab
open Go

def inw (f : UInt8 → UInt8 → Nat) : List UInt8 → Nat
  | [] => 0
  | a :: l => (l.map (f a)).sum + inw f l
def crossB (f : UInt8 → UInt8 → Nat) (A B : List UInt8) : Nat := (A.map fun a => (B.map (f a)).sum).sum
theorem inv_append (f : UInt8 → UInt8 → Nat) : ∀ A B : List UInt8, inw f (A ++ B) = inw f A + inw f B + crossB f A B
  | [], B => by simp [inw, crossB]
  | a :: A, B => by
    simp only [List.cons_append, inw, inv_append f A B, List.map_append, List.sum_append, crossB, List.map_cons, List.sum_cons]
    omega
theorem inv_mid (f : UInt8 → UInt8 → Nat) (A B X X' : List UInt8) (hX : ∀ g : UInt8 → Nat, (X'.map g).sum = (X.map g).sum) : inw f (A ++ (X' ++ B)) + inw f X = inw f (A ++ (X ++ B)) + inw f X' := by
  have h1 : crossB f X' B = crossB f X B := hX _
  have h2 : crossB f A (X' ++ B) = crossB f A (X ++ B) := by
    unfold crossB
    congr 1
    refine List.map_congr_left fun a _ => ?_
    rw [List.map_append, List.map_append, List.sum_append, List.sum_append, hX]
  simp only [inv_append, h1, h2]
  omega
theorem inv_rev (f : UInt8 → UInt8 → Nat) : ∀ l : List UInt8, inw f l.reverse = inw (fun a b => f b a) l
  | [] => rfl
  | a :: l => by
    rw [List.reverse_cons, inv_append, inv_rev f l]
    have : crossB f l.reverse [a] = (l.map fun b => f b a).sum := by
      simp [crossB, List.map_reverse, List.sum_reverse]
    rw [this]
    simp only [inw, List.map_nil, List.sum_nil]
    omega
theorem inv_map (f : UInt8 → UInt8 → Nat) (g : UInt8 → UInt8) : ∀ l : List UInt8, inw f (l.map g) = inw (fun a b => f (g a) (g b)) l
  | [] => rfl
  | a :: l => by
    simp only [List.map_cons, inw, inv_map f g l, List.map_map]
    rfl
theorem inv_zero {f : UInt8 → UInt8 → Nat} : ∀ {l : List UInt8}, l.Pairwise (fun a b => f a b = 0) → inw f l = 0
  | [], _ => rfl
  | a :: l, h => by
    rw [List.pairwise_cons] at h
    have : (l.map (f a)).sum = 0 := by
      have : l.map (f a) = l.map fun _ => 0 := List.map_congr_left fun b hb => h.1 b hb
      rw [this]
      clear this h
      induction l with
      | nil => rfl
      | cons b l ih => simpa using ih
    simp only [inw, this, inv_zero h.2]

def vW (a b : UInt8) : Nat := if a = 84 then (if b = 70 then 2 else if b = 46 then 1 else 0) else if a = 46 then (if b = 70 then 1 else 0) else 0
def vP (a b : UInt8) : Nat := if a = 84 then (if b = 70 then 1 else 0) else 0
def wayN (w : List UInt8) : Nat := inw vW w

theorem sumW84 : ∀ l : List UInt8, (l.map (vW 84)).sum = 2 * l.count 70 + l.count 46
  | [] => rfl
  | b :: l => by
    rw [List.map_cons, List.sum_cons, sumW84 l]
    by_cases h1 : b = 70
    · subst h1; simp [vW, List.count_cons]; omega
    · by_cases h2 : b = 46
      · subst h2; simp [vW, List.count_cons]; omega
      · simp [vW, List.count_cons, h1, h2]
theorem sumW46 : ∀ l : List UInt8, (l.map (vW 46)).sum = l.count 70
  | [] => rfl
  | b :: l => by
    rw [List.map_cons, List.sum_cons, sumW46 l]
    by_cases h1 : b = 70
    · subst h1; simp [vW, List.count_cons]; omega
    · simp [vW, List.count_cons, h1]
theorem sum_z {α : Type} : ∀ l : List α, (l.map fun _ => 0).sum = 0
  | [] => rfl
  | _ :: l => by simpa using sum_z l
theorem sumW70 (l : List UInt8) : (l.map (vW 70)).sum = 0 := by
  have : l.map (vW 70) = l.map fun _ => 0 := List.map_congr_left fun b _ => rfl
  rw [this, sum_z]
theorem sumP84 : ∀ l : List UInt8, (l.map (vP 84)).sum = l.count 70
  | [] => rfl
  | b :: l => by
    rw [List.map_cons, List.sum_cons, sumP84 l]
    by_cases h1 : b = 70
    · subst h1; simp [vP, List.count_cons]; omega
    · simp [vP, List.count_cons, h1]
theorem sumPx {a : UInt8} (ha : a ≠ 84) (l : List UInt8) : (l.map (vP a)).sum = 0 := by
  have : l.map (vP a) = l.map fun _ => 0 := List.map_congr_left fun b _ => by simp [vP, ha]
  rw [this, sum_z]
theorem sign3 {b : UInt8} (h : isSign b = true) : b = 84 ∨ b = 46 ∨ b = 70 := by
  unfold isSign at h
  simp only [Bool.or_eq_true, beq_iff_eq] at h
  rcases h with (h | h) | h
  · exact .inl h
  · exact .inr (.inr h)
  · exact .inr (.inl h)
theorem signs_cons {b : UInt8} {l : List UInt8} : signs (b :: l) ↔ isSign b = true ∧ signs l := by
  unfold signs; rw [List.all_cons, Bool.and_eq_true]
theorem cnt3 : ∀ {l : List UInt8}, signs l → l.length = l.count 84 + l.count 46 + l.count 70
  | [], _ => rfl
  | b :: l, h => by
    rw [signs_cons] at h
    have := cnt3 h.2
    rcases sign3 h.1 with rfl | rfl | rfl <;> simp [List.count_cons] <;> omega

/-! ### Pairs -/
theorem pairsL_inv : ∀ (l : List UInt8) (t s : Nat), pairsL l t s = s + t * l.count 70 + inw vP l
  | [], t, s => by simp [pairsL, inw]
  | b :: l, t, s => by
    simp only [pairsL, inw]
    by_cases h1 : b = 84
    · subst h1
      simp only [beq_self_eq_true, if_true, pairsL_inv l, sumP84]
      have : (84 :: l : List UInt8).count 70 = l.count 70 := by simp [List.count_cons]
      rw [this, Nat.succ_mul]; omega
    · have e1 : (b == 84) = false := by simpa using h1
      by_cases h2 : b = 70
      · subst h2
        have : (70 :: l : List UInt8).count 70 = l.count 70 + 1 := by simp [List.count_cons]
        simp only [e1, beq_self_eq_true, if_true, Bool.false_eq_true, if_false, pairsL_inv l, sumPx h1, this, Nat.mul_succ]
        omega
      · have e2 : (b == 70) = false := by simpa using h2
        have : (b :: l : List UInt8).count 70 = l.count 70 := by simp [List.count_cons, h2]
        simp only [e1, e2, Bool.false_eq_true, if_false, pairsL_inv l, sumPx h1, this]
        omega
theorem pairsB_inv (w : List UInt8) : pairsB w = inw vP w := by
  unfold pairsB; rw [pairsL_inv]; omega

/-! ### Moves -/
theorem set2 (A B : List UInt8) (x y v u : UInt8) : ((A ++ ([x, y] ++ B)).set (A.length + 1) v).set A.length u = A ++ ([u, v] ++ B) := by
  simp [List.set_append]
theorem set2' (A B : List UInt8) (x y v u : UInt8) : ((A ++ ([x, y] ++ B)).set A.length v).set (A.length + 1) u = A ++ ([v, u] ++ B) := by
  simp [List.set_append]
theorem set3 (A B : List UInt8) (x y z v u : UInt8) : ((A ++ ([x, y, z] ++ B)).set (A.length + 2) v).set A.length u = A ++ ([u, y, v] ++ B) := by
  simp [List.set_append]
theorem set3' (A B : List UInt8) (x y z v u : UInt8) : ((A ++ ([x, y, z] ++ B)).set A.length v).set (A.length + 2) u = A ++ ([v, y, u] ++ B) := by
  simp [List.set_append]
theorem splitW2 {w : List UInt8} {i : Nat} (h : i + 1 < w.length) : w = w.take i ++ ([w.getD i 0, w.getD (i + 1) 0] ++ w.drop (i + 2)) := by
  have e1 : w.getD i 0 = w[i] := by simp [List.getD_eq_getElem?_getD, show i < w.length by omega]
  have e2 : w.getD (i + 1) 0 = w[i + 1] := by simp [List.getD_eq_getElem?_getD, h]
  rw [e1, e2]
  simp
theorem splitW3 {w : List UInt8} {i : Nat} (h : i + 2 < w.length) : w = w.take i ++ ([w.getD i 0, w.getD (i + 1) 0, w.getD (i + 2) 0] ++ w.drop (i + 3)) := by
  have e1 : w.getD i 0 = w[i] := by simp [List.getD_eq_getElem?_getD, show i < w.length by omega]
  have e2 : w.getD (i + 1) 0 = w[i + 1] := by simp [List.getD_eq_getElem?_getD, show i + 1 < w.length by omega]
  have e3 : w.getD (i + 2) 0 = w[i + 2] := by simp [List.getD_eq_getElem?_getD, h]
  rw [e1, e2, e3]
  simp
/-- How a move turns a line. -/
theorem mv_parts {w : List UInt8} {i t : Nat} (h : Mv w i t) : ∃ A X X' B, w = A ++ (X ++ B) ∧ madeB w i t = A ++ (X' ++ B) ∧
    ((t = i + 1 ∧ X = [84, 46] ∧ X' = [46, 84]) ∨ (t = i + 2 ∧ X = [84, 70, 46] ∧ X' = [46, 70, 84]) ∨ (t + 1 = i ∧ X = [46, 70] ∧ X' = [70, 46]) ∨ (t + 2 = i ∧ X = [46, 84, 70] ∧ X' = [70, 84, 46])) := by
  obtain ⟨hi, ht, h46, h⟩ := h
  unfold madeB
  rcases h with ⟨ha, rfl | ⟨rfl, hb⟩⟩ | ⟨ha, rfl | ⟨rfl, hb⟩⟩
  · have hs := splitW2 ht
    have hA : (w.take i).length = i := by simp; omega
    rw [ha, h46] at hs
    refine ⟨w.take i, _, _, _, hs, ?_, .inl ⟨rfl, rfl, rfl⟩⟩
    have := set2 (w.take i) (w.drop (i + 2)) 84 46 84 46
    rw [hA, ← hs] at this
    rw [ha]; exact this
  · have hs := splitW3 ht
    have hA : (w.take i).length = i := by simp; omega
    rw [ha, hb, h46] at hs
    refine ⟨w.take i, _, _, _, hs, ?_, .inr (.inl ⟨rfl, rfl, rfl⟩)⟩
    have := set3 (w.take i) (w.drop (i + 3)) 84 70 46 84 46
    rw [hA, ← hs] at this
    rw [ha]; exact this
  · have hs := splitW2 hi
    have hA : (w.take t).length = t := by simp; omega
    rw [ha, h46] at hs
    refine ⟨w.take t, _, _, _, hs, ?_, .inr (.inr (.inl ⟨rfl, rfl, rfl⟩))⟩
    have := set2' (w.take t) (w.drop (t + 2)) 46 70 70 46
    rw [hA, ← hs] at this
    rw [ha]; exact this
  · have hs := splitW3 hi
    have hA : (w.take t).length = t := by simp; omega
    have hb' : w.getD (t + 1) 0 = 84 := hb
    rw [ha, hb', h46] at hs
    refine ⟨w.take t, _, _, _, hs, ?_, .inr (.inr (.inr ⟨rfl, rfl, rfl⟩))⟩
    have := set3' (w.take t) (w.drop (t + 3)) 46 84 70 70 46
    rw [hA, ← hs] at this
    rw [ha]; exact this
def isJ (i t : Nat) : Bool := decide (t = i + 2 ∨ t + 2 = i)
theorem made_way {w : List UInt8} {i t : Nat} (h : Mv w i t) : wayN (madeB w i t) + (if isJ i t then 2 else 1) = wayN w ∧ pairsB (madeB w i t) + (if isJ i t then 1 else 0) = pairsB w := by
  rw [pairsB_inv, pairsB_inv]
  unfold wayN
  obtain ⟨A, X, X', B, hw, hm, hc⟩ := mv_parts h
  rw [hm]
  have hX : ∀ g : UInt8 → Nat, (X'.map g).sum = (X.map g).sum := by
    intro g
    rcases hc with ⟨_, rfl, rfl⟩ | ⟨_, rfl, rfl⟩ | ⟨_, rfl, rfl⟩ | ⟨_, rfl, rfl⟩ <;> simp <;> omega
  have h1 := inv_mid vW A B X X' hX
  have h2 := inv_mid vP A B X X' hX
  rw [← hw] at h1 h2
  rcases hc with ⟨rfl, rfl, rfl⟩ | ⟨rfl, rfl, rfl⟩ | ⟨rfl, rfl, rfl⟩ | ⟨rfl, rfl, rfl⟩
  · have hj : isJ i (i + 1) = false := by simp [isJ]; omega
    have a1 : inw vW [84, 46] = 1 := by decide
    have a2 : inw vW [46, 84] = 0 := by decide
    have a3 : inw vP [84, 46] = 0 := by decide
    have a4 : inw vP [46, 84] = 0 := by decide
    simp only [hj, Bool.false_eq_true, if_false]; omega
  · have hj : isJ i (i + 2) = true := by simp [isJ]
    have a1 : inw vW [84, 70, 46] = 3 := by decide
    have a2 : inw vW [46, 70, 84] = 1 := by decide
    have a3 : inw vP [84, 70, 46] = 1 := by decide
    have a4 : inw vP [46, 70, 84] = 0 := by decide
    simp only [hj, if_true]; omega
  · have hj : isJ (t + 1) t = false := by simp [isJ]; omega
    have a1 : inw vW [46, 70] = 1 := by decide
    have a2 : inw vW [70, 46] = 0 := by decide
    have a3 : inw vP [46, 70] = 0 := by decide
    have a4 : inw vP [70, 46] = 0 := by decide
    simp only [hj, Bool.false_eq_true, if_false]; omega
  · have hj : isJ (t + 2) t = true := by simp [isJ]
    have a1 : inw vW [46, 84, 70] = 3 := by decide
    have a2 : inw vW [70, 84, 46] = 1 := by decide
    have a3 : inw vP [46, 84, 70] = 1 := by decide
    have a4 : inw vP [70, 84, 46] = 0 := by decide
    simp only [hj, if_true]; omega

/-! ### The way, as both sides count it -/
def wayL : List UInt8 → Int → Int → Int → Int → Int
  | [], _, _, _, s => s
  | b :: l, t, f, i, s => if b == 84 then wayL l (t + 1) f (i + 1) (s + (t - i)) else if b == 70 then wayL l t (f + 1) (i + 1) (s + (i - f)) else wayL l t f (i + 1) s
theorem wayL_inv : ∀ (l : List UInt8) (d i f : Nat) (t s : Int), signs l → (i : Int) - f = d → t = i + (l.count 46 + l.count 70 : Nat) → wayL l t f i s = s + (d * l.count 70 + inw vW l : Nat)
  | [], d, i, f, t, s, _, _, _ => by simp [wayL, inw]
  | b :: l, d, i, f, t, s, hg, hd, ht => by
    rw [signs_cons] at hg
    rcases sign3 hg.1 with rfl | rfl | rfl
    · have c1 : (84 :: l : List UInt8).count 46 = l.count 46 := by simp [List.count_cons]
      have c2 : (84 :: l : List UInt8).count 70 = l.count 70 := by simp [List.count_cons]
      rw [c1, c2] at ht
      have := wayL_inv l (d + 1) (i + 1) f (t + 1) (s + (t - i)) hg.2 (by omega) (by omega)
      simp only [wayL, beq_self_eq_true, if_true, inw, sumW84, c2]
      rw [show ((i : Int) + 1) = ((i + 1 : Nat) : Int) by omega, this, Nat.succ_mul]
      omega
    · have c1 : (46 :: l : List UInt8).count 46 = l.count 46 + 1 := by simp [List.count_cons]
      have c2 : (46 :: l : List UInt8).count 70 = l.count 70 := by simp [List.count_cons]
      rw [c1, c2] at ht
      have := wayL_inv l (d + 1) (i + 1) f t s hg.2 (by omega) (by omega)
      have e1 : ((46 : UInt8) == 84) = false := rfl
      have e2 : ((46 : UInt8) == 70) = false := rfl
      simp only [wayL, e1, e2, Bool.false_eq_true, if_false, inw, sumW46, c2]
      rw [show ((i : Int) + 1) = ((i + 1 : Nat) : Int) by omega, this, Nat.succ_mul]
      omega
    · have c1 : (70 :: l : List UInt8).count 46 = l.count 46 := by simp [List.count_cons]
      have c2 : (70 :: l : List UInt8).count 70 = l.count 70 + 1 := by simp [List.count_cons]
      rw [c1, c2] at ht
      have := wayL_inv l d (i + 1) (f + 1) t (s + (i - f)) hg.2 (by omega) (by omega)
      have e1 : ((70 : UInt8) == 84) = false := rfl
      simp only [wayL, e1, beq_self_eq_true, Bool.false_eq_true, if_false, if_true, inw, sumW70, c2]
      rw [show ((i : Int) + 1) = ((i + 1 : Nat) : Int) by omega, show ((f : Int) + 1) = ((f + 1 : Nat) : Int) by omega, this, Nat.mul_succ]
      omega
theorem wayL_N {w : List UInt8} (hg : signs w) : wayL w ((w.length : Int) - (w.count 84 : Nat)) 0 0 0 = (wayN w : Nat) := by
  have := wayL_inv w 0 0 0 ((w.length : Int) - (w.count 84 : Nat)) 0 hg (by omega) (by have := cnt3 hg; omega)
  simpa [wayN] using this
def psB (b : UInt8) : Nat → List UInt8 → Nat
  | _, [] => 0
  | k, x :: l => (if x = b then k else 0) + psB b (k + 1) l
def tri : Nat → Nat
  | 0 => 0
  | m + 1 => tri m + m
theorem ps_way : ∀ (w : List UInt8) (k : Nat), signs w → psB 70 k w + w.count 84 * (k + w.count 46 + w.count 70) + tri (w.count 84) = psB 84 k w + w.count 70 * k + tri (w.count 70) + inw vW w
  | [], k, _ => by simp [psB, tri, inw]
  | b :: l, k, hg => by
    rw [signs_cons] at hg
    have ih := ps_way l (k + 1) hg.2
    generalize hT : l.count 84 = T at ih
    generalize hG : l.count 46 = G at ih
    generalize hF : l.count 70 = FF at ih
    have m1 : T * (k + 1 + G + FF) = T * (k + G + FF) + T := by rw [show k + 1 + G + FF = k + G + FF + 1 by omega, Nat.mul_succ]
    have m2 : FF * (k + 1) = FF * k + FF := Nat.mul_succ _ _
    rw [m1, m2] at ih
    rcases sign3 hg.1 with rfl | rfl | rfl
    · have c1 : (84 :: l : List UInt8).count 84 = T + 1 := by simp [List.count_cons, hT]
      have c2 : (84 :: l : List UInt8).count 46 = G := by simp [List.count_cons, hG]
      have c3 : (84 :: l : List UInt8).count 70 = FF := by simp [List.count_cons, hF]
      have p1 : psB 70 k (84 :: l) = psB 70 (k + 1) l := by simp [psB]
      have p2 : psB 84 k (84 :: l) = k + psB 84 (k + 1) l := by simp [psB]
      rw [c1, c2, c3, p1, p2, Nat.succ_mul]
      simp only [tri, inw, sumW84, hF, hG]
      omega
    · have c1 : (46 :: l : List UInt8).count 84 = T := by simp [List.count_cons, hT]
      have c2 : (46 :: l : List UInt8).count 46 = G + 1 := by simp [List.count_cons, hG]
      have c3 : (46 :: l : List UInt8).count 70 = FF := by simp [List.count_cons, hF]
      have p1 : psB 70 k (46 :: l) = psB 70 (k + 1) l := by simp [psB]
      have p2 : psB 84 k (46 :: l) = psB 84 (k + 1) l := by simp [psB]
      rw [c1, c2, c3, p1, p2, show k + (G + 1) + FF = k + G + FF + 1 by omega, Nat.mul_succ]
      simp only [inw, sumW46, hF]
      omega
    · have c1 : (70 :: l : List UInt8).count 84 = T := by simp [List.count_cons, hT]
      have c2 : (70 :: l : List UInt8).count 46 = G := by simp [List.count_cons, hG]
      have c3 : (70 :: l : List UInt8).count 70 = FF + 1 := by simp [List.count_cons, hF]
      have p1 : psB 70 k (70 :: l) = k + psB 70 (k + 1) l := by simp [psB]
      have p2 : psB 84 k (70 :: l) = psB 84 (k + 1) l := by simp [psB]
      rw [c1, c2, c3, p1, p2, show k + G + (FF + 1) = k + G + FF + 1 by omega, Nat.mul_succ, Nat.succ_mul]
      simp only [tri, inw, sumW70]
      omega
def lastB (w : List UInt8) : List UInt8 := List.replicate (w.count 70) 70 ++ List.replicate (w.count 46) 46 ++ List.replicate (w.count 84) 84
theorem lastB_count (w : List UInt8) : (lastB w).count 84 = w.count 84 ∧ (lastB w).count 46 = w.count 46 ∧ (lastB w).count 70 = w.count 70 := by
  simp [lastB, List.count_append, List.count_replicate]
theorem lastB_signs (w : List UInt8) : signs (lastB w) := by
  unfold signs
  rw [List.all_eq_true]
  intro x hx
  simp only [lastB, List.mem_append, List.mem_replicate] at hx
  rcases hx with (⟨_, rfl⟩ | ⟨_, rfl⟩) | ⟨_, rfl⟩ <;> rfl
theorem lastB_len {w : List UInt8} (hg : signs w) : (lastB w).length = w.length := by
  have := cnt3 hg
  simp [lastB]; omega
theorem lastB_way (w : List UInt8) : wayN (lastB w) = 0 := by
  refine inv_zero ?_
  unfold lastB
  rw [List.pairwise_append, List.pairwise_append]
  refine ⟨⟨?_, ?_, ?_⟩, ?_, ?_⟩
  · rw [List.pairwise_replicate]; exact .inr rfl
  · rw [List.pairwise_replicate]; exact .inr rfl
  · intro a ha b hb
    rw [List.eq_of_mem_replicate ha, List.eq_of_mem_replicate hb]; rfl
  · rw [List.pairwise_replicate]; exact .inr rfl
  · intro a ha b hb
    rw [List.eq_of_mem_replicate hb]
    rw [List.mem_append] at ha
    rcases ha with ha | ha <;> rw [List.eq_of_mem_replicate ha] <;> rfl
theorem way_ps {w : List UInt8} (hg : signs w) : ((psB 84 0 (lastB w) : Nat) : Int) - (psB 84 0 w : Nat) + (psB 70 0 w : Nat) - (psB 70 0 (lastB w) : Nat) = (wayN w : Nat) := by
  have h1 := ps_way w 0 hg
  have h2 := ps_way (lastB w) 0 (lastB_signs w)
  obtain ⟨k1, k2, k3⟩ := lastB_count w
  have h3 := lastB_way w
  unfold wayN at h3 ⊢
  rw [k1, k2, k3, h3] at h2
  omega
theorem way_other (w : List UInt8) : wayN (otherL w) = wayN w := by
  unfold wayN otherL
  rw [inv_rev, inv_map]
  congr 1
  funext a b
  unfold vW otherB
  by_cases a1 : a = 84
  · subst a1
    by_cases b1 : b = 84
    · subst b1; rfl
    · by_cases b2 : b = 70
      · subst b2; rfl
      · by_cases b3 : b = 46
        · subst b3; rfl
        · simp [b1, b2, b3]
  · by_cases a2 : a = 70
    · subst a2
      by_cases b1 : b = 84
      · subst b1; rfl
      · by_cases b2 : b = 70
        · subst b2; rfl
        · by_cases b3 : b = 46
          · subst b3; rfl
          · simp [b1, b2, b3]
    · by_cases a3 : a = 46
      · subst a3
        by_cases b1 : b = 84
        · subst b1; rfl
        · by_cases b2 : b = 70
          · subst b2; rfl
          · simp [b1, b2]
      · simp [a1, a2, a3]
end Go.Proofs.YtejhhdpfndiliaaGreatDoor.Ab

/- MOVES as lists: which are in them, in which order, those from the other side. -/
namespace Go.Proofs.YtejhhdpfndiliaaGreatDoor.Ab
open Go

theorem mem_moves {w kd : List UInt8} {i t : Nat} : (((i : Int), (t : Int)) ∈ movesB w kd) ↔ Mv w i t ∧ hasB kd (w.getD i 0) = true := by
  simp only [movesB, List.mem_flatMap, List.mem_range]
  constructor
  · rintro ⟨j, hj, hm⟩
    unfold moveB at hm
    split at hm
    · rename_i t1 hg
      split at hm
      · rename_i hk
        simp only [List.mem_singleton, Prod.mk.injEq] at hm
        obtain ⟨e1, e2⟩ := hm
        have : i = j := by omega
        subst this
        obtain ⟨t', e3, hm⟩ := goalB_mv hj hg
        have : t = t' := by omega
        subst this
        exact ⟨hm, hk⟩
      · simp at hm
    · simp at hm
  · rintro ⟨hm, hk⟩
    refine ⟨i, hm.1, ?_⟩
    unfold moveB
    rw [mv_goalB hm]
    simp only [hk, if_true, List.mem_singleton]
theorem moves_sorted (w kd : List UInt8) : (movesB w kd).Pairwise fun a b => a.1 < b.1 := by
  unfold movesB
  rw [List.pairwise_flatMap]
  have hm : ∀ i, ∀ x ∈ moveB w kd i, x.1 = (i : Int) := by
    intro i x hx
    unfold moveB at hx
    split at hx
    · split at hx
      · simp only [List.mem_singleton] at hx; subst hx; rfl
      · simp at hx
    · simp at hx
  refine ⟨?_, ?_⟩
  · intro i _
    unfold moveB
    split
    · split <;> simp
    · simp
  · refine List.Pairwise.imp ?_ (List.pairwise_lt_range)
    intro a b hab x hx y hy
    rw [hm a x hx, hm b y hy]
    omega
theorem sum_add {α : Type} {f g p : α → Nat} : ∀ {l : List α}, (∀ x ∈ l, p x = f x + g x) → (l.map p).sum = (l.map f).sum + (l.map g).sum
  | [], _ => rfl
  | a :: l, h => by
    have := sum_add (l := l) (fun x hx => h x (by simp [hx]))
    simp only [List.map_cons, List.sum_cons, this, h a (by simp)]
    omega
theorem moves_len (w kd : List UInt8) : (movesB w kd).length = ((List.range w.length).map fun i => (moveB w kd i).length).sum := by
  unfold movesB; rw [List.length_flatMap]
theorem goal_sign {w : List UInt8} {i : Nat} {t : Int} (hg : goalB w i = some t) : w.getD i 0 = 84 ∨ w.getD i 0 = 70 := by
  by_cases hi : i < w.length
  · obtain ⟨t', _, hm⟩ := goalB_mv hi hg
    rcases hm.2.2.2 with h | h
    · exact .inl h.1
    · exact .inr h.1
  · have : w.getD i 0 = 0 := by simp [List.getD_eq_getElem?_getD, List.getElem?_eq_none (show w.length ≤ i by omega)]
    unfold goalB at hg
    rw [this] at hg
    simp [stepB] at hg
theorem moveB_count (w : List UInt8) (i : Nat) : (moveB w [84, 70] i).length = (moveB w [84] i).length + (moveB w [70] i).length := by
  unfold moveB
  cases hg : goalB w i with
  | none => rfl
  | some t =>
    rcases goal_sign hg with h | h <;> rw [h] <;> rfl
theorem moves_split (w : List UInt8) : (movesB w [84, 70]).length = (movesB w [84]).length + (movesB w [70]).length := by
  rw [moves_len, moves_len, moves_len]
  exact sum_add fun i _ => moveB_count w i

/-! ### From the other side -/
theorem otherB_two (b : UInt8) : otherB (otherB b) = b := by
  unfold otherB
  by_cases h1 : b = 84
  · subst h1; rfl
  · by_cases h2 : b = 70
    · subst h2; rfl
    · simp [h1, h2]
theorem other_two (w : List UInt8) : otherL (otherL w) = w := by
  unfold otherL
  rw [List.map_reverse, List.reverse_reverse, List.map_map]
  have : (otherB ∘ otherB) = id := by funext b; exact otherB_two b
  rw [this, List.map_id]
theorem other_get {w : List UInt8} {j : Nat} (hj : j < w.length) : (otherL w).getD (w.length - 1 - j) 0 = otherB (w.getD j 0) := by
  have h1 : w.length - 1 - j < (otherL w).length := by rw [otherL_len]; omega
  have e1 : (otherL w).getD (w.length - 1 - j) 0 = (otherL w)[w.length - 1 - j] := by simp [List.getD_eq_getElem?_getD, h1]
  have e2 : w.getD j 0 = w[j] := by simp [List.getD_eq_getElem?_getD, hj]
  rw [e1, e2]
  simp only [otherL, List.getElem_reverse, List.length_map, List.getElem_map]
  congr 2
  omega
theorem mv_other {w : List UInt8} {i t : Nat} (h : Mv w i t) : Mv (otherL w) (w.length - 1 - i) (w.length - 1 - t) := by
  obtain ⟨hi, ht, h46, h⟩ := h
  refine ⟨by rw [otherL_len]; omega, by rw [otherL_len]; omega, by rw [other_get ht, h46]; rfl, ?_⟩
  rcases h with ⟨ha, h⟩ | ⟨ha, h⟩
  · right
    refine ⟨by rw [other_get hi, ha]; rfl, ?_⟩
    rcases h with rfl | ⟨rfl, hb⟩
    · left; omega
    · right
      refine ⟨by omega, ?_⟩
      rw [show w.length - 1 - i - 1 = w.length - 1 - (i + 1) by omega, other_get (by omega), hb]; rfl
  · left
    refine ⟨by rw [other_get hi, ha]; rfl, ?_⟩
    rcases h with h | ⟨h, hb⟩
    · left; omega
    · right
      refine ⟨by omega, ?_⟩
      rw [show w.length - 1 - i + 1 = w.length - 1 - (i - 1) by omega, other_get (by omega), hb]; rfl
theorem moveB_iff (w : List UInt8) {i : Nat} (hi : i < w.length) : (moveB w [84, 70] i).length = 1 ↔ ∃ t, Mv w i t := by
  unfold moveB
  cases hg : goalB w i with
  | none =>
    simp only [List.length_nil]
    constructor
    · intro h; omega
    · rintro ⟨t, h⟩
      rw [mv_goalB h] at hg; cases hg
  | some t =>
    have hk : hasB [84, 70] (w.getD i 0) = true := by rcases goal_sign hg with h | h <;> rw [h] <;> rfl
    simp only [hk, if_true, List.length_singleton, true_iff]
    obtain ⟨t', _, hm⟩ := goalB_mv hi hg
    exact ⟨t', hm⟩
theorem moveB_other {w : List UInt8} {i : Nat} (hi : i < w.length) : (moveB (otherL w) [84, 70] (w.length - 1 - i)).length = (moveB w [84, 70] i).length := by
  have h1 := moveB_iff w hi
  have h2 := moveB_iff (otherL w) (i := w.length - 1 - i) (by rw [otherL_len]; omega)
  have l1 := moveB_len w [84, 70] i
  have l2 := moveB_len (otherL w) [84, 70] (w.length - 1 - i)
  have hiff : (∃ t, Mv (otherL w) (w.length - 1 - i) t) ↔ ∃ t, Mv w i t := by
    constructor
    · rintro ⟨t, h⟩
      have := mv_other h
      rw [other_two, otherL_len, show w.length - 1 - (w.length - 1 - i) = i by omega] at this
      exact ⟨_, this⟩
    · rintro ⟨t, h⟩
      exact ⟨_, mv_other h⟩
  rw [← h1, ← h2] at hiff
  by_cases h : (moveB w [84, 70] i).length = 1
  · rw [h, hiff.2 h]
  · have : ¬ (moveB (otherL w) [84, 70] (w.length - 1 - i)).length = 1 := fun hh => h (hiff.1 hh)
    omega
theorem moves_other_len (w : List UInt8) : (movesB (otherL w) [84, 70]).length = (movesB w [84, 70]).length := by
  rw [moves_len, moves_len, otherL_len]
  have h1 : ((List.range w.length).map fun i => (moveB w [84, 70] i).length) = (List.range w.length).map ((fun i => (moveB (otherL w) [84, 70] i).length) ∘ fun i => w.length - 1 - i) :=
    List.map_congr_left fun i hi => (moveB_other (List.mem_range.1 hi)).symm
  rw [h1, ← List.map_map]
  have h2 : (List.range w.length).map (fun i => w.length - 1 - i) = (List.range w.length).reverse := by
    refine List.ext_getElem (by simp) ?_
    intro n h3 h4
    simp
  rw [h2, List.map_reverse, List.sum_reverse]
theorem moves_toad {w : List UInt8} {i t : Nat} (h : Mv w i t) : (movesB w [84]).contains (((i : Int), (t : Int)) : Int × Int) = decide ((t : Int) > i) ∧ (movesB w [70]).contains (((i : Int), (t : Int)) : Int × Int) = !decide ((t : Int) > i) ∧
    (movesB (otherL w) [84, 70]).contains (((w.length : Int) - 1 - i, (w.length : Int) - 1 - t) : Int × Int) = true := by
  have hm := h
  obtain ⟨hi, ht, h46, hk⟩ := h
  have e1 : (w.length : Int) - 1 - i = ((w.length - 1 - i : Nat) : Int) := by omega
  have e2 : (w.length : Int) - 1 - t = ((w.length - 1 - t : Nat) : Int) := by omega
  have ho := mv_other hm
  have hok : hasB [84, 70] ((otherL w).getD (w.length - 1 - i) 0) = true := by
    rcases ho.2.2.2 with h | h <;> rw [h.1] <;> rfl
  have r3 : (movesB (otherL w) [84, 70]).contains (((w.length : Int) - 1 - i, (w.length : Int) - 1 - t) : Int × Int) = true := by
    rw [e1, e2]
    exact List.contains_iff_mem.2 (mem_moves.2 ⟨ho, hok⟩)
  refine ⟨?_, ?_, r3⟩
  · rcases hk with ⟨ha, hk⟩ | ⟨ha, hk⟩
    · rw [decide_eq_true (by omega)]
      exact List.contains_iff_mem.2 (mem_moves.2 ⟨hm, by rw [ha]; rfl⟩)
    · rw [decide_eq_false (by omega)]
      cases e : (movesB w [84]).contains (((i : Int), (t : Int)) : Int × Int)
      · rfl
      · have := (mem_moves.1 (List.contains_iff_mem.1 e)).2
        rw [ha] at this; cases this
  · rcases hk with ⟨ha, hk⟩ | ⟨ha, hk⟩
    · rw [decide_eq_true (by omega)]
      cases e : (movesB w [70]).contains (((i : Int), (t : Int)) : Int × Int)
      · rfl
      · have := (mem_moves.1 (List.contains_iff_mem.1 e)).2
        rw [ha] at this; cases this
    · rw [decide_eq_false (by omega)]
      exact List.contains_iff_mem.2 (mem_moves.2 ⟨hm, by rw [ha]; rfl⟩)
theorem good_other {w : List UInt8} (h : goodLine w = true) : goodLine (otherL w) = true := by
  unfold goodLine at *
  simp only [Bool.and_eq_true, decide_eq_true_eq] at *
  rw [otherL_len]
  exact ⟨h.1, otherL_signs h.2⟩
theorem good_made {w : List UInt8} {i t : Nat} (h : goodLine w = true) (hm : Mv w i t) : goodLine (madeB w i t) = true := by
  unfold goodLine at *
  simp only [Bool.and_eq_true, decide_eq_true_eq] at *
  rw [madeB_length]
  refine ⟨h.1, ?_⟩
  rw [List.all_eq_true] at *
  intro x hx
  unfold madeB at hx
  rcases List.mem_or_eq_of_mem_set hx with hx | rfl
  · rcases List.mem_or_eq_of_mem_set hx with hx | rfl
    · exact h.2 x hx
    · rcases hm.2.2.2 with h | h <;> rw [h.1] <;> rfl
  · rfl
end Go.Proofs.YtejhhdpfndiliaaGreatDoor.Ab

/- PLAIN: plays of a game: the best moves, the play, the longest and the shortest play, how many there are; the other side. -/
namespace Go.Proofs.YtejhhdpfndiliaaGreatDoor.Ab
open Go

/-! ### Longest, shortest, how many -/
def shF : List Nat → Nat
  | [] => 0
  | x :: l => l.foldl (fun a y => min a (y + 1)) (x + 1)
def loF (l : List Nat) : Nat := l.foldl (fun a y => max a (y + 1)) 0
def lnSt (_ : List UInt8 × Bool) (l : List (Nat × Nat × Nat)) : Nat × Nat × Nat := (loF (l.map (·.1)), shF (l.map (·.2.1)), if l = [] then 1 else (l.map (·.2.2)).sum)
def lnB (w : List UInt8) (t : Bool) : Nat × Nat × Nat := rc winNx lnSt (fun s => mu s.1) (w, t)
theorem lnB_eq (w : List UInt8) (t : Bool) : lnB w t = lnSt (w, t) ((movesB w (kindS t)).map fun m => lnB (madeB w m.1.toNat m.2.toNat) (!t)) := by
  unfold lnB
  have hm : ∀ s : List UInt8 × Bool, ∀ s' ∈ winNx s, mu s'.1 < mu s.1 := by
    intro s s' hs
    simp only [winNx, List.mem_map] at hs
    obtain ⟨v, hv, rfl⟩ := hs
    exact nextB_mu hv
  rw [rc_eq winNx lnSt (mu := fun s => mu s.1) hm (w, t)]
  simp only [winNx, nextB, List.map_map, Function.comp_def]
theorem foldl_max_le : ∀ (l : List Nat) (a : Nat), a ≤ l.foldl (fun a y => max a (y + 1)) a
  | [], a => Nat.le_refl a
  | y :: l, a => by
    have := foldl_max_le l (max a (y + 1))
    simp only [List.foldl_cons]; omega
theorem foldl_max_mem : ∀ (l : List Nat) (a y : Nat), y ∈ l → y + 1 ≤ l.foldl (fun a y => max a (y + 1)) a
  | x :: l, a, y, h => by
    simp only [List.foldl_cons]
    rcases List.mem_cons.1 h with rfl | h
    · have := foldl_max_le l (max a (y + 1)); omega
    · exact foldl_max_mem l _ y h
theorem foldl_min_le : ∀ (l : List Nat) (a : Nat), l.foldl (fun a y => min a (y + 1)) a ≤ a
  | [], a => Nat.le_refl a
  | y :: l, a => by
    have := foldl_min_le l (min a (y + 1))
    simp only [List.foldl_cons]; omega
theorem foldl_min_mem : ∀ (l : List Nat) (a y : Nat), y ∈ l → l.foldl (fun a y => min a (y + 1)) a ≤ y + 1
  | x :: l, a, y, h => by
    simp only [List.foldl_cons]
    rcases List.mem_cons.1 h with rfl | h
    · have := foldl_min_le l (min a (y + 1)); omega
    · exact foldl_min_mem l _ y h
theorem loF_mem {l : List Nat} {y : Nat} (h : y ∈ l) : y + 1 ≤ loF l := foldl_max_mem l 0 y h
theorem shF_mem {l : List Nat} {y : Nat} (h : y ∈ l) : shF l ≤ y + 1 := by
  cases l with
  | nil => simp at h
  | cons x l =>
    unfold shF
    rcases List.mem_cons.1 h with rfl | h
    · exact foldl_min_le l _
    · exact foldl_min_mem l _ y h
theorem ln_step {w : List UInt8} {t : Bool} {m : Int × Int} (h : m ∈ movesB w (kindS t)) :
    (lnB (madeB w m.1.toNat m.2.toNat) (!t)).1 + 1 ≤ (lnB w t).1 ∧ (lnB w t).2.1 ≤ (lnB (madeB w m.1.toNat m.2.toNat) (!t)).2.1 + 1 := by
  rw [lnB_eq w t]
  simp only [lnSt, List.map_map]
  exact ⟨loF_mem (List.mem_map.2 ⟨m, h, rfl⟩), shF_mem (List.mem_map.2 ⟨m, h, rfl⟩)⟩
theorem ln_none {w : List UInt8} {t : Bool} (h : movesB w (kindS t) = []) : lnB w t = (0, 0, 1) := by
  rw [lnB_eq w t, h]; rfl

/-! ### The play -/
def bestB (w : List UInt8) (t : Bool) : List (Int × Int) := (movesB w (kindS t)).filter fun m => !winB (madeB w m.1.toNat m.2.toNat) (!t)
def gmB (w : List UInt8) (t : Bool) : Option (Int × Int) := (bestB w t ++ movesB w (kindS t)).head?
theorem gmB_mem {w : List UInt8} {t : Bool} {m : Int × Int} (h : gmB w t = some m) : m ∈ movesB w (kindS t) := by
  have := List.mem_of_mem_head? (by rw [← gmB]; exact h : m ∈ (bestB w t ++ movesB w (kindS t)).head?)
  rcases List.mem_append.1 this with h | h
  · exact (List.mem_filter.1 h).1
  · exact h
theorem gmB_none {w : List UInt8} {t : Bool} (h : gmB w t = none) : movesB w (kindS t) = [] := by
  unfold gmB at h
  rw [List.head?_eq_none_iff] at h
  exact (List.append_eq_nil_iff.1 h).2
theorem gmB_some {w : List UInt8} {t : Bool} (h : movesB w (kindS t) ≠ []) : ∃ m, gmB w t = some m := by
  cases e : gmB w t with
  | none => exact absurd (gmB_none e) h
  | some m => exact ⟨m, rfl⟩
def plyN : Nat → List UInt8 → Bool → List (Int × Int)
  | 0, _, _ => []
  | n + 1, w, t => match gmB w t with
    | none => []
    | some m => m :: plyN n (madeB w m.1.toNat m.2.toNat) (!t)
def plyB (w : List UInt8) (t : Bool) : List (Int × Int) := plyN (mu w) w t
theorem mvm {w : List UInt8} {t : Bool} {m : Int × Int} (h : m ∈ movesB w (kindS t)) : mu (madeB w m.1.toNat m.2.toNat) < mu w := by
  obtain ⟨i, t', rfl, hm⟩ := movesB_mv h
  exact mu_made hm
theorem plyN_eq : ∀ (n m : Nat) (w : List UInt8) (t : Bool), mu w ≤ n → mu w ≤ m → plyN n w t = plyN m w t
  | 0, 0, _, _, _, _ => rfl
  | 0, m + 1, w, t, h, _ => by
    simp only [plyN]
    cases e : gmB w t with
    | none => rfl
    | some x => have := mvm (gmB_mem e); omega
  | n + 1, 0, w, t, _, h => by
    simp only [plyN]
    cases e : gmB w t with
    | none => rfl
    | some x => have := mvm (gmB_mem e); omega
  | n + 1, m + 1, w, t, h1, h2 => by
    simp only [plyN]
    cases e : gmB w t with
    | none => rfl
    | some x =>
      have := mvm (gmB_mem e)
      simp only
      rw [plyN_eq n m _ _ (by omega) (by omega)]
theorem plyB_none {w : List UInt8} {t : Bool} (h : gmB w t = none) : plyB w t = [] := by
  unfold plyB
  rw [plyN_eq (mu w) (mu w + 1) w t (Nat.le_refl _) (by omega)]
  simp only [plyN, h]
theorem plyB_some {w : List UInt8} {t : Bool} {m : Int × Int} (h : gmB w t = some m) : plyB w t = m :: plyB (madeB w m.1.toNat m.2.toNat) (!t) := by
  unfold plyB
  rw [plyN_eq (mu w) (mu w + 1) w t (Nat.le_refl _) (by omega)]
  simp only [plyN, h]
  have := mvm (gmB_mem h)
  rw [plyN_eq (mu w) (mu (madeB w m.1.toNat m.2.toNat)) _ _ (by omega) (Nat.le_refl _)]
theorem win_best (w : List UInt8) (t : Bool) : winB w t = decide (0 < (bestB w t).length) := by
  rw [winB_eq]
  unfold bestB
  rw [Bool.eq_iff_iff, List.any_eq_true, decide_eq_true_eq, List.length_pos_iff_exists_mem]
  simp only [List.mem_filter]
/-- Who wins makes the last move; the play is no longer than the longest one, no shorter than the shortest one. -/
theorem ply_facts : ∀ (n : Nat) (w : List UInt8) (t : Bool), mu w < n → decide ((plyB w t).length % 2 = 1) = winB w t ∧ (plyB w t).length ≤ (lnB w t).1 ∧ (lnB w t).2.1 ≤ (plyB w t).length
  | 0, _, _, h => by omega
  | n + 1, w, t, h => by
    cases e : gmB w t with
    | none =>
      have hn := gmB_none e
      rw [plyB_none e, ln_none hn, winB_eq, hn]
      simp
    | some m =>
      have hm := gmB_mem e
      obtain ⟨h1, h2, h3⟩ := ply_facts n (madeB w m.1.toNat m.2.toNat) (!t) (by have := mvm hm; omega)
      obtain ⟨k1, k2⟩ := ln_step hm
      rw [plyB_some e, List.length_cons]
      refine ⟨?_, by omega, by omega⟩
      have hw : winB w t = !winB (madeB w m.1.toNat m.2.toNat) (!t) := by
        rw [win_best]
        cases hb : bestB w t with
        | nil =>
          have hx : m ∉ bestB w t := by rw [hb]; simp
          unfold bestB at hx
          rw [List.mem_filter] at hx
          cases hv : winB (madeB w m.1.toNat m.2.toNat) (!t)
          · exact absurd ⟨hm, by rw [hv]; rfl⟩ hx
          · rfl
        | cons x l =>
          unfold gmB at e
          rw [hb] at e
          simp only [List.cons_append, List.head?_cons, Option.some.injEq] at e
          subst e
          have hx : x ∈ bestB w t := by rw [hb]; simp
          unfold bestB at hx
          have := (List.mem_filter.1 hx).2
          rw [this]; rfl
      rw [hw, ← h1, Bool.eq_iff_iff]
      simp only [decide_eq_true_eq, Bool.not_eq_true', decide_eq_false_iff_not]
      omega
theorem ply_zero (w : List UInt8) (t : Bool) : ((lnB w t).1 = 0 ↔ (plyB w t).length = 0) ∧ ((plyB w t).length = 0 ↔ movesB w (kindS t) = []) := by
  by_cases h : movesB w (kindS t) = []
  · have : gmB w t = none := by unfold gmB bestB; rw [h]; rfl
    rw [ln_none h, plyB_none this, h]; simp
  · obtain ⟨m, hm⟩ := gmB_some h
    have := (ln_step (gmB_mem hm)).1
    rw [plyB_some hm, List.length_cons]
    exact ⟨⟨fun h => by omega, fun h => by omega⟩, ⟨fun h => by omega, fun h' => absurd h' h⟩⟩
theorem sh_lo (w : List UInt8) (t : Bool) : (lnB w t).2.1 ≤ (lnB w t).1 := by
  obtain ⟨_, h2, h3⟩ := ply_facts (mu w + 1) w t (by omega)
  omega

/-! ### The other side -/
theorem made_other {w : List UInt8} {i t : Nat} (hi : i < w.length) (ht : t < w.length) : madeB (otherL w) (w.length - 1 - i) (w.length - 1 - t) = otherL (madeB w i t) := by
  have hg := other_get hi
  unfold madeB
  rw [hg]
  apply List.ext_getElem
  · simp [otherL]
  · intro j h1 h2
    have hj : j < w.length := by simpa [otherL] using h2
    simp only [otherL, List.getElem_set, List.getElem_reverse, List.getElem_map, List.length_map, List.length_set]
    by_cases e1 : w.length - 1 - i = j
    · rw [if_pos e1, if_pos (show i = w.length - 1 - j by omega)]; rfl
    · rw [if_neg e1, if_neg (show ¬ i = w.length - 1 - j by omega)]
      by_cases e2 : w.length - 1 - t = j
      · rw [if_pos e2, if_pos (show t = w.length - 1 - j by omega)]
      · rw [if_neg e2, if_neg (show ¬ t = w.length - 1 - j by omega)]
theorem kind_other (t : Bool) (b : UInt8) : hasB (kindS (!t)) (otherB b) = hasB (kindS t) b := by
  have e : ∀ (t : Bool) (b : UInt8), hasB (kindS t) b = if t then b == 84 else b == 70 := by
    intro t b
    have := hasB_kinds t (!t) b
    cases t
    · simpa [kindsS, kindS] using this
    · simpa [kindsS, kindS] using this
  rw [e, e]
  unfold otherB
  by_cases h1 : b = 84
  · subst h1; cases t <;> rfl
  · by_cases h2 : b = 70
    · subst h2; cases t <;> rfl
    · have g1 : (b == 84) = false := by simpa using h1
      have g2 : (b == 70) = false := by simpa using h2
      cases t <;> simp [h1, h2, g1, g2]
theorem win_other : ∀ (n : Nat) (w : List UInt8) (t : Bool), mu w < n → winB (otherL w) (!t) = winB w t
  | 0, _, _, h => by omega
  | n + 1, w, t, h => by
    rw [winB_eq (otherL w), winB_eq w, Bool.eq_iff_iff, List.any_eq_true, List.any_eq_true]
    constructor
    · rintro ⟨m, hm, hv⟩
      obtain ⟨i, u, rfl, hmv⟩ := movesB_mv hm
      have hk := (mem_moves.1 hm).2
      have h1 := mv_other hmv
      rw [other_two, otherL_len] at h1
      have hi := hmv.1
      have hu := hmv.2.1
      rw [otherL_len] at hi hu
      refine ⟨(((w.length - 1 - i : Nat) : Int), ((w.length - 1 - u : Nat) : Int)), mem_moves.2 ⟨h1, ?_⟩, ?_⟩
      · have hg := other_get (w := w) (j := w.length - 1 - i) (by omega)
        rw [show w.length - 1 - (w.length - 1 - i) = i by omega] at hg
        rw [hg, kind_other] at hk
        exact hk
      · simp only [Int.toNat_natCast] at hv ⊢
        have hm2 := made_other h1.1 h1.2.1
        rw [show w.length - 1 - (w.length - 1 - i) = i by omega, show w.length - 1 - (w.length - 1 - u) = u by omega] at hm2
        rw [hm2, win_other n _ (!t) (by have := mu_made h1; omega)] at hv
        exact hv
    · rintro ⟨m, hm, hv⟩
      obtain ⟨i, u, rfl, hmv⟩ := movesB_mv hm
      have hk := (mem_moves.1 hm).2
      refine ⟨(((w.length - 1 - i : Nat) : Int), ((w.length - 1 - u : Nat) : Int)), mem_moves.2 ⟨mv_other hmv, ?_⟩, ?_⟩
      · rw [other_get hmv.1, kind_other]; exact hk
      · simp only [Int.toNat_natCast] at hv ⊢
        rw [made_other hmv.1 hmv.2.1, win_other n _ (!t) (by have := mu_made hmv; omega)]
        exact hv

/-! ### Few games: they fit into 63 bits -/
def dep (w : List UInt8) : Nat := wayN w - pairsB w
theorem pairs_way : ∀ l : List UInt8, inw vP l ≤ inw vW l ∧ inw vW l ≤ inw vP l + (l.count 84 * l.count 46 + l.count 84 * l.count 70 + l.count 46 * l.count 70)
  | [] => by simp [inw]
  | a :: l => by
    obtain ⟨h1, h2⟩ := pairs_way l
    simp only [inw, cntB]
    by_cases h84 : a = 84
    · subst h84
      rw [sumP84, sumW84]
      simp only [if_true, show ((84 : UInt8) = 46) = False from by simp, show ((84 : UInt8) = 70) = False from by simp, if_false, Nat.add_zero, Nat.add_mul, Nat.one_mul]
      omega
    · rw [sumPx h84]
      by_cases h46 : a = 46
      · subst h46
        rw [sumW46]
        simp only [show ((46 : UInt8) = 84) = False from by simp, if_true, show ((46 : UInt8) = 70) = False from by simp, if_false, Nat.add_zero, Nat.add_mul, Nat.one_mul, Nat.mul_add, Nat.mul_one]
        omega
      · by_cases h70 : a = 70
        · subst h70
          rw [sumW70]
          simp only [show ((70 : UInt8) = 84) = False from by simp, show ((70 : UInt8) = 46) = False from by simp, if_true, if_false, Nat.add_zero, Nat.mul_add, Nat.mul_one]
          omega
        · have hz : (l.map (vW a)).sum = 0 := by
            have : l.map (vW a) = l.map fun _ => 0 := List.map_congr_left fun b _ => by unfold vW; simp [h84, h46]
            rw [this, sum_z]
          rw [hz]
          simp only [h84, h46, h70, if_false, Nat.add_zero]
          omega
  where cntB {x b : UInt8} {l : List UInt8} : (x :: l).count b = l.count b + if x = b then 1 else 0 := by
          rw [List.count_cons]; simp
theorem dep_made {w : List UInt8} {i t : Nat} (h : Mv w i t) : dep (madeB w i t) + 1 = dep w := by
  obtain ⟨h1, h2⟩ := made_way h
  have h3 := (pairs_way w).1
  have h4 := (pairs_way (madeB w i t)).1
  rw [← pairsB_inv] at h3 h4
  unfold dep
  change pairsB w ≤ wayN w at h3
  change pairsB (madeB w i t) ≤ wayN (madeB w i t) at h4
  cases hj : isJ i t <;> rw [hj] at h1 h2 <;> simp only [if_true, if_false, Bool.false_eq_true] at h1 h2 <;> omega
theorem count_madeG {w : List UInt8} {i t : Nat} (h : Mv w i t) (b : UInt8) : (madeB w i t).count b = w.count b := by
  obtain ⟨A, X, X', B, hw, hm, hc⟩ := mv_parts h
  rw [hm]
  conv => rhs; rw [hw]
  simp only [List.count_append]
  have : X'.count b = X.count b := by
    rcases hc with ⟨_, rfl, rfl⟩ | ⟨_, rfl, rfl⟩ | ⟨_, rfl, rfl⟩ | ⟨_, rfl, rfl⟩ <;> simp only [List.count_cons, List.count_nil] <;> omega
  rw [this]
def knd (t : Bool) : UInt8 := if t then 84 else 70
theorem countP_range {w : List UInt8} (p : UInt8 → Bool) : ((List.range w.length).filter fun i => p (w.getD i 0)).length = (w.filter p).length := by
  have : w = (List.range w.length).map fun i => w.getD i 0 := by
    apply List.ext_getElem
    · simp
    · intro j h1 h2; simp [List.getD_eq_getElem?_getD, h1]
  conv => rhs; rw [this, List.filter_map, List.length_map]
  rfl
theorem cnt_range (w : List UInt8) (b : UInt8) : ((List.range w.length).filter fun i => w.getD i 0 == b).length = w.count b := by
  rw [countP_range (fun x => x == b), List.count_eq_length_filter]
theorem has_kind (t : Bool) (b : UInt8) : hasB (kindS t) b = (b == knd t) := by
  have := hasB_kinds t (!t) b
  cases t <;> simpa [kindsS, kindS, knd] using this
theorem moves_few (w : List UInt8) (t : Bool) : (movesB w (kindS t)).length ≤ min (w.count (knd t)) (w.count 46) := by
  have hs := moves_sorted w (kindS t)
  have hmem : ∀ m ∈ movesB w (kindS t), ∃ i u : Nat, m = ((i : Int), (u : Int)) ∧ Mv w i u ∧ w.getD i 0 = knd t := by
    intro m hm
    obtain ⟨i, u, rfl, hmv⟩ := movesB_mv hm
    refine ⟨i, u, rfl, hmv, ?_⟩
    have := (mem_moves.1 hm).2
    rw [has_kind] at this
    simpa using this
  have n1 : ((movesB w (kindS t)).map fun m => m.1.toNat).Nodup := by
    rw [List.Nodup, List.pairwise_map]
    refine List.Pairwise.imp_of_mem ?_ hs
    intro a b ha hb hab
    obtain ⟨i, u, rfl, h1, _⟩ := hmem a ha
    obtain ⟨j, v, rfl, h2, _⟩ := hmem b hb
    simp only at hab ⊢
    omega
  have n2 : ((movesB w (kindS t)).map fun m => m.2.toNat).Nodup := by
    rw [List.Nodup, List.pairwise_map]
    refine List.Pairwise.imp_of_mem ?_ hs
    intro a b ha hb hab
    obtain ⟨i, u, rfl, h1, k1⟩ := hmem a ha
    obtain ⟨j, v, rfl, h2, k2⟩ := hmem b hb
    simp only [Int.toNat_natCast] at hab ⊢
    rintro rfl
    obtain ⟨_, _, _, h1⟩ := h1
    obtain ⟨_, _, _, h2⟩ := h2
    cases t
    · have e1 : w.getD i 0 = 70 := k1
      have e2 : w.getD j 0 = 70 := k2
      rw [e1] at h1
      rw [e2] at h2
      rcases h1 with ⟨h1, _⟩ | ⟨_, h1⟩
      · cases h1
      · rcases h2 with ⟨h2, _⟩ | ⟨_, h2⟩
        · cases h2
        · rcases h1 with h1 | ⟨h1, _⟩
          · rcases h2 with h2 | ⟨h2, h3⟩
            · omega
            · have : j - 1 = i := by omega
              rw [this, e1] at h3; cases h3
          · rcases h2 with h2 | ⟨h2, h3⟩ <;> omega
    · have e1 : w.getD i 0 = 84 := k1
      have e2 : w.getD j 0 = 84 := k2
      rw [e1] at h1
      rw [e2] at h2
      rcases h1 with ⟨_, h1⟩ | ⟨h1, _⟩
      · rcases h2 with ⟨_, h2⟩ | ⟨h2, _⟩
        · rcases h1 with h1 | ⟨h1, h3⟩
          · rcases h2 with h2 | ⟨h2, _⟩ <;> omega
          · rcases h2 with h2 | ⟨h2, _⟩
            · have : i + 1 = j := by omega
              rw [this, e2] at h3; cases h3
            · omega
        · cases h2
      · cases h1
  have l1 := List.Nodup.length_le_of_subset n1 (l₂ := (List.range w.length).filter fun i => w.getD i 0 == knd t) (by
    intro x hx
    obtain ⟨m, hm, rfl⟩ := List.mem_map.1 hx
    obtain ⟨i, u, rfl, h1, k1⟩ := hmem m hm
    rw [List.mem_filter, List.mem_range]
    exact ⟨h1.1, by simpa using k1⟩)
  have l2 := List.Nodup.length_le_of_subset n2 (l₂ := (List.range w.length).filter fun i => w.getD i 0 == 46) (by
    intro x hx
    obtain ⟨m, hm, rfl⟩ := List.mem_map.1 hx
    obtain ⟨i, u, rfl, h1, k1⟩ := hmem m hm
    rw [List.mem_filter, List.mem_range]
    exact ⟨h1.2.1, by simpa using h1.2.2.1⟩)
  rw [cnt_range, List.length_map] at l1 l2
  omega
def br (w : List UInt8) (t : Bool) : Nat := max 1 (min (w.count (knd t)) (w.count 46))
theorem sum_le_mulN {α : Type} (f : α → Nat) (B : Nat) : ∀ l : List α, (∀ x ∈ l, f x ≤ B) → (l.map f).sum ≤ l.length * B
  | [], _ => by simp
  | a :: l, h => by
    have h1 := h a (by simp)
    have h2 := sum_le_mulN f B l fun x hx => h x (by simp [hx])
    rw [List.map_cons, List.sum_cons, List.length_cons, Nat.succ_mul]; omega
theorem games_pow : ∀ (n : Nat) (w : List UInt8) (t : Bool), dep w = n → 1 ≤ (lnB w t).2.2 ∧ (lnB w t).2.2 ≤ br w t ^ ((n + 1) / 2) * br w (!t) ^ (n / 2) := by
  intro n
  induction n with
  | zero =>
    intro w t hd
    have hm : movesB w (kindS t) = [] := by
      cases e : movesB w (kindS t) with
      | nil => rfl
      | cons m l =>
        obtain ⟨i, u, rfl, hmv⟩ := movesB_mv (w := w) (kinds := kindS t) (m := m) (by rw [e]; simp)
        have := dep_made hmv; omega
    rw [ln_none hm]; simp
  | succ n ih =>
    intro w t hd
    by_cases hm : movesB w (kindS t) = []
    · rw [ln_none hm]
      refine ⟨Nat.le_refl _, ?_⟩
      exact Nat.mul_pos (Nat.pow_pos (by unfold br; omega)) (Nat.pow_pos (by unfold br; omega))
    · have hk : ∀ m ∈ movesB w (kindS t), 1 ≤ (lnB (madeB w m.1.toNat m.2.toNat) (!t)).2.2 ∧ (lnB (madeB w m.1.toNat m.2.toNat) (!t)).2.2 ≤ br w (!t) ^ ((n + 1) / 2) * br w t ^ (n / 2) := by
        intro m hmm
        obtain ⟨i, u, rfl, hmv⟩ := movesB_mv hmm
        have hd2 := dep_made hmv
        have := ih (madeB w i u) (!t) (by omega)
        have hb : ∀ s, br (madeB w i u) s = br w s := fun s => by unfold br; rw [count_madeG hmv, count_madeG hmv]
        rw [hb, hb, Bool.not_not] at this
        simpa using this
      have he : (lnB w t).2.2 = ((movesB w (kindS t)).map fun m => (lnB (madeB w m.1.toNat m.2.toNat) (!t)).2.2).sum := by
        rw [lnB_eq w t]
        simp only [lnSt, List.map_eq_nil_iff, hm, if_false, List.map_map]
        rfl
      rw [he]
      constructor
      · cases e : movesB w (kindS t) with
        | nil => exact absurd e hm
        | cons m l =>
          have := (hk m (by rw [e]; simp)).1
          simp only [List.map_cons, List.sum_cons]; omega
      · have h1 := sum_le_mulN (fun m : Int × Int => (lnB (madeB w m.1.toNat m.2.toNat) (!t)).2.2) (br w (!t) ^ ((n + 1) / 2) * br w t ^ (n / 2)) (movesB w (kindS t)) fun m hmm => (hk m hmm).2
        have h2 := moves_few w t
        have h3 : (movesB w (kindS t)).length ≤ br w t := by unfold br; omega
        have h4 := Nat.mul_le_mul_right (br w (!t) ^ ((n + 1) / 2) * br w t ^ (n / 2)) h3
        refine Nat.le_trans h1 (Nat.le_trans h4 (Nat.le_of_eq ?_))
        rw [show (n + 1 + 1) / 2 = n / 2 + 1 by omega, Nat.pow_succ]
        rw [← Nat.mul_assoc, Nat.mul_comm (br w t) (br w (!t) ^ ((n + 1) / 2)), Nat.mul_assoc, Nat.mul_comm (br w t) (br w t ^ (n / 2)), Nat.mul_comm]
theorem games_all : ((List.range 11).all fun t => (List.range 11).all fun g => (List.range 11).all fun f => decide (10 < t + g + f) ||
    decide ((max 1 (min t g)) ^ ((t * g + t * f + g * f + 1) / 2) * (max 1 (min f g)) ^ ((t * g + t * f + g * f) / 2) < 2 ^ 60 ∧ (max 1 (min f g)) ^ ((t * g + t * f + g * f + 1) / 2) * (max 1 (min t g)) ^ ((t * g + t * f + g * f) / 2) < 2 ^ 60)) = true := by decide +kernel
theorem games_lt {w : List UInt8} (t : Bool) (hg : signs w) (hl : w.length ≤ 10) : 1 ≤ (lnB w t).2.2 ∧ (lnB w t).2.2 < 2 ^ 60 := by
  obtain ⟨h1, h2⟩ := games_pow (dep w) w t rfl
  refine ⟨h1, Nat.lt_of_le_of_lt h2 ?_⟩
  have hc := cnt3 hg
  have hd : dep w ≤ w.count 84 * w.count 46 + w.count 84 * w.count 70 + w.count 46 * w.count 70 := by
    have := (pairs_way w).2
    have h3 := pairsB_inv w
    unfold dep wayN
    omega
  have e1 := List.all_eq_true.1 games_all (w.count 84) (List.mem_range.2 (by omega))
  have e2 := List.all_eq_true.1 e1 (w.count 46) (List.mem_range.2 (by omega))
  have e3 := List.all_eq_true.1 e2 (w.count 70) (List.mem_range.2 (by omega))
  rw [Bool.or_eq_true, decide_eq_true_eq, decide_eq_true_eq] at e3
  have e4 := e3.resolve_left (by omega)
  have mono : ∀ P Q : Nat, 1 ≤ P → 1 ≤ Q → ∀ D, dep w ≤ D → P ^ ((dep w + 1) / 2) * Q ^ (dep w / 2) ≤ P ^ ((D + 1) / 2) * Q ^ (D / 2) := by
    intro P Q hP hQ D hD
    exact Nat.mul_le_mul (Nat.pow_le_pow_right hP (by omega)) (Nat.pow_le_pow_right hQ (by omega))
  cases t
  · exact Nat.lt_of_le_of_lt (mono _ _ (by unfold br; omega) (by unfold br; omega) _ hd) e4.2
  · exact Nat.lt_of_le_of_lt (mono _ _ (by unfold br; omega) (by unfold br; omega) _ hd) e4.1
end Go.Proofs.YtejhhdpfndiliaaGreatDoor.Ab
