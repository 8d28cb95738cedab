/- Part 4 of the proof of a law of the given program: the rules that it leans on, and what the functions that it reaches answer; the conditions stand with each theorem. -/
import Derived.Laws.RangeString
import Derived.Test.YtbpenpikaehloaaDoorQ2
set_option linter.unusedSimpArgs false
set_option linter.unusedVariables false
/- MOVES made: the program's and the reference's. -/
namespace Go.Proofs.YtbpenpikaehloaaDoor.Ab
open Go
set_option maxRecDepth 100000
set_option maxHeartbeats 4000000

abbrev mvV (i t : Int) : AV := .agg [.int .i64 i, .int .i64 t]

theorem c_liPut (w : List UInt8) (i : Nat) (s : List UInt8) (hi : i < w.length) (hw : w.length < 2 ^ 30) (hs : s.length < 2 ^ 30) {h : AH} {post : AV → AH → Prop} (hp : post (.str (w.take i ++ s ++ w.drop (i + 1))) h) : S 108 [.str w, .int .i64 i, .str s] h post k := by
  refine S_of rfl T108 ?_; unfold fi108
  have e1 : ((i : Int) + 1).toNat = i + 1 := by omega
  simp (maxSteps := 1000000) (disch := first | omega | rfl | (simp only [zL, two63, room] <;> omega) | fail) only [↓reduceIte, ↓zP, zW, WOp, evOp, evBin, binI, binSh, binS, evNil, keyIs, keyEq, mkv, AV.cells, AV.sc, optv, bnd, env, put, Env.get, Env.set, Env.del, Env.dels, Env.init, res1, resL, resV, fillP, splice, newRow, Nat.reduceEqDiff, Nat.reduceLT, Nat.reduceLeDiff, Nat.reduceAdd, Nat.reduceMul, Nat.reduceSub, Nat.reduceBEq, reduceCtorEq, ↓zR, zQ, Tr, StA, StT, e1]
  exact hp
theorem c_made (w : List UInt8) (i t : Nat) (hi : i < w.length) (ht : t < w.length) (hw : w.length < 2 ^ 30) {h : AH} {post : AV → AH → Prop} (hp : ∀ h', Pre h h' → post (.str (madeB w i t)) h') : S 61 [.str w, mvV i t] h post k := by
  refine S_of rfl T61 ?_; unfold fi61
  have hr : w.length ≤ room := by unfold room; omega
  simp (maxSteps := 1000000) (disch := first | omega | rfl | (simp only [zL, two63, room] <;> omega) | fail) only [↓reduceIte, ↓zP, zW, WOp, evOp, evBin, binI, binSh, binS, evNil, keyIs, keyEq, mkv, AV.cells, AV.sc, optv, bnd, env, put, Env.get, Env.set, Env.del, Env.dels, Env.init, res1, resL, resV, fillP, splice, newRow, Nat.reduceEqDiff, Nat.reduceLT, Nat.reduceLeDiff, Nat.reduceAdd, Nat.reduceMul, Nat.reduceSub, Nat.reduceBEq, reduceCtorEq, ↓zR, zQ, Tr, StA, StT, sc_bytes, List.length_map, hr]
  refine w_drw ?_
  simp (maxSteps := 1000000) (disch := first | omega | rfl | (simp only [zL, two63, room] <;> omega) | fail) only [↓reduceIte, ↓zP, zW, WOp, evOp, evBin, binI, binSh, binS, evNil, keyIs, keyEq, mkv, AV.cells, AV.sc, optv, bnd, env, put, Env.get, Env.set, Env.del, Env.dels, Env.init, res1, resL, resV, fillP, splice, newRow, Nat.reduceEqDiff, Nat.reduceLT, Nat.reduceLeDiff, Nat.reduceAdd, Nat.reduceMul, Nat.reduceSub, Nat.reduceBEq, reduceCtorEq, ↓zR, zQ, Tr, StA, StT, List.length_map, hr]
  exact hp _ ((Pre.push _ _).trans (Pre.push _ _))

theorem e_l1In (n lo hi : Int) {h : AH} {post : AV → AH → Prop} : S 77 [.int .i64 n, .int .i64 lo, .int .i64 hi] h post k = post (.bool (decide (lo ≤ n ∧ n ≤ hi))) h := S_eq fun _ => c_l1In n lo hi
theorem e_within (n lo hi : Int) {h : AH} {post : AV → AH → Prop} : S 74 [.int .i64 n, .int .i64 lo, .int .i64 hi] h post k = post (.bool (decide (lo ≤ n ∧ n ≤ hi))) h := S_eq fun _ => c_within n lo hi

theorem c_liCan (w : List UInt8) (i t : Int) (hw : w.length < 2 ^ 30) {h : AH} {post : AV → AH → Prop} (hp : ∀ h', Pre h h' → post (.bool (canB w (i, t))) h') : S 130 [.str w, mvV i t] h post k := by
  have hq : ∀ b, canB w (i, t) = b → post (.bool b) (h ++ [AO.row [AV.int .i64 i, AV.int .i64 t] 0 0 false]) := fun b hb => by rw [← hb]; exact hp _ (Pre.push _ _)
  refine S_of rfl T130 ?_; unfold fi130
  by_cases hi : 0 ≤ i ∧ i < w.length
  case neg =>
    have h1 : (0 ≤ i ∧ i ≤ (w.length : Int) - 1) = False := eq_false (by omega)
    simp (maxSteps := 1000000) (disch := first | omega | rfl | (simp only [zL, two63, room] <;> omega) | fail) only [↓reduceIte, ↓zP, zW, WOp, evOp, evBin, binI, binSh, binS, evNil, keyIs, keyEq, mkv, AV.cells, AV.sc, optv, bnd, env, put, Env.get, Env.set, Env.del, Env.dels, Env.init, res1, resL, resV, fillP, splice, newRow, Nat.reduceEqDiff, Nat.reduceLT, Nat.reduceLeDiff, Nat.reduceAdd, Nat.reduceMul, Nat.reduceSub, Nat.reduceBEq, reduceCtorEq, ↓zR, zQ, Tr, StA, StT, e_l1In, h1]
    exact hq _ (decide_eq_false (by rintro ⟨x1, x2, x3, _⟩; simp only at x1 x2 x3; omega))
  have h1 : (0 ≤ i ∧ i ≤ (w.length : Int) - 1) = True := eq_true (by omega)
  by_cases ht : 0 ≤ t ∧ t < w.length
  case neg =>
    have h2 : (0 ≤ t ∧ t ≤ (w.length : Int) - 1) = False := eq_false (by omega)
    simp (maxSteps := 1000000) (disch := first | omega | rfl | (simp only [zL, two63, room] <;> omega) | fail) only [↓reduceIte, ↓zP, zW, WOp, evOp, evBin, binI, binSh, binS, evNil, keyIs, keyEq, mkv, AV.cells, AV.sc, optv, bnd, env, put, Env.get, Env.set, Env.del, Env.dels, Env.init, res1, resL, resV, fillP, splice, newRow, Nat.reduceEqDiff, Nat.reduceLT, Nat.reduceLeDiff, Nat.reduceAdd, Nat.reduceMul, Nat.reduceSub, Nat.reduceBEq, reduceCtorEq, ↓zR, zQ, Tr, StA, StT, e_l1In, h1, h2]
    exact hq _ (decide_eq_false (by rintro ⟨x1, x2, x3, x4, _⟩; simp only at x1 x2 x3 x4; omega))
  have h2 : (0 ≤ t ∧ t ≤ (w.length : Int) - 1) = True := eq_true (by omega)
  obtain ⟨i, rfl⟩ := Int.eq_ofNat_of_zero_le hi.1
  obtain ⟨t, rfl⟩ := Int.eq_ofNat_of_zero_le ht.1
  have hi' : i < w.length := by omega
  have ht' : t < w.length := by omega
  have c1 : ((i : Int) + 1).toNat = i + 1 := by omega
  have c2 : ((i : Int) + -1).toNat = i - 1 := by omega
  have hb : ∀ b : UInt8, (b == 84) = true → (b == 70) = false := fun b hb => by rw [beq_iff_eq] at hb; subst hb; rfl
  cases e0 : (w.getD t 0 == 46)
  · simp (maxSteps := 1000000) (disch := first | omega | rfl | (simp only [zL, two63, room] <;> omega) | fail) only [↓reduceIte, ↓zP, zW, WOp, evOp, evBin, binI, binSh, binS, evNil, keyIs, keyEq, mkv, AV.cells, AV.sc, optv, bnd, env, put, Env.get, Env.set, Env.del, Env.dels, Env.init, res1, resL, resV, fillP, splice, newRow, Nat.reduceEqDiff, Nat.reduceLT, Nat.reduceLeDiff, Nat.reduceAdd, Nat.reduceMul, Nat.reduceSub, Nat.reduceBEq, reduceCtorEq, ↓zR, zQ, Tr, StA, StT, e_l1In, h1, h2, e0]
    exact hq _ (decide_eq_false (by rintro ⟨x1, x2, x3, x4, x5, _⟩; simp only [Int.toNat_natCast] at x5; rw [x5] at e0; cases e0))
  have k0 := beq_iff_eq.1 e0
  cases e1 : (w.getD i 0 == 84)
  · cases e2 : (w.getD i 0 == 70)
    · simp (maxSteps := 1000000) (disch := first | omega | rfl | (simp only [zL, two63, room] <;> omega) | fail) only [↓reduceIte, ↓zP, zW, WOp, evOp, evBin, binI, binSh, binS, evNil, keyIs, keyEq, mkv, AV.cells, AV.sc, optv, bnd, env, put, Env.get, Env.set, Env.del, Env.dels, Env.init, res1, resL, resV, fillP, splice, newRow, Nat.reduceEqDiff, Nat.reduceLT, Nat.reduceLeDiff, Nat.reduceAdd, Nat.reduceMul, Nat.reduceSub, Nat.reduceBEq, reduceCtorEq, ↓zR, zQ, Tr, StA, StT, e_l1In, h1, h2, e0, e1, e2]
      refine hq _ (decide_eq_false ?_)
      rintro ⟨x1, x2, x3, x4, x5, x6⟩
      simp only [Int.toNat_natCast] at x6
      rcases x6 with ⟨x6, _⟩ | ⟨x6, _⟩
      · rw [x6] at e1; cases e1
      · rw [x6] at e2; cases e2
    · have k2 := beq_iff_eq.1 e2
      by_cases t1 : t + 1 = i
      · simp (maxSteps := 1000000) (disch := first | omega | rfl | (simp only [zL, two63, room] <;> omega) | fail) only [↓reduceIte, ↓zP, zW, WOp, evOp, evBin, binI, binSh, binS, evNil, keyIs, keyEq, mkv, AV.cells, AV.sc, optv, bnd, env, put, Env.get, Env.set, Env.del, Env.dels, Env.init, res1, resL, resV, fillP, splice, newRow, Nat.reduceEqDiff, Nat.reduceLT, Nat.reduceLeDiff, Nat.reduceAdd, Nat.reduceMul, Nat.reduceSub, Nat.reduceBEq, reduceCtorEq, ↓zR, zQ, Tr, StA, StT, e_l1In, h1, h2, e0, e1, e2]
        exact hq _ (decide_eq_true (by simp only [Int.toNat_natCast, Mv]; exact ⟨by omega, by omega, hi', ht', k0, .inr ⟨k2, .inl t1⟩⟩))
      by_cases t2 : t + 2 = i
      · cases e3 : (w.getD (i - 1) 0 == 84)
        · simp (maxSteps := 1000000) (disch := first | omega | rfl | (simp only [zL, two63, room] <;> omega) | fail) only [↓reduceIte, ↓zP, zW, WOp, evOp, evBin, binI, binSh, binS, evNil, keyIs, keyEq, mkv, AV.cells, AV.sc, optv, bnd, env, put, Env.get, Env.set, Env.del, Env.dels, Env.init, res1, resL, resV, fillP, splice, newRow, Nat.reduceEqDiff, Nat.reduceLT, Nat.reduceLeDiff, Nat.reduceAdd, Nat.reduceMul, Nat.reduceSub, Nat.reduceBEq, reduceCtorEq, ↓zR, zQ, Tr, StA, StT, e_l1In, h1, h2, e0, e1, e2, c2, e3]
          refine hq _ (decide_eq_false ?_)
          rintro ⟨x1, x2, x3, x4, x5, x6⟩
          simp only [Int.toNat_natCast] at x6
          rcases x6 with ⟨x6, _⟩ | ⟨_, x6 | x6⟩
          · rw [x6] at e1; cases e1
          · omega
          · rw [x6.2] at e3; cases e3
        · simp (maxSteps := 1000000) (disch := first | omega | rfl | (simp only [zL, two63, room] <;> omega) | fail) only [↓reduceIte, ↓zP, zW, WOp, evOp, evBin, binI, binSh, binS, evNil, keyIs, keyEq, mkv, AV.cells, AV.sc, optv, bnd, env, put, Env.get, Env.set, Env.del, Env.dels, Env.init, res1, resL, resV, fillP, splice, newRow, Nat.reduceEqDiff, Nat.reduceLT, Nat.reduceLeDiff, Nat.reduceAdd, Nat.reduceMul, Nat.reduceSub, Nat.reduceBEq, reduceCtorEq, ↓zR, zQ, Tr, StA, StT, e_l1In, h1, h2, e0, e1, e2, c2, e3]
          exact hq _ (decide_eq_true (by simp only [Int.toNat_natCast, Mv]; exact ⟨by omega, by omega, hi', ht', k0, .inr ⟨k2, .inr ⟨t2, beq_iff_eq.1 e3⟩⟩⟩))
      · simp (maxSteps := 1000000) (disch := first | omega | rfl | (simp only [zL, two63, room] <;> omega) | fail) only [↓reduceIte, ↓zP, zW, WOp, evOp, evBin, binI, binSh, binS, evNil, keyIs, keyEq, mkv, AV.cells, AV.sc, optv, bnd, env, put, Env.get, Env.set, Env.del, Env.dels, Env.init, res1, resL, resV, fillP, splice, newRow, Nat.reduceEqDiff, Nat.reduceLT, Nat.reduceLeDiff, Nat.reduceAdd, Nat.reduceMul, Nat.reduceSub, Nat.reduceBEq, reduceCtorEq, ↓zR, zQ, Tr, StA, StT, e_l1In, h1, h2, e0, e1, e2]
        refine hq _ (decide_eq_false ?_)
        rintro ⟨x1, x2, x3, x4, x5, x6⟩
        simp only [Int.toNat_natCast] at x6
        rcases x6 with ⟨x6, _⟩ | ⟨_, x6 | x6⟩
        · rw [x6] at e1; cases e1
        · omega
        · omega
  · have k1 := beq_iff_eq.1 e1
    have e2 := hb _ e1
    by_cases t1 : t = i + 1
    · simp (maxSteps := 1000000) (disch := first | omega | rfl | (simp only [zL, two63, room] <;> omega) | fail) only [↓reduceIte, ↓zP, zW, WOp, evOp, evBin, binI, binSh, binS, evNil, keyIs, keyEq, mkv, AV.cells, AV.sc, optv, bnd, env, put, Env.get, Env.set, Env.del, Env.dels, Env.init, res1, resL, resV, fillP, splice, newRow, Nat.reduceEqDiff, Nat.reduceLT, Nat.reduceLeDiff, Nat.reduceAdd, Nat.reduceMul, Nat.reduceSub, Nat.reduceBEq, reduceCtorEq, ↓zR, zQ, Tr, StA, StT, e_l1In, h1, h2, e0, e1, e2]
      exact hq _ (decide_eq_true (by simp only [Int.toNat_natCast, Mv]; exact ⟨by omega, by omega, hi', ht', k0, .inl ⟨k1, .inl t1⟩⟩))
    by_cases t2 : t = i + 2
    · cases e3 : (w.getD (i + 1) 0 == 70)
      · simp (maxSteps := 1000000) (disch := first | omega | rfl | (simp only [zL, two63, room] <;> omega) | fail) only [↓reduceIte, ↓zP, zW, WOp, evOp, evBin, binI, binSh, binS, evNil, keyIs, keyEq, mkv, AV.cells, AV.sc, optv, bnd, env, put, Env.get, Env.set, Env.del, Env.dels, Env.init, res1, resL, resV, fillP, splice, newRow, Nat.reduceEqDiff, Nat.reduceLT, Nat.reduceLeDiff, Nat.reduceAdd, Nat.reduceMul, Nat.reduceSub, Nat.reduceBEq, reduceCtorEq, ↓zR, zQ, Tr, StA, StT, e_l1In, h1, h2, e0, e1, e2, c1, e3]
        refine hq _ (decide_eq_false ?_)
        rintro ⟨x1, x2, x3, x4, x5, x6⟩
        simp only [Int.toNat_natCast] at x6
        rcases x6 with ⟨_, x6 | x6⟩ | ⟨x6, _⟩
        · omega
        · rw [x6.2] at e3; cases e3
        · rw [x6] at e2; cases e2
      · simp (maxSteps := 1000000) (disch := first | omega | rfl | (simp only [zL, two63, room] <;> omega) | fail) only [↓reduceIte, ↓zP, zW, WOp, evOp, evBin, binI, binSh, binS, evNil, keyIs, keyEq, mkv, AV.cells, AV.sc, optv, bnd, env, put, Env.get, Env.set, Env.del, Env.dels, Env.init, res1, resL, resV, fillP, splice, newRow, Nat.reduceEqDiff, Nat.reduceLT, Nat.reduceLeDiff, Nat.reduceAdd, Nat.reduceMul, Nat.reduceSub, Nat.reduceBEq, reduceCtorEq, ↓zR, zQ, Tr, StA, StT, e_l1In, h1, h2, e0, e1, e2, c1, e3]
        exact hq _ (decide_eq_true (by simp only [Int.toNat_natCast, Mv]; exact ⟨by omega, by omega, hi', ht', k0, .inl ⟨k1, .inr ⟨t2, beq_iff_eq.1 e3⟩⟩⟩))
    · simp (maxSteps := 1000000) (disch := first | omega | rfl | (simp only [zL, two63, room] <;> omega) | fail) only [↓reduceIte, ↓zP, zW, WOp, evOp, evBin, binI, binSh, binS, evNil, keyIs, keyEq, mkv, AV.cells, AV.sc, optv, bnd, env, put, Env.get, Env.set, Env.del, Env.dels, Env.init, res1, resL, resV, fillP, splice, newRow, Nat.reduceEqDiff, Nat.reduceLT, Nat.reduceLeDiff, Nat.reduceAdd, Nat.reduceMul, Nat.reduceSub, Nat.reduceBEq, reduceCtorEq, ↓zR, zQ, Tr, StA, StT, e_l1In, h1, h2, e0, e1, e2]
      refine hq _ (decide_eq_false ?_)
      rintro ⟨x1, x2, x3, x4, x5, x6⟩
      simp only [Int.toNat_natCast] at x6
      rcases x6 with ⟨_, x6 | x6⟩ | ⟨x6, _⟩
      · omega
      · omega
      · rw [x6] at e2; cases e2
end Go.Proofs.YtbpenpikaehloaaDoor.Ab

/- MOVES of a line: what the reference lists. -/
namespace Go.Proofs.YtbpenpikaehloaaDoor.Ab
open Go
set_option maxRecDepth 100000
set_option maxHeartbeats 4000000

theorem dec_low {s : List UInt8} {pos : Nat} (h : pos < s.length) (ha : (s.getD pos 0).toNat < 128) : dec s pos = (((s.getD pos 0).toNat : Int), 1) := by
  have e : s.getD pos 0 = s[pos] := by simp [List.getD_eq_getElem?_getD, h]
  rw [e] at ha ⊢
  unfold dec
  have hg : (⟨s.toArray⟩ : ByteArray)[pos]'h = s[pos] := rfl
  have := decode_ascii ⟨s.toArray⟩ pos h (by rw [hg]; exact ha)
  rw [this, hg]
theorem sign_low {b : UInt8} (h : isSign b = true) : b.toNat < 128 := by
  simp only [isSign, Bool.or_eq_true, beq_iff_eq] at h
  rcases h with (rfl | rfl) | rfl <;> decide
theorem sign_at {w : List UInt8} (h : w.all isSign = true) {i : Nat} (hi : i < w.length) : isSign (w.getD i 0) = true := by
  have e : w.getD i 0 = w[i] := by simp [List.getD_eq_getElem?_getD, hi]
  rw [e]; exact List.all_eq_true.1 h _ (List.getElem_mem hi)

def innerB (w : List UInt8) (i : Nat) : Int → Nat → List (Int × Int)
  | _, 0 => []
  | tq, d + 1 => (if canB w ((i : Int), tq) then [((i : Int), tq)] else []) ++ innerB w i (tq + 1) d
theorem innerB_eq (w : List UInt8) (i : Nat) : innerB w i ((i : Int) - 2) 5 = ([(i : Int) - 2, i - 1, i, i + 1, i + 2].filter fun t => canB w ((i : Int), t)).map fun t => ((i : Int), t) := by
  simp only [innerB]
  rw [show (i : Int) - 2 + 1 = i - 1 by omega, show (i : Int) - 1 + 1 = i by omega, show (i : Int) + 1 + 1 = i + 2 by omega]
  simp only [List.filter_cons, List.filter_nil]
  cases canB w ((i : Int), (i : Int) - 2) <;> cases canB w ((i : Int), (i : Int) - 1) <;> cases canB w ((i : Int), (i : Int)) <;> cases canB w ((i : Int), (i : Int) + 1) <;> cases canB w ((i : Int), (i : Int) + 2) <;> rfl

theorem lp_liMoves1 (w : List UInt8) (i : Nat) (hi : i < w.length) (hw : w.length < 2 ^ 30) (tf ff : Bool) (b : AH) (c : Nat) {R : X → Env → AH → Prop} : ∀ (d : Nat) (tq : Int) (o : AV) (l : List (Int × Int)) (h : AH), tq + d = i + 3 → OwL 2 encM b h o l → b.length ≤ h.length → l.length + d ≤ 2 ^ 33 →
    (∀ o' h', OwL 2 encM b h' o' (l ++ innerB w i tq d) → Ag b.length h h' → R (.exit 2) [(0, .str w), (1, .bool tf), (2, .bool ff), (7, o'), (12, .iter c)] h') →
    d ≤ 5 → Cx (.loop lp119_1) [(0, .str w), (1, .bool tf), (2, .bool ff), (7, o), (8, .int .i64 i), (9, .int .i64 tq), (12, .iter c)] h R k k
  | 0, tq, o, l, h, hd, ho, hb, hl, hR, _ => by
    rw [w_loopb (c := lp119_1) (d := lb119_1) rfl]; unfold lb119_1
    simp (maxSteps := 1000000) (disch := first | omega | rfl | (simp only [zL, two63, room] <;> omega) | fail) only [↓reduceIte, ↓zP, zW, WOp, evOp, evBin, binI, binSh, binS, evNil, keyIs, keyEq, mkv, AV.cells, AV.sc, optv, bnd, env, put, Env.get, Env.set, Env.del, Env.dels, Env.init, res1, resL, resV, fillP, splice, newRow, Nat.reduceEqDiff, Nat.reduceLT, Nat.reduceLeDiff, Nat.reduceAdd, Nat.reduceMul, Nat.reduceSub, Nat.reduceBEq, reduceCtorEq, ↓zR, zQ, Tr, StA, StT]
    exact hR o h (by simpa [innerB] using ho) (Ag.refl _ _)
  | d + 1, tq, o, l, h, hd, ho, hb, hl, hR, h5 => by
    have ih := lp_liMoves1 w i hi hw tf ff b c (R := R) d (tq + 1)
    rw [w_loopb (c := lp119_1) (d := lb119_1) rfl]; unfold lb119_1
    simp (maxSteps := 1000000) (disch := first | omega | rfl | (simp only [zL, two63, room] <;> omega) | fail) only [↓reduceIte, ↓zP, zW, WOp, evOp, evBin, binI, binSh, binS, evNil, keyIs, keyEq, mkv, AV.cells, AV.sc, optv, bnd, env, put, Env.get, Env.set, Env.del, Env.dels, Env.init, res1, resL, resV, fillP, splice, newRow, Nat.reduceEqDiff, Nat.reduceLT, Nat.reduceLeDiff, Nat.reduceAdd, Nat.reduceMul, Nat.reduceSub, Nat.reduceBEq, reduceCtorEq, ↓zR, zQ, Tr, StA, StT]
    refine c_liCan w i tq hw ?_
    intro h2 hp2
    have hp1 := (Pre.push h (AO.row [.int .i64 i, .int .i64 tq] 0 0 false)).trans hp2
    have q := rdRow_pre hp2 (show rdRow (h ++ [AO.row [.int .i64 i, .int .i64 tq] 0 0 false]) h.length 0 0 2 = some [.int .i64 i, .int .i64 tq] by simp (maxSteps := 1000000) (disch := first | omega | rfl | (simp only [zL, two63, room] <;> omega) | fail) only [↓reduceIte, ↓zP, zW, WOp, evOp, evBin, binI, binSh, binS, evNil, keyIs, keyEq, mkv, AV.cells, AV.sc, optv, bnd, env, put, Env.get, Env.set, Env.del, Env.dels, Env.init, res1, resL, resV, fillP, splice, newRow, Nat.reduceEqDiff, Nat.reduceLT, Nat.reduceLeDiff, Nat.reduceAdd, Nat.reduceMul, Nat.reduceSub, Nat.reduceBEq, reduceCtorEq, ↓zR, zQ, Tr, StA, StT])
    have q' := rd_lt q
    have e1 : (i : Int) + -2 = i - 2 := by omega
    cases e : canB w ((i : Int), tq)
    · simp (maxSteps := 1000000) (disch := first | omega | rfl | (simp only [zL, two63, room] <;> omega) | fail) only [↓reduceIte, ↓zP, zW, WOp, evOp, evBin, binI, binSh, binS, evNil, keyIs, keyEq, mkv, AV.cells, AV.sc, optv, bnd, env, put, Env.get, Env.set, Env.del, Env.dels, Env.init, res1, resL, resV, fillP, splice, newRow, Nat.reduceEqDiff, Nat.reduceLT, Nat.reduceLeDiff, Nat.reduceAdd, Nat.reduceMul, Nat.reduceSub, Nat.reduceBEq, reduceCtorEq, ↓zR, zQ, Tr, StA, StT, e]
      rw [w_loopn (c := lp119_1) rfl]
      simp (maxSteps := 1000000) (disch := first | omega | rfl | (simp only [zL, two63, room] <;> omega) | fail) only [↓reduceIte, ↓zP, zW, WOp, evOp, evBin, binI, binSh, binS, evNil, keyIs, keyEq, mkv, AV.cells, AV.sc, optv, bnd, env, put, Env.get, Env.set, Env.del, Env.dels, Env.init, res1, resL, resV, fillP, splice, newRow, Nat.reduceEqDiff, Nat.reduceLT, Nat.reduceLeDiff, Nat.reduceAdd, Nat.reduceMul, Nat.reduceSub, Nat.reduceBEq, reduceCtorEq, ↓zR, zQ, Tr, StA, StT]
      refine ih o l h2 (by omega) (ho.pre hp1) (Nat.le_trans hb hp1.1) (by omega) ?_ (by omega)
      intro o' h' ho' ha
      exact hR o' h' (by simpa [innerB, e] using ho') ((hp1.ag hb).trans ha)
    · obtain ⟨o2, h3, ha, ho3, hag⟩ := apA hlM scM ((ho.pre hp1).pre (Pre.push h2 (AO.row [.int .i64 i, .int .i64 tq] 0 0 false))) (Nat.le_trans hb (Nat.le_trans hp1.1 (Pre.push h2 _).1)) ((i : Int), tq) (by omega)
      simp (maxSteps := 1000000) (disch := first | omega | rfl | (simp only [zL, two63, room] <;> omega) | fail) only [↓reduceIte, ↓zP, zW, WOp, evOp, evBin, binI, binSh, binS, evNil, keyIs, keyEq, mkv, AV.cells, AV.sc, optv, bnd, env, put, Env.get, Env.set, Env.del, Env.dels, Env.init, res1, resL, resV, fillP, splice, newRow, Nat.reduceEqDiff, Nat.reduceLT, Nat.reduceLeDiff, Nat.reduceAdd, Nat.reduceMul, Nat.reduceSub, Nat.reduceBEq, reduceCtorEq, ↓zR, zQ, Tr, StA, StT, e, q, ha]
      rw [w_loopn (c := lp119_1) rfl]
      simp (maxSteps := 1000000) (disch := first | omega | rfl | (simp only [zL, two63, room] <;> omega) | fail) only [↓reduceIte, ↓zP, zW, WOp, evOp, evBin, binI, binSh, binS, evNil, keyIs, keyEq, mkv, AV.cells, AV.sc, optv, bnd, env, put, Env.get, Env.set, Env.del, Env.dels, Env.init, res1, resL, resV, fillP, splice, newRow, Nat.reduceEqDiff, Nat.reduceLT, Nat.reduceLeDiff, Nat.reduceAdd, Nat.reduceMul, Nat.reduceSub, Nat.reduceBEq, reduceCtorEq, ↓zR, zQ, Tr, StA, StT]
      have hag2 : Ag b.length h h3 := (hp1.ag hb).trans (((Pre.push h2 (AO.row [.int .i64 i, .int .i64 tq] 0 0 false)).ag (Nat.le_trans hb hp1.1)).trans hag)
      refine ih o2 _ h3 (by omega) ho3 (Nat.le_trans hb hag2.1) (by simp; omega) ?_ (by omega)
      intro o' h' ho' ha'
      exact hR o' h' (by simpa [innerB, e] using ho') (hag2.trans ha')

theorem lp_liMoves (w : List UInt8) (hg : w.all isSign = true) (hw : w.length < 2 ^ 30) (tf ff : Bool) (b : AH) (c : Nat) (hcb : c < b.length) {R : X → Env → AH → Prop} : ∀ (d i : Nat) (o : AV) (l : List (Int × Int)) (h : AH), i + d = w.length → OwL 2 encM b h o l → b.length ≤ h.length → h[c]? = some (.iter w i) → l.length ≤ 5 * i →
    (∀ o' h', OwL 2 encM b h' o' (l ++ (List.range' i d).flatMap (liMoveB w tf ff)) → Ag c h h' → b.length ≤ h'.length → R (.exit 0) [(7, o')] h') →
    Cx (.loop lp119_0) [(0, .str w), (1, .bool tf), (2, .bool ff), (7, o), (12, .iter c)] h R k k
  | 0, i, o, l, h, hd, ho, hb, hc, hl, hR => by
    rw [w_loopb (c := lp119_0) (d := lb119_0) rfl]; unfold lb119_0
    have hlt : ¬ i < w.length := by omega
    simp (maxSteps := 1000000) (disch := first | omega | rfl | (simp only [zL, two63, room] <;> omega) | fail) only [↓reduceIte, ↓zP, zW, WOp, evOp, evBin, binI, binSh, binS, evNil, keyIs, keyEq, mkv, AV.cells, AV.sc, optv, bnd, env, put, Env.get, Env.set, Env.del, Env.dels, Env.init, res1, resL, resV, fillP, splice, newRow, Nat.reduceEqDiff, Nat.reduceLT, Nat.reduceLeDiff, Nat.reduceAdd, Nat.reduceMul, Nat.reduceSub, Nat.reduceBEq, reduceCtorEq, ↓zR, zQ, Tr, StA, StT, hc, hlt]
    exact hR o h (by simpa using ho) (Ag.refl _ _) hb
  | d + 1, i, o, l, h, hd, ho, hb, hc, hl, hR => by
    have ih := lp_liMoves w hg hw tf ff b c hcb (R := R) d (i + 1)
    have hlt : i < w.length := by omega
    have hdec := dec_low hlt (sign_low (sign_at hg hlt))
    have hd1 : (dec w i).1 = ((w.getD i 0).toNat : Int) := by rw [hdec]
    have hd2 : (dec w i).2 = 1 := by rw [hdec]
    have hlen : (liMoveB w tf ff i).length ≤ 5 := by
      unfold liMoveB
      split
      · simp
      · rw [List.length_map]; exact Nat.le_trans (List.length_filter_le _ _) (by simp)
    have hc' : (h.set c (.iter w (i + 1)))[c]? = some (.iter w (i + 1)) := by rw [List.getElem?_set, if_pos rfl, if_pos (by omega)]
    have hb' : b.length ≤ (h.set c (.iter w (i + 1))).length := by simpa using hb
    rw [w_loopb (c := lp119_0) (d := lb119_0) rfl]; unfold lb119_0
    have hR' : ∀ o2 h2, OwL 2 encM b h2 o2 (l ++ liMoveB w tf ff i) → Ag b.length (h.set c (.iter w (i + 1))) h2 → Cx (.loop lp119_0) [(0, .str w), (1, .bool tf), (2, .bool ff), (7, o2), (12, .iter c)] h2 R k k := by
      intro o2 h2 ho2 hag
      refine ih o2 _ h2 (by omega) ho2 (Nat.le_trans hb' hag.1) (by rw [hag.2 c hcb, hc']) (by simp; omega) ?_
      intro o' h' ho' hag' hb2
      refine hR o' h' ?_ ?_ hb2
      · rw [List.range'_succ, List.flatMap_cons, ← List.append_assoc]; exact ho'
      · exact ((Ag.refl c h).set (Nat.le_refl _)).trans ((hag.mono (by omega)).trans hag')
    have key : Cx (.loop lp119_1) [(0, .str w), (1, .bool tf), (2, .bool ff), (7, o), (8, .int .i64 i), (9, .int .i64 ((i : Int) - 2)), (12, .iter c)] (h.set c (.iter w (i + 1))) (fun x e' h' => x = .exit 2 ∧ ∃ o', e' = [(0, .str w), (1, .bool tf), (2, .bool ff), (7, o'), (12, .iter c)] ∧ OwL 2 encM b h' o' (l ++ innerB w i ((i : Int) - 2) 5) ∧ Ag b.length (h.set c (.iter w (i + 1))) h') k k := by
      refine lp_liMoves1 w i hlt hw tf ff b c 5 ((i : Int) - 2) o l _ (by omega) (own_set ho hcb) hb' (by omega) ?_ (by omega)
      intro o' h' ho' hag
      exact ⟨rfl, o', rfl, ho', hag⟩
    have skip : (((w.getD i 0 == 84) && !tf) || ((w.getD i 0 == 70) && !ff)) = true → Cx (.loop lp119_0) [(0, .str w), (1, .bool tf), (2, .bool ff), (7, o), (12, .iter c)] (h.set c (.iter w (i + 1))) R k k := by
      intro hs
      refine hR' o _ ?_ (Ag.refl _ _)
      unfold liMoveB
      rw [if_pos hs, List.append_nil]
      exact own_set ho hcb
    have go : (((w.getD i 0 == 84) && !tf) || ((w.getD i 0 == 70) && !ff)) = false → ∀ R2 : X → Env → AH → Prop, (∀ o2 h2, OwL 2 encM b h2 o2 (l ++ liMoveB w tf ff i) → Ag b.length (h.set c (.iter w (i + 1))) h2 → R2 (.exit 2) [(0, .str w), (1, .bool tf), (2, .bool ff), (7, o2), (12, .iter c)] h2) →
        Cx (.loop lp119_1) [(0, .str w), (1, .bool tf), (2, .bool ff), (7, o), (8, .int .i64 i), (9, .int .i64 ((i : Int) - 2)), (12, .iter c)] (h.set c (.iter w (i + 1))) R2 k k := by
      intro hs R2 h2
      refine Cx_mono key ?_
      rintro x e' h' ⟨rfl, o', rfl, ho', hag⟩
      refine h2 o' h' ?_ hag
      unfold liMoveB
      rw [if_neg (by rw [hs]; simp), ← innerB_eq]
      exact ho'
    cases e1 : (w.getD i 0 == 84) <;> cases e2 : (w.getD i 0 == 70) <;> cases tf <;> cases ff <;> simp only [e1, e2] at skip go <;> simp (maxSteps := 1000000) (disch := first | omega | rfl | (simp only [zL, two63, room] <;> omega) | fail) only [↓reduceIte, ↓zP, zW, WOp, evOp, evBin, binI, binSh, binS, evNil, keyIs, keyEq, mkv, AV.cells, AV.sc, optv, bnd, env, put, Env.get, Env.set, Env.del, Env.dels, Env.init, res1, resL, resV, fillP, splice, newRow, Nat.reduceEqDiff, Nat.reduceLT, Nat.reduceLeDiff, Nat.reduceAdd, Nat.reduceMul, Nat.reduceSub, Nat.reduceBEq, reduceCtorEq, ↓zR, zQ, Tr, StA, StT, hc, hlt, hd1, hd2, e1, e2]
    all_goals first
      | exact skip rfl
      | (refine go rfl _ ?_
         intro o2 h2 ho2 hag
         simp (maxSteps := 1000000) (disch := first | omega | rfl | (simp only [zL, two63, room] <;> omega) | fail) only [↓reduceIte, ↓zP, zW, WOp, evOp, evBin, binI, binSh, binS, evNil, keyIs, keyEq, mkv, AV.cells, AV.sc, optv, bnd, env, put, Env.get, Env.set, Env.del, Env.dels, Env.init, res1, resL, resV, fillP, splice, newRow, Nat.reduceEqDiff, Nat.reduceLT, Nat.reduceLeDiff, Nat.reduceAdd, Nat.reduceMul, Nat.reduceSub, Nat.reduceBEq, reduceCtorEq, ↓zR, zQ, Tr, StA, StT]
         exact hR' o2 h2 ho2 hag)
theorem c_liMoves (w : List UInt8) (hg : w.all isSign = true) (hw : w.length < 2 ^ 30) (tf ff : Bool) {h : AH} {post : AV → AH → Prop} (hp : ∀ v h', OwL 2 encM h h' v (liMovesB w tf ff) → Pre h h' → post v h') : S 119 [.str w, .bool tf, .bool ff] h post k := by
  refine S_of rfl T119 ?_; unfold fi119
  simp (maxSteps := 1000000) (disch := first | omega | rfl | (simp only [zL, two63, room] <;> omega) | fail) only [↓reduceIte, ↓zP, zW, WOp, evOp, evBin, binI, binSh, binS, evNil, keyIs, keyEq, mkv, AV.cells, AV.sc, optv, bnd, env, put, Env.get, Env.set, Env.del, Env.dels, Env.init, res1, resL, resV, fillP, splice, newRow, Nat.reduceEqDiff, Nat.reduceLT, Nat.reduceLeDiff, Nat.reduceAdd, Nat.reduceMul, Nat.reduceSub, Nat.reduceBEq, reduceCtorEq, ↓zR, zQ, Tr, StA, StT]
  refine lp_liMoves w hg hw tf ff (h ++ [.iter w 0]) h.length (by simp) w.length 0 .nilS [] _ (by omega) OwL.nil (Nat.le_refl _) (by simp) (by simp) ?_
  intro o' h' ho' hag hb
  simp (maxSteps := 1000000) (disch := first | omega | rfl | (simp only [zL, two63, room] <;> omega) | fail) only [↓reduceIte, ↓zP, zW, WOp, evOp, evBin, binI, binSh, binS, evNil, keyIs, keyEq, mkv, AV.cells, AV.sc, optv, bnd, env, put, Env.get, Env.set, Env.del, Env.dels, Env.init, res1, resL, resV, fillP, splice, newRow, Nat.reduceEqDiff, Nat.reduceLT, Nat.reduceLeDiff, Nat.reduceAdd, Nat.reduceMul, Nat.reduceSub, Nat.reduceBEq, reduceCtorEq, ↓zR, zQ, Tr, StA, StT]
  refine hp o' h' ?_ ?_
  · rw [List.nil_append, ← List.range_eq_range'] at ho'
    exact own_base ho' (by simp)
  · exact (Pre.push h (.iter w 0)).trans' hag
end Go.Proofs.YtbpenpikaehloaaDoor.Ab

/- PLAIN: sums of lines, who wins them. -/
namespace Go.Proofs.YtbpenpikaehloaaDoor.Ab

/-- All sums behind a move in one of the lines of rest. -/
def nextZ (kd : List UInt8) : List (List UInt8) → List (List UInt8) → List (List (List UInt8))
  | _, [] => []
  | pre, w :: rest => (nextB w kd).map (fun v => pre ++ v :: rest) ++ nextZ kd (pre ++ [w]) rest
def muL (ls : List (List UInt8)) : Nat := (ls.map mu).sum
theorem nextZ_mu {kd : List UInt8} : ∀ {rest pre x : List (List UInt8)}, x ∈ nextZ kd pre rest → muL x < muL (pre ++ rest)
  | [], _, _, h => by simp [nextZ] at h
  | w :: rest, pre, x, h => by
    simp only [nextZ, List.mem_append, List.mem_map] at h
    rcases h with ⟨v, hv, rfl⟩ | h
    · have := nextB_mu hv
      simp only [muL, List.map_append, List.map_cons, List.sum_append, List.sum_cons]
      omega
    · have := nextZ_mu h
      simpa using this
def lsNx (s : List (List UInt8) × Bool) : List (List (List UInt8) × Bool) := (nextZ (kindS s.2) [] s.1).map fun ls => (ls, !s.2)
def lsSt (_ : List (List UInt8) × Bool) (l : List Bool) : Bool := l.any fun b => !b
def winL (ls : List (List UInt8)) (t : Bool) : Bool := rc lsNx lsSt (fun s => muL s.1) (ls, t)
theorem winL_eq (ls : List (List UInt8)) (t : Bool) : winL ls t = (nextZ (kindS t) [] ls).any fun x => !winL x (!t) := by
  unfold winL
  have hm : ∀ s : List (List UInt8) × Bool, ∀ s' ∈ lsNx s, muL s'.1 < muL s.1 := by
    intro s s' hs
    simp only [lsNx, List.mem_map] at hs
    obtain ⟨v, hv, rfl⟩ := hs
    simpa using nextZ_mu hv
  rw [rc_eq lsNx lsSt (mu := fun s => muL s.1) hm (ls, t)]
  simp only [lsSt, lsNx, List.map_map, List.any_map, Function.comp_def]
theorem muL_one (w : List UInt8) : muL [w] = mu w := by simp [muL]
theorem any_congr' {α : Type} {p q : α → Bool} {l : List α} (h : ∀ x ∈ l, p x = q x) : l.any p = l.any q := by
  induction l with
  | nil => rfl
  | cons a l ih => rw [List.any_cons, List.any_cons, h a (by simp), ih fun x hx => h x (by simp [hx])]
theorem winL_one : ∀ (n : Nat) (w : List UInt8) (t : Bool), mu w < n → winL [w] t = winB w t
  | 0, _, _, h => by omega
  | n + 1, w, t, h => by
    rw [winL_eq, winB_eq]
    simp only [nextZ, List.append_nil, List.nil_append, List.any_map, nextB, Function.comp_def]
    apply any_congr'
    intro m hm
    obtain ⟨i, t', rfl, hmv⟩ := movesB_mv hm
    have := mu_made hmv
    rw [winL_one n _ _ (by simp; omega)]

/-! ### Keys of sums -/
def gaTail (ls : List (List UInt8)) : List UInt8 := ls.flatMap fun w => 47 :: w
def gaK (s : List (List UInt8) × Bool) : List UInt8 := (if s.2 then 116 else 102) :: gaTail s.1
def signs (w : List UInt8) : Prop := w.all isSign = true
theorem sign_ne {b : UInt8} (h : isSign b = true) : b ≠ 47 := by rintro rfl; cases h
theorem split_eq : ∀ {w w' r r' : List UInt8}, signs w → signs w' → (r = [] ∨ ∃ x, r = 47 :: x) → (r' = [] ∨ ∃ x, r' = 47 :: x) → w ++ r = w' ++ r' → w = w' ∧ r = r'
  | [], [], _, _, _, _, _, _, h => ⟨rfl, h⟩
  | [], b :: w', r, r', _, h2, h3, _, h => by
    simp only [signs, List.all_cons, Bool.and_eq_true] at h2
    rcases h3 with rfl | ⟨x, rfl⟩
    · simp at h
    · simp at h; exact absurd h.1.symm (sign_ne h2.1)
  | b :: w, [], r, r', h1, _, _, h4, h => by
    simp only [signs, List.all_cons, Bool.and_eq_true] at h1
    rcases h4 with rfl | ⟨x, rfl⟩
    · simp at h
    · simp at h; exact absurd h.1 (sign_ne h1.1)
  | b :: w, b' :: w', r, r', h1, h2, h3, h4, h => by
    simp only [signs, List.all_cons, Bool.and_eq_true] at h1 h2
    simp only [List.cons_append, List.cons.injEq] at h
    obtain ⟨h5, h6⟩ := split_eq (w := w) (w' := w') h1.2 h2.2 h3 h4 h.2
    exact ⟨by rw [h.1, h5], h6⟩
theorem gaTail_hd : ∀ ls : List (List UInt8), gaTail ls = [] ∨ ∃ x, gaTail ls = 47 :: x
  | [] => .inl rfl
  | w :: ls => .inr ⟨w ++ gaTail ls, by simp [gaTail]⟩
theorem gaTail_inj : ∀ {a b : List (List UInt8)}, (∀ w ∈ a, signs w) → (∀ w ∈ b, signs w) → gaTail a = gaTail b → a = b
  | [], [], _, _, _ => rfl
  | [], w :: b, _, _, h => by simp [gaTail] at h
  | w :: a, [], _, _, h => by simp [gaTail] at h
  | w :: a, w' :: b, h1, h2, h => by
    have e : ∀ (w : List UInt8) (l : List (List UInt8)), gaTail (w :: l) = 47 :: (w ++ gaTail l) := fun w l => by simp [gaTail]
    rw [e, e, List.cons.injEq] at h
    obtain ⟨h3, h4⟩ := split_eq (h1 w (by simp)) (h2 w' (by simp)) (gaTail_hd a) (gaTail_hd b) h.2
    rw [h3, gaTail_inj (fun x hx => h1 x (by simp [hx])) (fun x hx => h2 x (by simp [hx])) h4]
theorem gaK_inj {s s' : List (List UInt8) × Bool} (h1 : ∀ w ∈ s.1, signs w) (h2 : ∀ w ∈ s'.1, signs w) (h : gaK s = gaK s') : s = s' := by
  obtain ⟨a, t⟩ := s
  obtain ⟨b, u⟩ := s'
  simp only [gaK, List.cons.injEq] at h
  have := gaTail_inj h1 h2 h.2
  subst this
  cases t <;> cases u <;> simp at h ⊢

/-! ### How many texts there are -/
def allStr (A : List UInt8) : Nat → List (List UInt8)
  | 0 => [[]]
  | n + 1 => A.flatMap fun b => (allStr A n).map (b :: ·)
theorem allStr_length (A : List UInt8) : ∀ n, (allStr A n).length = A.length ^ n
  | 0 => rfl
  | n + 1 => by
    simp only [allStr]
    rw [List.length_flatMap]
    simp only [List.length_map, allStr_length A n]
    rw [List.map_const', List.sum_replicate_nat, Nat.pow_succ, Nat.mul_comm]
theorem allStr_mem {A : List UInt8} : ∀ {x : List UInt8}, (∀ b ∈ x, b ∈ A) → x ∈ allStr A x.length
  | [], _ => by simp [allStr]
  | b :: x, h => by
    simp only [allStr, List.length_cons, List.mem_flatMap, List.mem_map]
    exact ⟨b, h b (by simp), x, allStr_mem fun c hc => h c (by simp [hc]), rfl⟩
theorem nodup_bound {A : List UInt8} {n : Nat} {K : List (List UInt8)} (hn : K.Nodup) (h : ∀ x ∈ K, x.length = n ∧ ∀ b ∈ x, b ∈ A) : K.length ≤ A.length ^ n := by
  rw [← allStr_length A n]
  apply List.Nodup.length_le_of_subset hn
  intro x hx
  obtain ⟨h1, h2⟩ := h x hx
  rw [← h1]
  exact allStr_mem h2
end Go.Proofs.YtbpenpikaehloaaDoor.Ab

/- GAMES of the reference: small functions. -/
namespace Go.Proofs.YtbpenpikaehloaaDoor.Ab
open Go
set_option maxRecDepth 100000
set_option maxHeartbeats 4000000

theorem put_put (w : List UInt8) (i t : Nat) (hi : i < w.length) (ht : t < w.length) (hne : i ≠ t) : (w.take i ++ [46] ++ w.drop (i + 1)).take t ++ [w.getD i 0] ++ (w.take i ++ [46] ++ w.drop (i + 1)).drop (t + 1) = madeB w i t := by
  have e1 : w.take i ++ [46] ++ w.drop (i + 1) = w.set i 46 := by
    rw [List.set_eq_take_append_cons_drop, if_pos hi]; simp
  rw [e1]
  have e2 : ∀ (l : List UInt8) (x : UInt8), t < l.length → l.take t ++ [x] ++ l.drop (t + 1) = l.set t x := by
    intro l x hl
    rw [List.set_eq_take_append_cons_drop, if_pos hl]; simp
  rw [e2 _ _ (by simpa using ht)]
  unfold madeB
  exact List.set_comm _ _ hne
theorem c_liMake (w : List UInt8) (i t : Nat) (hi : i < w.length) (ht : t < w.length) (hne : i ≠ t) (hw : w.length < 2 ^ 30) {h : AH} {post : AV → AH → Prop} (hp : ∀ h', Pre h h' → post (.str (madeB w i t)) h') : S 66 [.str w, mvV i t] h post k := by
  refine S_of rfl T66 ?_; unfold fi66
  have e1 : ((i : Int) + 1).toNat = i + 1 := by omega
  have e2 : (w.drop i).take (i + 1 - i) = [w.getD i 0] := sub_one w i hi
  simp (maxSteps := 1000000) (disch := first | omega | rfl | (simp only [zL, two63, room] <;> omega) | fail) only [↓reduceIte, ↓zP, zW, WOp, evOp, evBin, binI, binSh, binS, evNil, keyIs, keyEq, mkv, AV.cells, AV.sc, optv, bnd, env, put, Env.get, Env.set, Env.del, Env.dels, Env.init, res1, resL, resV, fillP, splice, newRow, Nat.reduceEqDiff, Nat.reduceLT, Nat.reduceLeDiff, Nat.reduceAdd, Nat.reduceMul, Nat.reduceSub, Nat.reduceBEq, reduceCtorEq, ↓zR, zQ, Tr, StA, StT, e1, e2]
  refine w_drw ?_
  have l1 : (w.take i ++ [46] ++ w.drop (i + 1)).length = w.length := by simp; omega
  simp (maxSteps := 1000000) (disch := first | omega | rfl | (simp only [zL, two63, room] <;> omega) | fail) only [↓reduceIte, ↓zP, zW, WOp, evOp, evBin, binI, binSh, binS, evNil, keyIs, keyEq, mkv, AV.cells, AV.sc, optv, bnd, env, put, Env.get, Env.set, Env.del, Env.dels, Env.init, res1, resL, resV, fillP, splice, newRow, Nat.reduceEqDiff, Nat.reduceLT, Nat.reduceLeDiff, Nat.reduceAdd, Nat.reduceMul, Nat.reduceSub, Nat.reduceBEq, reduceCtorEq, ↓zR, zQ, Tr, StA, StT, e1, e2]
  refine c_liPut w i [46] hi hw (by simp) ?_
  simp (maxSteps := 1000000) (disch := first | omega | rfl | (simp only [zL, two63, room] <;> omega) | fail) only [↓reduceIte, ↓zP, zW, WOp, evOp, evBin, binI, binSh, binS, evNil, keyIs, keyEq, mkv, AV.cells, AV.sc, optv, bnd, env, put, Env.get, Env.set, Env.del, Env.dels, Env.init, res1, resL, resV, fillP, splice, newRow, Nat.reduceEqDiff, Nat.reduceLT, Nat.reduceLeDiff, Nat.reduceAdd, Nat.reduceMul, Nat.reduceSub, Nat.reduceBEq, reduceCtorEq, ↓zR, zQ, Tr, StA, StT]
  refine c_liPut _ t _ (by rw [l1]; exact ht) (by rw [l1]; exact hw) (by simp) ?_
  rw [put_put w i t hi ht hne]
  simp (maxSteps := 1000000) (disch := first | omega | rfl | (simp only [zL, two63, room] <;> omega) | fail) only [↓reduceIte, ↓zP, zW, WOp, evOp, evBin, binI, binSh, binS, evNil, keyIs, keyEq, mkv, AV.cells, AV.sc, optv, bnd, env, put, Env.get, Env.set, Env.del, Env.dels, Env.init, res1, resL, resV, fillP, splice, newRow, Nat.reduceEqDiff, Nat.reduceLT, Nat.reduceLeDiff, Nat.reduceAdd, Nat.reduceMul, Nat.reduceSub, Nat.reduceBEq, reduceCtorEq, ↓zR, zQ, Tr, StA, StT]
  exact hp _ (Pre.push _ _)

theorem lp_gaKey {R : X → Env → AH → Prop} {v : AV} {L : List (List UInt8)} {h : AH} (hs : Slc 1 encS h v L) (hL : L.length < 2 ^ 30) : ∀ (rest pre : List (List UInt8)) (o : List UInt8), L = pre ++ rest → o.length + (gaTail rest).length < 2 ^ 50 →
    R (.exit 0) [(5, .str (o ++ gaTail rest))] h → Cx (.loop lp203_0) [(5, .str o), (9, v), (10, .int .i64 L.length), (11, .int .i64 pre.length)] h R k k
  | [], pre, o, hpre, ho, hR => by
    subst hpre
    rw [w_loopb (c := lp203_0) (d := lb203_0) rfl]; unfold lb203_0
    simp only [List.append_nil]
    simp (maxSteps := 1000000) (disch := first | omega | rfl | (simp only [zL, two63, room] <;> omega) | fail) only [↓reduceIte, ↓zP, zW, WOp, evOp, evBin, binI, binSh, binS, evNil, keyIs, keyEq, mkv, AV.cells, AV.sc, optv, bnd, env, put, Env.get, Env.set, Env.del, Env.dels, Env.init, res1, resL, resV, fillP, splice, newRow, Nat.reduceEqDiff, Nat.reduceLT, Nat.reduceLeDiff, Nat.reduceAdd, Nat.reduceMul, Nat.reduceSub, Nat.reduceBEq, reduceCtorEq, ↓zR, zQ, Tr, StA, StT]
    simpa [gaTail] using hR
  | x :: rest, pre, o, hpre, ho, hR => by
    have ih := lp_gaKey (R := R) hs hL rest (pre ++ [x])
    subst hpre
    obtain ⟨c, kk, off, rfl, hr⟩ := hs.at hlS
    have hlen : (pre ++ x :: rest).length = pre.length + 1 + rest.length := by simp; omega
    have e : gaTail (x :: rest) = 47 :: (x ++ gaTail rest) := by simp [gaTail]
    rw [e] at ho hR
    simp only [List.length_cons, List.length_append] at ho
    rw [hlen] at ih hL ⊢
    rw [w_loopb (c := lp203_0) (d := lb203_0) rfl]; unfold lb203_0
    have hlt : (pre.length : Int) < ((pre.length + 1 + rest.length : Nat) : Int) := by omega
    have hw : (pre.length : Int) + 1 = ((pre ++ [x]).length : Int) := by simp
    simp (maxSteps := 1000000) (disch := first | omega | rfl | (simp only [zL, two63, room] <;> omega) | fail) only [↓reduceIte, ↓zP, zW, WOp, evOp, evBin, binI, binSh, binS, evNil, keyIs, keyEq, mkv, AV.cells, AV.sc, optv, bnd, env, put, Env.get, Env.set, Env.del, Env.dels, Env.init, res1, resL, resV, fillP, splice, newRow, Nat.reduceEqDiff, Nat.reduceLT, Nat.reduceLeDiff, Nat.reduceAdd, Nat.reduceMul, Nat.reduceSub, Nat.reduceBEq, reduceCtorEq, ↓zR, zQ, Tr, StA, StT, hlt, hr, hw]
    rw [w_loopn (c := lp203_0) rfl]
    simp (maxSteps := 1000000) (disch := first | omega | rfl | (simp only [zL, two63, room] <;> omega) | fail) only [↓reduceIte, ↓zP, zW, WOp, evOp, evBin, binI, binSh, binS, evNil, keyIs, keyEq, mkv, AV.cells, AV.sc, optv, bnd, env, put, Env.get, Env.set, Env.del, Env.dels, Env.init, res1, resL, resV, fillP, splice, newRow, Nat.reduceEqDiff, Nat.reduceLT, Nat.reduceLeDiff, Nat.reduceAdd, Nat.reduceMul, Nat.reduceSub, Nat.reduceBEq, reduceCtorEq, ↓zR, zQ, Tr, StA, StT]
    refine ih (o ++ 47 :: x) (by simp) (by simp only [List.length_append, List.length_cons]; omega) ?_
    simpa using hR
theorem c_gaKey {v : AV} {L : List (List UInt8)} (t : Bool) {h : AH} (hs : Slc 1 encS h v L) (hL : L.length < 2 ^ 30) (ht : (gaTail L).length < 2 ^ 40) {post : AV → AH → Prop} (hp : post (.str (gaK (L, t))) h) : S 203 [v, .bool t] h post k := by
  refine S_of rfl T203 ?_; unfold fi203
  have hv := fun g => Slc.lenV (hs) (g := g) (ρ := fun _ => _) (x := .t 0) rfl; simp only [evOp] at hv
  cases t
  · simp (maxSteps := 1000000) (disch := first | omega | rfl | (simp only [zL, two63, room] <;> omega) | fail) only [↓reduceIte, ↓zP, zW, WOp, evOp, evBin, binI, binSh, binS, evNil, keyIs, keyEq, mkv, AV.cells, AV.sc, optv, bnd, env, put, Env.get, Env.set, Env.del, Env.dels, Env.init, res1, resL, resV, fillP, splice, newRow, Nat.reduceEqDiff, Nat.reduceLT, Nat.reduceLeDiff, Nat.reduceAdd, Nat.reduceMul, Nat.reduceSub, Nat.reduceBEq, reduceCtorEq, ↓zR, zQ, Tr, StA, StT, hv]
    refine lp_gaKey hs hL L [] _ rfl (by simp; omega) ?_
    simp (maxSteps := 1000000) (disch := first | omega | rfl | (simp only [zL, two63, room] <;> omega) | fail) only [↓reduceIte, ↓zP, zW, WOp, evOp, evBin, binI, binSh, binS, evNil, keyIs, keyEq, mkv, AV.cells, AV.sc, optv, bnd, env, put, Env.get, Env.set, Env.del, Env.dels, Env.init, res1, resL, resV, fillP, splice, newRow, Nat.reduceEqDiff, Nat.reduceLT, Nat.reduceLeDiff, Nat.reduceAdd, Nat.reduceMul, Nat.reduceSub, Nat.reduceBEq, reduceCtorEq, ↓zR, zQ, Tr, StA, StT]
    exact hp
  · simp (maxSteps := 1000000) (disch := first | omega | rfl | (simp only [zL, two63, room] <;> omega) | fail) only [↓reduceIte, ↓zP, zW, WOp, evOp, evBin, binI, binSh, binS, evNil, keyIs, keyEq, mkv, AV.cells, AV.sc, optv, bnd, env, put, Env.get, Env.set, Env.del, Env.dels, Env.init, res1, resL, resV, fillP, splice, newRow, Nat.reduceEqDiff, Nat.reduceLT, Nat.reduceLeDiff, Nat.reduceAdd, Nat.reduceMul, Nat.reduceSub, Nat.reduceBEq, reduceCtorEq, ↓zR, zQ, Tr, StA, StT, hv]
    refine lp_gaKey hs hL L [] _ rfl (by simp; omega) ?_
    simp (maxSteps := 1000000) (disch := first | omega | rfl | (simp only [zL, two63, room] <;> omega) | fail) only [↓reduceIte, ↓zP, zW, WOp, evOp, evBin, binI, binSh, binS, evNil, keyIs, keyEq, mkv, AV.cells, AV.sc, optv, bnd, env, put, Env.get, Env.set, Env.del, Env.dels, Env.init, res1, resL, resV, fillP, splice, newRow, Nat.reduceEqDiff, Nat.reduceLT, Nat.reduceLeDiff, Nat.reduceAdd, Nat.reduceMul, Nat.reduceSub, Nat.reduceBEq, reduceCtorEq, ↓zR, zQ, Tr, StA, StT]
    exact hp
theorem c_l1OwnS {v : AV} {L : List (List UInt8)} {h : AH} (hs : Slc 1 encS h v L) (hL : L.length < 2 ^ 30) {post : AV → AH → Prop} (hp : ∀ v' h', OwL 1 encS h h' v' L → Pre h h' → post v' h') : S 206 [v] h post k := by
  refine S_of rfl T206 ?_; unfold fi206
  rcases hs.cases with ⟨rfl, rfl⟩ | ⟨rfl, rfl⟩ | ⟨c, kk, off, rfl⟩
  · simp (maxSteps := 1000000) (disch := first | omega | rfl | (simp only [zL, two63, room] <;> omega) | fail) only [↓reduceIte, ↓zP, zW, WOp, evOp, evBin, binI, binSh, binS, evNil, keyIs, keyEq, mkv, AV.cells, AV.sc, optv, bnd, env, put, Env.get, Env.set, Env.del, Env.dels, Env.init, res1, resL, resV, fillP, splice, newRow, Nat.reduceEqDiff, Nat.reduceLT, Nat.reduceLeDiff, Nat.reduceAdd, Nat.reduceMul, Nat.reduceSub, Nat.reduceBEq, reduceCtorEq, ↓zR, zQ, Tr, StA, StT, apRow]
    exact hp _ _ OwL.emp (Pre.refl _)
  · simp (maxSteps := 1000000) (disch := first | omega | rfl | (simp only [zL, two63, room] <;> omega) | fail) only [↓reduceIte, ↓zP, zW, WOp, evOp, evBin, binI, binSh, binS, evNil, keyIs, keyEq, mkv, AV.cells, AV.sc, optv, bnd, env, put, Env.get, Env.set, Env.del, Env.dels, Env.init, res1, resL, resV, fillP, splice, newRow, Nat.reduceEqDiff, Nat.reduceLT, Nat.reduceLeDiff, Nat.reduceAdd, Nat.reduceMul, Nat.reduceSub, Nat.reduceBEq, reduceCtorEq, ↓zR, zQ, Tr, StA, StT, apRow]
    exact hp _ _ OwL.emp (Pre.refl _)
  · obtain ⟨h1, h2, hr⟩ := hs.all
    obtain ⟨v', h', ha, hown, hag⟩ := ap_ag (esz := 1) (b := h) (h := h) (v := .empS) (n := 0) (cs := []) ⟨rfl, rfl⟩ (Nat.le_refl _) (q := L.length) (vs := L.flatMap encS) (by rw [flat_len hlS]) (by simp [AV.sc]) (by unfold room; omega)
    simp (maxSteps := 1000000) (disch := first | omega | rfl | (simp only [zL, two63, room] <;> omega) | fail) only [↓reduceIte, ↓zP, zW, WOp, evOp, evBin, binI, binSh, binS, evNil, keyIs, keyEq, mkv, AV.cells, AV.sc, optv, bnd, env, put, Env.get, Env.set, Env.del, Env.dels, Env.init, res1, resL, resV, fillP, splice, newRow, Nat.reduceEqDiff, Nat.reduceLT, Nat.reduceLeDiff, Nat.reduceAdd, Nat.reduceMul, Nat.reduceSub, Nat.reduceBEq, reduceCtorEq, ↓zR, zQ, Tr, StA, StT, hr, ha]
    refine hp v' h' ?_ (hag.pre (Nat.le_refl _))
    unfold OwL
    simpa using hown
theorem c_gaWith {v : AV} {pre : List (List UInt8)} {x : List UInt8} {rest : List (List UInt8)} {h : AH} (hs : Slc 1 encS h v (pre ++ x :: rest)) (hL : (pre ++ x :: rest).length < 2 ^ 30) (w : List UInt8) {post : AV → AH → Prop} (hp : ∀ v' h', OwL 1 encS h h' v' (pre ++ w :: rest) → Pre h h' → post v' h') : S 204 [v, .int .i64 pre.length, .str w] h post k := by
  refine S_of rfl T204 ?_; unfold fi204
  simp (maxSteps := 1000000) (disch := first | omega | rfl | (simp only [zL, two63, room] <;> omega) | fail) only [↓reduceIte, ↓zP, zW, WOp, evOp, evBin, binI, binSh, binS, evNil, keyIs, keyEq, mkv, AV.cells, AV.sc, optv, bnd, env, put, Env.get, Env.set, Env.del, Env.dels, Env.init, res1, resL, resV, fillP, splice, newRow, Nat.reduceEqDiff, Nat.reduceLT, Nat.reduceLeDiff, Nat.reduceAdd, Nat.reduceMul, Nat.reduceSub, Nat.reduceBEq, reduceCtorEq, ↓zR, zQ, Tr, StA, StT]
  refine c_l1OwnS hs hL ?_
  intro v2 h2 ho hp2
  obtain ⟨c, kk, off, h3, rfl, hw, ho3, hb, hlen, hag⟩ := ho.store hlS scS w
  have hlt : (pre.length : Int) < ((pre ++ x :: rest).length : Int) := by simp; omega
  simp (maxSteps := 1000000) (disch := first | omega | rfl | (simp only [zL, two63, room] <;> omega) | fail) only [↓reduceIte, ↓zP, zW, WOp, evOp, evBin, binI, binSh, binS, evNil, keyIs, keyEq, mkv, AV.cells, AV.sc, optv, bnd, env, put, Env.get, Env.set, Env.del, Env.dels, Env.init, res1, resL, resV, fillP, splice, newRow, Nat.reduceEqDiff, Nat.reduceLT, Nat.reduceLeDiff, Nat.reduceAdd, Nat.reduceMul, Nat.reduceSub, Nat.reduceBEq, reduceCtorEq, ↓zR, zQ, Tr, StA, StT, hlt, hw]
  exact hp _ _ ho3 ⟨by rw [hlen]; exact hp2.1, fun i hi => by rw [hag i (by omega), hp2.2 i hi]⟩
end Go.Proofs.YtbpenpikaehloaaDoor.Ab

/- GAMES of the reference: who wins a sum, by what is known already. -/
namespace Go.Proofs.YtbpenpikaehloaaDoor.Ab
open Go
set_option maxRecDepth 100000
set_option maxHeartbeats 4000000

def rowOf : AV → Option Nat
  | .slice c _ _ _ _ => some c
  | _ => none
/-- Rows that belong to what is known. -/
def gr (c : Nat) (h : AH) (i : Nat) : Prop := i = c ∨ ∃ v1 v2, h[c]? = some (.row [v1, v2] 0 0 false) ∧ (rowOf v1 = some i ∨ rowOf v2 = some i)
def FrG (c : Nat) (h h' : AH) : Prop := h.length ≤ h'.length ∧ ∀ i, i < h.length → ¬ gr c h i → h'[i]? = h[i]? ∧ ¬ gr c h' i
theorem FrG.refl (c : Nat) (h : AH) : FrG c h h := ⟨Nat.le_refl _, fun _ _ hg => ⟨rfl, hg⟩⟩
theorem FrG.trans {c : Nat} {x y z : AH} (p : FrG c x y) (q : FrG c y z) : FrG c x z := ⟨Nat.le_trans p.1 q.1, fun i hi hg => by
  obtain ⟨h1, h2⟩ := p.2 i hi hg
  obtain ⟨h3, h4⟩ := q.2 i (Nat.lt_of_lt_of_le hi p.1) h2
  exact ⟨by rw [h3, h1], h4⟩⟩
theorem gr_pre {c : Nat} {h h' : AH} (hp : Pre h h') (hc : c < h.length) (i : Nat) : gr c h' i ↔ gr c h i := by
  unfold gr; rw [hp.2 c hc]
theorem Pre.frg {c : Nat} {h h' : AH} (hp : Pre h h') (hc : c < h.length) : FrG c h h' := ⟨hp.1, fun i hi hg => ⟨hp.2 i hi, by rw [gr_pre hp hc]; exact hg⟩⟩
def alph : List UInt8 := [116, 102, 47, 46, 70, 84]
def OkS (N : Nat) (s : List (List UInt8) × Bool) : Prop := (∀ w ∈ s.1, signs w) ∧ (gaK s).length = N
def KN (N c : Nat) (h : AH) (K : List (List UInt8)) : Prop := ∃ v1 v2 W, h[c]? = some (.row [v1, v2] 0 0 false) ∧ OwL 1 encS [] h v1 K ∧ OwL 1 encB [] h v2 W ∧ rowOf v1 ≠ some c ∧ rowOf v2 ≠ some c ∧ (∀ r, rowOf v1 = some r → rowOf v2 ≠ some r) ∧
  K.length = W.length ∧ K.Nodup ∧ (∀ x ∈ K, x.length = N ∧ ∀ b ∈ x, b ∈ alph) ∧ ∀ (i : Nat) x b, K[i]? = some x → W[i]? = some b → ∀ s, OkS N s → x = gaK s → b = winL s.1 s.2
theorem KN.lt {N c : Nat} {h : AH} {K : List (List UInt8)} (hk : KN N c h K) : c < h.length := by
  obtain ⟨_, _, _, h1, _⟩ := hk
  exact (List.getElem?_eq_some_iff.1 h1).1
theorem own_lt {esz : Nat} {b h : AH} {v : AV} {n : Nat} {cs : List AV} (ho : Own esz b h v n cs) {r : Nat} (hr : rowOf v = some r) : r < h.length := by
  unfold Own at ho
  cases v <;> simp only [rowOf] at hr ho <;> first
    | (cases hr; done)
    | (cases hr; obtain ⟨_, _, _, _, cells, fl, h5, _⟩ := ho; exact (List.getElem?_eq_some_iff.1 h5).1)
theorem own_ge {esz : Nat} {b h : AH} {v : AV} {n : Nat} {cs : List AV} (ho : Own esz b h v n cs) {r : Nat} (hr : rowOf v = some r) : b.length ≤ r := by
  unfold Own at ho
  cases v <;> simp only [rowOf] at hr ho <;> first
    | (cases hr; done)
    | (cases hr; exact ho.2.2.2.1)
theorem KN.gr_lt {N c : Nat} {h : AH} {K : List (List UInt8)} (hk : KN N c h K) {i : Nat} (hg : gr c h i) : i < h.length := by
  have hlt := hk.lt
  obtain ⟨v1, v2, W, h1, h2, h3, _⟩ := hk
  rcases hg with rfl | ⟨u1, u2, h4, h5⟩
  · exact hlt
  · rw [h1] at h4
    simp only [Option.some.injEq, AO.row.injEq, List.cons.injEq, and_true, true_and] at h4
    obtain ⟨rfl, rfl⟩ := h4
    rcases h5 with h5 | h5
    · exact own_lt h2 h5
    · exact own_lt h3 h5
theorem KN.pre {N c : Nat} {h h' : AH} {K : List (List UInt8)} (hk : KN N c h K) (hp : Pre h h') : KN N c h' K := by
  have hlt := hk.lt
  obtain ⟨v1, v2, W, h1, h2, h3, h4⟩ := hk
  exact ⟨v1, v2, W, by rw [hp.2 c hlt]; exact h1, h2.pre hp, h3.pre hp, h4⟩
theorem KN.fresh {N c : Nat} {h h' : AH} {K : List (List UInt8)} (hk : KN N c h K) (hp : Pre h h') {r : Nat} (hr : h.length ≤ r) : ¬ gr c h' r := by
  rw [gr_pre hp hk.lt]
  intro hg
  have := hk.gr_lt hg
  omega
/-- A slice that is read, and does not belong to what is known. -/
def SlcG {α : Type} (esz : Nat) (enc : α → List AV) (c : Nat) (h : AH) (v : AV) (L : List α) : Prop := Slc esz enc h v L ∧ ∀ r, rowOf v = some r → ¬ gr c h r
theorem rd_fr {c : Nat} {h h' : AH} (hf : FrG c h h') {r k o n : Nat} {cs : List AV} (hg : ¬ gr c h r) (hr : rdRow h r k o n = some cs) : rdRow h' r k o n = some cs := by
  have := rd_lt hr
  unfold rdRow at hr ⊢
  rw [(hf.2 r this hg).1]; exact hr
theorem SlcG.fr {α : Type} {esz : Nat} {enc : α → List AV} {c : Nat} {h h' : AH} {v : AV} {L : List α} (hs : SlcG esz enc c h v L) (hf : FrG c h h') : SlcG esz enc c h' v L := by
  obtain ⟨h1, h2⟩ := hs
  unfold SlcG Slc Sl at *
  cases v <;> simp only [rowOf] at * <;> first
    | (exact ⟨h1, fun r hr => by cases hr⟩)
    | (obtain ⟨k1, k2, k3, k4⟩ := h1
       exact ⟨⟨k1, k2, k3, rd_fr hf (h2 _ rfl) k4⟩, fun r hr => by cases hr; exact (hf.2 _ (rd_lt k4) (h2 _ rfl)).2⟩)
theorem OwL.slcG {α : Type} {esz : Nat} {enc : α → List AV} {N c : Nat} {h h' : AH} {v : AV} {L : List α} {K : List (List UInt8)} (ho : OwL esz enc h h' v L) (hk : KN N c h K) (hp : Pre h h') : SlcG esz enc c h' v L :=
  ⟨ho.slc, fun _ hr => hk.fresh hp (own_ge ho hr)⟩

theorem kindsS_not (t : Bool) : kindsS t (!t) = kindS t := by cases t <;> rfl
theorem gaTail_len (ls : List (List UInt8)) : (gaTail ls).length = (ls.map fun w => w.length + 1).sum := by
  induction ls with
  | nil => rfl
  | cons w ls ih => simp only [gaTail, List.flatMap_cons, List.length_append, List.length_cons, List.map_cons, List.sum_cons] at ih ⊢; rw [ih]
theorem OkS.step {N : Nat} {pre : List (List UInt8)} {w : List UInt8} {rest : List (List UInt8)} {t : Bool} (ho : OkS N (pre ++ w :: rest, t)) (i t' : Nat) (hi : i < w.length) : OkS N (pre ++ madeB w i t' :: rest, !t) := by
  obtain ⟨h1, h2⟩ := ho
  refine ⟨?_, ?_⟩
  · intro x hx
    simp only [List.mem_append, List.mem_cons] at hx
    rcases hx with hx | rfl | hx
    · exact h1 x (by simp [hx])
    · have hw := h1 w (by simp)
      have hb := sign_at hw hi
      unfold signs madeB
      rw [List.all_eq_true] at *
      intro b hb'
      rcases List.mem_or_eq_of_mem_set hb' with h3 | rfl
      · rcases List.mem_or_eq_of_mem_set h3 with h4 | rfl
        · exact (List.all_eq_true.1 hw) b h4
        · exact hb
      · rfl
    · exact h1 x (by simp [hx])
  · rw [← h2]
    simp only [gaK, List.length_cons, gaTail_len, List.map_append, List.map_cons, List.sum_append, List.sum_cons, madeB_length]
theorem OkS.bounds {N : Nat} {ls : List (List UInt8)} {t : Bool} (ho : OkS N (ls, t)) : ls.length ≤ N ∧ (gaTail ls).length < N ∧ ∀ w ∈ ls, w.length < N := by
  obtain ⟨_, h2⟩ := ho
  have h3 : (gaTail ls).length + 1 = N := by rw [← h2]; simp [gaK]
  have key : ∀ l : List (List UInt8), l.length ≤ (gaTail l).length ∧ ∀ w ∈ l, w.length < (gaTail l).length := by
    intro l
    induction l with
    | nil => simp
    | cons a l ih =>
      rw [gaTail_len] at ih ⊢
      simp only [List.map_cons, List.sum_cons, List.length_cons]
      refine ⟨by omega, ?_⟩
      intro w hw
      rcases List.mem_cons.1 hw with rfl | hw
      · omega
      · have := ih.2 w hw; omega
  have := key ls
  exact ⟨by omega, by omega, fun w hw => by have := this.2 w hw; omega⟩
theorem OkS.alph {N : Nat} {s : List (List UInt8) × Bool} (ho : OkS N s) : ∀ b ∈ gaK s, b ∈ Ab.alph := by
  obtain ⟨ls, t⟩ := s
  intro b hb
  simp only [gaK, List.mem_cons] at hb
  rcases hb with rfl | hb
  · cases t
    · exact (by decide : (102 : UInt8) ∈ Ab.alph)
    · exact (by decide : (116 : UInt8) ∈ Ab.alph)
  · simp only [gaTail, List.mem_flatMap, List.mem_cons] at hb
    obtain ⟨w, hw, hb⟩ := hb
    rcases hb with rfl | hb
    · decide
    · have := List.all_eq_true.1 (ho.1 w hw) b hb
      simp only [isSign, Bool.or_eq_true, beq_iff_eq] at this
      rcases this with (rfl | rfl) | rfl <;> decide
theorem own_row {esz : Nat} {b h h' : AH} {v : AV} {n : Nat} {cs : List AV} (ho : Own esz b h v n cs) (hh : ∀ r, rowOf v = some r → h'[r]? = h[r]?) : Own esz b h' v n cs := by
  unfold Own at ho ⊢
  cases v <;> simp only [rowOf] at ho hh ⊢ <;> first
    | exact ho
    | (obtain ⟨h1, h2, h3, h4, cells, fl, h5, h6⟩ := ho
       exact ⟨h1, h2, h3, h4, cells, fl, by rw [hh _ rfl]; exact h5, h6⟩)
theorem OwL.sc1 {α : Type} {esz : Nat} {enc : α → List AV} {b h : AH} {v : AV} {L : List α} (ho : OwL esz enc b h v L) : v.sc = true := by
  unfold OwL Own at ho
  cases v <;> simp only at ho <;> first
    | rfl
    | (exact ho.elim)
theorem OwL.cells {α : Type} {esz : Nat} {enc : α → List AV} {b h : AH} {v : AV} {L : List α} (ho : OwL esz enc b h v L) : v.cells = [v] := by
  unfold OwL Own at ho
  cases v <;> simp only at ho <;> first
    | rfl
    | (exact ho.elim)
theorem apRow_fr {h h' : AH} {esz q : Nat} {v v' : AV} {vs : List AV} (ha : apRow h esz v q vs = some (v', h')) : (∀ i, i < h.length → rowOf v ≠ some i → h'[i]? = h[i]?) ∧ h.length ≤ h'.length ∧ ∀ r, rowOf v' = some r → (rowOf v = some r ∨ r = h.length) := by
  have fresh : ∀ u, (if q = 0 then some (u, h) else if q ≤ room then (newRow h vs).map fun (c, h') => (AV.slice c 0 0 q esz, h') else none) = some (v', h') → rowOf u = none → (∀ i, i < h.length → h'[i]? = h[i]?) ∧ h.length ≤ h'.length ∧ ∀ r, rowOf v' = some r → r = h.length := by
    intro u ha hu
    split at ha
    · cases ha
      exact ⟨fun _ _ => rfl, Nat.le_refl _, fun r hr => by rw [hu] at hr; cases hr⟩
    · split at ha
      · unfold newRow at ha
        split at ha
        · simp only [Option.map_some, Option.some.injEq, Prod.mk.injEq] at ha
          obtain ⟨rfl, rfl⟩ := ha
          exact ⟨fun i hi => List.getElem?_append_left hi, by simp, fun r hr => by simp only [rowOf, Option.some.injEq] at hr; exact hr.symm⟩
        · cases ha
      · cases ha
  unfold apRow at ha
  cases v <;> simp only at ha <;> first
    | (cases ha; done)
    | (obtain ⟨h1, h2, h3⟩ := fresh _ ha rfl
       exact ⟨fun i hi _ => h1 i hi, h2, fun r hr => .inr (h3 r hr)⟩)
    | (split at ha
       · split at ha
         · cases ha
           refine ⟨fun i _ hr => ?_, by simp, fun r hr => .inl hr⟩
           rw [List.getElem?_set, if_neg (fun e => hr (by simp [rowOf, e]))]
         · cases ha
       · cases ha)
/-- Keys that came by a call. -/
def Came (N n : Nat) (K K' : List (List UInt8)) : Prop := ∀ x ∈ K', x ∈ K ∨ ∃ s, OkS N s ∧ muL s.1 < n ∧ x = gaK s
theorem Came.refl (N n : Nat) (K : List (List UInt8)) : Came N n K K := fun _ h => .inl h
theorem Came.trans {N n : Nat} {a b c : List (List UInt8)} (x : Came N n a b) (y : Came N n b c) : Came N n a c := fun k hk => by
  rcases y k hk with h | h
  · exact x k h
  · exact .inr h
theorem Came.mono {N n m : Nat} {a b : List (List UInt8)} (x : Came N n a b) (hm : n ≤ m) : Came N m a b := fun k hk => by
  rcases x k hk with h | ⟨s, h1, h2, h3⟩
  · exact .inl h
  · exact .inr ⟨s, h1, by omega, h3⟩
/-- The search among what is known. -/
theorem lp_gaWin0 {c : Nat} {h : AH} {v1 v2 : AV} {K : List (List UInt8)} {W : List Bool} (hrow : h[c]? = some (.row [v1, v2] 0 0 false)) (h1 : Slc 1 encS h v1 K) (h2 : Slc 1 encB h v2 W) (hlen : K.length = W.length) (hK : K.length < 2 ^ 39) (lv : AV) (t : Bool) (key : List UInt8) {R : X → Env → AH → Prop} :
    ∀ (rest pre : List (List UInt8)), K = pre ++ rest → (∀ (i : Nat) b, K[i]? = some key → W[i]? = some b → R .ret [(6, .bool b)] h) → (key ∉ rest → R (.exit 0) [(0, .ptr c 0 0 2), (1, lv), (2, .bool t), (7, .str key)] h) →
    Cx (.loop lp199_0) [(0, .ptr c 0 0 2), (1, lv), (2, .bool t), (7, .str key), (21, v1), (22, .int .i64 K.length), (23, .int .i64 pre.length)] h R k k
  | [], pre, hpre, hf, hR => by
    subst hpre
    rw [w_loopb (c := lp199_0) (d := lb199_0) rfl]; unfold lb199_0
    simp only [List.append_nil]
    simp (maxSteps := 1000000) (disch := first | omega | rfl | (simp only [zL, two63, room] <;> omega) | fail) only [↓reduceIte, ↓zP, zW, WOp, evOp, evBin, binI, binSh, binS, evNil, keyIs, keyEq, mkv, AV.cells, AV.sc, optv, bnd, env, put, Env.get, Env.set, Env.del, Env.dels, Env.init, res1, resL, resV, fillP, splice, newRow, Nat.reduceEqDiff, Nat.reduceLT, Nat.reduceLeDiff, Nat.reduceAdd, Nat.reduceMul, Nat.reduceSub, Nat.reduceBEq, reduceCtorEq, ↓zR, zQ, Tr, StA, StT]
    exact hR (by simp)
  | x :: rest, pre, hpre, hf, hR => by
    have ih := lp_gaWin0 hrow h1 h2 hlen hK lv t key (R := R) rest (pre ++ [x])
    have hrd : rdRow h c 0 1 1 = some [v2] := by simp [rdRow, hrow]
    subst hpre
    obtain ⟨r1, k1, o1, rfl, hr⟩ := h1.at hlS
    have hl : (pre ++ x :: rest).length = pre.length + 1 + rest.length := by simp; omega
    obtain ⟨b, hb⟩ : ∃ b, W[pre.length]? = some b := ⟨W[pre.length]'(by omega), by simp⟩
    have hW : W = W.take pre.length ++ b :: W.drop (pre.length + 1) := by
      have hlt : pre.length < W.length := by omega
      have := List.getElem_of_getElem? hb
      obtain ⟨_, e⟩ := this
      rw [← e, ← List.drop_eq_getElem_cons, List.take_append_drop]
    have hwl : (W.take pre.length).length = pre.length := by simp; omega
    rw [hW] at h2
    obtain ⟨r2, k2, o2, rfl, hr2⟩ := h2.at hlB
    rw [hwl] at hr2
    have hlW : W.length = pre.length + 1 + rest.length := by omega
    rw [← hW, hlW] at hrd
    rw [hl] at ih hK ⊢
    rw [w_loopb (c := lp199_0) (d := lb199_0) rfl]; unfold lb199_0
    have hlt : (pre.length : Int) < ((pre.length + 1 + rest.length : Nat) : Int) := by omega
    have hw : (pre.length : Int) + 1 = ((pre ++ [x]).length : Int) := by simp
    cases e : (x == key)
    · simp (maxSteps := 1000000) (disch := first | omega | rfl | (simp only [zL, two63, room] <;> omega) | fail) only [↓reduceIte, ↓zP, zW, WOp, evOp, evBin, binI, binSh, binS, evNil, keyIs, keyEq, mkv, AV.cells, AV.sc, optv, bnd, env, put, Env.get, Env.set, Env.del, Env.dels, Env.init, res1, resL, resV, fillP, splice, newRow, Nat.reduceEqDiff, Nat.reduceLT, Nat.reduceLeDiff, Nat.reduceAdd, Nat.reduceMul, Nat.reduceSub, Nat.reduceBEq, reduceCtorEq, ↓zR, zQ, Tr, StA, StT, hlt, hr, e, hw]
      rw [w_loopn (c := lp199_0) rfl]
      simp (maxSteps := 1000000) (disch := first | omega | rfl | (simp only [zL, two63, room] <;> omega) | fail) only [↓reduceIte, ↓zP, zW, WOp, evOp, evBin, binI, binSh, binS, evNil, keyIs, keyEq, mkv, AV.cells, AV.sc, optv, bnd, env, put, Env.get, Env.set, Env.del, Env.dels, Env.init, res1, resL, resV, fillP, splice, newRow, Nat.reduceEqDiff, Nat.reduceLT, Nat.reduceLeDiff, Nat.reduceAdd, Nat.reduceMul, Nat.reduceSub, Nat.reduceBEq, reduceCtorEq, ↓zR, zQ, Tr, StA, StT]
      refine ih (by simp) hf ?_
      intro hn
      refine hR ?_
      rw [List.mem_cons]
      rintro (rfl | hn')
      · simp at e
      · exact hn hn'
    · simp (maxSteps := 1000000) (disch := first | omega | rfl | (simp only [zL, two63, room] <;> omega) | fail) only [↓reduceIte, ↓zP, zW, WOp, evOp, evBin, binI, binSh, binS, evNil, keyIs, keyEq, mkv, AV.cells, AV.sc, optv, bnd, env, put, Env.get, Env.set, Env.del, Env.dels, Env.init, res1, resL, resV, fillP, splice, newRow, Nat.reduceEqDiff, Nat.reduceLT, Nat.reduceLeDiff, Nat.reduceAdd, Nat.reduceMul, Nat.reduceSub, Nat.reduceBEq, reduceCtorEq, ↓zR, zQ, Tr, StA, StT, hlt, hr, e, hrd, hr2]
      refine hf pre.length b ?_ hb
      rw [beq_iff_eq] at e
      subst e; simp

def GWin (N n : Nat) : Prop := ∀ (ls : List (List UInt8)) (t : Bool) (c : Nat) (v : AV) (h : AH) (K : List (List UInt8)), muL ls < n → OkS N (ls, t) → KN N c h K → SlcG 1 encS c h v ls → ∀ post : AV → AH → Prop,
  (∀ h' K', FrG c h h' → KN N c h' K' → Came N (muL ls + 1) K K' → post (.bool (winL ls t)) h') → S 199 [.ptr c 0 0 2, v, .bool t] h post k
/-- Over the moves of one line. -/
theorem lp_gaWin2 {N n : Nat} (ih : GWin N n) {c : Nat} {pre : List (List UInt8)} {w : List UInt8} {rest : List (List UInt8)} {t : Bool} (hn : muL (pre ++ w :: rest) < n + 1) (hN : N ≤ 15) (hok : OkS N (pre ++ w :: rest, t)) (v vm : AV) (key : AV) (L39 : AV) (n40 : AV) {h0 : AH} {K0 : List (List UInt8)} {R : X → Env → AH → Prop} :
    ∀ (mr mp : List (Int × Int)) (h : AH) (K : List (List UInt8)), movesB w (kindS t) = mp ++ mr → FrG c h0 h → KN N c h K → Came N (muL (pre ++ w :: rest)) K0 K → SlcG 1 encS c h v (pre ++ w :: rest) → SlcG 2 encM c h vm (movesB w (kindS t)) →
    (∀ h' K', FrG c h0 h' → KN N c h' K' → Came N (muL (pre ++ w :: rest)) K0 K' → SlcG 1 encS c h' v (pre ++ w :: rest) → R (.exit 4) [(0, .ptr c 0 0 2), (1, v), (2, .bool t), (7, key), (10, .bool (mr.any fun m => !winL (pre ++ madeB w m.1.toNat m.2.toNat :: rest) (!t))), (39, L39), (40, n40), (41, .int .i64 pre.length)] h') →
    Cx (.loop lp199_2) [(0, .ptr c 0 0 2), (1, v), (2, .bool t), (7, key), (10, .bool false), (11, .int .i64 pre.length), (12, .str w), (39, L39), (40, n40), (41, .int .i64 pre.length), (50, vm), (51, .int .i64 (movesB w (kindS t)).length), (52, .int .i64 mp.length)] h R k k
  | [], mp, h, K, hmp, hf, hk, hc, hs, hsm, hR => by
    rw [w_loopb (c := lp199_2) (d := lb199_2) rfl]; unfold lb199_2
    have hl : (movesB w (kindS t)).length = mp.length := by rw [hmp]; simp
    rw [hl]
    simp (maxSteps := 1000000) (disch := first | omega | rfl | (simp only [zL, two63, room] <;> omega) | fail) only [↓reduceIte, ↓zP, zW, WOp, evOp, evBin, binI, binSh, binS, evNil, keyIs, keyEq, mkv, AV.cells, AV.sc, optv, bnd, env, put, Env.get, Env.set, Env.del, Env.dels, Env.init, res1, resL, resV, fillP, splice, newRow, Nat.reduceEqDiff, Nat.reduceLT, Nat.reduceLeDiff, Nat.reduceAdd, Nat.reduceMul, Nat.reduceSub, Nat.reduceBEq, reduceCtorEq, ↓zR, zQ, Tr, StA, StT]
    have := hR h K hf hk hc hs
    simpa using this
  | m :: mr, mp, h, K, hmp, hf, hk, hc, hs, hsm, hR => by
    have ihl := lp_gaWin2 ih hn hN hok v vm key L39 n40 (c := c) (h0 := h0) (K0 := K0) (R := R) mr (mp ++ [m])
    have hmm : m ∈ movesB w (kindS t) := by rw [hmp]; simp
    obtain ⟨i, t', rfl, hmv⟩ := movesB_mv hmm
    have hwl : w.length < N := hok.bounds.2.2 w (by simp)
    have hlen := movesB_len w (kindS t)
    have hml : (movesB w (kindS t)).length = mp.length + 1 + mr.length := by rw [hmp]; simp; omega
    have hsm' := hsm
    rw [hmp] at hsm'
    obtain ⟨r1, k1, o1, hv1, hr⟩ := hsm'.1.at hlM
    rw [← hmp, hml] at hv1
    subst hv1
    rw [hml] at ihl ⊢
    have hlt : (mp.length : Int) < ((mp.length + 1 + mr.length : Nat) : Int) := by omega
    have hw1 : (mp.length : Int) + 1 = ((mp ++ [((i : Int), (t' : Int))]).length : Int) := by simp
    rw [w_loopb (c := lp199_2) (d := lb199_2) rfl]; unfold lb199_2
    simp (maxSteps := 1000000) (disch := first | omega | rfl | (simp only [zL, two63, room] <;> omega) | fail) only [↓reduceIte, ↓zP, zW, WOp, evOp, evBin, binI, binSh, binS, evNil, keyIs, keyEq, mkv, AV.cells, AV.sc, optv, bnd, env, put, Env.get, Env.set, Env.del, Env.dels, Env.init, res1, resL, resV, fillP, splice, newRow, Nat.reduceEqDiff, Nat.reduceLT, Nat.reduceLeDiff, Nat.reduceAdd, Nat.reduceMul, Nat.reduceSub, Nat.reduceBEq, reduceCtorEq, ↓zR, zQ, Tr, StA, StT, hlt, hr]
    refine c_liMake w i t' hmv.fst hmv.snd ?_ (by omega) ?_
    · rintro rfl
      have := mu_made hmv
      obtain ⟨_, _, h3, h4⟩ := hmv
      rcases h4 with ⟨h4, h5⟩ | ⟨h4, h5⟩ <;> omega
    intro h2 hp2
    have hp1 := (Pre.push h (AO.row (encM ((i : Int), (t' : Int))) 0 0 false)).trans hp2
    have hf1 : FrG c h h2 := hp1.frg hk.lt
    have hk2 := hk.pre hp1
    have hs2 := hs.fr hf1
    have hsm2 := hsm.fr hf1
    simp (maxSteps := 1000000) (disch := first | omega | rfl | (simp only [zL, two63, room] <;> omega) | fail) only [↓reduceIte, ↓zP, zW, WOp, evOp, evBin, binI, binSh, binS, evNil, keyIs, keyEq, mkv, AV.cells, AV.sc, optv, bnd, env, put, Env.get, Env.set, Env.del, Env.dels, Env.init, res1, resL, resV, fillP, splice, newRow, Nat.reduceEqDiff, Nat.reduceLT, Nat.reduceLeDiff, Nat.reduceAdd, Nat.reduceMul, Nat.reduceSub, Nat.reduceBEq, reduceCtorEq, ↓zR, zQ, Tr, StA, StT]
    refine c_gaWith hs2.1 (by have := hok.bounds.1; omega) _ ?_
    intro v3 h3 ho3 hp3
    have hok' : OkS N (pre ++ madeB w i t' :: rest, !t) := hok.step i t' hmv.fst
    have hmu : muL (pre ++ madeB w i t' :: rest) < muL (pre ++ w :: rest) := by
      have := mu_made hmv
      simp only [muL, List.map_append, List.map_cons, List.sum_append, List.sum_cons]; omega
    simp (maxSteps := 1000000) (disch := first | omega | rfl | (simp only [zL, two63, room] <;> omega) | fail) only [↓reduceIte, ↓zP, zW, WOp, evOp, evBin, binI, binSh, binS, evNil, keyIs, keyEq, mkv, AV.cells, AV.sc, optv, bnd, env, put, Env.get, Env.set, Env.del, Env.dels, Env.init, res1, resL, resV, fillP, splice, newRow, Nat.reduceEqDiff, Nat.reduceLT, Nat.reduceLeDiff, Nat.reduceAdd, Nat.reduceMul, Nat.reduceSub, Nat.reduceBEq, reduceCtorEq, ↓zR, zQ, Tr, StA, StT]
    refine ih _ _ _ _ _ _ (by omega) hok' (hk2.pre hp3) (ho3.slcG hk2 hp3) _ ?_
    intro h4 K4 hf4 hk4 hc4
    have hf03 : FrG c h h4 := (hf1.trans (hp3.frg hk2.lt)).trans hf4
    have hcc : Came N (muL (pre ++ w :: rest)) K0 K4 := hc.trans (hc4.mono (by omega))
    cases e : winL (pre ++ madeB w i t' :: rest) (!t)
    · simp (maxSteps := 1000000) (disch := first | omega | rfl | (simp only [zL, two63, room] <;> omega) | fail) only [↓reduceIte, ↓zP, zW, WOp, evOp, evBin, binI, binSh, binS, evNil, keyIs, keyEq, mkv, AV.cells, AV.sc, optv, bnd, env, put, Env.get, Env.set, Env.del, Env.dels, Env.init, res1, resL, resV, fillP, splice, newRow, Nat.reduceEqDiff, Nat.reduceLT, Nat.reduceLeDiff, Nat.reduceAdd, Nat.reduceMul, Nat.reduceSub, Nat.reduceBEq, reduceCtorEq, ↓zR, zQ, Tr, StA, StT]
      exact hR h4 K4 (hf.trans hf03) hk4 hcc (hs.fr hf03) |> fun hh => by simpa [e] using hh
    · simp (maxSteps := 1000000) (disch := first | omega | rfl | (simp only [zL, two63, room] <;> omega) | fail) only [↓reduceIte, ↓zP, zW, WOp, evOp, evBin, binI, binSh, binS, evNil, keyIs, keyEq, mkv, AV.cells, AV.sc, optv, bnd, env, put, Env.get, Env.set, Env.del, Env.dels, Env.init, res1, resL, resV, fillP, splice, newRow, Nat.reduceEqDiff, Nat.reduceLT, Nat.reduceLeDiff, Nat.reduceAdd, Nat.reduceMul, Nat.reduceSub, Nat.reduceBEq, reduceCtorEq, ↓zR, zQ, Tr, StA, StT, hw1]
      rw [w_loopn (c := lp199_2) rfl]
      simp (maxSteps := 1000000) (disch := first | omega | rfl | (simp only [zL, two63, room] <;> omega) | fail) only [↓reduceIte, ↓zP, zW, WOp, evOp, evBin, binI, binSh, binS, evNil, keyIs, keyEq, mkv, AV.cells, AV.sc, optv, bnd, env, put, Env.get, Env.set, Env.del, Env.dels, Env.init, res1, resL, resV, fillP, splice, newRow, Nat.reduceEqDiff, Nat.reduceLT, Nat.reduceLeDiff, Nat.reduceAdd, Nat.reduceMul, Nat.reduceSub, Nat.reduceBEq, reduceCtorEq, ↓zR, zQ, Tr, StA, StT]
      refine ihl h4 K4 (by rw [hmp]; simp) (hf.trans hf03) hk4 hcc (hs.fr hf03) (hsm.fr hf03) ?_
      intro h' K' q1 q2 q3 q4
      have := hR h' K' q1 q2 q3 q4
      simpa [e] using this

/-- Over the lines of a sum. -/
theorem lp_gaWin1 {N n : Nat} (ih : GWin N n) {c : Nat} {ls : List (List UInt8)} {t : Bool} (hn : muL ls < n + 1) (hN : N ≤ 15) (hok : OkS N (ls, t)) (v : AV) (key : AV) {h0 : AH} {K0 : List (List UInt8)} {R : X → Env → AH → Prop} :
    ∀ (rest pre : List (List UInt8)) (h : AH) (K : List (List UInt8)), ls = pre ++ rest → FrG c h0 h → KN N c h K → Came N (muL ls) K0 K → SlcG 1 encS c h v ls →
    (∀ h' K', FrG c h0 h' → KN N c h' K' → Came N (muL ls) K0 K' → R (.exit 2) [(0, .ptr c 0 0 2), (7, key), (10, .bool ((nextZ (kindS t) pre rest).any fun x => !winL x (!t)))] h') →
    Cx (.loop lp199_1) [(0, .ptr c 0 0 2), (1, v), (2, .bool t), (7, key), (10, .bool false), (39, v), (40, .int .i64 ls.length), (41, .int .i64 pre.length)] h R k k
  | [], pre, h, K, hls, hf, hk, hc, hs, hR => by
    rw [w_loopb (c := lp199_1) (d := lb199_1) rfl]; unfold lb199_1
    have hl : ls.length = pre.length := by rw [hls]; simp
    rw [hl]
    simp (maxSteps := 1000000) (disch := first | omega | rfl | (simp only [zL, two63, room] <;> omega) | fail) only [↓reduceIte, ↓zP, zW, WOp, evOp, evBin, binI, binSh, binS, evNil, keyIs, keyEq, mkv, AV.cells, AV.sc, optv, bnd, env, put, Env.get, Env.set, Env.del, Env.dels, Env.init, res1, resL, resV, fillP, splice, newRow, Nat.reduceEqDiff, Nat.reduceLT, Nat.reduceLeDiff, Nat.reduceAdd, Nat.reduceMul, Nat.reduceSub, Nat.reduceBEq, reduceCtorEq, ↓zR, zQ, Tr, StA, StT]
    have := hR h K hf hk hc
    simpa [nextZ] using this
  | w :: rest, pre, h, K, hls, hf, hk, hc, hs, hR => by
    have ihl := lp_gaWin1 ih hn hN hok v key (c := c) (h0 := h0) (K0 := K0) (R := R) rest (pre ++ [w])
    have hb := hok.bounds
    have hsg := hok.1 w (by rw [hls]; simp)
    have hwl := hb.2.2 w (by rw [hls]; simp)
    have hll : ls.length = pre.length + 1 + rest.length := by rw [hls]; simp; omega
    have hs' := hs
    rw [hls] at hs'
    obtain ⟨r1, k1, o1, hv1, hr⟩ := hs'.1.at hlS
    rw [← hls, hll] at hv1
    subst hv1
    rw [hll] at ihl ⊢
    have hlt : (pre.length : Int) < ((pre.length + 1 + rest.length : Nat) : Int) := by omega
    have hw1 : (pre.length : Int) + 1 = ((pre ++ [w]).length : Int) := by simp
    rw [w_loopb (c := lp199_1) (d := lb199_1) rfl]; unfold lb199_1
    simp (maxSteps := 1000000) (disch := first | omega | rfl | (simp only [zL, two63, room] <;> omega) | fail) only [↓reduceIte, ↓zP, zW, WOp, evOp, evBin, binI, binSh, binS, evNil, keyIs, keyEq, mkv, AV.cells, AV.sc, optv, bnd, env, put, Env.get, Env.set, Env.del, Env.dels, Env.init, res1, resL, resV, fillP, splice, newRow, Nat.reduceEqDiff, Nat.reduceLT, Nat.reduceLeDiff, Nat.reduceAdd, Nat.reduceMul, Nat.reduceSub, Nat.reduceBEq, reduceCtorEq, ↓zR, zQ, Tr, StA, StT, hlt, hr]
    refine c_liMoves w hsg (by omega) t (!t) ?_
    intro vm h2 ho2 hp2
    rw [liMovesB_eq, kindsS_not] at ho2
    have hsm := ho2.slcG hk hp2
    have hf2 := hp2.frg (c := c) hk.lt
    have hlen := movesB_len w (kindS t)
    have hv2 := fun g => Slc.lenV (hsm.1) (g := g) (ρ := fun _ => _) (x := .t 0) rfl; simp only [evOp] at hv2
    simp (maxSteps := 1000000) (disch := first | omega | rfl | (simp only [zL, two63, room] <;> omega) | fail) only [↓reduceIte, ↓zP, zW, WOp, evOp, evBin, binI, binSh, binS, evNil, keyIs, keyEq, mkv, AV.cells, AV.sc, optv, bnd, env, put, Env.get, Env.set, Env.del, Env.dels, Env.init, res1, resL, resV, fillP, splice, newRow, Nat.reduceEqDiff, Nat.reduceLT, Nat.reduceLeDiff, Nat.reduceAdd, Nat.reduceMul, Nat.reduceSub, Nat.reduceBEq, reduceCtorEq, ↓zR, zQ, Tr, StA, StT, hv2]
    subst hls
    refine lp_gaWin2 ih hn hN hok _ vm key _ _ (h0 := h0) (K0 := K0) (movesB w (kindS t)) [] h2 K rfl (hf.trans hf2) (hk.pre hp2) hc (hs.fr hf2) hsm ?_
    intro h3 K3 hf3 hk3 hc3 hs3
    have hz : (nextZ (kindS t) pre (w :: rest)).any (fun x => !winL x (!t)) = (((movesB w (kindS t)).any fun m => !winL (pre ++ madeB w m.1.toNat m.2.toNat :: rest) (!t)) || (nextZ (kindS t) (pre ++ [w]) rest).any (fun x => !winL x (!t))) := by
      simp only [nextZ, List.any_append, nextB, List.any_map, Function.comp_def]
    rw [hz] at hR
    cases e : (movesB w (kindS t)).any fun m => !winL (pre ++ madeB w m.1.toNat m.2.toNat :: rest) (!t)
    · simp (maxSteps := 1000000) (disch := first | omega | rfl | (simp only [zL, two63, room] <;> omega) | fail) only [↓reduceIte, ↓zP, zW, WOp, evOp, evBin, binI, binSh, binS, evNil, keyIs, keyEq, mkv, AV.cells, AV.sc, optv, bnd, env, put, Env.get, Env.set, Env.del, Env.dels, Env.init, res1, resL, resV, fillP, splice, newRow, Nat.reduceEqDiff, Nat.reduceLT, Nat.reduceLeDiff, Nat.reduceAdd, Nat.reduceMul, Nat.reduceSub, Nat.reduceBEq, reduceCtorEq, ↓zR, zQ, Tr, StA, StT, hw1]
      rw [w_loopn (c := lp199_1) rfl]
      simp (maxSteps := 1000000) (disch := first | omega | rfl | (simp only [zL, two63, room] <;> omega) | fail) only [↓reduceIte, ↓zP, zW, WOp, evOp, evBin, binI, binSh, binS, evNil, keyIs, keyEq, mkv, AV.cells, AV.sc, optv, bnd, env, put, Env.get, Env.set, Env.del, Env.dels, Env.init, res1, resL, resV, fillP, splice, newRow, Nat.reduceEqDiff, Nat.reduceLT, Nat.reduceLeDiff, Nat.reduceAdd, Nat.reduceMul, Nat.reduceSub, Nat.reduceBEq, reduceCtorEq, ↓zR, zQ, Tr, StA, StT]
      refine ihl h3 K3 (by simp) hf3 hk3 hc3 hs3 ?_
      intro h' K' q1 q2 q3
      have := hR h' K' q1 q2 q3
      simpa [e] using this
    · simp (maxSteps := 1000000) (disch := first | omega | rfl | (simp only [zL, two63, room] <;> omega) | fail) only [↓reduceIte, ↓zP, zW, WOp, evOp, evBin, binI, binSh, binS, evNil, keyIs, keyEq, mkv, AV.cells, AV.sc, optv, bnd, env, put, Env.get, Env.set, Env.del, Env.dels, Env.init, res1, resL, resV, fillP, splice, newRow, Nat.reduceEqDiff, Nat.reduceLT, Nat.reduceLeDiff, Nat.reduceAdd, Nat.reduceMul, Nat.reduceSub, Nat.reduceBEq, reduceCtorEq, ↓zR, zQ, Tr, StA, StT]
      have := hR h3 K3 hf3 hk3 hc3
      simpa [e] using this

theorem c_gaWin {N : Nat} (hN : N ≤ 14) : ∀ n : Nat, GWin N n
  | 0 => fun ls t c v h K hn _ _ _ _ _ => by omega
  | n + 1 => by
    intro ls t c v h K hn hok hk hs post hp
    have ih := c_gaWin hN n
    have hb := hok.bounds
    have hKb : ∀ h K, KN N c h K → K.length < 2 ^ 39 := by
      rintro h K ⟨_, _, _, _, _, _, _, _, _, _, hnd, hal, _⟩
      have h1 := nodup_bound hnd hal
      have h2 : (6 : Nat) ^ N ≤ 6 ^ 14 := Nat.pow_le_pow_right (by omega) hN
      have h3 : alph.length = 6 := rfl
      rw [h3] at h1
      have h4 : (6 : Nat) ^ 14 < 2 ^ 39 := by decide
      omega
    have hK := hKb h K hk
    have hk0 := hk
    obtain ⟨v1, v2, W, hrow, ho1, ho2, n1, n2, n3, hlen, hnd, hal, hgood⟩ := hk
    have hrd : rdRow h c 0 0 1 = some [v1] := by simp [rdRow, hrow]
    refine S_of rfl T199 ?_; unfold fi199
    simp (maxSteps := 1000000) (disch := first | omega | rfl | (simp only [zL, two63, room] <;> omega) | fail) only [↓reduceIte, ↓zP, zW, WOp, evOp, evBin, binI, binSh, binS, evNil, keyIs, keyEq, mkv, AV.cells, AV.sc, optv, bnd, env, put, Env.get, Env.set, Env.del, Env.dels, Env.init, res1, resL, resV, fillP, splice, newRow, Nat.reduceEqDiff, Nat.reduceLT, Nat.reduceLeDiff, Nat.reduceAdd, Nat.reduceMul, Nat.reduceSub, Nat.reduceBEq, reduceCtorEq, ↓zR, zQ, Tr, StA, StT]
    refine c_gaKey t hs.1 (by omega) (by omega) ?_
    have hv1 := fun g => Slc.lenV (ho1.slc) (g := g) (ρ := fun _ => _) (x := .t 0) rfl; simp only [evOp] at hv1
    simp (maxSteps := 1000000) (disch := first | omega | rfl | (simp only [zL, two63, room] <;> omega) | fail) only [↓reduceIte, ↓zP, zW, WOp, evOp, evBin, binI, binSh, binS, evNil, keyIs, keyEq, mkv, AV.cells, AV.sc, optv, bnd, env, put, Env.get, Env.set, Env.del, Env.dels, Env.init, res1, resL, resV, fillP, splice, newRow, Nat.reduceEqDiff, Nat.reduceLT, Nat.reduceLeDiff, Nat.reduceAdd, Nat.reduceMul, Nat.reduceSub, Nat.reduceBEq, reduceCtorEq, ↓zR, zQ, Tr, StA, StT, hrd, hv1]
    refine lp_gaWin0 hrow ho1.slc ho2.slc hlen hK v t (gaK (ls, t)) K [] rfl ?_ ?_
    · intro i b h1 h2
      obtain rfl := hgood i _ b h1 h2 (ls, t) hok rfl
      simp (maxSteps := 1000000) (disch := first | omega | rfl | (simp only [zL, two63, room] <;> omega) | fail) only [↓reduceIte, ↓zP, zW, WOp, evOp, evBin, binI, binSh, binS, evNil, keyIs, keyEq, mkv, AV.cells, AV.sc, optv, bnd, env, put, Env.get, Env.set, Env.del, Env.dels, Env.init, res1, resL, resV, fillP, splice, newRow, Nat.reduceEqDiff, Nat.reduceLT, Nat.reduceLeDiff, Nat.reduceAdd, Nat.reduceMul, Nat.reduceSub, Nat.reduceBEq, reduceCtorEq, ↓zR, zQ, Tr, StA, StT]
      exact hp h K (FrG.refl _ _) hk0 (Came.refl _ _ _)
    · intro hnot
      have hv2 := fun g => Slc.lenV (hs.1) (g := g) (ρ := fun _ => _) (x := .t 0) rfl; simp only [evOp] at hv2
      simp (maxSteps := 1000000) (disch := first | omega | rfl | (simp only [zL, two63, room] <;> omega) | fail) only [↓reduceIte, ↓zP, zW, WOp, evOp, evBin, binI, binSh, binS, evNil, keyIs, keyEq, mkv, AV.cells, AV.sc, optv, bnd, env, put, Env.get, Env.set, Env.del, Env.dels, Env.init, res1, resL, resV, fillP, splice, newRow, Nat.reduceEqDiff, Nat.reduceLT, Nat.reduceLeDiff, Nat.reduceAdd, Nat.reduceMul, Nat.reduceSub, Nat.reduceBEq, reduceCtorEq, ↓zR, zQ, Tr, StA, StT, hv2]
      refine lp_gaWin1 ih hn (by omega) hok v (.str (gaK (ls, t))) (h0 := h) (K0 := K) ls [] h K rfl (FrG.refl _ _) hk0 (Came.refl _ _ _) hs ?_
      intro h2 K2 hf2 hk2 hc2'
      rw [← winL_eq]
      have hnot2 : gaK (ls, t) ∉ K2 := by
        intro hin
        rcases hc2' _ hin with h1 | ⟨s, h1, h3, h4⟩
        · exact hnot h1
        · have := gaK_inj (s := (ls, t)) (s' := s) hok.1 h1.1 h4
          subst this
          exact Nat.lt_irrefl _ h3
      have hK2 := hKb h2 K2 hk2
      obtain ⟨u1, u2, W2, hrow2, po1, po2, m1, m2, m3, hlen2, hnd2, hal2, hgood2⟩ := hk2
      have hrd2 : rdRow h2 c 0 0 1 = some [u1] := by simp [rdRow, hrow2]
      have hrd3 : rdRow h2 c 0 1 1 = some [u2] := by simp [rdRow, hrow2]
      simp (maxSteps := 1000000) (disch := first | omega | rfl | (simp only [zL, two63, room] <;> omega) | fail) only [↓reduceIte, ↓zP, zW, WOp, evOp, evBin, binI, binSh, binS, evNil, keyIs, keyEq, mkv, AV.cells, AV.sc, optv, bnd, env, put, Env.get, Env.set, Env.del, Env.dels, Env.init, res1, resL, resV, fillP, splice, newRow, Nat.reduceEqDiff, Nat.reduceLT, Nat.reduceLeDiff, Nat.reduceAdd, Nat.reduceMul, Nat.reduceSub, Nat.reduceBEq, reduceCtorEq, ↓zR, zQ, Tr, StA, StT, hrd2]
      generalize hA : h2 ++ [AO.row [.str (gaK (ls, t))] 0 0 false] = gA
      have pA : Pre h2 gA := hA ▸ Pre.push _ _
      have lA : gA.length = h2.length + 1 := by rw [← hA]; simp
      have rA : rdRow gA h2.length 0 0 1 = some [.str (gaK (ls, t))] := by rw [← hA]; simp (maxSteps := 1000000) (disch := first | omega | rfl | (simp only [zL, two63, room] <;> omega) | fail) only [↓reduceIte, ↓zP, zW, WOp, evOp, evBin, binI, binSh, binS, evNil, keyIs, keyEq, mkv, AV.cells, AV.sc, optv, bnd, env, put, Env.get, Env.set, Env.del, Env.dels, Env.init, res1, resL, resV, fillP, splice, newRow, Nat.reduceEqDiff, Nat.reduceLT, Nat.reduceLeDiff, Nat.reduceAdd, Nat.reduceMul, Nat.reduceSub, Nat.reduceBEq, reduceCtorEq, ↓zR, zQ, Tr, StA, StT]
      obtain ⟨w1, gB, apB, owB, _⟩ := apA hlS scS (b := []) (po1.pre pA) (by simp) (gaK (ls, t)) (by omega)
      obtain ⟨fB1, fB2, fB3⟩ := apRow_fr apB
      have hc2 := (List.getElem?_eq_some_iff.1 hrow2).1
      have rcB : gB[c]? = some (.row [u1, u2] 0 0 false) := by rw [fB1 c (by omega) m1, pA.2 c hc2, hrow2]
      have qB := owB.cells
      simp only [AV.cells] at qB
      have wB : wrRow gB c 0 0 [w1] = some (gB.set c (.row [w1, u2] 0 0 false)) := by simp [wrRow, rcB, splice, owB.sc1]
      have hlc : c < gB.length := by omega
      simp (maxSteps := 1000000) (disch := first | omega | rfl | (simp only [zL, two63, room] <;> omega) | fail) only [↓reduceIte, ↓zP, zW, WOp, evOp, evBin, binI, binSh, binS, evNil, keyIs, keyEq, mkv, AV.cells, AV.sc, optv, bnd, env, put, Env.get, Env.set, Env.del, Env.dels, Env.init, res1, resL, resV, fillP, splice, newRow, Nat.reduceEqDiff, Nat.reduceLT, Nat.reduceLeDiff, Nat.reduceAdd, Nat.reduceMul, Nat.reduceSub, Nat.reduceBEq, reduceCtorEq, ↓zR, zQ, Tr, StA, StT, rA, apB, wB, qB]
      generalize hC : gB.set c (.row [w1, u2] 0 0 false) = gC
      have lC : gC.length = gB.length := by rw [← hC]; simp
      have rcC : gC[c]? = some (.row [w1, u2] 0 0 false) := by rw [← hC, List.getElem?_set, if_pos rfl, if_pos hlc]
      have oC : ∀ i, i ≠ c → gC[i]? = gB[i]? := fun i hi => by rw [← hC, List.getElem?_set, if_neg (Ne.symm hi)]
      have rdC : rdRow gC c 0 1 1 = some [u2] := by simp [rdRow, rcC]
      try (simp (maxSteps := 1000000) (disch := first | omega | rfl | (simp only [zL, two63, room] <;> omega) | fail) only [↓reduceIte, ↓zP, zW, WOp, evOp, evBin, binI, binSh, binS, evNil, keyIs, keyEq, mkv, AV.cells, AV.sc, optv, bnd, env, put, Env.get, Env.set, Env.del, Env.dels, Env.init, res1, resL, resV, fillP, splice, newRow, Nat.reduceEqDiff, Nat.reduceLT, Nat.reduceLeDiff, Nat.reduceAdd, Nat.reduceMul, Nat.reduceSub, Nat.reduceBEq, reduceCtorEq, ↓zR, zQ, Tr, StA, StT, rdC])
      generalize hD : gC ++ [AO.row [.bool (winL ls t)] 0 0 false] = gD
      have pD : Pre gC gD := hD ▸ Pre.push _ _
      have lD : gD.length = gC.length + 1 := by rw [← hD]; simp
      have rD : rdRow gD gC.length 0 0 1 = some [.bool (winL ls t)] := by rw [← hD]; simp (maxSteps := 1000000) (disch := first | omega | rfl | (simp only [zL, two63, room] <;> omega) | fail) only [↓reduceIte, ↓zP, zW, WOp, evOp, evBin, binI, binSh, binS, evNil, keyIs, keyEq, mkv, AV.cells, AV.sc, optv, bnd, env, put, Env.get, Env.set, Env.del, Env.dels, Env.init, res1, resL, resV, fillP, splice, newRow, Nat.reduceEqDiff, Nat.reduceLT, Nat.reduceLeDiff, Nat.reduceAdd, Nat.reduceMul, Nat.reduceSub, Nat.reduceBEq, reduceCtorEq, ↓zR, zQ, Tr, StA, StT]
      have l2 : ∀ r, rowOf u2 = some r → r < h2.length := fun r hr => own_lt po2 hr
      have l1 : ∀ r, rowOf u1 = some r → r < h2.length := fun r hr => own_lt po1 hr
      have po2C : OwL 1 encB [] gC u2 W2 := by
        refine own_row po2 fun r hr => ?_
        have h1 := l2 r hr
        rw [oC r (fun e => m2 (e ▸ hr)), fB1 r (by omega) (fun e => m3 r e hr), pA.2 r h1]
      obtain ⟨w2, gE, apE, owE, _⟩ := apA hlB scB (b := []) (po2C.pre pD) (by simp) (winL ls t) (by omega)
      obtain ⟨fE1, fE2, fE3⟩ := apRow_fr apE
      have rcE : gE[c]? = some (.row [w1, u2] 0 0 false) := by rw [fE1 c (by omega) m2, pD.2 c (by omega), rcC]
      have qE := owE.cells
      simp only [AV.cells] at qE
      have wE : wrRow gE c 0 1 [w2] = some (gE.set c (.row [w1, w2] 0 0 false)) := by simp [wrRow, rcE, splice, owE.sc1]
      have hlE : c < gE.length := by omega
      simp (maxSteps := 1000000) (disch := first | omega | rfl | (simp only [zL, two63, room] <;> omega) | fail) only [↓reduceIte, ↓zP, zW, WOp, evOp, evBin, binI, binSh, binS, evNil, keyIs, keyEq, mkv, AV.cells, AV.sc, optv, bnd, env, put, Env.get, Env.set, Env.del, Env.dels, Env.init, res1, resL, resV, fillP, splice, newRow, Nat.reduceEqDiff, Nat.reduceLT, Nat.reduceLeDiff, Nat.reduceAdd, Nat.reduceMul, Nat.reduceSub, Nat.reduceBEq, reduceCtorEq, ↓zR, zQ, Tr, StA, StT, rD, apE, wE, qE]
      have d1 : ∀ r, rowOf w1 = some r → (rowOf u1 = some r ∨ r = gA.length) := fB3
      have d2 : ∀ r, rowOf w2 = some r → (rowOf u2 = some r ∨ r = gD.length) := fE3
      have c1 : rowOf w1 ≠ some c := fun e => by
        rcases d1 c e with h1 | h1
        · exact m1 h1
        · omega
      have c2 : rowOf w2 ≠ some c := fun e => by
        rcases d2 c e with h1 | h1
        · exact m2 h1
        · omega
      have x1 : ∀ r, rowOf w1 = some r → gE[r]? = gB[r]? := fun r hr => by
        have h3 : r ≠ c := fun e => c1 (e ▸ hr)
        have h4 : r < gB.length := own_lt owB hr
        have h5 : rowOf u2 ≠ some r := by
          intro e
          have := l2 r e
          rcases d1 r hr with h1 | h1
          · exact m3 r h1 e
          · omega
        rw [fE1 r (by omega) h5, pD.2 r (by omega), oC r h3]
      refine hp (gE.set c (.row [w1, w2] 0 0 false)) (K2 ++ [gaK (ls, t)]) (hf2.trans ?_) ?_ ?_
      · refine ⟨by simp; omega, fun i hi hg => ?_⟩
        have g1 : i ≠ c := fun e => hg (.inl e)
        have g2 : rowOf u1 ≠ some i := fun e => hg (.inr ⟨u1, u2, hrow2, .inl e⟩)
        have g3 : rowOf u2 ≠ some i := fun e => hg (.inr ⟨u1, u2, hrow2, .inr e⟩)
        refine ⟨?_, ?_⟩
        · rw [List.getElem?_set, if_neg (Ne.symm g1), fE1 i (by omega) g3, pD.2 i (by omega), oC i g1, fB1 i (by omega) g2, pA.2 i hi]
        · rintro (e | ⟨y1, y2, e1, e2⟩)
          · exact g1 e
          · rw [List.getElem?_set, if_pos rfl, if_pos hlE] at e1
            simp only [Option.some.injEq, AO.row.injEq, List.cons.injEq, and_true, true_and] at e1
            obtain ⟨rfl, rfl⟩ := e1
            rcases e2 with e2 | e2
            · rcases d1 i e2 with h1 | h1
              · exact g2 h1
              · omega
            · rcases d2 i e2 with h1 | h1
              · exact g3 h1
              · omega
      · refine ⟨w1, w2, W2 ++ [winL ls t], by rw [List.getElem?_set, if_pos rfl, if_pos hlE], ?_, ?_, c1, c2, ?_, by simp [hlen2], ?_, ?_, ?_⟩
        · refine own_row owB fun r hr => ?_
          rw [List.getElem?_set, if_neg (by intro e; subst e; exact c1 hr), x1 r hr]
        · refine own_row owE fun r hr => ?_
          rw [List.getElem?_set, if_neg (by intro e; subst e; exact c2 hr)]
        · intro r h1 h3
          rcases d1 r h1 with h4 | h4 <;> rcases d2 r h3 with h5 | h5
          · exact m3 r h4 h5
          · have := l1 r h4; omega
          · have := l2 r h5; omega
          · omega
        · rw [List.nodup_append]
          exact ⟨hnd2, by simp, fun a ha b hb' => by simp at hb'; subst hb'; rintro rfl; exact hnot2 ha⟩
        · intro x hx
          rcases List.mem_append.1 hx with hx | hx
          · exact hal2 x hx
          · simp at hx; subst hx; exact ⟨hok.2, hok.alph⟩
        · intro i x b hx hb' s hs' hxs
          by_cases hi : i < K2.length
          · rw [List.getElem?_append_left hi] at hx
            rw [List.getElem?_append_left (by omega)] at hb'
            exact hgood2 i x b hx hb' s hs' hxs
          · have hi2 : i = K2.length := by
              have := (List.getElem?_eq_some_iff.1 hx).1
              simp at this; omega
            subst hi2
            rw [List.getElem?_append_right (Nat.le_refl _)] at hx
            rw [List.getElem?_append_right (by omega)] at hb'
            simp at hx
            rw [show K2.length - W2.length = 0 by omega] at hb'
            simp at hb'
            subst hb'
            have := gaK_inj (s := (ls, t)) (s' := s) hok.1 hs'.1 (hx.trans hxs)
            subst this; rfl
      · intro x hx
        rcases List.mem_append.1 hx with hx | hx
        · exact (hc2'.mono (by omega)) x hx
        · simp at hx; subst hx; exact .inr ⟨(ls, t), hok, by simp, rfl⟩

def outcS (a b : Bool) : List UInt8 := if a && b then [49] else if a then [84] else if b then [70] else [50]
theorem KN.new {N : Nat} {h : AH} : KN N h.length (h ++ [.row [.nilS, .nilS] 0 0 false]) [] :=
  ⟨.nilS, .nilS, [], by simp, OwL.nil, OwL.nil, by simp [rowOf], by simp [rowOf], by simp [rowOf], rfl, List.nodup_nil, fun x hx => (List.not_mem_nil hx).elim, fun i x b hx => by simp at hx⟩
theorem c_gaOutcome {ls : List (List UInt8)} {v : AV} {h : AH} (hs : Slc 1 encS h v ls) (hg : ∀ w ∈ ls, signs w) (hN : (gaTail ls).length ≤ 13) {post : AV → AH → Prop} (hp : ∀ h', h.length ≤ h'.length → (∀ i, i < h.length → h'[i]? = h[i]?) → post (.str (outcS (winL ls true) (winL ls false))) h') : S 197 [v] h post k := by
  have ok : ∀ t, OkS ((gaTail ls).length + 1) (ls, t) := fun t => ⟨hg, by simp [gaK]⟩
  have hpre := Pre.push h (AO.row [.nilS, .nilS] 0 0 false)
  have hk0 : KN ((gaTail ls).length + 1) h.length (h ++ [.row [.nilS, .nilS] 0 0 false]) [] := KN.new
  have hng : ∀ r, r < h.length → ¬ gr h.length (h ++ [.row [.nilS, .nilS] 0 0 false]) r := by
    rintro r hr (rfl | ⟨v1, v2, e1, e2⟩)
    · exact Nat.lt_irrefl _ hr
    · simp at e1
      obtain ⟨rfl, rfl⟩ := e1
      simp [rowOf] at e2
  have hs1 : SlcG 1 encS h.length (h ++ [.row [.nilS, .nilS] 0 0 false]) v ls := by
    refine ⟨hs.pre hpre, fun r hr => hng r ?_⟩
    unfold Slc Sl at hs
    cases v <;> simp only [rowOf] at hr hs <;> first
      | (cases hr; done)
      | (cases hr; exact rd_lt hs.2.2.2)
  refine S_of rfl T197 ?_; unfold fi197
  simp (maxSteps := 1000000) (disch := first | omega | rfl | (simp only [zL, two63, room] <;> omega) | fail) only [↓reduceIte, ↓zP, zW, WOp, evOp, evBin, binI, binSh, binS, evNil, keyIs, keyEq, mkv, AV.cells, AV.sc, optv, bnd, env, put, Env.get, Env.set, Env.del, Env.dels, Env.init, res1, resL, resV, fillP, splice, newRow, Nat.reduceEqDiff, Nat.reduceLT, Nat.reduceLeDiff, Nat.reduceAdd, Nat.reduceMul, Nat.reduceSub, Nat.reduceBEq, reduceCtorEq, ↓zR, zQ, Tr, StA, StT]
  refine c_gaWin (N := (gaTail ls).length + 1) (by omega) _ ls true _ _ _ _ (Nat.lt_succ_self _) (ok true) hk0 hs1 _ ?_
  intro h2 K2 hf2 hk2 _
  simp (maxSteps := 1000000) (disch := first | omega | rfl | (simp only [zL, two63, room] <;> omega) | fail) only [↓reduceIte, ↓zP, zW, WOp, evOp, evBin, binI, binSh, binS, evNil, keyIs, keyEq, mkv, AV.cells, AV.sc, optv, bnd, env, put, Env.get, Env.set, Env.del, Env.dels, Env.init, res1, resL, resV, fillP, splice, newRow, Nat.reduceEqDiff, Nat.reduceLT, Nat.reduceLeDiff, Nat.reduceAdd, Nat.reduceMul, Nat.reduceSub, Nat.reduceBEq, reduceCtorEq, ↓zR, zQ, Tr, StA, StT]
  refine c_gaWin (N := (gaTail ls).length + 1) (by omega) _ ls false _ _ _ _ (Nat.lt_succ_self _) (ok false) hk2 (hs1.fr hf2) _ ?_
  intro h3 K3 hf3 hk3 _
  have hff := hf2.trans hf3
  have hq := hp h3 (by have := hff.1; simp at this; omega) (fun i hi => by rw [(hff.2 i (by simp; omega) (hng i hi)).1, hpre.2 i hi])
  cases e1 : winL ls true <;> cases e2 : winL ls false <;> simp only [e1, e2, outcS, Bool.and_true, Bool.and_false, if_true, if_false, Bool.false_eq_true] at hq <;> simp (maxSteps := 1000000) (disch := first | omega | rfl | (simp only [zL, two63, room] <;> omega) | fail) only [↓reduceIte, ↓zP, zW, WOp, evOp, evBin, binI, binSh, binS, evNil, keyIs, keyEq, mkv, AV.cells, AV.sc, optv, bnd, env, put, Env.get, Env.set, Env.del, Env.dels, Env.init, res1, resL, resV, fillP, splice, newRow, Nat.reduceEqDiff, Nat.reduceLT, Nat.reduceLeDiff, Nat.reduceAdd, Nat.reduceMul, Nat.reduceSub, Nat.reduceBEq, reduceCtorEq, ↓zR, zQ, Tr, StA, StT] <;> exact hq
end Go.Proofs.YtbpenpikaehloaaDoor.Ab

/- MAPS that know what a function answers. -/
namespace Go.Proofs.YtbpenpikaehloaaDoor.Ab
open Go
set_option maxRecDepth 100000
set_option maxHeartbeats 4000000

/-- All keys are texts. -/
def StrK (es : List (AV × AV)) : Prop := ∀ kv ∈ es, ∃ s, kv.1 = .str s
theorem StrK.nil : StrK [] := fun _ h => by cases h
theorem mfind_some {es : List (AV × AV)} (hk : StrK es) (x : List UInt8) : ∃ o, mfind (.str x) es = some o := by
  induction es with
  | nil => exact ⟨none, rfl⟩
  | cons kv es ih =>
    obtain ⟨a, v⟩ := kv
    obtain ⟨s, hs⟩ := hk (a, v) (by simp)
    simp only at hs
    subst hs
    obtain ⟨o, ho⟩ := ih fun kv h => hk kv (by simp [h])
    simp only [mfind, keyEq]
    cases x == s
    · exact ⟨o, ho⟩
    · exact ⟨some v, rfl⟩
theorem mfind_mput {es : List (AV × AV)} (hk : StrK es) (x y : List UInt8) (v : AV) : mfind (.str y) (mput (.str x) v es) = if y == x then some (some v) else mfind (.str y) es := by
  induction es with
  | nil =>
    simp only [mput, mfind, keyEq]
    cases y == x <;> rfl
  | cons kv es ih =>
    obtain ⟨a, u⟩ := kv
    obtain ⟨s, hs⟩ := hk (a, u) (by simp)
    simp only at hs
    subst hs
    have ih := ih fun kv h => hk kv (by simp [h])
    cases e : x == s
    · have e1 : mput (.str x) v ((.str s, u) :: es) = (.str s, u) :: mput (.str x) v es := by simp only [mput, keyEq, e]
      rw [e1]
      simp only [mfind, keyEq, ih]
      cases e2 : y == s
      · rfl
      · have : (y == x) = false := by
          rw [beq_eq_false_iff_ne] at e ⊢
          rw [beq_iff_eq] at e2
          subst e2; exact fun h => e h.symm
        simp [this]
    · have e1 : mput (.str x) v ((.str s, u) :: es) = (.str x, v) :: es := by simp only [mput, keyEq, e]
      rw [e1]
      rw [beq_iff_eq] at e
      subst e
      simp only [mfind, keyEq]
      cases y == x <;> rfl
theorem StrK.mput {es : List (AV × AV)} (hk : StrK es) (x : List UInt8) (v : AV) : StrK (mput (.str x) v es) := by
  induction es with
  | nil => intro kv h; simp only [Ab.mput, List.mem_singleton] at h; subst h; exact ⟨x, rfl⟩
  | cons kv es ih =>
    obtain ⟨a, u⟩ := kv
    have ih := ih fun kv h => hk kv (by simp [h])
    have ha := hk (a, u) (by simp)
    intro kv h
    simp only [Ab.mput] at h
    split at h
    · rcases List.mem_cons.1 h with rfl | h
      · exact ⟨x, rfl⟩
      · exact hk kv (by simp [h])
    · rcases List.mem_cons.1 h with rfl | h
      · exact ha
      · exact ih kv h

/-- The map at c knows right answers. -/
def Mh {σ : Type} (key : σ → List UInt8) (val : σ → AV) (c : Nat) (h : AH) : Prop := ∃ es, h[c]? = some (.map es) ∧ StrK es ∧ ∀ s v, mfind (.str (key s)) es = some (some v) → v = val s
section
variable {σ : Type} {key : σ → List UInt8} {val : σ → AV} {c : Nat} {h : AH}
theorem Mh.lt (hm : Mh key val c h) : c < h.length := by
  obtain ⟨es, h1, _⟩ := hm
  exact (List.getElem?_eq_some_iff.1 h1).1
theorem Mh.pre {h' : AH} (hm : Mh key val c h) (hp : Pre h h') : Mh key val c h' := by
  have := hm.lt
  obtain ⟨es, h1, h2⟩ := hm
  exact ⟨es, by rw [hp.2 c this]; exact h1, h2⟩
theorem Mh.new : Mh key val h.length (h ++ [.map []]) := ⟨[], by simp, StrK.nil, fun s v hv => by simp [mfind] at hv⟩
theorem Mh.new' {n : Nat} (hn : n = h.length) : Mh key val n (h ++ [.map []]) := hn ▸ Mh.new
/-- A new answer. -/
theorem Mh.put (hm : Mh key val c h) (hk : ∀ s s', key s = key s' → val s = val s') (s : σ) : ∃ es, h[c]? = some (.map es) ∧ (∃ o, mfind (.str (key s)) es = some o) ∧ Mh key val c (h.set c (.map (mput (.str (key s)) (val s) es))) := by
  have hlt := hm.lt
  obtain ⟨es, h1, h2, h3⟩ := hm
  refine ⟨es, h1, mfind_some h2 _, _, by rw [List.getElem?_set, if_pos rfl, if_pos hlt], h2.mput _ _, ?_⟩
  intro s' v hv
  rw [mfind_mput h2] at hv
  split at hv
  · rename_i he
    cases hv
    exact hk s s' (beq_iff_eq.1 he).symm
  · exact h3 s' v hv
end
end Go.Proofs.YtbpenpikaehloaaDoor.Ab

/- GAMES of the program: who wins a sum. -/
namespace Go.Proofs.YtbpenpikaehloaaDoor.Ab
open Go
set_option maxRecDepth 100000
set_option maxHeartbeats 4000000

theorem e_kindOf (t : Bool) {h : AH} {post : AV → AH → Prop} : S 200 [.bool t] h post k = post (.str (kindS t)) h := S_eq fun _ hp => c_kindOf t hp
theorem kindS_len (t : Bool) : (kindS t).length = 1 := by cases t <;> rfl
def winK (s : List UInt8 × Bool) : List UInt8 := kindS s.2 ++ s.1
def winV (s : List UInt8 × Bool) : AV := .bool (winB s.1 s.2)
theorem winK_inj (s s' : List UInt8 × Bool) (h : winK s = winK s') : winV s = winV s' := by
  obtain ⟨w, t⟩ := s
  obtain ⟨w', t'⟩ := s'
  cases t <;> cases t' <;> simp [winK, kindS] at h ⊢ <;> subst h <;> rfl

theorem c_newGames {h : AH} {post : AV → AH → Prop} (hp : ∀ c h', Pre h h' → h.length ≤ c → Mh winK winV c h' → post (.agg [.map c]) h') : S 192 [] h post k := by
  refine S_of rfl T192 ?_; unfold fi192
  simp (maxSteps := 1000000) (disch := first | omega | rfl | (simp only [zL, two63, room] <;> omega) | fail) only [↓reduceIte, ↓zP, zW, WOp, evOp, evBin, binI, binSh, binS, evNil, keyIs, keyEq, mkv, AV.cells, AV.sc, optv, bnd, env, put, Env.get, Env.set, Env.del, Env.dels, Env.init, res1, resL, resV, fillP, splice, newRow, Nat.reduceEqDiff, Nat.reduceLT, Nat.reduceLeDiff, Nat.reduceAdd, Nat.reduceMul, Nat.reduceSub, Nat.reduceBEq, reduceCtorEq, ↓zR, zQ, Tr, StA, StT]
  exact hp _ _ (((Pre.push _ _).trans (Pre.push _ _))) (by simp) (Mh.new' (by simp))

def WinAt (n : Nat) : Prop := ∀ (w : List UInt8) (t : Bool) (c : Nat) (h : AH), mu w < n → w.length < 2 ^ 30 → Mh winK winV c h → ∀ post : AV → AH → Prop, (∀ h', PreX c h h' → Mh winK winV c h' → post (.bool (winB w t)) h') → S 198 [.agg [.map c], .str w, .bool t] h post k
theorem c_win1 {n : Nat} (ih : WinAt n) {w : List UInt8} {t : Bool} (hn : mu w < n + 1) (hw : w.length < 2 ^ 30) {c c3 c4 c5 : Nat} {h : AH} (hm : Mh winK winV c h) (r3 : rdRow h c3 0 0 1 = some [.map c]) (r4 : rdRow h c4 0 0 1 = some [.str w]) (r5 : rdRow h c5 0 0 1 = some [.bool t])
    {m : Int × Int} (hmm : m ∈ movesB w (kindS t)) {post : AV → AH → Prop} (hp : ∀ h', PreX c h h' → Mh winK winV c h' → post (.bool (!winB (madeB w m.1.toNat m.2.toNat) (!t))) h') :
    S 201 [.agg (encM m), .ptr c3 0 0 1, .ptr c4 0 0 1, .ptr c5 0 0 1] h post k := by
  obtain ⟨i, t', rfl, hmv⟩ := movesB_mv hmm
  refine S_of rfl T201 ?_; unfold fi201
  have hlt3 : c3 < h.length := rd_lt r3
  have hlt4 : c4 < h.length := rd_lt r4
  have hlt5 : c5 < h.length := rd_lt r5
  simp (maxSteps := 1000000) (disch := first | omega | rfl | (simp only [zL, two63, room] <;> omega) | fail) only [↓reduceIte, ↓zP, zW, WOp, evOp, evBin, binI, binSh, binS, evNil, keyIs, keyEq, mkv, AV.cells, AV.sc, optv, bnd, env, put, Env.get, Env.set, Env.del, Env.dels, Env.init, res1, resL, resV, fillP, splice, newRow, Nat.reduceEqDiff, Nat.reduceLT, Nat.reduceLeDiff, Nat.reduceAdd, Nat.reduceMul, Nat.reduceSub, Nat.reduceBEq, reduceCtorEq, ↓zR, zQ, Tr, StA, StT, r3, r4, r5]
  refine w_drw ?_
  simp (maxSteps := 1000000) (disch := first | omega | rfl | (simp only [zL, two63, room] <;> omega) | fail) only [↓reduceIte, ↓zP, zW, WOp, evOp, evBin, binI, binSh, binS, evNil, keyIs, keyEq, mkv, AV.cells, AV.sc, optv, bnd, env, put, Env.get, Env.set, Env.del, Env.dels, Env.init, res1, resL, resV, fillP, splice, newRow, Nat.reduceEqDiff, Nat.reduceLT, Nat.reduceLeDiff, Nat.reduceAdd, Nat.reduceMul, Nat.reduceSub, Nat.reduceBEq, reduceCtorEq, ↓zR, zQ, Tr, StA, StT, r3, r4, r5]
  refine c_made w i t' hmv.fst hmv.snd hw ?_
  intro h2 hp2
  have hp1 := (Pre.push h (AO.row (encM ((i : Int), (t' : Int))) 0 0 false)).trans hp2
  have q5 := rdRow_pre hp1 r5
  have q3 := rdRow_pre hp1 r3
  simp (maxSteps := 1000000) (disch := first | omega | rfl | (simp only [zL, two63, room] <;> omega) | fail) only [↓reduceIte, ↓zP, zW, WOp, evOp, evBin, binI, binSh, binS, evNil, keyIs, keyEq, mkv, AV.cells, AV.sc, optv, bnd, env, put, Env.get, Env.set, Env.del, Env.dels, Env.init, res1, resL, resV, fillP, splice, newRow, Nat.reduceEqDiff, Nat.reduceLT, Nat.reduceLeDiff, Nat.reduceAdd, Nat.reduceMul, Nat.reduceSub, Nat.reduceBEq, reduceCtorEq, ↓zR, zQ, Tr, StA, StT, r3, r4, r5, q3, q5]
  refine ih _ _ _ _ ?_ ?_ (hm.pre hp1) _ ?_
  · have := mu_made hmv; omega
  · rw [madeB_length]; exact hw
  intro h3 hp3 hm3
  simp (maxSteps := 1000000) (disch := first | omega | rfl | (simp only [zL, two63, room] <;> omega) | fail) only [↓reduceIte, ↓zP, zW, WOp, evOp, evBin, binI, binSh, binS, evNil, keyIs, keyEq, mkv, AV.cells, AV.sc, optv, bnd, env, put, Env.get, Env.set, Env.del, Env.dels, Env.init, res1, resL, resV, fillP, splice, newRow, Nat.reduceEqDiff, Nat.reduceLT, Nat.reduceLeDiff, Nat.reduceAdd, Nat.reduceMul, Nat.reduceSub, Nat.reduceBEq, reduceCtorEq, ↓zR, zQ, Tr, StA, StT, r3, r4, r5, q3, q5]
  exact hp _ ((hp1.x c).trans hp3) hm3

theorem c_win : ∀ n : Nat, WinAt n
  | 0 => fun w t c h hn _ _ _ _ => by omega
  | n + 1 => by
    intro w t c h hn hw hm post hp
    have ih := c_win n
    refine S_of rfl T198 ?_; unfold fi198
    have hk := kindS_len t
    have hlt := hm.lt
    have hm0 := hm
    obtain ⟨es, he, hks, hgood⟩ := hm
    have hp1 : Pre h (h ++ [AO.row [.map c] 0 0 false] ++ [AO.row [.str w] 0 0 false] ++ [AO.row [.bool t] 0 0 false]) := (Pre.push h _).trans ((Pre.push _ _).trans (Pre.push _ _))
    have hm1 : (h ++ [AO.row [.map c] 0 0 false] ++ [AO.row [.str w] 0 0 false] ++ [AO.row [.bool t] 0 0 false])[c]? = some (.map es) := by rw [hp1.2 c hlt, he]
    simp (maxSteps := 1000000) (disch := first | omega | rfl | (simp only [zL, two63, room] <;> omega) | fail) only [↓reduceIte, ↓zP, zW, WOp, evOp, evBin, binI, binSh, binS, evNil, keyIs, keyEq, mkv, AV.cells, AV.sc, optv, bnd, env, put, Env.get, Env.set, Env.del, Env.dels, Env.init, res1, resL, resV, fillP, splice, newRow, Nat.reduceEqDiff, Nat.reduceLT, Nat.reduceLeDiff, Nat.reduceAdd, Nat.reduceMul, Nat.reduceSub, Nat.reduceBEq, reduceCtorEq, ↓zR, zQ, Tr, StA, StT]
    refine w_drw ?_
    obtain ⟨o, ho⟩ := mfind_some hks (kindS t ++ w)
    cases o with
    | some v =>
      obtain rfl : v = .bool (winB w t) := hgood (w, t) v ho
      simp (maxSteps := 1000000) (disch := first | omega | rfl | (simp only [zL, two63, room] <;> omega) | fail) only [↓reduceIte, ↓zP, zW, WOp, evOp, evBin, binI, binSh, binS, evNil, keyIs, keyEq, mkv, AV.cells, AV.sc, optv, bnd, env, put, Env.get, Env.set, Env.del, Env.dels, Env.init, res1, resL, resV, fillP, splice, newRow, Nat.reduceEqDiff, Nat.reduceLT, Nat.reduceLeDiff, Nat.reduceAdd, Nat.reduceMul, Nat.reduceSub, Nat.reduceBEq, reduceCtorEq, ↓zR, zQ, Tr, StA, StT, e_kindOf, hm1, ho]
      exact hp _ (hp1.x c) (hm0.pre hp1)
    | none =>
      simp (maxSteps := 1000000) (disch := first | omega | rfl | (simp only [zL, two63, room] <;> omega) | fail) only [↓reduceIte, ↓zP, zW, WOp, evOp, evBin, binI, binSh, binS, evNil, keyIs, keyEq, mkv, AV.cells, AV.sc, optv, bnd, env, put, Env.get, Env.set, Env.del, Env.dels, Env.init, res1, resL, resV, fillP, splice, newRow, Nat.reduceEqDiff, Nat.reduceLT, Nat.reduceLeDiff, Nat.reduceAdd, Nat.reduceMul, Nat.reduceSub, Nat.reduceBEq, reduceCtorEq, ↓zR, zQ, Tr, StA, StT, e_kindOf, hm1, ho]
      refine w_drw ?_
      simp (maxSteps := 1000000) (disch := first | omega | rfl | (simp only [zL, two63, room] <;> omega) | fail) only [↓reduceIte, ↓zP, zW, WOp, evOp, evBin, binI, binSh, binS, evNil, keyIs, keyEq, mkv, AV.cells, AV.sc, optv, bnd, env, put, Env.get, Env.set, Env.del, Env.dels, Env.init, res1, resL, resV, fillP, splice, newRow, Nat.reduceEqDiff, Nat.reduceLT, Nat.reduceLeDiff, Nat.reduceAdd, Nat.reduceMul, Nat.reduceSub, Nat.reduceBEq, reduceCtorEq, ↓zR, zQ, Tr, StA, StT, e_kindOf, hm1, ho]
      have q3 : rdRow (h ++ [AO.row [.map c] 0 0 false] ++ [AO.row [.str w] 0 0 false] ++ [AO.row [.bool t] 0 0 false]) h.length 0 0 1 = some [.map c] := by simp (maxSteps := 1000000) (disch := first | omega | rfl | (simp only [zL, two63, room] <;> omega) | fail) only [↓reduceIte, ↓zP, zW, WOp, evOp, evBin, binI, binSh, binS, evNil, keyIs, keyEq, mkv, AV.cells, AV.sc, optv, bnd, env, put, Env.get, Env.set, Env.del, Env.dels, Env.init, res1, resL, resV, fillP, splice, newRow, Nat.reduceEqDiff, Nat.reduceLT, Nat.reduceLeDiff, Nat.reduceAdd, Nat.reduceMul, Nat.reduceSub, Nat.reduceBEq, reduceCtorEq, ↓zR, zQ, Tr, StA, StT]
      have q4 : rdRow (h ++ [AO.row [.map c] 0 0 false] ++ [AO.row [.str w] 0 0 false] ++ [AO.row [.bool t] 0 0 false]) (h ++ [AO.row [.map c] 0 0 false]).length 0 0 1 = some [.str w] := by simp (maxSteps := 1000000) (disch := first | omega | rfl | (simp only [zL, two63, room] <;> omega) | fail) only [↓reduceIte, ↓zP, zW, WOp, evOp, evBin, binI, binSh, binS, evNil, keyIs, keyEq, mkv, AV.cells, AV.sc, optv, bnd, env, put, Env.get, Env.set, Env.del, Env.dels, Env.init, res1, resL, resV, fillP, splice, newRow, Nat.reduceEqDiff, Nat.reduceLT, Nat.reduceLeDiff, Nat.reduceAdd, Nat.reduceMul, Nat.reduceSub, Nat.reduceBEq, reduceCtorEq, ↓zR, zQ, Tr, StA, StT]
      have q5 : rdRow (h ++ [AO.row [.map c] 0 0 false] ++ [AO.row [.str w] 0 0 false] ++ [AO.row [.bool t] 0 0 false]) (h ++ [AO.row [.map c] 0 0 false] ++ [AO.row [.str w] 0 0 false]).length 0 0 1 = some [.bool t] := by simp (maxSteps := 1000000) (disch := first | omega | rfl | (simp only [zL, two63, room] <;> omega) | fail) only [↓reduceIte, ↓zP, zW, WOp, evOp, evBin, binI, binSh, binS, evNil, keyIs, keyEq, mkv, AV.cells, AV.sc, optv, bnd, env, put, Env.get, Env.set, Env.del, Env.dels, Env.init, res1, resL, resV, fillP, splice, newRow, Nat.reduceEqDiff, Nat.reduceLT, Nat.reduceLeDiff, Nat.reduceAdd, Nat.reduceMul, Nat.reduceSub, Nat.reduceBEq, reduceCtorEq, ↓zR, zQ, Tr, StA, StT]
      generalize hg : h ++ [AO.row [.map c] 0 0 false] ++ [AO.row [.str w] 0 0 false] ++ [AO.row [.bool t] 0 0 false] = h1 at *
      generalize hc4 : (h ++ [AO.row [.map c] 0 0 false]).length = c4 at *
      generalize hc5 : (h ++ [AO.row [.map c] 0 0 false] ++ [AO.row [.str w] 0 0 false]).length = c5 at *
      refine c_moves w (kindS t) hw ?_
      intro v h2 ho2 hp2
      simp (maxSteps := 1000000) (disch := first | omega | rfl | (simp only [zL, two63, room] <;> omega) | fail) only [↓reduceIte, ↓zP, zW, WOp, evOp, evBin, binI, binSh, binS, evNil, keyIs, keyEq, mkv, AV.cells, AV.sc, optv, bnd, env, put, Env.get, Env.set, Env.del, Env.dels, Env.init, res1, resL, resV, fillP, splice, newRow, Nat.reduceEqDiff, Nat.reduceLT, Nat.reduceLeDiff, Nat.reduceAdd, Nat.reduceMul, Nat.reduceSub, Nat.reduceBEq, reduceCtorEq, ↓zR, zQ, Tr, StA, StT, q3, q4, q5]
      have hs2 : Slc 2 encM h2 v (movesB w (kindS t)) := ho2.sl
      refine c_ContainsFuncM (v := v) (L := movesB w (kindS t)) _ _ (fun m => !winB (madeB w m.1.toNat m.2.toNat) (!t)) (fun h' => PreX c h2 h' ∧ Mh winK winV c h') ?_ ?_ ?_ ⟨PreX.refl _ _, hm0.pre (hp1.trans hp2)⟩ ?_
      · have := movesB_len w (kindS t); omega
      · intro h' hh; exact OwL.slc_prex (h0 := h1) ho2 hh.1 (Nat.lt_of_lt_of_le hlt hp1.1)
      · intro m hm h' hh post hpost
        have hpx := (hp2.x c).trans hh.1
        refine c_win1 ih hn hw hh.2 (rdRow_prex hpx ?_ q3) (rdRow_prex hpx ?_ q4) (rdRow_prex hpx ?_ q5) hm ?_
        · omega
        · subst hc4; simp; omega
        · subst hc5; simp; omega
        · intro h3 hp3 hm3
          exact hpost h3 ⟨hh.1.trans hp3, hm3⟩
      · intro h3 hh3
        have k3 := rdRow_prex ((hp2.x c).trans hh3.1) (by omega) q3
        obtain ⟨es3, e1, ⟨o3, e2⟩, hm4⟩ := hh3.2.put winK_inj (w, t)
        unfold winK at e2
        simp (maxSteps := 1000000) (disch := first | omega | rfl | (simp only [zL, two63, room] <;> omega) | fail) only [↓reduceIte, ↓zP, zW, WOp, evOp, evBin, binI, binSh, binS, evNil, keyIs, keyEq, mkv, AV.cells, AV.sc, optv, bnd, env, put, Env.get, Env.set, Env.del, Env.dels, Env.init, res1, resL, resV, fillP, splice, newRow, Nat.reduceEqDiff, Nat.reduceLT, Nat.reduceLeDiff, Nat.reduceAdd, Nat.reduceMul, Nat.reduceSub, Nat.reduceBEq, reduceCtorEq, ↓zR, zQ, Tr, StA, StT, k3, e1, e2]
        have hv : ((movesB w (kindS t)).any fun m => !winB (madeB w m.fst.toNat m.snd.toNat) !t) = winB w t := (winB_eq w t).symm
        rw [hv]
        exact hp _ (((hp1.trans hp2).x c).trans (hh3.1.trans (PreX.refl c h3).set)) hm4
end Go.Proofs.YtbpenpikaehloaaDoor.Ab

/- PUZZLES: clues. -/
namespace Go.Proofs.YtbpenpikaehloaaDoor.Ab
open Go
set_option maxRecDepth 100000
set_option maxHeartbeats 4000000

theorem c_outcome (w : List UInt8) (hw : w.length < 2 ^ 30) {c : Nat} {h : AH} (hm : Mh winK winV c h) {post : AV → AH → Prop} (hp : ∀ h', PreX c h h' → post (.str (outcS (winB w true) (winB w false))) h') : S 193 [.agg [.map c], .str w] h post k := by
  refine S_of rfl T193 ?_; unfold fi193
  simp (maxSteps := 1000000) (disch := first | omega | rfl | (simp only [zL, two63, room] <;> omega) | fail) only [↓reduceIte, ↓zP, zW, WOp, evOp, evBin, binI, binSh, binS, evNil, keyIs, keyEq, mkv, AV.cells, AV.sc, optv, bnd, env, put, Env.get, Env.set, Env.del, Env.dels, Env.init, res1, resL, resV, fillP, splice, newRow, Nat.reduceEqDiff, Nat.reduceLT, Nat.reduceLeDiff, Nat.reduceAdd, Nat.reduceMul, Nat.reduceSub, Nat.reduceBEq, reduceCtorEq, ↓zR, zQ, Tr, StA, StT]
  refine w_drw ?_
  have hlt := hm.lt
  have r0 : rdRow (h ++ [AO.row [.map c] 0 0 false]) h.length 0 0 1 = some [.map c] := by simp (maxSteps := 1000000) (disch := first | omega | rfl | (simp only [zL, two63, room] <;> omega) | fail) only [↓reduceIte, ↓zP, zW, WOp, evOp, evBin, binI, binSh, binS, evNil, keyIs, keyEq, mkv, AV.cells, AV.sc, optv, bnd, env, put, Env.get, Env.set, Env.del, Env.dels, Env.init, res1, resL, resV, fillP, splice, newRow, Nat.reduceEqDiff, Nat.reduceLT, Nat.reduceLeDiff, Nat.reduceAdd, Nat.reduceMul, Nat.reduceSub, Nat.reduceBEq, reduceCtorEq, ↓zR, zQ, Tr, StA, StT]
  simp (maxSteps := 1000000) (disch := first | omega | rfl | (simp only [zL, two63, room] <;> omega) | fail) only [↓reduceIte, ↓zP, zW, WOp, evOp, evBin, binI, binSh, binS, evNil, keyIs, keyEq, mkv, AV.cells, AV.sc, optv, bnd, env, put, Env.get, Env.set, Env.del, Env.dels, Env.init, res1, resL, resV, fillP, splice, newRow, Nat.reduceEqDiff, Nat.reduceLT, Nat.reduceLeDiff, Nat.reduceAdd, Nat.reduceMul, Nat.reduceSub, Nat.reduceBEq, reduceCtorEq, ↓zR, zQ, Tr, StA, StT]
  refine c_win (mu w + 1) w true c _ (by omega) hw (hm.pre (Pre.push _ _)) _ ?_
  intro h2 hp2 hm2
  have r2 := rdRow_prex hp2 (by omega) r0
  simp (maxSteps := 1000000) (disch := first | omega | rfl | (simp only [zL, two63, room] <;> omega) | fail) only [↓reduceIte, ↓zP, zW, WOp, evOp, evBin, binI, binSh, binS, evNil, keyIs, keyEq, mkv, AV.cells, AV.sc, optv, bnd, env, put, Env.get, Env.set, Env.del, Env.dels, Env.init, res1, resL, resV, fillP, splice, newRow, Nat.reduceEqDiff, Nat.reduceLT, Nat.reduceLeDiff, Nat.reduceAdd, Nat.reduceMul, Nat.reduceSub, Nat.reduceBEq, reduceCtorEq, ↓zR, zQ, Tr, StA, StT, r0, r2]
  refine c_win (mu w + 1) w false c _ (by omega) hw hm2 _ ?_
  intro h3 hp3 hm3
  have hq := hp h3 (((Pre.push h (AO.row [.map c] 0 0 false)).x c).trans (hp2.trans hp3))
  cases e1 : winB w true <;> cases e2 : winB w false <;> simp only [e1, e2, outcS, Bool.and_true, Bool.and_false, if_true, if_false, Bool.false_eq_true] at hq <;> simp (maxSteps := 1000000) (disch := first | omega | rfl | (simp only [zL, two63, room] <;> omega) | fail) only [↓reduceIte, ↓zP, zW, WOp, evOp, evBin, binI, binSh, binS, evNil, keyIs, keyEq, mkv, AV.cells, AV.sc, optv, bnd, env, put, Env.get, Env.set, Env.del, Env.dels, Env.init, res1, resL, resV, fillP, splice, newRow, Nat.reduceEqDiff, Nat.reduceLT, Nat.reduceLeDiff, Nat.reduceAdd, Nat.reduceMul, Nat.reduceSub, Nat.reduceBEq, reduceCtorEq, ↓zR, zQ, Tr, StA, StT, r0, r2] <;> exact hq

theorem lp_liCount (w : List UInt8) (b : UInt8) (hw : w.length < 2 ^ 30) {h : AH} {R : X → Env → AH → Prop} : ∀ (rest pre : List UInt8) (n : Nat), w = pre ++ rest → n ≤ pre.length → R (.exit 0) [(5, .int .i64 ((n + rest.count b : Nat) : Int))] h →
    Cx (.loop lp116_0) [(0, .str w), (1, by8 b), (5, .int .i64 n), (6, .int .i64 pre.length)] h R k k
  | [], pre, n, hpre, hn, hR => by
    rw [w_loopb (c := lp116_0) (d := lb116_0) rfl]; unfold lb116_0
    have hl : w.length = pre.length := by rw [hpre]; simp
    simp (maxSteps := 1000000) (disch := first | omega | rfl | (simp only [zL, two63, room] <;> omega) | fail) only [↓reduceIte, ↓zP, zW, WOp, evOp, evBin, binI, binSh, binS, evNil, keyIs, keyEq, mkv, AV.cells, AV.sc, optv, bnd, env, put, Env.get, Env.set, Env.del, Env.dels, Env.init, res1, resL, resV, fillP, splice, newRow, Nat.reduceEqDiff, Nat.reduceLT, Nat.reduceLeDiff, Nat.reduceAdd, Nat.reduceMul, Nat.reduceSub, Nat.reduceBEq, reduceCtorEq, ↓zR, zQ, Tr, StA, StT, hl]
    simpa using hR
  | x :: rest, pre, n, hpre, hn, hR => by
    have ih := lp_liCount w b hw (h := h) (R := R) rest (pre ++ [x])
    have hl : w.length = pre.length + 1 + rest.length := by rw [hpre]; simp; omega
    have hx : w.getD pre.length 0 = x := by rw [hpre]; simp [List.getD_eq_getElem?_getD]
    rw [w_loopb (c := lp116_0) (d := lb116_0) rfl]; unfold lb116_0
    have w1 : (pre.length : Int) + 1 = ((pre ++ [x]).length : Int) := by simp
    have w2 : (n : Int) + 1 = ((n + 1 : Nat) : Int) := by omega
    cases e : (x == b)
    · simp (maxSteps := 1000000) (disch := first | omega | rfl | (simp only [zL, two63, room] <;> omega) | fail) only [↓reduceIte, ↓zP, zW, WOp, evOp, evBin, binI, binSh, binS, evNil, keyIs, keyEq, mkv, AV.cells, AV.sc, optv, bnd, env, put, Env.get, Env.set, Env.del, Env.dels, Env.init, res1, resL, resV, fillP, splice, newRow, Nat.reduceEqDiff, Nat.reduceLT, Nat.reduceLeDiff, Nat.reduceAdd, Nat.reduceMul, Nat.reduceSub, Nat.reduceBEq, reduceCtorEq, ↓zR, zQ, Tr, StA, StT, hx, e, w1]
      rw [w_loopn (c := lp116_0) rfl]
      simp (maxSteps := 1000000) (disch := first | omega | rfl | (simp only [zL, two63, room] <;> omega) | fail) only [↓reduceIte, ↓zP, zW, WOp, evOp, evBin, binI, binSh, binS, evNil, keyIs, keyEq, mkv, AV.cells, AV.sc, optv, bnd, env, put, Env.get, Env.set, Env.del, Env.dels, Env.init, res1, resL, resV, fillP, splice, newRow, Nat.reduceEqDiff, Nat.reduceLT, Nat.reduceLeDiff, Nat.reduceAdd, Nat.reduceMul, Nat.reduceSub, Nat.reduceBEq, reduceCtorEq, ↓zR, zQ, Tr, StA, StT]
      exact ih n (by rw [hpre]; simp) (by simp; omega) (by rw [List.count_cons, e] at hR; simpa using hR)
    · simp (maxSteps := 1000000) (disch := first | omega | rfl | (simp only [zL, two63, room] <;> omega) | fail) only [↓reduceIte, ↓zP, zW, WOp, evOp, evBin, binI, binSh, binS, evNil, keyIs, keyEq, mkv, AV.cells, AV.sc, optv, bnd, env, put, Env.get, Env.set, Env.del, Env.dels, Env.init, res1, resL, resV, fillP, splice, newRow, Nat.reduceEqDiff, Nat.reduceLT, Nat.reduceLeDiff, Nat.reduceAdd, Nat.reduceMul, Nat.reduceSub, Nat.reduceBEq, reduceCtorEq, ↓zR, zQ, Tr, StA, StT, hx, e, w1, w2]
      rw [w_loopn (c := lp116_0) rfl]
      simp (maxSteps := 1000000) (disch := first | omega | rfl | (simp only [zL, two63, room] <;> omega) | fail) only [↓reduceIte, ↓zP, zW, WOp, evOp, evBin, binI, binSh, binS, evNil, keyIs, keyEq, mkv, AV.cells, AV.sc, optv, bnd, env, put, Env.get, Env.set, Env.del, Env.dels, Env.init, res1, resL, resV, fillP, splice, newRow, Nat.reduceEqDiff, Nat.reduceLT, Nat.reduceLeDiff, Nat.reduceAdd, Nat.reduceMul, Nat.reduceSub, Nat.reduceBEq, reduceCtorEq, ↓zR, zQ, Tr, StA, StT]
      exact ih (n + 1) (by rw [hpre]; simp) (by simp; omega) (by rw [List.count_cons, e] at hR; simpa [Nat.add_assoc, Nat.add_comm 1] using hR)
theorem e_liCount (w : List UInt8) (b : UInt8) (hw : w.length < 1073741824) {h : AH} {post : AV → AH → Prop} : S 116 [.str w, by8 b] h post k = post (.int .i64 (w.count b : Nat)) h := by
  refine S_eq fun post hp => ?_
  refine S_of rfl T116 ?_; unfold fi116
  simp (maxSteps := 1000000) (disch := first | omega | rfl | (simp only [zL, two63, room] <;> omega) | fail) only [↓reduceIte, ↓zP, zW, WOp, evOp, evBin, binI, binSh, binS, evNil, keyIs, keyEq, mkv, AV.cells, AV.sc, optv, bnd, env, put, Env.get, Env.set, Env.del, Env.dels, Env.init, res1, resL, resV, fillP, splice, newRow, Nat.reduceEqDiff, Nat.reduceLT, Nat.reduceLeDiff, Nat.reduceAdd, Nat.reduceMul, Nat.reduceSub, Nat.reduceBEq, reduceCtorEq, ↓zR, zQ, Tr, StA, StT]
  refine lp_liCount w b hw w [] 0 rfl (by simp) ?_
  simp (maxSteps := 1000000) (disch := first | omega | rfl | (simp only [zL, two63, room] <;> omega) | fail) only [↓reduceIte, ↓zP, zW, WOp, evOp, evBin, binI, binSh, binS, evNil, keyIs, keyEq, mkv, AV.cells, AV.sc, optv, bnd, env, put, Env.get, Env.set, Env.del, Env.dels, Env.init, res1, resL, resV, fillP, splice, newRow, Nat.reduceEqDiff, Nat.reduceLT, Nat.reduceLeDiff, Nat.reduceAdd, Nat.reduceMul, Nat.reduceSub, Nat.reduceBEq, reduceCtorEq, ↓zR, zQ, Tr, StA, StT]
  simpa using hp
theorem e_liCountT (w : List UInt8) (hw : w.length < 1073741824) {h : AH} {post : AV → AH → Prop} : S 116 [.str w, .int .u8 84] h post k = post (.int .i64 (w.count 84 : Nat)) h := e_liCount w 84 hw
theorem e_liCountF (w : List UInt8) (hw : w.length < 1073741824) {h : AH} {post : AV → AH → Prop} : S 116 [.str w, .int .u8 70] h post k = post (.int .i64 (w.count 70 : Nat)) h := e_liCount w 70 hw
theorem e_liCountD (w : List UInt8) (hw : w.length < 1073741824) {h : AH} {post : AV → AH → Prop} : S 116 [.str w, .int .u8 46] h post k = post (.int .i64 (w.count 46 : Nat)) h := e_liCount w 46 hw
theorem e_count (w : List UInt8) {h : AH} {post : AV → AH → Prop} : S 189 [.str w] h post k = post (.tup [.int .i64 (w.count 84 : Nat), .int .i64 (w.count 46 : Nat), .int .i64 (w.count 70 : Nat)]) h := S_eq fun _ => c_count w
def clueOk (n : Int) (c : Int × Int × Int) : Bool :=
  if c.1 = 0 then decide (0 ≤ c.2.1 ∧ c.2.1 ≤ n - 1) && decide (0 ≤ c.2.2 ∧ c.2.2 ≤ 2) else
  decide (c.2.2 = 0) && (if c.1 = 1 ∨ c.1 = 2 then decide (0 ≤ c.2.1 ∧ c.2.1 ≤ n) else if c.1 = 3 then decide (0 ≤ c.2.1 ∧ c.2.1 ≤ 2 * n) else if c.1 = 4 then decide (0 ≤ c.2.1 ∧ c.2.1 ≤ 10) else if c.1 = 5 then decide (0 ≤ c.2.1 ∧ c.2.1 ≤ 3) else false)
def clueB (kd cell : Int) (w : List UInt8) : Int × Int × Int :=
  if kd = 0 then (0, cell, Go.Lib.indexByte [46, 70, 84] (w.getD cell.toNat 0)) else if kd = 1 then (1, w.count 84, 0) else if kd = 2 then (2, w.count 70, 0) else if kd = 3 then (3, (movesB w [84, 70]).length, 0) else if kd = 4 then (4, pairsB w, 0) else
  (5, Go.Lib.indexByte [49, 50, 70, 84] ((outcS (winB w true) (winB w false)).getD 0 0), 0)
theorem outcS_one (a b : Bool) : outcS a b = [(outcS a b).getD 0 0] := by cases a <;> cases b <;> rfl
end Go.Proofs.YtbpenpikaehloaaDoor.Ab

/- PUZZLES: which lines fit a clue. -/
namespace Go.Proofs.YtbpenpikaehloaaDoor.Ab
open Go
set_option maxRecDepth 100000
set_option maxHeartbeats 4000000

theorem idx_cons (x : UInt8) (l : List UInt8) (b : UInt8) : Go.Lib.indexByte (x :: l) b = if x == b then 0 else if Go.Lib.indexByte l b == -1 then -1 else Go.Lib.indexByte l b + 1 := rfl
def pzI (s : List UInt8) (b : UInt8) : Int := if Go.Lib.indexByte s b = -1 then 0 else Go.Lib.indexByte s b
def valB (kd at' : Int) (w : List UInt8) : Int :=
  if kd = 0 then pzI [46, 70, 84] (w.getD at'.toNat 0) else if kd = 1 then w.count 84 else if kd = 2 then w.count 70 else if kd = 3 then (movesB w [84, 70]).length else if kd = 4 then pairsB w else
  pzI [49, 50, 70, 84] ((outcS (winB w true) (winB w false)).getD 0 0)
def fitB (c : Int × Int × Int) (w : List UInt8) : Bool := if c.1 = 0 then valB 0 c.2.1 w == c.2.2 else valB c.1 0 w == c.2.1
theorem pzI_sign {b : UInt8} (hb : isSign b = true) : pzI [46, 70, 84] b = Go.Lib.indexByte [46, 70, 84] b := by
  simp only [isSign, Bool.or_eq_true, beq_iff_eq] at hb
  rcases hb with (rfl | rfl) | rfl <;> decide
theorem pzI_out (a b : Bool) : pzI [49, 50, 70, 84] ((outcS a b).getD 0 0) = Go.Lib.indexByte [49, 50, 70, 84] ((outcS a b).getD 0 0) := by cases a <;> cases b <;> decide
theorem fit_eq {n : Int} {kd a b cell : Int} {w : List UInt8} (hs : w.all isSign = true) (hn : n = w.length) (hc : clueOk n (kd, a, b) = true) (hcell : kd = 0 → cell = a) : seqL [0, 0, 0] (encC (clueB kd cell w)) (encC (kd, a, b)) = some (fitB (kd, a, b) w) := by
  have key : ∀ x y z : Int, seqL [0, 0, 0] (encC (x, y, z)) (encC (kd, a, b)) = some ((x == kd) && ((y == a) && (z == b))) := by
    intro x y z
    simp [seqL, keyIs, keyEq]
  unfold fitB clueB valB
  by_cases k0 : kd = 0
  · subst k0
    have := hcell rfl
    subst this
    simp only [if_true]
    simp only [clueOk, if_true, Bool.and_eq_true, decide_eq_true_eq] at hc
    rw [key, pzI_sign (sign_at hs (by omega))]
    simp
  have hb : b = 0 := by
    simp only [clueOk, if_neg k0, Bool.and_eq_true, decide_eq_true_eq] at hc
    exact hc.1
  subst hb
  simp only [if_neg k0]
  by_cases k1 : kd = 1
  · subst k1; rw [if_pos rfl, if_pos rfl, key]; simp
  rw [if_neg k1, if_neg k1]
  by_cases k2 : kd = 2
  · subst k2; rw [if_pos rfl, if_pos rfl, key]; simp
  rw [if_neg k2, if_neg k2]
  by_cases k3 : kd = 3
  · subst k3; rw [if_pos rfl, if_pos rfl, key]; simp
  rw [if_neg k3, if_neg k3]
  by_cases k4 : kd = 4
  · subst k4; rw [if_pos rfl, if_pos rfl, key]; simp
  rw [if_neg k4, if_neg k4]
  have k5 : kd = 5 := by
    simp [clueOk, k0, k1, k2, k3, k4] at hc
    exact hc.1
  subst k5
  rw [key, pzI_out]
  simp
end Go.Proofs.YtbpenpikaehloaaDoor.Ab

/- PLAIN: all lines of so many cells, in order. -/
namespace Go.Proofs.YtbpenpikaehloaaDoor.Ab

def ext3 (w : List UInt8) : List (List UInt8) := [w ++ [46], w ++ [70], w ++ [84]]
def allL : Nat → List (List UInt8)
  | 0 => [[]]
  | n + 1 => (allL n).flatMap ext3
/-- All that go on so many cells. -/
def goOn : Nat → List UInt8 → List (List UInt8)
  | 0, w => [w]
  | n + 1, w => goOn n (w ++ [46]) ++ goOn n (w ++ [70]) ++ goOn n (w ++ [84])
theorem goOn_succ : ∀ (n : Nat) (w : List UInt8), goOn (n + 1) w = (goOn n w).flatMap ext3
  | 0, w => by simp [goOn, ext3]
  | n + 1, w => by
    rw [goOn, goOn_succ n, goOn_succ n, goOn_succ n]
    conv => rhs; rw [goOn]
    simp only [List.flatMap_append]
theorem goOn_all : ∀ n : Nat, goOn n [] = allL n
  | 0 => rfl
  | n + 1 => by rw [goOn_succ, goOn_all n]; rfl
theorem allL_good : ∀ (n : Nat) (w : List UInt8), w ∈ allL n → w.length = n ∧ w.all isSign = true
  | 0, w, h => by simp [allL] at h; subst h; exact ⟨rfl, rfl⟩
  | n + 1, w, h => by
    simp only [allL, List.mem_flatMap] at h
    obtain ⟨v, hv, h⟩ := h
    obtain ⟨h1, h2⟩ := allL_good n v hv
    simp only [ext3, List.mem_cons, List.not_mem_nil, or_false] at h
    rcases h with rfl | rfl | rfl <;> simp [h1, h2, isSign, List.all_append]
theorem allL_length : ∀ n : Nat, (allL n).length = 3 ^ n
  | 0 => rfl
  | n + 1 => by
    have key : ∀ l : List (List UInt8), (l.flatMap ext3).length = l.length * 3 := by
      intro l
      induction l with
      | nil => rfl
      | cons a l ih => rw [List.flatMap_cons, List.length_append, ih]; simp [ext3]; omega
    rw [allL, key, allL_length n, Nat.pow_succ]
end Go.Proofs.YtbpenpikaehloaaDoor.Ab

/- A CELL that holds a slice of one's own, to which is appended through a pointer. -/
namespace Go.Proofs.YtbpenpikaehloaaDoor.Ab
open Go
set_option maxRecDepth 100000
set_option maxHeartbeats 4000000

/-- Rows that belong to a cell: its own, and those of the slices that it holds. -/
def grc (c : Nat) (h : AH) (i : Nat) : Prop := i = c ∨ ∃ cs ver fl ro, h[c]? = some (.row cs ver fl ro) ∧ ∃ v ∈ cs, rowOf v = some i
def FrC (c : Nat) (h h' : AH) : Prop := h.length ≤ h'.length ∧ ∀ i, i < h.length → ¬ grc c h i → h'[i]? = h[i]? ∧ ¬ grc c h' i
theorem FrC.refl (c : Nat) (h : AH) : FrC c h h := ⟨Nat.le_refl _, fun _ _ hg => ⟨rfl, hg⟩⟩
theorem FrC.trans {c : Nat} {x y z : AH} (p : FrC c x y) (q : FrC c y z) : FrC c x z := ⟨Nat.le_trans p.1 q.1, fun i hi hg => by
  obtain ⟨h1, h2⟩ := p.2 i hi hg
  obtain ⟨h3, h4⟩ := q.2 i (Nat.lt_of_lt_of_le hi p.1) h2
  exact ⟨by rw [h3, h1], h4⟩⟩
theorem grc_pre {c : Nat} {h h' : AH} (hp : Pre h h') (hc : c < h.length) (i : Nat) : grc c h' i ↔ grc c h i := by
  unfold grc; rw [hp.2 c hc]
theorem Pre.frc {c : Nat} {h h' : AH} (hp : Pre h h') (hc : c < h.length) : FrC c h h' := ⟨hp.1, fun i hi hg => ⟨hp.2 i hi, by rw [grc_pre hp hc]; exact hg⟩⟩
theorem rd_frc {c : Nat} {h h' : AH} (hf : FrC c h h') {r k o n : Nat} {cs : List AV} (hg : ¬ grc c h r) (hr : rdRow h r k o n = some cs) : rdRow h' r k o n = some cs := by
  have := rd_lt hr
  unfold rdRow at hr ⊢
  rw [(hf.2 r this hg).1]; exact hr
/-- A slice that is read, and does not belong to the cell. -/
def SlcC {α : Type} (esz : Nat) (enc : α → List AV) (c : Nat) (h : AH) (v : AV) (L : List α) : Prop := Slc esz enc h v L ∧ ∀ r, rowOf v = some r → ¬ grc c h r
theorem SlcC.fr {α : Type} {esz : Nat} {enc : α → List AV} {c : Nat} {h h' : AH} {v : AV} {L : List α} (hs : SlcC esz enc c h v L) (hf : FrC c h h') : SlcC esz enc c h' v L := by
  obtain ⟨h1, h2⟩ := hs
  unfold SlcC Slc Sl at *
  cases v <;> simp only [rowOf] at * <;> first
    | (exact ⟨h1, fun r hr => by cases hr⟩)
    | (obtain ⟨k1, k2, k3, k4⟩ := h1
       exact ⟨⟨k1, k2, k3, rd_frc hf (h2 _ rfl) k4⟩, fun r hr => by cases hr; exact (hf.2 _ (rd_lt k4) (h2 _ rfl)).2⟩)
section
variable {α : Type} {esz : Nat} {enc : α → List AV}
/-- The cell r holds a slice of one's own. -/
def OutP (esz : Nat) (enc : α → List AV) (r : Nat) (b h : AH) (l : List α) : Prop := ∃ vo, h[r]? = some (.row [vo] 0 0 false) ∧ OwL esz enc b h vo l ∧ rowOf vo ≠ some r
theorem OutP.lt {r : Nat} {b h : AH} {l : List α} (ho : OutP esz enc r b h l) : r < h.length := by
  obtain ⟨vo, h1, _⟩ := ho
  exact (List.getElem?_eq_some_iff.1 h1).1
theorem OutP.pre {r : Nat} {b h h' : AH} {l : List α} (ho : OutP esz enc r b h l) (hp : Pre h h') : OutP esz enc r b h' l := by
  have := ho.lt
  obtain ⟨vo, h1, h2, h3⟩ := ho
  exact ⟨vo, by rw [hp.2 r this]; exact h1, h2.pre hp, h3⟩
theorem OutP.grc_lt {r : Nat} {b h : AH} {l : List α} (ho : OutP esz enc r b h l) {i : Nat} (hg : grc r h i) : i < h.length := by
  have hlt := ho.lt
  obtain ⟨vo, h1, h2, h3⟩ := ho
  rcases hg with rfl | ⟨cs, ver, fl, ro, h4, v, hv, h5⟩
  · exact hlt
  · rw [h1] at h4
    simp only [Option.some.injEq, AO.row.injEq] at h4
    obtain ⟨rfl, _⟩ := h4
    simp at hv
    subst hv
    exact own_lt h2 h5
theorem OutP.fresh {r : Nat} {b h h' : AH} {l : List α} (ho : OutP esz enc r b h l) (hp : Pre h h') {i : Nat} (hi : h.length ≤ i) : ¬ grc r h' i := by
  rw [grc_pre hp ho.lt]
  intro hg
  have := ho.grc_lt hg
  omega
theorem OutP.rd {r : Nat} {b h : AH} {l : List α} (ho : OutP esz enc r b h l) : ∃ vo, rdRow h r 0 0 1 = some [vo] ∧ OwL esz enc b h vo l := by
  obtain ⟨vo, h1, h2, _⟩ := ho
  exact ⟨vo, by simp [rdRow, h1], h2⟩
theorem OutP.push (hl : ∀ x, (enc x).length = esz) (hsc : ∀ x, (enc x).all AV.sc = true) {r : Nat} {b h : AH} {l : List α} (ho : OutP esz enc r b h l) (hb : b.length ≤ h.length) (x : α) (hr : l.length + 1 ≤ 1099511627776) :
    ∃ vo v' h3, rdRow h r 0 0 1 = some [vo] ∧ rdRow (h ++ [AO.row (enc x) 0 0 false]) h.length 0 0 esz = some (enc x) ∧ apRow (h ++ [AO.row (enc x) 0 0 false]) esz vo 1 (enc x) = some (v', h3) ∧ v'.cells = [v'] ∧ v'.sc = true ∧
      wrRow h3 r 0 0 [v'] = some (h3.set r (.row [v'] 0 0 false)) ∧ OutP esz enc r b (h3.set r (.row [v'] 0 0 false)) (l ++ [x]) ∧ FrC r h (h3.set r (.row [v'] 0 0 false)) := by
  have hlt := ho.lt
  obtain ⟨vo, h1, h2, h3⟩ := ho
  have hpush := Pre.push h (AO.row (enc x) 0 0 false)
  obtain ⟨v', g, ha, ho', hag⟩ := apA hl hsc (h2.pre hpush) (by simp; omega) x hr
  obtain ⟨f1, f2, f3⟩ := apRow_fr ha
  have hll : (h ++ [AO.row (enc x) 0 0 false]).length = h.length + 1 := by simp
  have hrg : g[r]? = some (.row [vo] 0 0 false) := by rw [f1 r (by omega) h3, hpush.2 r hlt, h1]
  have hlg : r < g.length := by omega
  have n1 : rowOf v' ≠ some r := fun e => by
    rcases f3 r e with h4 | h4
    · exact h3 h4
    · omega
  have hrx : rdRow (h ++ [AO.row (enc x) 0 0 false]) h.length 0 0 esz = some (enc x) := by
    rw [rd_last, if_pos (by rw [hl]; omega), List.drop_zero, List.take_of_length_le (by rw [hl]; exact Nat.le_refl _)]
  refine ⟨vo, v', g, by simp [rdRow, h1], hrx, ha, ho'.cells, ho'.sc1, ?_, ?_, ?_⟩
  · simp [wrRow, hrg, splice, ho'.sc1]
  · refine ⟨v', by rw [List.getElem?_set, if_pos rfl, if_pos hlg], own_row ho' fun i hi => ?_, n1⟩
    rw [List.getElem?_set, if_neg (by rintro rfl; exact n1 hi)]
  · refine ⟨by simp; omega, fun i hi hg => ?_⟩
    have g1 : i ≠ r := fun e => hg (.inl e)
    have g2 : rowOf vo ≠ some i := fun e => hg (.inr ⟨_, _, _, _, h1, vo, by simp, e⟩)
    refine ⟨by rw [List.getElem?_set, if_neg (Ne.symm g1), f1 i (by omega) g2, hpush.2 i hi], ?_⟩
    rintro (e | ⟨cs, ver, fl, ro, e1, v, hv, e2⟩)
    · exact g1 e
    · rw [List.getElem?_set, if_pos rfl, if_pos hlg] at e1
      simp only [Option.some.injEq, AO.row.injEq] at e1
      obtain ⟨rfl, _⟩ := e1
      simp at hv
      subst hv
      rcases f3 i e2 with h4 | h4
      · exact g2 h4
      · omega
theorem OwL.slcC {esz' : Nat} {β : Type} {enc' : β → List AV} {r : Nat} {b h h' : AH} {l : List α} {v : AV} {L : List β} (ho : OwL esz' enc' h h' v L) (hk : OutP esz enc r b h l) (hp : Pre h h') : SlcC esz' enc' r h' v L :=
  ⟨ho.slc, fun _ hr => hk.fresh hp (own_ge ho hr)⟩
end
end Go.Proofs.YtbpenpikaehloaaDoor.Ab

/- PUZZLES: all lines, and those that fit. -/
namespace Go.Proofs.YtbpenpikaehloaaDoor.Ab
open Go
set_option maxRecDepth 100000
set_option maxHeartbeats 4000000

theorem dec3 (i : Nat) (h : i < 3) : dec [46, 70, 84] i = (((([46, 70, 84] : List UInt8).getD i 0).toNat : Int), 1) := dec_low h (by
  have : ∀ i, i < 3 → (([46, 70, 84] : List UInt8).getD i 0).toNat < 128 := by decide
  exact this i h)
theorem enc3 : ∀ b : UInt8, b = 46 ∨ b = 70 ∨ b = 84 → (Utf8.encode (b.toNat : Int)).data.toList = [b] := by
  rintro b (rfl | rfl | rfl) <;> decide +kernel
theorem own_ne_iter {esz : Nat} {b h : AH} {v : AV} {n : Nat} {cs : List AV} (ho : Own esz b h v n cs) {c : Nat} {s : List UInt8} {p : Nat} (hc : h[c]? = some (.iter s p)) : rowOf v ≠ some c := by
  unfold Own at ho
  intro hr
  cases v <;> simp only [rowOf] at ho hr <;> first
    | (cases hr; done)
    | (cases hr
       obtain ⟨_, _, _, _, cells, fl, h5, _⟩ := ho
       rw [hc] at h5; cases h5)
abbrev Clu := Int × Int × Int
/-- All lines that fit. -/
def fitL (n : Nat) (cs : List Clu) : List (List UInt8) := (allL n).filter fun w => cs.all fun c => fitB c w
theorem goOn_length : ∀ (d : Nat) (w : List UInt8), (goOn d w).length = 3 ^ d
  | 0, _ => rfl
  | d + 1, w => by simp only [goOn, List.length_append, goOn_length d]; rw [Nat.pow_succ]; omega
abbrev S3 : List (List UInt8) := [[46], [70], [84]]
end Go.Proofs.YtbpenpikaehloaaDoor.Ab

/- PUZZLES: which there are, their solutions; the law's helpers. -/
namespace Go.Proofs.YtbpenpikaehloaaDoor.Ab
open Go
set_option maxRecDepth 100000
set_option maxHeartbeats 4000000

def goodP (n : Int) (cs : List Clu) : Bool := decide (1 ≤ n ∧ n ≤ 5) && (decide (cs.length ≤ 6) && cs.all fun c => clueOk n c)
theorem goodP_iff {n : Int} {cs : List Clu} (h : goodP n cs = true) : ∃ m : Nat, n = m ∧ 1 ≤ m ∧ m ≤ 5 ∧ cs.length ≤ 6 ∧ ∀ c ∈ cs, clueOk n c = true := by
  simp only [goodP, Bool.and_eq_true, decide_eq_true_eq, List.all_eq_true] at h
  obtain ⟨⟨h1, h2⟩, h3, h4⟩ := h
  exact ⟨n.toNat, by omega, by omega, by omega, h3, h4⟩
abbrev pzV (n : Int) (v : AV) : AV := .agg [.int .i64 n, v]
theorem sl_cells {α : Type} {esz : Nat} {enc : α → List AV} {h : AH} {v : AV} {L : List α} (hs : Slc esz enc h v L) : v.cells = [v] ∧ v.sc = true := by
  unfold Slc Sl at hs
  cases v <;> simp only at hs <;> first
    | exact ⟨rfl, rfl⟩
    | (exact hs.elim)
def solN (n : Int) (cs : List Clu) : List (List UInt8) := fitL n.toNat cs
def countP (n : Int) (cs : List Clu) : Int := if goodP n cs then (solN n cs).length else 0
theorem rep_flat (n : Nat) : (List.replicate n [AV.int .i64 0, AV.int .i64 0, AV.int .i64 0]).flatten = (List.replicate n ((0, 0, 0) : Clu)).flatMap encC := by
  induction n with
  | zero => rfl
  | succ n ih => rw [List.replicate_succ, List.replicate_succ, List.flatten_cons, List.flatMap_cons, ih]
theorem beq_cc {α : Type} [BEq α] (x y : α) (l l' : List α) : (x :: l == y :: l') = (x == y && l == l') := rfl
end Go.Proofs.YtbpenpikaehloaaDoor.Ab

/- PUZZLES: the first solution, whether one alone is left; their laws. -/
namespace Go.Proofs.YtbpenpikaehloaaDoor.Ab
open Go
set_option maxRecDepth 100000
set_option maxHeartbeats 4000000

def solP (n : Int) (cs : List Clu) : List (List UInt8) := if goodP n cs then solN n cs else []

end Go.Proofs.YtbpenpikaehloaaDoor.Ab

/- MARKS: what the laws' helpers write into a slice and find there again; slices of numbers compared. -/
namespace Go.Proofs.YtbpenpikaehloaaDoor.Ab
open Go
set_option maxRecDepth 100000
set_option maxHeartbeats 4000000

theorem splice_in {X vs : List AV} {o : Nat} (h : o + vs.length ≤ X.length) (A Z : List AV) {n : Nat} (hn : n = A.length + o) : splice (A ++ (X ++ Z)) n vs = A ++ (splice X o vs ++ Z) := by
  subst hn
  unfold splice
  rw [List.take_append, List.take_of_length_le (by omega), show A.length + o - A.length = o by omega, List.take_append_of_le_length (by omega),
    List.drop_append, List.drop_of_length_le (by omega), show A.length + o + vs.length - A.length = o + vs.length by omega, List.drop_append_of_le_length (by omega)]
  simp
theorem OwW.store {α : Type} {esz : Nat} {enc : α → List AV} (hl : ∀ x, (enc x).length = esz) {b h : AH} {v : AV} {pre : List α} {x : α} {rest : List α} (ho : OwW esz enc b h v (pre ++ x :: rest)) (y : α) (o : Nat) (vs : List AV) (hvs : o + vs.length ≤ esz) (hsc : vs.all AV.sc = true) (hy : splice (enc x) o vs = enc y) :
    ∃ c kk off h', v = .slice c kk off (pre ++ x :: rest).length esz ∧ wrRow h c kk (off + pre.length * esz + o) vs = some h' ∧ OwW esz enc b h' v (pre ++ y :: rest) ∧ PreV v h h' := by
  unfold OwW at ho
  cases v <;> simp only at ho <;> first
    | (exact ho.elim)
    | (simp at ho; done)
    | skip
  rename_i c kk off len e
  obtain ⟨rfl, rfl, h3, A, Z, fl, h4, h5, h6⟩ := ho
  have hlt := (List.getElem?_eq_some_iff.1 h4).1
  have hpl := flat_len hl pre
  have hrow : A ++ (pre ++ x :: rest).flatMap enc ++ Z = (A ++ pre.flatMap enc) ++ (enc x ++ (rest.flatMap enc ++ Z)) := by simp
  have hsp := splice_in (X := enc x) (vs := vs) (o := o) (by rw [hl]; exact hvs) (A ++ pre.flatMap enc) (rest.flatMap enc ++ Z) (n := off + pre.length * e + o) (by rw [List.length_append, hpl, h6])
  rw [hrow] at h4
  refine ⟨c, kk, off, h.set c (.row (splice ((A ++ pre.flatMap enc) ++ (enc x ++ (rest.flatMap enc ++ Z))) (off + pre.length * e + o) vs) kk kk false), rfl, ?_, ?_, ?_⟩
  · unfold wrRow
    rw [h4]
    simp only
    rw [if_pos ⟨trivial, h5, by simp only [List.length_append, hpl, hl, h6]; omega, hsc⟩]
  · unfold OwW
    simp only
    refine ⟨trivial, by simp, h3, A, Z, kk, ?_, Nat.le_refl _, h6⟩
    rw [List.getElem?_set, if_pos rfl, if_pos hlt, hsp, hy]
    simp
  · exact ⟨by simp, fun i _ hc => by rw [List.getElem?_set, if_neg (hc c kk off _ e rfl ·.symm)]⟩
theorem PreV.trans {v : AV} {a b c : AH} (x : PreV v a b) (y : PreV v b c) : PreV v a c := ⟨Nat.le_trans x.1 y.1, fun i hi hc => by rw [y.2 i (Nat.lt_of_lt_of_le hi x.1) hc, x.2 i hi hc]⟩
theorem PreV.refl (v : AV) (a : AH) : PreV v a a := ⟨Nat.le_refl _, fun _ _ _ => rfl⟩

def cntL : Int → Nat → List Int
  | _, 0 => []
  | q, n + 1 => q :: cntL (q + 1) n
theorem cntL_len : ∀ (n : Nat) (q : Int), (cntL q n).length = n
  | 0, _ => rfl
  | n + 1, q => by simp [cntL, cntL_len n]
theorem PreV.keep {α : Type} {esz : Nat} {enc : α → List AV} {a b h h' : AH} {v : AV} {L : List α} (hp : PreV v h h') (ho : OwW esz enc b h v L) (ha : Pre a h) (hab : a.length ≤ b.length) : Pre a h' :=
  ⟨Nat.le_trans ha.1 hp.1, fun i hi => by
    rw [hp.2 i (Nat.lt_of_lt_of_le hi ha.1) (fun c kk off n e hv => by
      subst hv
      unfold OwW at ho
      have := ho.2.2.1
      omega), ha.2 i hi]⟩
theorem Slc.row_lt {α : Type} {esz : Nat} {enc : α → List AV} {h : AH} {v : AV} {L : List α} (hs : Slc esz enc h v L) : ∀ c kk off n e, v = .slice c kk off n e → c < h.length := by
  rintro c kk off n e rfl
  exact rd_lt hs.all.2.2
theorem OwW.keep {α : Type} {esz : Nat} {enc : α → List AV} {b h h' : AH} {v u : AV} {L : List α} (ho : OwW esz enc b h v L) (hp : PreV u h h') (hu : ∀ c kk off n e, u = .slice c kk off n e → c < b.length) : OwW esz enc b h' v L := by
  unfold OwW at ho ⊢
  cases v <;> simp only at ho ⊢ <;> first
    | exact ho
    | (obtain ⟨h1, h2, h3, A, Z, fl, h4, h5⟩ := ho
       exact ⟨h1, h2, h3, A, Z, fl, by rw [hp.2 _ (List.getElem?_eq_some_iff.1 h4).1 (fun c kk off n e hv => by have := hu c kk off n e hv; omega)]; exact h4, h5⟩)
end Go.Proofs.YtbpenpikaehloaaDoor.Ab

/- PUZZLES: the cells that all solutions share; the law of SureCells. -/
namespace Go.Proofs.YtbpenpikaehloaaDoor.Ab
open Go
set_option maxRecDepth 100000
set_option maxHeartbeats 4000000

abbrev encU (b : UInt8) : List AV := [.int .u8 b.toNat]
theorem hlU (s : UInt8) : (encU s).length = 1 := rfl
theorem flatU : ∀ s : List UInt8, s.flatMap encU = s.map fun b => AV.int .u8 b.toNat
  | [] => rfl
  | b :: s => by rw [List.flatMap_cons, flatU s]; rfl
def mg (c x : UInt8) : UInt8 := if x == c then c else 63
def mgL (cur w : List UInt8) : List UInt8 := List.zipWith mg cur w
theorem mgL_len (cur w : List UInt8) (h : w.length = cur.length) : (mgL cur w).length = cur.length := by unfold mgL; rw [List.length_zipWith, h]; omega
def sg (L : List (List UInt8)) (hd : List UInt8) (i : Nat) : List UInt8 := if L.all (fun w => (w.drop i).take 1 == (hd.drop i).take 1) then (hd.drop i).take 1 else [63]
def acc (L : List (List UInt8)) (hd : List UInt8) (i : Nat) : List UInt8 := (List.range i).flatMap (sg L hd)
theorem sg_len (L : List (List UInt8)) (hd : List UInt8) (i : Nat) : (sg L hd i).length ≤ 1 := by unfold sg; split <;> simp; omega
theorem acc_succ (L : List (List UInt8)) (hd : List UInt8) (i : Nat) : acc L hd (i + 1) = acc L hd i ++ sg L hd i := by unfold acc; rw [List.range_succ, List.flatMap_append]; simp
theorem acc_len (L : List (List UInt8)) (hd : List UInt8) : ∀ i, (acc L hd i).length ≤ i
  | 0 => by simp [acc]
  | i + 1 => by have := acc_len L hd i; have := sg_len L hd i; rw [acc_succ, List.length_append]; omega
theorem tk1 (w : List UInt8) (i : Nat) (h : i < w.length) : (w.drop i).take 1 = [w.getD i 0] := by
  rw [List.drop_eq_getElem_cons h, List.take_succ_cons, List.take_zero]
  simp [List.getD, h]
theorem mgL_at (cur w : List UInt8) (i : Nat) (h : i < cur.length) (hw : w.length = cur.length) : (mgL cur w).getD i 0 = mg (cur.getD i 0) (w.getD i 0) := by
  have h2 : i < w.length := by omega
  have h3 : i < (List.zipWith mg cur w).length := by simp; omega
  unfold mgL
  simp only [List.getD, List.getElem?_eq_getElem h, List.getElem?_eq_getElem h2, List.getElem?_eq_getElem h3, Option.getD_some, List.getElem_zipWith]
theorem fold_at (n : Nat) : ∀ (L : List (List UInt8)) (cur : List UInt8), cur.length = n → (∀ w ∈ L, w.length = n) →
    L.foldl mgL cur = (List.range n).map fun i => if L.all (fun w => w.getD i 0 == cur.getD i 0) then cur.getD i 0 else 63
  | [], cur, hc, _ => by
    simp only [List.foldl_nil, List.all_nil, if_true]
    apply List.ext_getElem
    · simp [hc]
    · intro i h1 h2
      simp [List.getD, h1]
  | w :: L, cur, hc, hw => by
    have hwl := hw w (by simp)
    rw [List.foldl_cons, fold_at n L (mgL cur w) (by rw [mgL_len _ _ (by omega), hc]) (fun x hx => hw x (by simp [hx]))]
    apply List.map_congr_left
    intro i hi
    have hi := List.mem_range.1 hi
    rw [mgL_at cur w i (by omega) (by omega)]
    simp only [List.all_cons]
    unfold mg
    by_cases e : (w.getD i 0 == cur.getD i 0) = true
    · simp only [e, if_true, Bool.true_and]
    · rw [Bool.not_eq_true] at e
      simp only [e, Bool.false_and, Bool.false_eq_true, if_false]
      split <;> rfl
theorem acc_eq (n : Nat) (L : List (List UInt8)) (hd : List UInt8) (hn : hd.length = n) (hw : ∀ w ∈ L, w.length = n) : acc L hd n = L.foldl mgL hd := by
  rw [fold_at n L hd hn hw]
  unfold acc
  rw [List.map_eq_flatMap]
  have : ∀ (R : List Nat), (∀ i ∈ R, i < n) → R.flatMap (sg L hd) = R.flatMap fun i => [if L.all (fun w => w.getD i 0 == hd.getD i 0) then hd.getD i 0 else 63] := by
    intro R hR
    induction R with
    | nil => rfl
    | cons i R ih =>
      rw [List.flatMap_cons, List.flatMap_cons, ih fun j hj => hR j (by simp [hj])]
      congr 1
      have hi := hR i (by simp)
      unfold sg
      rw [tk1 hd i (by omega)]
      have hall : (L.all fun w => (w.drop i).take 1 == [hd.getD i 0]) = L.all fun w => w.getD i 0 == hd.getD i 0 := by
        rw [Bool.eq_iff_iff, List.all_eq_true, List.all_eq_true]
        constructor
        · intro h x hx
          have := h x hx
          rw [tk1 x i (by rw [hw x hx]; exact hi)] at this
          simpa using this
        · intro h x hx
          have := h x hx
          rw [tk1 x i (by rw [hw x hx]; exact hi)]
          simpa using this
      rw [hall]
      split <;> rfl
  exact this _ fun i hi => List.mem_range.1 hi

/-! ### The program's -/
def sureP (n : Int) (cs : List Clu) : List UInt8 := (solP n cs).foldl mgL ((solP n cs).headD [])
theorem solP_word (n : Int) (cs : List Clu) : ∀ w ∈ solP n cs, w.length = n.toNat ∧ n.toNat ≤ 5 := by
  unfold solP
  intro w hw
  cases e : goodP n cs
  · rw [e] at hw; simp at hw
  · obtain ⟨m, rfl, m1, m5, _⟩ := goodP_iff e
    rw [e] at hw
    exact ⟨(allL_good m w (List.mem_filter.1 hw).1).1, m5⟩
theorem solP_len (n : Int) (cs : List Clu) : (solP n cs).length ≤ 243 := by
  unfold solP
  cases e : goodP n cs
  · simp
  · obtain ⟨m, rfl, m1, m5, _⟩ := goodP_iff e
    have h1 := List.length_filter_le (fun w => cs.all fun c => fitB c w) (allL m)
    have h2 := allL_length m
    have h3 : 3 ^ m ≤ 3 ^ 5 := Nat.pow_le_pow_right (by omega) m5
    have h4 : (solN (m : Int) cs).length ≤ (allL m).length := h1
    simp only [if_true]
    omega
theorem ownU {h : AH} (s : List UInt8) : OwW 1 encU h (h ++ [AO.row (s.map fun b => AV.int .u8 b.toNat) 0 0 false]) (.slice h.length 0 0 s.length 1) s := by
  unfold OwW
  simp only
  refine ⟨trivial, trivial, Nat.le_refl _, [], [], 0, ?_, Nat.le_refl _, rfl⟩
  rw [List.getElem?_append_right (Nat.le_refl _), flatU]
  simp
end Go.Proofs.YtbpenpikaehloaaDoor.Ab

/- PLAIN: a sum of two lines as one text with a blank between them: who wins is the same. -/
namespace Go.Proofs.YtbpenpikaehloaaDoor.Ab
set_option maxHeartbeats 1000000

theorem gJ1 {w v : List UInt8} {x : Nat} (h : x < w.length) : (w ++ 32 :: v).getD x 0 = w.getD x 0 := by
  simp [List.getD, List.getElem?_append_left h]
theorem gJ2 {w v : List UInt8} : (w ++ 32 :: v).getD w.length 0 = 32 := by simp [List.getD]
theorem gJ3 {w v : List UInt8} (j : Nat) : (w ++ 32 :: v).getD (w.length + 1 + j) 0 = v.getD j 0 := by
  simp only [List.getD]
  rw [List.getElem?_append_right (by omega), show w.length + 1 + j - w.length = j + 1 by omega, List.getElem?_cons_succ]
theorem jL (w v : List UInt8) : (w ++ 32 :: v).length = w.length + 1 + v.length := by simp; omega
theorem mv_l {w v : List UInt8} {i t : Nat} (h : Mv w i t) : Mv (w ++ 32 :: v) i t := by
  obtain ⟨h1, h2, h3, h4⟩ := h
  refine ⟨by rw [jL]; omega, by rw [jL]; omega, by rw [gJ1 h2]; exact h3, ?_⟩
  rw [gJ1 h1]
  rcases h4 with ⟨e, h4 | ⟨h4, h5⟩⟩ | ⟨e, h4 | ⟨h4, h5⟩⟩
  · exact .inl ⟨e, .inl h4⟩
  · exact .inl ⟨e, .inr ⟨h4, by rw [gJ1 (by omega)]; exact h5⟩⟩
  · exact .inr ⟨e, .inl h4⟩
  · exact .inr ⟨e, .inr ⟨h4, by rw [gJ1 (by omega)]; exact h5⟩⟩
theorem mv_r {w v : List UInt8} {i t : Nat} (h : Mv v i t) : Mv (w ++ 32 :: v) (w.length + 1 + i) (w.length + 1 + t) := by
  obtain ⟨h1, h2, h3, h4⟩ := h
  refine ⟨by rw [jL]; omega, by rw [jL]; omega, by rw [gJ3]; exact h3, ?_⟩
  rw [gJ3]
  rcases h4 with ⟨e, h4 | ⟨h4, h5⟩⟩ | ⟨e, h4 | ⟨h4, h5⟩⟩
  · exact .inl ⟨e, .inl (by omega)⟩
  · exact .inl ⟨e, .inr ⟨by omega, by rw [show w.length + 1 + i + 1 = w.length + 1 + (i + 1) by omega, gJ3]; exact h5⟩⟩
  · exact .inr ⟨e, .inl (by omega)⟩
  · exact .inr ⟨e, .inr ⟨by omega, by rw [show w.length + 1 + i - 1 = w.length + 1 + (i - 1) by omega, gJ3]; exact h5⟩⟩
theorem mv_inv {w v : List UInt8} {i t : Nat} (h : Mv (w ++ 32 :: v) i t) : Mv w i t ∨ ∃ i' t', i = w.length + 1 + i' ∧ t = w.length + 1 + t' ∧ Mv v i' t' := by
  obtain ⟨h1, h2, h3, h4⟩ := h
  rw [jL] at h1 h2
  have ht : t ≠ w.length := by rintro rfl; rw [gJ2] at h3; cases h3
  have hi : i ≠ w.length := by
    rintro rfl
    rw [gJ2] at h4
    rcases h4 with ⟨e, _⟩ | ⟨e, _⟩ <;> cases e
  by_cases hil : i < w.length
  · left
    rw [gJ1 hil] at h4
    have htl : t < w.length := by
      rcases h4 with ⟨e, h4 | ⟨h4, h5⟩⟩ | ⟨e, h4 | ⟨h4, h5⟩⟩
      · omega
      · by_cases hx : i + 1 = w.length
        · rw [hx, gJ2] at h5; cases h5
        · omega
      · omega
      · omega
    rw [gJ1 htl] at h3
    refine ⟨hil, htl, h3, ?_⟩
    rcases h4 with ⟨e, h4 | ⟨h4, h5⟩⟩ | ⟨e, h4 | ⟨h4, h5⟩⟩
    · exact .inl ⟨e, .inl h4⟩
    · exact .inl ⟨e, .inr ⟨h4, by rw [gJ1 (by omega)] at h5; exact h5⟩⟩
    · exact .inr ⟨e, .inl h4⟩
    · exact .inr ⟨e, .inr ⟨h4, by rw [gJ1 (by omega)] at h5; exact h5⟩⟩
  · right
    obtain ⟨i', rfl⟩ : ∃ i', i = w.length + 1 + i' := ⟨i - w.length - 1, by omega⟩
    rw [gJ3] at h4
    have htl : w.length < t := by
      rcases h4 with ⟨e, h4 | ⟨h4, h5⟩⟩ | ⟨e, h4 | ⟨h4, h5⟩⟩
      · omega
      · omega
      · omega
      · by_cases hx : w.length + 1 + i' - 1 = w.length
        · rw [hx, gJ2] at h5; cases h5
        · omega
    obtain ⟨t', rfl⟩ : ∃ t', t = w.length + 1 + t' := ⟨t - w.length - 1, by omega⟩
    rw [gJ3] at h3
    refine ⟨i', t', rfl, rfl, by omega, by omega, h3, ?_⟩
    rcases h4 with ⟨e, h4 | ⟨h4, h5⟩⟩ | ⟨e, h4 | ⟨h4, h5⟩⟩
    · exact .inl ⟨e, .inl (by omega)⟩
    · exact .inl ⟨e, .inr ⟨by omega, by rw [show w.length + 1 + i' + 1 = w.length + 1 + (i' + 1) by omega, gJ3] at h5; exact h5⟩⟩
    · exact .inr ⟨e, .inl (by omega)⟩
    · exact .inr ⟨e, .inr ⟨by omega, by rw [show w.length + 1 + i' - 1 = w.length + 1 + (i' - 1) by omega, gJ3] at h5; exact h5⟩⟩
theorem goal_l {w v : List UInt8} {i : Nat} (hi : i < w.length) : goalB (w ++ 32 :: v) i = goalB w i := by
  cases h : goalB w i with
  | some t =>
    obtain ⟨t', rfl, hm⟩ := goalB_mv hi h
    exact mv_goalB (mv_l hm)
  | none =>
    cases h2 : goalB (w ++ 32 :: v) i with
    | none => rfl
    | some t =>
      obtain ⟨t', rfl, hm⟩ := goalB_mv (by rw [jL]; omega) h2
      rcases mv_inv hm with hm | ⟨i', _, e, _⟩
      · rw [mv_goalB hm] at h; cases h
      · omega
theorem goal_m {w v : List UInt8} : goalB (w ++ 32 :: v) w.length = none := by
  cases h2 : goalB (w ++ 32 :: v) w.length with
  | none => rfl
  | some t =>
    obtain ⟨t', rfl, hm⟩ := goalB_mv (by rw [jL]; omega) h2
    rcases mv_inv hm with hm | ⟨i', _, e, _⟩
    · exact absurd hm.1 (by omega)
    · omega
theorem goal_r {w v : List UInt8} {j : Nat} (hj : j < v.length) : goalB (w ++ 32 :: v) (w.length + 1 + j) = (goalB v j).map fun t => ((w.length + 1 : Nat) : Int) + t := by
  cases h : goalB v j with
  | some t =>
    obtain ⟨t', rfl, hm⟩ := goalB_mv hj h
    rw [mv_goalB (mv_r hm)]
    simp only [Option.map_some]
    congr 1
  | none =>
    cases h2 : goalB (w ++ 32 :: v) (w.length + 1 + j) with
    | none => rfl
    | some t =>
      obtain ⟨t', rfl, hm⟩ := goalB_mv (by rw [jL]; omega) h2
      rcases mv_inv hm with hm | ⟨i', t2, e, _, hm⟩
      · exact absurd hm.1 (by omega)
      · obtain rfl : j = i' := by omega
        rw [mv_goalB hm] at h; cases h
def shB (n : Nat) (m : Int × Int) : Int × Int := (((n : Nat) : Int) + m.1, ((n : Nat) : Int) + m.2)
theorem moves_join (w v kd : List UInt8) : movesB (w ++ 32 :: v) kd = movesB w kd ++ (movesB v kd).map (shB (w.length + 1)) := by
  unfold movesB
  rw [jL, List.range_add, List.range_succ, List.flatMap_append, List.flatMap_append, List.append_assoc]
  congr 1
  · apply flatMap_congr'
    intro i hi
    have hi := List.mem_range.1 hi
    unfold moveB
    rw [goal_l hi, gJ1 hi]
  · have hm : moveB (w ++ 32 :: v) kd w.length = [] := by unfold moveB; rw [goal_m]
    rw [List.flatMap_cons, hm, List.flatMap_nil, List.append_nil, List.nil_append, List.flatMap_map, List.map_flatMap]
    apply flatMap_congr'
    intro j hj
    have hj := List.mem_range.1 hj
    unfold moveB
    rw [goal_r hj, gJ3]
    cases goalB v j with
    | none => rfl
    | some t =>
      simp only [Option.map_some]
      split
      · simp [shB]
      · rfl
theorem next_join (w v kd : List UInt8) : nextB (w ++ 32 :: v) kd = (nextB w kd).map (fun x => x ++ 32 :: v) ++ (nextB v kd).map (fun x => w ++ 32 :: x) := by
  unfold nextB
  rw [moves_join, List.map_append, List.map_map, List.map_map, List.map_map]
  congr 1
  · apply List.map_congr_left
    intro m hm
    obtain ⟨i, t, rfl, hmv⟩ := movesB_mv hm
    simp only [Function.comp, Int.toNat_natCast, madeB]
    rw [gJ1 hmv.fst, List.set_append_left _ _ hmv.snd, List.set_append_left _ _ (by rw [List.length_set]; exact hmv.fst)]
  · apply List.map_congr_left
    intro m hm
    obtain ⟨i, t, rfl, hmv⟩ := movesB_mv hm
    have e1 : (((w.length + 1 : Nat) : Int) + (i : Int)).toNat = w.length + 1 + i := by omega
    have e2 : (((w.length + 1 : Nat) : Int) + (t : Int)).toNat = w.length + 1 + t := by omega
    simp only [Function.comp, shB, Int.toNat_natCast, madeB]
    rw [e1, e2, gJ3, List.set_append_right _ _ (by omega), show w.length + 1 + t - w.length = t + 1 by omega, List.set_cons_succ,
      List.set_append_right _ _ (by omega), show w.length + 1 + i - w.length = i + 1 by omega, List.set_cons_succ]
theorem winB_next (w : List UInt8) (t : Bool) : winB w t = (nextB w (kindS t)).any fun x => !winB x (!t) := by
  rw [winB_eq]; unfold nextB; rw [List.any_map]; rfl
theorem winL_pair : ∀ (n : Nat) (w v : List UInt8) (t : Bool), mu w + mu v < n → winL [w, v] t = winB (w ++ 32 :: v) t
  | 0, _, _, _, h => by omega
  | n + 1, w, v, t, h => by
    rw [winL_eq, winB_next, next_join]
    simp only [nextZ, List.append_nil, List.nil_append, List.any_append, List.any_map, List.cons_append]
    congr 1
    · apply any_congr'
      intro x hx
      have := nextB_mu hx
      simp only [Function.comp]
      rw [winL_pair n _ _ _ (by omega)]
    · apply any_congr'
      intro x hx
      have := nextB_mu hx
      simp only [Function.comp]
      rw [winL_pair n _ _ _ (by omega)]
end Go.Proofs.YtbpenpikaehloaaDoor.Ab

/- LINES from the other side, sums of two lines, whole values: what both sides' functions answer. -/
namespace Go.Proofs.YtbpenpikaehloaaDoor.Ab
open Go
set_option maxRecDepth 100000
set_option maxHeartbeats 4000000

def otherL (w : List UInt8) : List UInt8 := (w.map otherB).reverse
theorem otherL_len (w : List UInt8) : (otherL w).length = w.length := by simp [otherL]
theorem otherB_sign {b : UInt8} (h : isSign b = true) : isSign (otherB b) = true := by
  unfold isSign at h
  simp only [Bool.or_eq_true, beq_iff_eq] at h
  rcases h with (rfl | rfl) | rfl <;> rfl
theorem otherL_signs {w : List UInt8} (h : signs w) : signs (otherL w) := by
  unfold signs otherL at *
  rw [List.all_eq_true] at h ⊢
  intro x hx
  simp only [List.mem_reverse, List.mem_map] at hx
  obtain ⟨b, hb, rfl⟩ := hx
  exact otherB_sign (h b hb)
theorem lp_Reverse {b : AH} {v : AV} {R : X → Env → AH → Prop} : ∀ (d : Nat) (M A S : List UInt8) (h : AH), M.length ≤ d → A.length = S.length → A.length + M.length + S.length < 2 ^ 30 → OwW 1 encU b h v (A ++ (M ++ S)) →
    (∀ h', OwW 1 encU b h' v (A ++ (M.reverse ++ S)) → PreV v h h' → R (.exit 0) [] h') →
    Cx (.loop lp110_0) [(0, v), (2, .int .i64 A.length), (3, .int .i64 ((A.length : Int) + M.length - 1))] h R k k
  | d, [], A, S, h, hd, hl, hb, ho, hR => by
    have hn : ¬ ((A.length : Int) < (A.length : Int) + (([] : List UInt8).length : Int) - 1) := by simp only [List.length_nil]; omega
    rw [w_loopb (c := lp110_0) (d := lb110_0) rfl]; unfold lb110_0
    simp (maxSteps := 1000000) (disch := first | omega | rfl | (simp only [zL, two63, room] <;> omega) | fail) only [↓reduceIte, ↓zP, zW, WOp, evOp, evBin, binI, binSh, binS, evNil, keyIs, keyEq, mkv, AV.cells, AV.sc, optv, bnd, env, put, Env.get, Env.set, Env.del, Env.dels, Env.init, res1, resL, resV, fillP, splice, newRow, Nat.reduceEqDiff, Nat.reduceLT, Nat.reduceLeDiff, Nat.reduceAdd, Nat.reduceMul, Nat.reduceSub, Nat.reduceBEq, reduceCtorEq, ↓zR, zQ, Tr, StA, StT, hn]
    exact hR h (by simpa using ho) (PreV.refl _ _)
  | d, [x], A, S, h, hd, hl, hb, ho, hR => by
    have hn : ¬ ((A.length : Int) < (A.length : Int) + ((1 : Nat) : Int) - 1) := by omega
    rw [w_loopb (c := lp110_0) (d := lb110_0) rfl]; unfold lb110_0
    simp (maxSteps := 1000000) (disch := first | omega | rfl | (simp only [zL, two63, room] <;> omega) | fail) only [↓reduceIte, ↓zP, zW, WOp, evOp, evBin, binI, binSh, binS, evNil, keyIs, keyEq, mkv, AV.cells, AV.sc, optv, bnd, env, put, Env.get, Env.set, Env.del, Env.dels, Env.init, res1, resL, resV, fillP, splice, newRow, Nat.reduceEqDiff, Nat.reduceLT, Nat.reduceLeDiff, Nat.reduceAdd, Nat.reduceMul, Nat.reduceSub, Nat.reduceBEq, reduceCtorEq, ↓zR, zQ, Tr, StA, StT, hn]
    exact hR h (by simpa using ho) (PreV.refl _ _)
  | 0, x :: y :: M, A, S, h, hd, hl, hb, ho, hR => by simp at hd
  | d + 1, x :: y :: M, A, S, h, hd, hl, hb, ho, hR => by
    obtain ⟨M', z, hM⟩ : ∃ M' z, y :: M = M' ++ [z] := ⟨(y :: M).dropLast, (y :: M).getLast (by simp), (List.dropLast_concat_getLast (by simp)).symm⟩
    rw [hM] at hd hb ho hR ⊢
    simp only [List.length_cons, List.length_append, List.length_nil] at hd hb
    have ih := lp_Reverse (b := b) (v := v) (R := R) d M' (A ++ [z]) (x :: S)
    have ho1 : OwW 1 encU b h v (A ++ x :: (M' ++ (z :: S))) := by simpa using ho
    have ho2 : OwW 1 encU b h v ((A ++ x :: M') ++ z :: S) := by simpa using ho
    obtain ⟨c, kk, off, hve, hr1⟩ := (ho1.slc hlU).at hlU
    obtain ⟨c2, kk2, off2, hve2, hr2⟩ := (ho2.slc hlU).at hlU
    obtain ⟨c3, kk3, off3, h3, hve3, hw3, ho3, hpv3⟩ := ho1.store hlU z 0 [.int .u8 z.toNat] (by simp) rfl rfl
    have ho3' : OwW 1 encU b h3 v ((A ++ z :: M') ++ z :: S) := by simpa using ho3
    obtain ⟨c4, kk4, off4, h4, hve4, hw4, ho4, hpv4⟩ := ho3'.store hlU x 0 [.int .u8 x.toNat] (by simp) rfl rfl
    rw [hve] at hve2 hve3 hve4
    simp only [AV.slice.injEq] at hve2 hve3 hve4
    obtain ⟨rfl, rfl, rfl, -⟩ := hve2
    obtain ⟨rfl, rfl, rfl, -⟩ := hve3
    obtain ⟨rfl, rfl, rfl, -⟩ := hve4
    have hl1 : (A ++ x :: (M' ++ (z :: S))).length = A.length + M'.length + S.length + 2 := by simp; omega
    have hl2 : (A ++ x :: M').length = A.length + M'.length + 1 := by simp; omega
    have hl4 : (A ++ z :: M').length = A.length + M'.length + 1 := by simp; omega
    rw [hl1] at hve
    rw [hl2] at hr2
    rw [hl4] at hw4
    rw [Nat.add_zero] at hw3 hw4
    subst hve
    have hlm : ((x :: (M' ++ [z])).length : Int) = ((M'.length + 2 : Nat) : Int) := by simp; omega
    rw [hlm]
    have hj : (A.length : Int) + ((M'.length + 2 : Nat) : Int) - 1 = ((A.length + M'.length + 1 : Nat) : Int) := by omega
    rw [hj]
    have hlt : (A.length : Int) < ((A.length + M'.length + 1 : Nat) : Int) := by omega
    have hi1 : (A.length : Int) < ((A.length + M'.length + S.length + 2 : Nat) : Int) := by omega
    have hi2 : ((A.length + M'.length + 1 : Nat) : Int) < ((A.length + M'.length + S.length + 2 : Nat) : Int) := by omega
    have hw1 : (A.length : Int) + 1 = ((A ++ [z]).length : Int) := by simp
    have hw2 : ((A.length + M'.length + 1 : Nat) : Int) - 1 = ((A ++ [z]).length : Int) + (M'.length : Int) - 1 := by simp; omega
    have hwr1 : IntKind.i64.wrap ((A.length : Int) + 1) = (A.length : Int) + 1 := wrap_i (by omega)
    have hwr2 : IntKind.i64.wrap (((A.length + M'.length + 1 : Nat) : Int) - 1) = ((A.length + M'.length + 1 : Nat) : Int) - 1 := wrap_i (by omega)
    rw [w_loopb (c := lp110_0) (d := lb110_0) rfl]; unfold lb110_0
    simp (maxSteps := 1000000) (disch := first | omega | rfl | (simp only [zL, two63, room] <;> omega) | fail) only [↓reduceIte, ↓zP, zW, WOp, evOp, evBin, binI, binSh, binS, evNil, keyIs, keyEq, mkv, AV.cells, AV.sc, optv, bnd, env, put, Env.get, Env.set, Env.del, Env.dels, Env.init, res1, resL, resV, fillP, splice, newRow, Nat.reduceEqDiff, Nat.reduceLT, Nat.reduceLeDiff, Nat.reduceAdd, Nat.reduceMul, Nat.reduceSub, Nat.reduceBEq, reduceCtorEq, ↓zR, zQ, Tr, StA, StT, hlt, hi1, hi2, hr1, hr2, hw3, hw4, hwr1, hwr2]
    rw [hw1, hw2]
    rw [w_loopn (c := lp110_0) rfl]
    simp (maxSteps := 1000000) (disch := first | omega | rfl | (simp only [zL, two63, room] <;> omega) | fail) only [↓reduceIte, ↓zP, zW, WOp, evOp, evBin, binI, binSh, binS, evNil, keyIs, keyEq, mkv, AV.cells, AV.sc, optv, bnd, env, put, Env.get, Env.set, Env.del, Env.dels, Env.init, res1, resL, resV, fillP, splice, newRow, Nat.reduceEqDiff, Nat.reduceLT, Nat.reduceLeDiff, Nat.reduceAdd, Nat.reduceMul, Nat.reduceSub, Nat.reduceBEq, reduceCtorEq, ↓zR, zQ, Tr, StA, StT]
    refine ih h4 (by omega) (by simp; omega) (by simp; omega) (by simpa using ho4) ?_
    intro h' ho' hpv'
    exact hR h' (by simpa using ho') ((hpv3.trans hpv4).trans hpv')
theorem lp_turned (b : AH) {v : AV} {R : X → Env → AH → Prop} : ∀ (rest pre : List UInt8) (h : AH), pre.length + rest.length < 2 ^ 30 → OwW 1 encU b h v (pre ++ rest) →
    (∀ h', OwW 1 encU b h' v (pre ++ rest.map otherB) → PreV v h h' → R (.exit 0) [(3, v)] h') →
    Cx (.loop lp80_0) [(3, v), (10, v), (11, .int .i64 ((pre.length + rest.length : Nat) : Int)), (12, .int .i64 pre.length)] h R k k
  | [], pre, h, hb, ho, hR => by
    have hn : ¬ ((pre.length : Int) < ((pre.length + 0 : Nat) : Int)) := by omega
    rw [w_loopb (c := lp80_0) (d := lb80_0) rfl]; unfold lb80_0
    simp (maxSteps := 1000000) (disch := first | omega | rfl | (simp only [zL, two63, room] <;> omega) | fail) only [↓reduceIte, ↓zP, zW, WOp, evOp, evBin, binI, binSh, binS, evNil, keyIs, keyEq, mkv, AV.cells, AV.sc, optv, bnd, env, put, Env.get, Env.set, Env.del, Env.dels, Env.init, res1, resL, resV, fillP, splice, newRow, Nat.reduceEqDiff, Nat.reduceLT, Nat.reduceLeDiff, Nat.reduceAdd, Nat.reduceMul, Nat.reduceSub, Nat.reduceBEq, reduceCtorEq, ↓zR, zQ, Tr, StA, StT, hn]
    exact hR h (by simpa using ho) (PreV.refl _ _)
  | x :: rest, pre, h, hb, ho, hR => by
    have ih := lp_turned b (v := v) (R := R) rest (pre ++ [otherB x])
    simp only [List.length_cons] at hb ⊢
    obtain ⟨c, kk, off, hve, hr⟩ := (ho.slc hlU).at hlU
    obtain ⟨c3, kk3, off3, h3, hve3, hw3, ho3, hpv3⟩ := ho.store hlU (otherB x) 0 [.int .u8 (otherB x).toNat] (by simp) rfl rfl
    rw [hve] at hve3
    simp only [AV.slice.injEq] at hve3
    obtain ⟨rfl, rfl, rfl, -⟩ := hve3
    rw [Nat.add_zero] at hw3
    have hl1 : (pre ++ x :: rest).length = pre.length + (rest.length + 1) := by simp
    rw [hl1] at hve
    subst hve
    have hlt : (pre.length : Int) < ((pre.length + (rest.length + 1) : Nat) : Int) := by omega
    have hw1 : (pre.length : Int) + 1 = ((pre ++ [otherB x]).length : Int) := by simp
    have hwr1 : IntKind.i64.wrap ((pre.length : Int) + 1) = (pre.length : Int) + 1 := wrap_i (by omega)
    have hl2 : (pre ++ [otherB x]).length + rest.length = pre.length + (rest.length + 1) := by simp; omega
    rw [hl2] at ih
    rw [w_loopb (c := lp80_0) (d := lb80_0) rfl]; unfold lb80_0
    simp (maxSteps := 1000000) (disch := first | omega | rfl | (simp only [zL, two63, room] <;> omega) | fail) only [↓reduceIte, ↓zP, zW, WOp, evOp, evBin, binI, binSh, binS, evNil, keyIs, keyEq, mkv, AV.cells, AV.sc, optv, bnd, env, put, Env.get, Env.set, Env.del, Env.dels, Env.init, res1, resL, resV, fillP, splice, newRow, Nat.reduceEqDiff, Nat.reduceLT, Nat.reduceLeDiff, Nat.reduceAdd, Nat.reduceMul, Nat.reduceSub, Nat.reduceBEq, reduceCtorEq, ↓zR, zQ, Tr, StA, StT, hlt, hr]
    refine c_other x ?_
    simp (maxSteps := 1000000) (disch := first | omega | rfl | (simp only [zL, two63, room] <;> omega) | fail) only [↓reduceIte, ↓zP, zW, WOp, evOp, evBin, binI, binSh, binS, evNil, keyIs, keyEq, mkv, AV.cells, AV.sc, optv, bnd, env, put, Env.get, Env.set, Env.del, Env.dels, Env.init, res1, resL, resV, fillP, splice, newRow, Nat.reduceEqDiff, Nat.reduceLT, Nat.reduceLeDiff, Nat.reduceAdd, Nat.reduceMul, Nat.reduceSub, Nat.reduceBEq, reduceCtorEq, ↓zR, zQ, Tr, StA, StT, hlt, hw3, hwr1]
    simp (maxSteps := 1000000) (disch := first | omega | rfl | (simp only [zL, two63, room] <;> omega) | fail) only [↓reduceIte, ↓zP, zW, WOp, evOp, evBin, binI, binSh, binS, evNil, keyIs, keyEq, mkv, AV.cells, AV.sc, optv, bnd, env, put, Env.get, Env.set, Env.del, Env.dels, Env.init, res1, resL, resV, fillP, splice, newRow, Nat.reduceEqDiff, Nat.reduceLT, Nat.reduceLeDiff, Nat.reduceAdd, Nat.reduceMul, Nat.reduceSub, Nat.reduceBEq, reduceCtorEq, ↓zR, zQ, Tr, StA, StT, hw1]
    rw [w_loopn (c := lp80_0) rfl]
    simp (maxSteps := 1000000) (disch := first | omega | rfl | (simp only [zL, two63, room] <;> omega) | fail) only [↓reduceIte, ↓zP, zW, WOp, evOp, evBin, binI, binSh, binS, evNil, keyIs, keyEq, mkv, AV.cells, AV.sc, optv, bnd, env, put, Env.get, Env.set, Env.del, Env.dels, Env.init, res1, resL, resV, fillP, splice, newRow, Nat.reduceEqDiff, Nat.reduceLT, Nat.reduceLeDiff, Nat.reduceAdd, Nat.reduceMul, Nat.reduceSub, Nat.reduceBEq, reduceCtorEq, ↓zR, zQ, Tr, StA, StT]
    refine ih h3 (by omega) (by simpa using ho3) ?_
    intro h' ho' hpv'
    exact hR h' (by simpa using ho') (hpv3.trans hpv')
theorem c_turned (w : List UInt8) (hw : w.length < 2 ^ 30) {h : AH} {post : AV → AH → Prop} (hp : ∀ h', Pre h h' → post (.str (otherL w)) h') : S 80 [.str w] h post k := by
  have hrm : w.length ≤ room := by unfold room; omega
  have hsb := sc_bytes w
  have key1 := fun R => lp_Reverse (b := h) (v := .slice h.length 0 0 w.length 1) (R := R) w.length w [] []
  have key2 := fun R => lp_turned h (v := .slice h.length 0 0 w.length 1) (R := R) w.reverse []
  simp only [List.length_nil, List.length_reverse, List.nil_append, List.append_nil, Nat.zero_add] at key1 key2
  refine S_of rfl T80 ?_; unfold fi80
  simp (maxSteps := 1000000) (disch := first | omega | rfl | (simp only [zL, two63, room] <;> omega) | fail) only [↓reduceIte, ↓zP, zW, WOp, evOp, evBin, binI, binSh, binS, evNil, keyIs, keyEq, mkv, AV.cells, AV.sc, optv, bnd, env, put, Env.get, Env.set, Env.del, Env.dels, Env.init, res1, resL, resV, fillP, splice, newRow, Nat.reduceEqDiff, Nat.reduceLT, Nat.reduceLeDiff, Nat.reduceAdd, Nat.reduceMul, Nat.reduceSub, Nat.reduceBEq, reduceCtorEq, ↓zR, zQ, Tr, StA, StT, hrm, hsb]
  refine S_of rfl T110 ?_; unfold fi110
  have hj : (w.length : Int) - 1 = ((0 : Nat) : Int) + (w.length : Int) - 1 := by omega
  have hwr : IntKind.i64.wrap ((w.length : Int) - 1) = (w.length : Int) - 1 := wrap_i (by omega)
  simp (maxSteps := 1000000) (disch := first | omega | rfl | (simp only [zL, two63, room] <;> omega) | fail) only [↓reduceIte, ↓zP, zW, WOp, evOp, evBin, binI, binSh, binS, evNil, keyIs, keyEq, mkv, AV.cells, AV.sc, optv, bnd, env, put, Env.get, Env.set, Env.del, Env.dels, Env.init, res1, resL, resV, fillP, splice, newRow, Nat.reduceEqDiff, Nat.reduceLT, Nat.reduceLeDiff, Nat.reduceAdd, Nat.reduceMul, Nat.reduceSub, Nat.reduceBEq, reduceCtorEq, ↓zR, zQ, Tr, StA, StT, hwr]
  rw [hj]
  refine key1 _ _ (Nat.le_refl _) trivial (by omega) (ownU w) ?_
  intro h2 ho2 hpv2
  simp (maxSteps := 1000000) (disch := first | omega | rfl | (simp only [zL, two63, room] <;> omega) | fail) only [↓reduceIte, ↓zP, zW, WOp, evOp, evBin, binI, binSh, binS, evNil, keyIs, keyEq, mkv, AV.cells, AV.sc, optv, bnd, env, put, Env.get, Env.set, Env.del, Env.dels, Env.init, res1, resL, resV, fillP, splice, newRow, Nat.reduceEqDiff, Nat.reduceLT, Nat.reduceLeDiff, Nat.reduceAdd, Nat.reduceMul, Nat.reduceSub, Nat.reduceBEq, reduceCtorEq, ↓zR, zQ, Tr, StA, StT]
  refine key2 _ _ (by omega) ho2 ?_
  intro h3 ho3 hpv3
  have hp3 := hpv3.keep ho2 (hpv2.keep (ownU w) (Pre.push _ _) (Nat.le_refl _)) (Nat.le_refl _)
  have hq := hp h3 hp3
  obtain ⟨_, _, hrd⟩ := (ho3.slc hlU).all
  rw [flatU, Nat.mul_one] at hrd
  have hbl := bytesL_map (w.reverse.map otherB)
  have he : w.reverse.map otherB = otherL w := by unfold otherL; rw [List.map_reverse]
  rw [he] at hrd hbl
  simp (maxSteps := 1000000) (disch := first | omega | rfl | (simp only [zL, two63, room] <;> omega) | fail) only [↓reduceIte, ↓zP, zW, WOp, evOp, evBin, binI, binSh, binS, evNil, keyIs, keyEq, mkv, AV.cells, AV.sc, optv, bnd, env, put, Env.get, Env.set, Env.del, Env.dels, Env.init, res1, resL, resV, fillP, splice, newRow, Nat.reduceEqDiff, Nat.reduceLT, Nat.reduceLeDiff, Nat.reduceAdd, Nat.reduceMul, Nat.reduceSub, Nat.reduceBEq, reduceCtorEq, ↓zR, zQ, Tr, StA, StT, hrd, hbl]
  exact hq
theorem lp_liOther (w : List UInt8) (hw : w.length < 2 ^ 30) (hsg : signs w) {h : AH} {R : X → Env → AH → Prop} : ∀ d : Nat, d ≤ w.length → R (.exit 0) [(3, .str (otherL w))] h →
    Cx (.loop lp81_0) [(0, .str w), (3, .str (((w.drop d).map otherB).reverse)), (4, .int .i64 ((d : Int) - 1))] h R k k
  | 0, hd, hR => by
    have hn : ¬ (((0 : Nat) : Int) - 1 ≥ 0) := by omega
    rw [w_loopb (c := lp81_0) (d := lb81_0) rfl]; unfold lb81_0
    simp (maxSteps := 1000000) (disch := first | omega | rfl | (simp only [zL, two63, room] <;> omega) | fail) only [↓reduceIte, ↓zP, zW, WOp, evOp, evBin, binI, binSh, binS, evNil, keyIs, keyEq, mkv, AV.cells, AV.sc, optv, bnd, env, put, Env.get, Env.set, Env.del, Env.dels, Env.init, res1, resL, resV, fillP, splice, newRow, Nat.reduceEqDiff, Nat.reduceLT, Nat.reduceLeDiff, Nat.reduceAdd, Nat.reduceMul, Nat.reduceSub, Nat.reduceBEq, reduceCtorEq, ↓zR, zQ, Tr, StA, StT, hn]
    exact hR
  | d + 1, hd, hR => by
    have ih := lp_liOther w hw hsg (h := h) (R := R) d (by omega) hR
    have hdr : w.drop d = w.getD d 0 :: w.drop (d + 1) := by
      rw [List.drop_eq_getElem_cons (by omega)]; simp [List.getD_eq_getElem?_getD, show d < w.length by omega]
    have hj : ((d + 1 : Nat) : Int) - 1 = (d : Int) := by omega
    rw [hj]
    have hsgd : isSign (w.getD d 0) = true := by
      unfold signs at hsg
      rw [List.all_eq_true] at hsg
      exact hsg _ (by rw [List.getD_eq_getElem?_getD, List.getElem?_eq_getElem (by omega)]; simp)
    rw [hdr, List.map_cons, List.reverse_cons] at ih
    have hge : (d : Int) ≥ 0 := by omega
    have hlt : (d : Int) < (w.length : Int) := by omega
    have hwr : IntKind.i64.wrap ((d : Int) - 1) = (d : Int) - 1 := wrap_i (by omega)
    have hol : (((w.drop (d + 1)).map otherB).reverse).length < 2 ^ 30 := by simp; omega
    generalize ((w.drop (d + 1)).map otherB).reverse = out at *
    unfold isSign at hsgd
    simp only [Bool.or_eq_true, beq_iff_eq] at hsgd
    rcases hsgd with (e | e) | e
    · rw [e] at ih
      rw [w_loopb (c := lp81_0) (d := lb81_0) rfl]; unfold lb81_0
      simp (maxSteps := 1000000) (disch := first | omega | rfl | (simp only [zL, two63, room] <;> omega) | fail) only [↓reduceIte, ↓zP, zW, WOp, evOp, evBin, binI, binSh, binS, evNil, keyIs, keyEq, mkv, AV.cells, AV.sc, optv, bnd, env, put, Env.get, Env.set, Env.del, Env.dels, Env.init, res1, resL, resV, fillP, splice, newRow, Nat.reduceEqDiff, Nat.reduceLT, Nat.reduceLeDiff, Nat.reduceAdd, Nat.reduceMul, Nat.reduceSub, Nat.reduceBEq, reduceCtorEq, ↓zR, zQ, Tr, StA, StT, hge, hlt, e, hwr, beq_self_eq_true]
      rw [w_loopn (c := lp81_0) rfl]
      simp (maxSteps := 1000000) (disch := first | omega | rfl | (simp only [zL, two63, room] <;> omega) | fail) only [↓reduceIte, ↓zP, zW, WOp, evOp, evBin, binI, binSh, binS, evNil, keyIs, keyEq, mkv, AV.cells, AV.sc, optv, bnd, env, put, Env.get, Env.set, Env.del, Env.dels, Env.init, res1, resL, resV, fillP, splice, newRow, Nat.reduceEqDiff, Nat.reduceLT, Nat.reduceLeDiff, Nat.reduceAdd, Nat.reduceMul, Nat.reduceSub, Nat.reduceBEq, reduceCtorEq, ↓zR, zQ, Tr, StA, StT]
      exact ih
    · rw [e] at ih
      have e3 : ((70 : UInt8) == 84) = false := rfl
      rw [w_loopb (c := lp81_0) (d := lb81_0) rfl]; unfold lb81_0
      simp (maxSteps := 1000000) (disch := first | omega | rfl | (simp only [zL, two63, room] <;> omega) | fail) only [↓reduceIte, ↓zP, zW, WOp, evOp, evBin, binI, binSh, binS, evNil, keyIs, keyEq, mkv, AV.cells, AV.sc, optv, bnd, env, put, Env.get, Env.set, Env.del, Env.dels, Env.init, res1, resL, resV, fillP, splice, newRow, Nat.reduceEqDiff, Nat.reduceLT, Nat.reduceLeDiff, Nat.reduceAdd, Nat.reduceMul, Nat.reduceSub, Nat.reduceBEq, reduceCtorEq, ↓zR, zQ, Tr, StA, StT, hge, hlt, e, hwr, beq_self_eq_true, e3]
      rw [w_loopn (c := lp81_0) rfl]
      simp (maxSteps := 1000000) (disch := first | omega | rfl | (simp only [zL, two63, room] <;> omega) | fail) only [↓reduceIte, ↓zP, zW, WOp, evOp, evBin, binI, binSh, binS, evNil, keyIs, keyEq, mkv, AV.cells, AV.sc, optv, bnd, env, put, Env.get, Env.set, Env.del, Env.dels, Env.init, res1, resL, resV, fillP, splice, newRow, Nat.reduceEqDiff, Nat.reduceLT, Nat.reduceLeDiff, Nat.reduceAdd, Nat.reduceMul, Nat.reduceSub, Nat.reduceBEq, reduceCtorEq, ↓zR, zQ, Tr, StA, StT]
      exact ih
    · rw [e] at ih
      have e3 : ((46 : UInt8) == 84) = false := rfl
      have e4 : ((46 : UInt8) == 70) = false := rfl
      rw [w_loopb (c := lp81_0) (d := lb81_0) rfl]; unfold lb81_0
      simp (maxSteps := 1000000) (disch := first | omega | rfl | (simp only [zL, two63, room] <;> omega) | fail) only [↓reduceIte, ↓zP, zW, WOp, evOp, evBin, binI, binSh, binS, evNil, keyIs, keyEq, mkv, AV.cells, AV.sc, optv, bnd, env, put, Env.get, Env.set, Env.del, Env.dels, Env.init, res1, resL, resV, fillP, splice, newRow, Nat.reduceEqDiff, Nat.reduceLT, Nat.reduceLeDiff, Nat.reduceAdd, Nat.reduceMul, Nat.reduceSub, Nat.reduceBEq, reduceCtorEq, ↓zR, zQ, Tr, StA, StT, hge, hlt, e, hwr, beq_self_eq_true, e3, e4]
      rw [w_loopn (c := lp81_0) rfl]
      simp (maxSteps := 1000000) (disch := first | omega | rfl | (simp only [zL, two63, room] <;> omega) | fail) only [↓reduceIte, ↓zP, zW, WOp, evOp, evBin, binI, binSh, binS, evNil, keyIs, keyEq, mkv, AV.cells, AV.sc, optv, bnd, env, put, Env.get, Env.set, Env.del, Env.dels, Env.init, res1, resL, resV, fillP, splice, newRow, Nat.reduceEqDiff, Nat.reduceLT, Nat.reduceLeDiff, Nat.reduceAdd, Nat.reduceMul, Nat.reduceSub, Nat.reduceBEq, reduceCtorEq, ↓zR, zQ, Tr, StA, StT]
      exact ih
theorem c_liOther (w : List UInt8) (hw : w.length < 2 ^ 30) (hsg : signs w) {h : AH} {post : AV → AH → Prop} (hp : post (.str (otherL w)) h) : S 81 [.str w] h post k := by
  have key := fun R => lp_liOther w hw hsg (h := h) (R := R) w.length (Nat.le_refl _)
  simp only [List.drop_length, List.map_nil, List.reverse_nil] at key
  refine S_of rfl T81 ?_; unfold fi81
  have hwr : IntKind.i64.wrap ((w.length : Int) - 1) = (w.length : Int) - 1 := wrap_i (by omega)
  simp (maxSteps := 1000000) (disch := first | omega | rfl | (simp only [zL, two63, room] <;> omega) | fail) only [↓reduceIte, ↓zP, zW, WOp, evOp, evBin, binI, binSh, binS, evNil, keyIs, keyEq, mkv, AV.cells, AV.sc, optv, bnd, env, put, Env.get, Env.set, Env.del, Env.dels, Env.init, res1, resL, resV, fillP, splice, newRow, Nat.reduceEqDiff, Nat.reduceLT, Nat.reduceLeDiff, Nat.reduceAdd, Nat.reduceMul, Nat.reduceSub, Nat.reduceBEq, reduceCtorEq, ↓zR, zQ, Tr, StA, StT, hwr]
  refine key _ ?_
  simp (maxSteps := 1000000) (disch := first | omega | rfl | (simp only [zL, two63, room] <;> omega) | fail) only [↓reduceIte, ↓zP, zW, WOp, evOp, evBin, binI, binSh, binS, evNil, keyIs, keyEq, mkv, AV.cells, AV.sc, optv, bnd, env, put, Env.get, Env.set, Env.del, Env.dels, Env.init, res1, resL, resV, fillP, splice, newRow, Nat.reduceEqDiff, Nat.reduceLT, Nat.reduceLeDiff, Nat.reduceAdd, Nat.reduceMul, Nat.reduceSub, Nat.reduceBEq, reduceCtorEq, ↓zR, zQ, Tr, StA, StT]
  exact hp
end Go.Proofs.YtbpenpikaehloaaDoor.Ab

/- WHOLE VALUES of lines; the law of WholeValue. -/
namespace Go.Proofs.YtbpenpikaehloaaDoor.Ab
open Go
set_option maxRecDepth 100000
set_option maxHeartbeats 4000000

def wholeL (n : Int) : List UInt8 := if n < 0 then List.replicate (-n).toNat 46 ++ [70] else 84 :: List.replicate n.toNat 46
def outP (w v : List UInt8) : List UInt8 := outcS (winB (w ++ 32 :: otherL v) true) (winB (w ++ 32 :: otherL v) false)
def cmpS (s : List UInt8) : List UInt8 := if s == [50] then [61] else if s == [84] then [62] else if s == [70] then [60] else [124]
theorem cmp_eq (s : List UInt8) : (cmpS s == [61]) = (s == [50]) := by
  unfold cmpS
  split
  · rename_i h; rw [h]; rfl
  · rename_i h
    rw [Bool.not_eq_true] at h
    rw [h]
    split
    · rfl
    · split <;> rfl
def eqW (w : List UInt8) (n : Int) : Bool := outP w (wholeL n) == [50]
def firstW (w : List UInt8) : Nat → Int → Option Int
  | 0, _ => none
  | d + 1, n => if eqW w n then some n else firstW w d (n + 1)
def okW (s : List UInt8) : Bool := decide (1 ≤ (s.length : Int) ∧ (s.length : Int) ≤ 5) && s.all isSign
theorem wholeL_ok {n : Int} (h : -4 ≤ n ∧ n ≤ 4) : signs (wholeL n) ∧ 1 ≤ (wholeL n).length ∧ (wholeL n).length ≤ 5 := by
  unfold wholeL signs
  have hr : ∀ k : Nat, (List.replicate k (46 : UInt8)).all isSign = true := fun k => by
    rw [List.all_eq_true]; intro x hx; rw [List.eq_of_mem_replicate hx]; rfl
  split
  · refine ⟨by rw [List.all_append, hr]; rfl, by simp, by simp; omega⟩
  · refine ⟨by rw [List.all_cons, hr]; rfl, by simp, by simp; omega⟩

/-! ### The reference's -/
theorem lp_liTimes {h : AH} {R : X → Env → AH → Prop} : ∀ (n : Nat) (out : List UInt8), out.length + n < 2 ^ 30 → R (.exit 0) [(5, .str (out ++ List.replicate n 46))] h →
    Cx (.loop lp124_0) [(0, .str [46]), (1, .int .i64 n), (5, .str out)] h R k k
  | 0, out, hb, hR => by
    have hn : ¬ (((0 : Nat) : Int) > 0) := by omega
    rw [w_loopb (c := lp124_0) (d := lb124_0) rfl]; unfold lb124_0
    simp (maxSteps := 1000000) (disch := first | omega | rfl | (simp only [zL, two63, room] <;> omega) | fail) only [↓reduceIte, ↓zP, zW, WOp, evOp, evBin, binI, binSh, binS, evNil, keyIs, keyEq, mkv, AV.cells, AV.sc, optv, bnd, env, put, Env.get, Env.set, Env.del, Env.dels, Env.init, res1, resL, resV, fillP, splice, newRow, Nat.reduceEqDiff, Nat.reduceLT, Nat.reduceLeDiff, Nat.reduceAdd, Nat.reduceMul, Nat.reduceSub, Nat.reduceBEq, reduceCtorEq, ↓zR, zQ, Tr, StA, StT, hn]
    simpa using hR
  | n + 1, out, hb, hR => by
    have ih := lp_liTimes (h := h) (R := R) n (out ++ [46]) (by simp; omega) (by simpa [List.replicate_succ] using hR)
    have hn : ((n + 1 : Nat) : Int) > 0 := by omega
    have hw : ((n + 1 : Nat) : Int) - 1 = (n : Int) := by omega
    have hwr : IntKind.i64.wrap (n : Int) = (n : Int) := wrap_i (by omega)
    rw [w_loopb (c := lp124_0) (d := lb124_0) rfl]; unfold lb124_0
    simp (maxSteps := 1000000) (disch := first | omega | rfl | (simp only [zL, two63, room] <;> omega) | fail) only [↓reduceIte, ↓zP, zW, WOp, evOp, evBin, binI, binSh, binS, evNil, keyIs, keyEq, mkv, AV.cells, AV.sc, optv, bnd, env, put, Env.get, Env.set, Env.del, Env.dels, Env.init, res1, resL, resV, fillP, splice, newRow, Nat.reduceEqDiff, Nat.reduceLT, Nat.reduceLeDiff, Nat.reduceAdd, Nat.reduceMul, Nat.reduceSub, Nat.reduceBEq, reduceCtorEq, ↓zR, zQ, Tr, StA, StT, hn, hw, hwr]
    rw [w_loopn (c := lp124_0) rfl]
    simp (maxSteps := 1000000) (disch := first | omega | rfl | (simp only [zL, two63, room] <;> omega) | fail) only [↓reduceIte, ↓zP, zW, WOp, evOp, evBin, binI, binSh, binS, evNil, keyIs, keyEq, mkv, AV.cells, AV.sc, optv, bnd, env, put, Env.get, Env.set, Env.del, Env.dels, Env.init, res1, resL, resV, fillP, splice, newRow, Nat.reduceEqDiff, Nat.reduceLT, Nat.reduceLeDiff, Nat.reduceAdd, Nat.reduceMul, Nat.reduceSub, Nat.reduceBEq, reduceCtorEq, ↓zR, zQ, Tr, StA, StT]
    exact ih
theorem c_liTimes (n : Nat) (hn : n < 1000) {h : AH} {post : AV → AH → Prop} (hp : post (.str (List.replicate n 46)) h) : S 124 [.str [46], .int .i64 n] h post k := by
  refine S_of rfl T124 ?_; unfold fi124
  simp (maxSteps := 1000000) (disch := first | omega | rfl | (simp only [zL, two63, room] <;> omega) | fail) only [↓reduceIte, ↓zP, zW, WOp, evOp, evBin, binI, binSh, binS, evNil, keyIs, keyEq, mkv, AV.cells, AV.sc, optv, bnd, env, put, Env.get, Env.set, Env.del, Env.dels, Env.init, res1, resL, resV, fillP, splice, newRow, Nat.reduceEqDiff, Nat.reduceLT, Nat.reduceLeDiff, Nat.reduceAdd, Nat.reduceMul, Nat.reduceSub, Nat.reduceBEq, reduceCtorEq, ↓zR, zQ, Tr, StA, StT]
  refine lp_liTimes n [] (by simp; omega) ?_
  simp (maxSteps := 1000000) (disch := first | omega | rfl | (simp only [zL, two63, room] <;> omega) | fail) only [↓reduceIte, ↓zP, zW, WOp, evOp, evBin, binI, binSh, binS, evNil, keyIs, keyEq, mkv, AV.cells, AV.sc, optv, bnd, env, put, Env.get, Env.set, Env.del, Env.dels, Env.init, res1, resL, resV, fillP, splice, newRow, Nat.reduceEqDiff, Nat.reduceLT, Nat.reduceLeDiff, Nat.reduceAdd, Nat.reduceMul, Nat.reduceSub, Nat.reduceBEq, reduceCtorEq, ↓zR, zQ, Tr, StA, StT]
  exact hp
theorem c_gaWhole (n : Int) (hn : -4 ≤ n ∧ n ≤ 4) {h : AH} {post : AV → AH → Prop} (hp : post (.str (wholeL n)) h) : S 230 [.int .i64 n] h post k := by
  unfold wholeL at hp
  by_cases h0 : n < 0
  · rw [if_pos h0] at hp
    obtain ⟨m, hm⟩ : ∃ m : Nat, 0 - n = m := ⟨(-n).toNat, by omega⟩
    have hm2 : (-n).toNat = m := by omega
    rw [hm2] at hp
    have hwr : IntKind.i64.wrap (m : Int) = (m : Int) := wrap_i (by omega)
    refine S_of rfl T230 ?_; unfold fi230
    simp (maxSteps := 1000000) (disch := first | omega | rfl | (simp only [zL, two63, room] <;> omega) | fail) only [↓reduceIte, ↓zP, zW, WOp, evOp, evBin, binI, binSh, binS, evNil, keyIs, keyEq, mkv, AV.cells, AV.sc, optv, bnd, env, put, Env.get, Env.set, Env.del, Env.dels, Env.init, res1, resL, resV, fillP, splice, newRow, Nat.reduceEqDiff, Nat.reduceLT, Nat.reduceLeDiff, Nat.reduceAdd, Nat.reduceMul, Nat.reduceSub, Nat.reduceBEq, reduceCtorEq, ↓zR, zQ, Tr, StA, StT, h0, hm, hwr]
    refine c_liTimes m (by omega) ?_
    simp (maxSteps := 1000000) (disch := first | omega | rfl | (simp only [zL, two63, room] <;> omega) | fail) only [↓reduceIte, ↓zP, zW, WOp, evOp, evBin, binI, binSh, binS, evNil, keyIs, keyEq, mkv, AV.cells, AV.sc, optv, bnd, env, put, Env.get, Env.set, Env.del, Env.dels, Env.init, res1, resL, resV, fillP, splice, newRow, Nat.reduceEqDiff, Nat.reduceLT, Nat.reduceLeDiff, Nat.reduceAdd, Nat.reduceMul, Nat.reduceSub, Nat.reduceBEq, reduceCtorEq, ↓zR, zQ, Tr, StA, StT, List.length_replicate]
    exact hp
  · rw [if_neg h0] at hp
    obtain ⟨m, rfl⟩ : ∃ m : Nat, n = m := ⟨n.toNat, by omega⟩
    refine S_of rfl T230 ?_; unfold fi230
    simp (maxSteps := 1000000) (disch := first | omega | rfl | (simp only [zL, two63, room] <;> omega) | fail) only [↓reduceIte, ↓zP, zW, WOp, evOp, evBin, binI, binSh, binS, evNil, keyIs, keyEq, mkv, AV.cells, AV.sc, optv, bnd, env, put, Env.get, Env.set, Env.del, Env.dels, Env.init, res1, resL, resV, fillP, splice, newRow, Nat.reduceEqDiff, Nat.reduceLT, Nat.reduceLeDiff, Nat.reduceAdd, Nat.reduceMul, Nat.reduceSub, Nat.reduceBEq, reduceCtorEq, ↓zR, zQ, Tr, StA, StT, h0]
    refine c_liTimes m (by omega) ?_
    simp (maxSteps := 1000000) (disch := first | omega | rfl | (simp only [zL, two63, room] <;> omega) | fail) only [↓reduceIte, ↓zP, zW, WOp, evOp, evBin, binI, binSh, binS, evNil, keyIs, keyEq, mkv, AV.cells, AV.sc, optv, bnd, env, put, Env.get, Env.set, Env.del, Env.dels, Env.init, res1, resL, resV, fillP, splice, newRow, Nat.reduceEqDiff, Nat.reduceLT, Nat.reduceLeDiff, Nat.reduceAdd, Nat.reduceMul, Nat.reduceSub, Nat.reduceBEq, reduceCtorEq, ↓zR, zQ, Tr, StA, StT, List.length_replicate]
    simpa using hp
theorem slc2 (h : AH) (x y : List UInt8) : Slc 1 encS (h ++ [AO.row [.str x, .str y] 0 0 false]) (.slice h.length 0 0 2 1) [x, y] := by
  unfold Slc Sl
  refine ⟨rfl, rfl, rfl, ?_⟩
  rw [rd_last, if_pos (by simp)]
  simp
theorem c_gaCompare (w v : List UInt8) (hw : signs w ∧ w.length ≤ 5) (hv : signs v ∧ v.length ≤ 5) {h : AH} {post : AV → AH → Prop} (hp : ∀ h', Pre h h' → post (.str (cmpS (outP w v))) h') : S 231 [.str w, .str v] h post k := by
  have hol := otherL_len v
  refine S_of rfl T231 ?_; unfold fi231
  simp (maxSteps := 1000000) (disch := first | omega | rfl | (simp only [zL, two63, room] <;> omega) | fail) only [↓reduceIte, ↓zP, zW, WOp, evOp, evBin, binI, binSh, binS, evNil, keyIs, keyEq, mkv, AV.cells, AV.sc, optv, bnd, env, put, Env.get, Env.set, Env.del, Env.dels, Env.init, res1, resL, resV, fillP, splice, newRow, Nat.reduceEqDiff, Nat.reduceLT, Nat.reduceLeDiff, Nat.reduceAdd, Nat.reduceMul, Nat.reduceSub, Nat.reduceBEq, reduceCtorEq, ↓zR, zQ, Tr, StA, StT]
  refine c_liOther v (by omega) hv.1 ?_
  simp (maxSteps := 1000000) (disch := first | omega | rfl | (simp only [zL, two63, room] <;> omega) | fail) only [↓reduceIte, ↓zP, zW, WOp, evOp, evBin, binI, binSh, binS, evNil, keyIs, keyEq, mkv, AV.cells, AV.sc, optv, bnd, env, put, Env.get, Env.set, Env.del, Env.dels, Env.init, res1, resL, resV, fillP, splice, newRow, Nat.reduceEqDiff, Nat.reduceLT, Nat.reduceLeDiff, Nat.reduceAdd, Nat.reduceMul, Nat.reduceSub, Nat.reduceBEq, reduceCtorEq, ↓zR, zQ, Tr, StA, StT]
  refine c_gaOutcome (ls := [w, otherL v]) (slc2 h w (otherL v)) ?_ ?_ ?_
  · intro x hx
    simp only [List.mem_cons, List.not_mem_nil, or_false] at hx
    rcases hx with rfl | rfl
    · exact hw.1
    · exact otherL_signs hv.1
  · rw [gaTail_len]; simp; omega
  · intro h' hl hsame
    have hpre : Pre h h' := (Pre.push h _).trans ⟨hl, hsame⟩
    have hq := hp h' hpre
    unfold outP at hq
    rw [winL_pair _ _ _ _ (Nat.lt_succ_self _), winL_pair _ _ _ _ (Nat.lt_succ_self _)]
    have d1 : (([49] : List UInt8) == [50]) = false := rfl
    have d2 : (([49] : List UInt8) == [84]) = false := rfl
    have d3 : (([49] : List UInt8) == [70]) = false := rfl
    have d4 : (([84] : List UInt8) == [50]) = false := rfl
    have d5 : (([70] : List UInt8) == [50]) = false := rfl
    have d6 : (([70] : List UInt8) == [84]) = false := rfl
    cases e1 : winB (w ++ 32 :: otherL v) true <;> cases e2 : winB (w ++ 32 :: otherL v) false <;> rw [e1, e2] at hq <;>
      simp only [outcS, Bool.and_true, Bool.and_false, Bool.and_self, if_true, if_false, Bool.false_eq_true] at hq ⊢ <;> simp only [cmpS, d1, d2, d3, d4, d5, d6, beq_self_eq_true, if_true, if_false, Bool.false_eq_true] at hq <;>
      simp (maxSteps := 1000000) (disch := first | omega | rfl | (simp only [zL, two63, room] <;> omega) | fail) only [↓reduceIte, ↓zP, zW, WOp, evOp, evBin, binI, binSh, binS, evNil, keyIs, keyEq, mkv, AV.cells, AV.sc, optv, bnd, env, put, Env.get, Env.set, Env.del, Env.dels, Env.init, res1, resL, resV, fillP, splice, newRow, Nat.reduceEqDiff, Nat.reduceLT, Nat.reduceLeDiff, Nat.reduceAdd, Nat.reduceMul, Nat.reduceSub, Nat.reduceBEq, reduceCtorEq, ↓zR, zQ, Tr, StA, StT, d1, d2, d3, d4, d5, d6] <;> exact hq
theorem lp_sWholeValue (w : List UInt8) (hw : signs w ∧ w.length ≤ 5) (h0 : AH) {R : X → Env → AH → Prop} : ∀ (d : Nat) (n : Int) (h : AH), n + d = 5 → d ≤ 9 → Pre h0 h →
    (∀ h' m, Pre h0 h' → firstW w d n = some m → R .ret [(2, .int .i64 m), (3, .bool true)] h') → (∀ h', Pre h0 h' → firstW w d n = none → R (.exit 0) [] h') →
    Cx (.loop lp222_0) [(0, .str w), (4, .int .i64 n)] h R k k
  | 0, n, h, hd, h9, hp, h1, h2 => by
    have hn : ¬ (n ≤ 4) := by omega
    rw [w_loopb (c := lp222_0) (d := lb222_0) rfl]; unfold lb222_0
    simp (maxSteps := 1000000) (disch := first | omega | rfl | (simp only [zL, two63, room] <;> omega) | fail) only [↓reduceIte, ↓zP, zW, WOp, evOp, evBin, binI, binSh, binS, evNil, keyIs, keyEq, mkv, AV.cells, AV.sc, optv, bnd, env, put, Env.get, Env.set, Env.del, Env.dels, Env.init, res1, resL, resV, fillP, splice, newRow, Nat.reduceEqDiff, Nat.reduceLT, Nat.reduceLeDiff, Nat.reduceAdd, Nat.reduceMul, Nat.reduceSub, Nat.reduceBEq, reduceCtorEq, ↓zR, zQ, Tr, StA, StT, hn]
    exact h2 h hp rfl
  | d + 1, n, h, hd, h9, hp, h1, h2 => by
    have ih := lp_sWholeValue w hw h0 (R := R) d (n + 1)
    have hn : n ≤ 4 := by omega
    have hwr : IntKind.i64.wrap (n + 1) = n + 1 := wrap_i (by omega)
    obtain ⟨k1, k2, k3⟩ := wholeL_ok (n := n) (by omega)
    rw [w_loopb (c := lp222_0) (d := lb222_0) rfl]; unfold lb222_0
    simp (maxSteps := 1000000) (disch := first | omega | rfl | (simp only [zL, two63, room] <;> omega) | fail) only [↓reduceIte, ↓zP, zW, WOp, evOp, evBin, binI, binSh, binS, evNil, keyIs, keyEq, mkv, AV.cells, AV.sc, optv, bnd, env, put, Env.get, Env.set, Env.del, Env.dels, Env.init, res1, resL, resV, fillP, splice, newRow, Nat.reduceEqDiff, Nat.reduceLT, Nat.reduceLeDiff, Nat.reduceAdd, Nat.reduceMul, Nat.reduceSub, Nat.reduceBEq, reduceCtorEq, ↓zR, zQ, Tr, StA, StT, hn]
    refine c_gaWhole n (by omega) ?_
    simp (maxSteps := 1000000) (disch := first | omega | rfl | (simp only [zL, two63, room] <;> omega) | fail) only [↓reduceIte, ↓zP, zW, WOp, evOp, evBin, binI, binSh, binS, evNil, keyIs, keyEq, mkv, AV.cells, AV.sc, optv, bnd, env, put, Env.get, Env.set, Env.del, Env.dels, Env.init, res1, resL, resV, fillP, splice, newRow, Nat.reduceEqDiff, Nat.reduceLT, Nat.reduceLeDiff, Nat.reduceAdd, Nat.reduceMul, Nat.reduceSub, Nat.reduceBEq, reduceCtorEq, ↓zR, zQ, Tr, StA, StT]
    refine c_gaCompare w _ hw ⟨k1, k3⟩ ?_
    intro h3 hp3
    have hc : (cmpS (outP w (wholeL n)) == [61]) = eqW w n := cmp_eq _
    cases e : eqW w n
    · rw [e] at hc
      simp (maxSteps := 1000000) (disch := first | omega | rfl | (simp only [zL, two63, room] <;> omega) | fail) only [↓reduceIte, ↓zP, zW, WOp, evOp, evBin, binI, binSh, binS, evNil, keyIs, keyEq, mkv, AV.cells, AV.sc, optv, bnd, env, put, Env.get, Env.set, Env.del, Env.dels, Env.init, res1, resL, resV, fillP, splice, newRow, Nat.reduceEqDiff, Nat.reduceLT, Nat.reduceLeDiff, Nat.reduceAdd, Nat.reduceMul, Nat.reduceSub, Nat.reduceBEq, reduceCtorEq, ↓zR, zQ, Tr, StA, StT, hc, hwr]
      rw [w_loopn (c := lp222_0) rfl]
      simp (maxSteps := 1000000) (disch := first | omega | rfl | (simp only [zL, two63, room] <;> omega) | fail) only [↓reduceIte, ↓zP, zW, WOp, evOp, evBin, binI, binSh, binS, evNil, keyIs, keyEq, mkv, AV.cells, AV.sc, optv, bnd, env, put, Env.get, Env.set, Env.del, Env.dels, Env.init, res1, resL, resV, fillP, splice, newRow, Nat.reduceEqDiff, Nat.reduceLT, Nat.reduceLeDiff, Nat.reduceAdd, Nat.reduceMul, Nat.reduceSub, Nat.reduceBEq, reduceCtorEq, ↓zR, zQ, Tr, StA, StT]
      refine ih h3 (by omega) (by omega) (hp.trans hp3) ?_ ?_
      · intro h' m hp' hm
        exact h1 h' m hp' (by simp only [firstW, e]; exact hm)
      · intro h' hp' hm
        exact h2 h' hp' (by simp only [firstW, e]; exact hm)
    · rw [e] at hc
      simp (maxSteps := 1000000) (disch := first | omega | rfl | (simp only [zL, two63, room] <;> omega) | fail) only [↓reduceIte, ↓zP, zW, WOp, evOp, evBin, binI, binSh, binS, evNil, keyIs, keyEq, mkv, AV.cells, AV.sc, optv, bnd, env, put, Env.get, Env.set, Env.del, Env.dels, Env.init, res1, resL, resV, fillP, splice, newRow, Nat.reduceEqDiff, Nat.reduceLT, Nat.reduceLeDiff, Nat.reduceAdd, Nat.reduceMul, Nat.reduceSub, Nat.reduceBEq, reduceCtorEq, ↓zR, zQ, Tr, StA, StT, hc]
      exact h1 h3 n (hp.trans hp3) (by simp only [firstW, e]; rfl)
def wvV (s : List UInt8) : AV := if okW s then (match firstW s 9 (-4) with | some n => .tup [.int .i64 n, .bool true] | none => .tup [.int .i64 0, .bool false]) else .tup [.int .i64 0, .bool false]
theorem c_sWholeValue (s : List UInt8) (hs : s.length < 2 ^ 60) {h : AH} {post : AV → AH → Prop} (hp : ∀ h', Pre h h' → post (wvV s) h') : S 222 [.str s] h post k := by
  unfold wvV at hp
  refine S_of rfl T222 ?_; unfold fi222
  simp (maxSteps := 1000000) (disch := first | omega | rfl | (simp only [zL, two63, room] <;> omega) | fail) only [↓reduceIte, ↓zP, zW, WOp, evOp, evBin, binI, binSh, binS, evNil, keyIs, keyEq, mkv, AV.cells, AV.sc, optv, bnd, env, put, Env.get, Env.set, Env.del, Env.dels, Env.init, res1, resL, resV, fillP, splice, newRow, Nat.reduceEqDiff, Nat.reduceLT, Nat.reduceLeDiff, Nat.reduceAdd, Nat.reduceMul, Nat.reduceSub, Nat.reduceBEq, reduceCtorEq, ↓zR, zQ, Tr, StA, StT]
  refine c_liGood s hs ?_
  by_cases hg : s.all isSign = true
  · by_cases h1 : 1 ≤ s.length
    · by_cases h5 : s.length ≤ 5
      · have e : goodLine s = true := by unfold goodLine; rw [hg, decide_eq_true (by omega)]; rfl
        have e2 : okW s = true := by unfold okW; rw [hg, decide_eq_true (by omega)]; rfl
        rw [e2] at hp
        have hn5 : ¬ ((s.length : Int) > 5) := by omega
        simp (maxSteps := 1000000) (disch := first | omega | rfl | (simp only [zL, two63, room] <;> omega) | fail) only [↓reduceIte, ↓zP, zW, WOp, evOp, evBin, binI, binSh, binS, evNil, keyIs, keyEq, mkv, AV.cells, AV.sc, optv, bnd, env, put, Env.get, Env.set, Env.del, Env.dels, Env.init, res1, resL, resV, fillP, splice, newRow, Nat.reduceEqDiff, Nat.reduceLT, Nat.reduceLeDiff, Nat.reduceAdd, Nat.reduceMul, Nat.reduceSub, Nat.reduceBEq, reduceCtorEq, ↓zR, zQ, Tr, StA, StT, e, hn5]
        refine lp_sWholeValue s ⟨hg, h5⟩ h 9 (-4) h (by omega) (by omega) (Pre.refl _) ?_ ?_
        · intro h' m hp' hm
          have := hp h' hp'
          rw [hm] at this
          simp (maxSteps := 1000000) (disch := first | omega | rfl | (simp only [zL, two63, room] <;> omega) | fail) only [↓reduceIte, ↓zP, zW, WOp, evOp, evBin, binI, binSh, binS, evNil, keyIs, keyEq, mkv, AV.cells, AV.sc, optv, bnd, env, put, Env.get, Env.set, Env.del, Env.dels, Env.init, res1, resL, resV, fillP, splice, newRow, Nat.reduceEqDiff, Nat.reduceLT, Nat.reduceLeDiff, Nat.reduceAdd, Nat.reduceMul, Nat.reduceSub, Nat.reduceBEq, reduceCtorEq, ↓zR, zQ, Tr, StA, StT]
          exact this
        · intro h' hp' hm
          have := hp h' hp'
          rw [hm] at this
          simp (maxSteps := 1000000) (disch := first | omega | rfl | (simp only [zL, two63, room] <;> omega) | fail) only [↓reduceIte, ↓zP, zW, WOp, evOp, evBin, binI, binSh, binS, evNil, keyIs, keyEq, mkv, AV.cells, AV.sc, optv, bnd, env, put, Env.get, Env.set, Env.del, Env.dels, Env.init, res1, resL, resV, fillP, splice, newRow, Nat.reduceEqDiff, Nat.reduceLT, Nat.reduceLeDiff, Nat.reduceAdd, Nat.reduceMul, Nat.reduceSub, Nat.reduceBEq, reduceCtorEq, ↓zR, zQ, Tr, StA, StT]
          exact this
      · have e2 : okW s = false := by unfold okW; rw [decide_eq_false (by omega)]; rfl
        rw [e2] at hp
        have hn5 : (s.length : Int) > 5 := by omega
        cases e : goodLine s
        · simp (maxSteps := 1000000) (disch := first | omega | rfl | (simp only [zL, two63, room] <;> omega) | fail) only [↓reduceIte, ↓zP, zW, WOp, evOp, evBin, binI, binSh, binS, evNil, keyIs, keyEq, mkv, AV.cells, AV.sc, optv, bnd, env, put, Env.get, Env.set, Env.del, Env.dels, Env.init, res1, resL, resV, fillP, splice, newRow, Nat.reduceEqDiff, Nat.reduceLT, Nat.reduceLeDiff, Nat.reduceAdd, Nat.reduceMul, Nat.reduceSub, Nat.reduceBEq, reduceCtorEq, ↓zR, zQ, Tr, StA, StT, e]; exact hp h (Pre.refl _)
        · simp (maxSteps := 1000000) (disch := first | omega | rfl | (simp only [zL, two63, room] <;> omega) | fail) only [↓reduceIte, ↓zP, zW, WOp, evOp, evBin, binI, binSh, binS, evNil, keyIs, keyEq, mkv, AV.cells, AV.sc, optv, bnd, env, put, Env.get, Env.set, Env.del, Env.dels, Env.init, res1, resL, resV, fillP, splice, newRow, Nat.reduceEqDiff, Nat.reduceLT, Nat.reduceLeDiff, Nat.reduceAdd, Nat.reduceMul, Nat.reduceSub, Nat.reduceBEq, reduceCtorEq, ↓zR, zQ, Tr, StA, StT, e, hn5]; exact hp h (Pre.refl _)
    · have e : goodLine s = false := by unfold goodLine; rw [decide_eq_false (by omega)]; rfl
      have e2 : okW s = false := by unfold okW; rw [decide_eq_false (by omega)]; rfl
      rw [e2] at hp
      simp (maxSteps := 1000000) (disch := first | omega | rfl | (simp only [zL, two63, room] <;> omega) | fail) only [↓reduceIte, ↓zP, zW, WOp, evOp, evBin, binI, binSh, binS, evNil, keyIs, keyEq, mkv, AV.cells, AV.sc, optv, bnd, env, put, Env.get, Env.set, Env.del, Env.dels, Env.init, res1, resL, resV, fillP, splice, newRow, Nat.reduceEqDiff, Nat.reduceLT, Nat.reduceLeDiff, Nat.reduceAdd, Nat.reduceMul, Nat.reduceSub, Nat.reduceBEq, reduceCtorEq, ↓zR, zQ, Tr, StA, StT, e]
      exact hp h (Pre.refl _)
  · rw [Bool.not_eq_true] at hg
    have e : goodLine s = false := by unfold goodLine; rw [hg, Bool.and_false]
    have e2 : okW s = false := by unfold okW; rw [hg, Bool.and_false]
    rw [e2] at hp
    simp (maxSteps := 1000000) (disch := first | omega | rfl | (simp only [zL, two63, room] <;> omega) | fail) only [↓reduceIte, ↓zP, zW, WOp, evOp, evBin, binI, binSh, binS, evNil, keyIs, keyEq, mkv, AV.cells, AV.sc, optv, bnd, env, put, Env.get, Env.set, Env.del, Env.dels, Env.init, res1, resL, resV, fillP, splice, newRow, Nat.reduceEqDiff, Nat.reduceLT, Nat.reduceLeDiff, Nat.reduceAdd, Nat.reduceMul, Nat.reduceSub, Nat.reduceBEq, reduceCtorEq, ↓zR, zQ, Tr, StA, StT, e]
    exact hp h (Pre.refl _)

/-! ### The program's -/
theorem c_isPlayed (s : List UInt8) (hs : s.length < 2 ^ 60) {h : AH} {post : AV → AH → Prop} (hp : post (.bool (decide (1 ≤ (s.length : Int) ∧ (s.length : Int) ≤ 10) && s.all isSign)) h) : S 254 [.str s] h post k := by
  refine S_of rfl T254 ?_; unfold fi254
  simp (maxSteps := 1000000) (disch := first | omega | rfl | (simp only [zL, two63, room] <;> omega) | fail) only [↓reduceIte, ↓zP, zW, WOp, evOp, evBin, binI, binSh, binS, evNil, keyIs, keyEq, mkv, AV.cells, AV.sc, optv, bnd, env, put, Env.get, Env.set, Env.del, Env.dels, Env.init, res1, resL, resV, fillP, splice, newRow, Nat.reduceEqDiff, Nat.reduceLT, Nat.reduceLeDiff, Nat.reduceAdd, Nat.reduceMul, Nat.reduceSub, Nat.reduceBEq, reduceCtorEq, ↓zR, zQ, Tr, StA, StT]
  refine c_isLineOf s 10 (by omega) hs ?_
  simp (maxSteps := 1000000) (disch := first | omega | rfl | (simp only [zL, two63, room] <;> omega) | fail) only [↓reduceIte, ↓zP, zW, WOp, evOp, evBin, binI, binSh, binS, evNil, keyIs, keyEq, mkv, AV.cells, AV.sc, optv, bnd, env, put, Env.get, Env.set, Env.del, Env.dels, Env.init, res1, resL, resV, fillP, splice, newRow, Nat.reduceEqDiff, Nat.reduceLT, Nat.reduceLeDiff, Nat.reduceAdd, Nat.reduceMul, Nat.reduceSub, Nat.reduceBEq, reduceCtorEq, ↓zR, zQ, Tr, StA, StT]
  exact hp
theorem lp_sumOf {v : AV} {L : List (List UInt8)} (hL : L.length < 1000) (hok : ∀ x ∈ L, signs x ∧ 1 ≤ x.length ∧ x.length ≤ 5) {h : AH} (hs : Slc 1 encS h v L) {R : X → Env → AH → Prop} : ∀ (rest pre : List (List UInt8)) (n : Nat), L = pre ++ rest → n + 5 * rest.length < 2 ^ 30 →
    R (.exit 0) [(0, v), (4, .int .i64 ((n + (rest.map List.length).sum : Nat) : Int))] h →
    Cx (.loop lp249_0) [(0, v), (4, .int .i64 n), (7, v), (8, .int .i64 L.length), (9, .int .i64 pre.length)] h R k k
  | [], pre, n, hpre, hb, hR => by
    subst hpre
    rw [w_loopb (c := lp249_0) (d := lb249_0) rfl]; unfold lb249_0
    simp only [List.append_nil]
    simp (maxSteps := 1000000) (disch := first | omega | rfl | (simp only [zL, two63, room] <;> omega) | fail) only [↓reduceIte, ↓zP, zW, WOp, evOp, evBin, binI, binSh, binS, evNil, keyIs, keyEq, mkv, AV.cells, AV.sc, optv, bnd, env, put, Env.get, Env.set, Env.del, Env.dels, Env.init, res1, resL, resV, fillP, splice, newRow, Nat.reduceEqDiff, Nat.reduceLT, Nat.reduceLeDiff, Nat.reduceAdd, Nat.reduceMul, Nat.reduceSub, Nat.reduceBEq, reduceCtorEq, ↓zR, zQ, Tr, StA, StT]
    simpa using hR
  | x :: rest, pre, n, hpre, hb, hR => by
    obtain ⟨hx1, hx2, hx3⟩ := hok x (by rw [hpre]; simp)
    simp only [List.length_cons] at hb
    have ih := lp_sumOf hL hok hs (R := R) rest (pre ++ [x]) (n + x.length) (by rw [hpre]; simp) (by omega) (by simpa [Nat.add_assoc] using hR)
    have hll : L.length = pre.length + 1 + rest.length := by rw [hpre]; simp; omega
    have hs' := hs
    rw [hpre] at hs'
    obtain ⟨r1, k1, o1, hv, hr⟩ := hs'.at hlS
    rw [← hpre, hll] at hv
    subst hv
    rw [hll] at ih hL ⊢
    have hlt : (pre.length : Int) < ((pre.length + 1 + rest.length : Nat) : Int) := by omega
    have hw1 : (pre.length : Int) + 1 = ((pre ++ [x]).length : Int) := by simp
    have hw2 : (n : Int) + (x.length : Int) = ((n + x.length : Nat) : Int) := by omega
    have hwr : IntKind.i64.wrap ((n + x.length : Nat) : Int) = ((n + x.length : Nat) : Int) := wrap_i (by omega)
    have hgood : (decide (1 ≤ (x.length : Int) ∧ (x.length : Int) ≤ 10) && x.all isSign) = true := by
      unfold signs at hx1
      rw [hx1, decide_eq_true (by omega)]; rfl
    rw [w_loopb (c := lp249_0) (d := lb249_0) rfl]; unfold lb249_0
    simp (maxSteps := 1000000) (disch := first | omega | rfl | (simp only [zL, two63, room] <;> omega) | fail) only [↓reduceIte, ↓zP, zW, WOp, evOp, evBin, binI, binSh, binS, evNil, keyIs, keyEq, mkv, AV.cells, AV.sc, optv, bnd, env, put, Env.get, Env.set, Env.del, Env.dels, Env.init, res1, resL, resV, fillP, splice, newRow, Nat.reduceEqDiff, Nat.reduceLT, Nat.reduceLeDiff, Nat.reduceAdd, Nat.reduceMul, Nat.reduceSub, Nat.reduceBEq, reduceCtorEq, ↓zR, zQ, Tr, StA, StT, hlt, hr]
    refine c_isPlayed x (by omega) ?_
    have hx1' : x.all isSign = true := hx1
    simp (maxSteps := 1000000) (disch := first | omega | rfl | (simp only [zL, two63, room] <;> omega) | fail) only [↓reduceIte, ↓zP, zW, WOp, evOp, evBin, binI, binSh, binS, evNil, keyIs, keyEq, mkv, AV.cells, AV.sc, optv, bnd, env, put, Env.get, Env.set, Env.del, Env.dels, Env.init, res1, resL, resV, fillP, splice, newRow, Nat.reduceEqDiff, Nat.reduceLT, Nat.reduceLeDiff, Nat.reduceAdd, Nat.reduceMul, Nat.reduceSub, Nat.reduceBEq, reduceCtorEq, ↓zR, zQ, Tr, StA, StT, hx1', hgood, hw2, hwr]
    simp (maxSteps := 1000000) (disch := first | omega | rfl | (simp only [zL, two63, room] <;> omega) | fail) only [↓reduceIte, ↓zP, zW, WOp, evOp, evBin, binI, binSh, binS, evNil, keyIs, keyEq, mkv, AV.cells, AV.sc, optv, bnd, env, put, Env.get, Env.set, Env.del, Env.dels, Env.init, res1, resL, resV, fillP, splice, newRow, Nat.reduceEqDiff, Nat.reduceLT, Nat.reduceLeDiff, Nat.reduceAdd, Nat.reduceMul, Nat.reduceSub, Nat.reduceBEq, reduceCtorEq, ↓zR, zQ, Tr, StA, StT, hw1]
    rw [w_loopn (c := lp249_0) rfl]
    simp (maxSteps := 1000000) (disch := first | omega | rfl | (simp only [zL, two63, room] <;> omega) | fail) only [↓reduceIte, ↓zP, zW, WOp, evOp, evBin, binI, binSh, binS, evNil, keyIs, keyEq, mkv, AV.cells, AV.sc, optv, bnd, env, put, Env.get, Env.set, Env.del, Env.dels, Env.init, res1, resL, resV, fillP, splice, newRow, Nat.reduceEqDiff, Nat.reduceLT, Nat.reduceLeDiff, Nat.reduceAdd, Nat.reduceMul, Nat.reduceSub, Nat.reduceBEq, reduceCtorEq, ↓zR, zQ, Tr, StA, StT]
    exact ih
theorem join2 (x y : List UInt8) : Go.Lib.join [x, y] [32] = x ++ 32 :: y := by simp [Go.Lib.join, List.intercalate, List.intersperse]
theorem c_sumOf2 (x y : List UInt8) (hx : signs x ∧ 1 ≤ x.length ∧ x.length ≤ 5) (hy : signs y ∧ 1 ≤ y.length ∧ y.length ≤ 5) {h : AH} {c kk off : Nat} (hs : Slc 1 encS h (.slice c kk off 2 1) [x, y]) {post : AV → AH → Prop} (hp : post (.tup [.str (x ++ 32 :: y), .bool true]) h) : S 249 [.slice c kk off 2 1] h post k := by
  have key := fun R => lp_sumOf (v := .slice c kk off 2 1) (L := [x, y]) (by simp) (by
    intro z hz
    simp only [List.mem_cons, List.not_mem_nil, or_false] at hz
    rcases hz with rfl | rfl
    · exact hx
    · exact hy) hs (R := R) [x, y] [] 0 rfl (by simp)
  have hsum : (0 + ([x, y].map List.length).sum : Nat) = x.length + y.length := by simp
  rw [hsum] at key
  refine S_of rfl T249 ?_; unfold fi249
  simp (maxSteps := 1000000) (disch := first | omega | rfl | (simp only [zL, two63, room] <;> omega) | fail) only [↓reduceIte, ↓zP, zW, WOp, evOp, evBin, binI, binSh, binS, evNil, keyIs, keyEq, mkv, AV.cells, AV.sc, optv, bnd, env, put, Env.get, Env.set, Env.del, Env.dels, Env.init, res1, resL, resV, fillP, splice, newRow, Nat.reduceEqDiff, Nat.reduceLT, Nat.reduceLeDiff, Nat.reduceAdd, Nat.reduceMul, Nat.reduceSub, Nat.reduceBEq, reduceCtorEq, ↓zR, zQ, Tr, StA, StT]
  refine key _ ?_
  simp (maxSteps := 1000000) (disch := first | omega | rfl | (simp only [zL, two63, room] <;> omega) | fail) only [↓reduceIte, ↓zP, zW, WOp, evOp, evBin, binI, binSh, binS, evNil, keyIs, keyEq, mkv, AV.cells, AV.sc, optv, bnd, env, put, Env.get, Env.set, Env.del, Env.dels, Env.init, res1, resL, resV, fillP, splice, newRow, Nat.reduceEqDiff, Nat.reduceLT, Nat.reduceLeDiff, Nat.reduceAdd, Nat.reduceMul, Nat.reduceSub, Nat.reduceBEq, reduceCtorEq, ↓zR, zQ, Tr, StA, StT]
  obtain ⟨_, _, hrd⟩ := hs.all
  refine S_ext (r := .str (x ++ 32 :: y)) rfl ?_ ?_
  · simp only [xJoin, if_true]
    rw [show (2 * 1 : Nat) = 2 from rfl] at hrd
    rw [hrd]
    simp only [List.flatMap_cons, List.flatMap_nil, encS, List.cons_append, List.nil_append, strsOf, Option.map_some]
    rw [join2, if_pos ⟨by simp; omega, by omega⟩]
  · have h10 : ((x.length + y.length : Nat) : Int) ≤ 10 := by omega
    have hin : decide ((1 : Int) ≤ 2 ∧ (2 : Int) ≤ 3) = true := by decide
    have h2 : (((2 : Nat)) : Int) = 2 := rfl
    simp (maxSteps := 1000000) (disch := first | omega | rfl | (simp only [zL, two63, room] <;> omega) | fail) only [↓reduceIte, ↓zP, zW, WOp, evOp, evBin, binI, binSh, binS, evNil, keyIs, keyEq, mkv, AV.cells, AV.sc, optv, bnd, env, put, Env.get, Env.set, Env.del, Env.dels, Env.init, res1, resL, resV, fillP, splice, newRow, Nat.reduceEqDiff, Nat.reduceLT, Nat.reduceLeDiff, Nat.reduceAdd, Nat.reduceMul, Nat.reduceSub, Nat.reduceBEq, reduceCtorEq, ↓zR, zQ, Tr, StA, StT, h2, e_within, hin, h10]
    exact hp
theorem c_OutcomeOfSum2 (x y : List UInt8) (hx : signs x ∧ 1 ≤ x.length ∧ x.length ≤ 5) (hy : signs y ∧ 1 ≤ y.length ∧ y.length ≤ 5) {h : AH} {c kk off : Nat} (hs : Slc 1 encS h (.slice c kk off 2 1) [x, y]) {post : AV → AH → Prop} (hp : ∀ h', Pre h h' → post (.tup [.str (outcS (winB (x ++ 32 :: y) true) (winB (x ++ 32 :: y) false)), .bool true]) h') : S 241 [.slice c kk off 2 1] h post k := by
  refine S_of rfl T241 ?_; unfold fi241
  simp (maxSteps := 1000000) (disch := first | omega | rfl | (simp only [zL, two63, room] <;> omega) | fail) only [↓reduceIte, ↓zP, zW, WOp, evOp, evBin, binI, binSh, binS, evNil, keyIs, keyEq, mkv, AV.cells, AV.sc, optv, bnd, env, put, Env.get, Env.set, Env.del, Env.dels, Env.init, res1, resL, resV, fillP, splice, newRow, Nat.reduceEqDiff, Nat.reduceLT, Nat.reduceLeDiff, Nat.reduceAdd, Nat.reduceMul, Nat.reduceSub, Nat.reduceBEq, reduceCtorEq, ↓zR, zQ, Tr, StA, StT]
  refine c_sumOf2 x y hx hy hs ?_
  simp (maxSteps := 1000000) (disch := first | omega | rfl | (simp only [zL, two63, room] <;> omega) | fail) only [↓reduceIte, ↓zP, zW, WOp, evOp, evBin, binI, binSh, binS, evNil, keyIs, keyEq, mkv, AV.cells, AV.sc, optv, bnd, env, put, Env.get, Env.set, Env.del, Env.dels, Env.init, res1, resL, resV, fillP, splice, newRow, Nat.reduceEqDiff, Nat.reduceLT, Nat.reduceLeDiff, Nat.reduceAdd, Nat.reduceMul, Nat.reduceSub, Nat.reduceBEq, reduceCtorEq, ↓zR, zQ, Tr, StA, StT]
  refine c_newGames ?_
  intro c2 h2 hp2 hc2 hm2
  simp (maxSteps := 1000000) (disch := first | omega | rfl | (simp only [zL, two63, room] <;> omega) | fail) only [↓reduceIte, ↓zP, zW, WOp, evOp, evBin, binI, binSh, binS, evNil, keyIs, keyEq, mkv, AV.cells, AV.sc, optv, bnd, env, put, Env.get, Env.set, Env.del, Env.dels, Env.init, res1, resL, resV, fillP, splice, newRow, Nat.reduceEqDiff, Nat.reduceLT, Nat.reduceLeDiff, Nat.reduceAdd, Nat.reduceMul, Nat.reduceSub, Nat.reduceBEq, reduceCtorEq, ↓zR, zQ, Tr, StA, StT]
  refine c_outcome _ (by simp; omega) hm2 ?_
  intro h3 hp3
  simp (maxSteps := 1000000) (disch := first | omega | rfl | (simp only [zL, two63, room] <;> omega) | fail) only [↓reduceIte, ↓zP, zW, WOp, evOp, evBin, binI, binSh, binS, evNil, keyIs, keyEq, mkv, AV.cells, AV.sc, optv, bnd, env, put, Env.get, Env.set, Env.del, Env.dels, Env.init, res1, resL, resV, fillP, splice, newRow, Nat.reduceEqDiff, Nat.reduceLT, Nat.reduceLeDiff, Nat.reduceAdd, Nat.reduceMul, Nat.reduceSub, Nat.reduceBEq, reduceCtorEq, ↓zR, zQ, Tr, StA, StT]
  exact hp h3 (hp2.trans' ⟨hp3.1, fun i hi => hp3.2 i (by have := hp2.1; omega) (by omega)⟩)
theorem c_CompareGames (w v : List UInt8) (hw : signs w ∧ 1 ≤ w.length ∧ w.length ≤ 5) (hv : signs v ∧ 1 ≤ v.length ∧ v.length ≤ 5) {h : AH} {post : AV → AH → Prop} (hp : ∀ h', Pre h h' → post (.tup [.str (cmpS (outP w v)), .bool true]) h') : S 232 [.str w, .str v] h post k := by
  have hol := otherL_len v
  refine S_of rfl T232 ?_; unfold fi232
  simp (maxSteps := 1000000) (disch := first | omega | rfl | (simp only [zL, two63, room] <;> omega) | fail) only [↓reduceIte, ↓zP, zW, WOp, evOp, evBin, binI, binSh, binS, evNil, keyIs, keyEq, mkv, AV.cells, AV.sc, optv, bnd, env, put, Env.get, Env.set, Env.del, Env.dels, Env.init, res1, resL, resV, fillP, splice, newRow, Nat.reduceEqDiff, Nat.reduceLT, Nat.reduceLeDiff, Nat.reduceAdd, Nat.reduceMul, Nat.reduceSub, Nat.reduceBEq, reduceCtorEq, ↓zR, zQ, Tr, StA, StT]
  refine c_turned v (by omega) ?_
  intro h2 hp2
  simp (maxSteps := 1000000) (disch := first | omega | rfl | (simp only [zL, two63, room] <;> omega) | fail) only [↓reduceIte, ↓zP, zW, WOp, evOp, evBin, binI, binSh, binS, evNil, keyIs, keyEq, mkv, AV.cells, AV.sc, optv, bnd, env, put, Env.get, Env.set, Env.del, Env.dels, Env.init, res1, resL, resV, fillP, splice, newRow, Nat.reduceEqDiff, Nat.reduceLT, Nat.reduceLeDiff, Nat.reduceAdd, Nat.reduceMul, Nat.reduceSub, Nat.reduceBEq, reduceCtorEq, ↓zR, zQ, Tr, StA, StT]
  refine c_OutcomeOfSum2 w (otherL v) hw ⟨otherL_signs hv.1, by omega, by omega⟩ (slc2 h2 w (otherL v)) ?_
  intro h3 hp3
  have hq := hp h3 (hp2.trans ((Pre.push h2 _).trans hp3))
  unfold outP at hq
  have d1 : (([49] : List UInt8) == [50]) = false := rfl
  have d2 : (([49] : List UInt8) == [84]) = false := rfl
  have d3 : (([49] : List UInt8) == [70]) = false := rfl
  have d4 : (([84] : List UInt8) == [50]) = false := rfl
  have d5 : (([70] : List UInt8) == [50]) = false := rfl
  have d6 : (([70] : List UInt8) == [84]) = false := rfl
  have i1 : Go.Lib.indexByte [49, 50, 70, 84] 49 = 0 := by decide
  have i2 : Go.Lib.indexByte [49, 50, 70, 84] 50 = 1 := by decide
  have i3 : Go.Lib.indexByte [49, 50, 70, 84] 70 = 2 := by decide
  have i4 : Go.Lib.indexByte [49, 50, 70, 84] 84 = 3 := by decide
  cases e1 : winB (w ++ 32 :: otherL v) true <;> cases e2 : winB (w ++ 32 :: otherL v) false <;> rw [e1, e2] at hq <;>
    simp only [outcS, Bool.and_true, Bool.and_false, Bool.and_self, if_true, if_false, Bool.false_eq_true] at hq ⊢ <;> simp only [cmpS, d1, d2, d3, d4, d5, d6, beq_self_eq_true, if_true, if_false, Bool.false_eq_true] at hq
  · simp (maxSteps := 1000000) (disch := first | omega | rfl | (simp only [zL, two63, room] <;> omega) | fail) only [↓reduceIte, ↓zP, zW, WOp, evOp, evBin, binI, binSh, binS, evNil, keyIs, keyEq, mkv, AV.cells, AV.sc, optv, bnd, env, put, Env.get, Env.set, Env.del, Env.dels, Env.init, res1, resL, resV, fillP, splice, newRow, Nat.reduceEqDiff, Nat.reduceLT, Nat.reduceLeDiff, Nat.reduceAdd, Nat.reduceMul, Nat.reduceSub, Nat.reduceBEq, reduceCtorEq, ↓zR, zQ, Tr, StA, StT]
    refine S_ext (r := .int .i64 1) rfl (by simp only [xIndex, i2]) ?_
    simp (maxSteps := 1000000) (disch := first | omega | rfl | (simp only [zL, two63, room] <;> omega) | fail) only [↓reduceIte, ↓zP, zW, WOp, evOp, evBin, binI, binSh, binS, evNil, keyIs, keyEq, mkv, AV.cells, AV.sc, optv, bnd, env, put, Env.get, Env.set, Env.del, Env.dels, Env.init, res1, resL, resV, fillP, splice, newRow, Nat.reduceEqDiff, Nat.reduceLT, Nat.reduceLeDiff, Nat.reduceAdd, Nat.reduceMul, Nat.reduceSub, Nat.reduceBEq, reduceCtorEq, ↓zR, zQ, Tr, StA, StT]
    exact hq
  · simp (maxSteps := 1000000) (disch := first | omega | rfl | (simp only [zL, two63, room] <;> omega) | fail) only [↓reduceIte, ↓zP, zW, WOp, evOp, evBin, binI, binSh, binS, evNil, keyIs, keyEq, mkv, AV.cells, AV.sc, optv, bnd, env, put, Env.get, Env.set, Env.del, Env.dels, Env.init, res1, resL, resV, fillP, splice, newRow, Nat.reduceEqDiff, Nat.reduceLT, Nat.reduceLeDiff, Nat.reduceAdd, Nat.reduceMul, Nat.reduceSub, Nat.reduceBEq, reduceCtorEq, ↓zR, zQ, Tr, StA, StT]
    refine S_ext (r := .int .i64 2) rfl (by simp only [xIndex, i3]) ?_
    simp (maxSteps := 1000000) (disch := first | omega | rfl | (simp only [zL, two63, room] <;> omega) | fail) only [↓reduceIte, ↓zP, zW, WOp, evOp, evBin, binI, binSh, binS, evNil, keyIs, keyEq, mkv, AV.cells, AV.sc, optv, bnd, env, put, Env.get, Env.set, Env.del, Env.dels, Env.init, res1, resL, resV, fillP, splice, newRow, Nat.reduceEqDiff, Nat.reduceLT, Nat.reduceLeDiff, Nat.reduceAdd, Nat.reduceMul, Nat.reduceSub, Nat.reduceBEq, reduceCtorEq, ↓zR, zQ, Tr, StA, StT]
    exact hq
  · simp (maxSteps := 1000000) (disch := first | omega | rfl | (simp only [zL, two63, room] <;> omega) | fail) only [↓reduceIte, ↓zP, zW, WOp, evOp, evBin, binI, binSh, binS, evNil, keyIs, keyEq, mkv, AV.cells, AV.sc, optv, bnd, env, put, Env.get, Env.set, Env.del, Env.dels, Env.init, res1, resL, resV, fillP, splice, newRow, Nat.reduceEqDiff, Nat.reduceLT, Nat.reduceLeDiff, Nat.reduceAdd, Nat.reduceMul, Nat.reduceSub, Nat.reduceBEq, reduceCtorEq, ↓zR, zQ, Tr, StA, StT]
    refine S_ext (r := .int .i64 3) rfl (by simp only [xIndex, i4]) ?_
    simp (maxSteps := 1000000) (disch := first | omega | rfl | (simp only [zL, two63, room] <;> omega) | fail) only [↓reduceIte, ↓zP, zW, WOp, evOp, evBin, binI, binSh, binS, evNil, keyIs, keyEq, mkv, AV.cells, AV.sc, optv, bnd, env, put, Env.get, Env.set, Env.del, Env.dels, Env.init, res1, resL, resV, fillP, splice, newRow, Nat.reduceEqDiff, Nat.reduceLT, Nat.reduceLeDiff, Nat.reduceAdd, Nat.reduceMul, Nat.reduceSub, Nat.reduceBEq, reduceCtorEq, ↓zR, zQ, Tr, StA, StT]
    exact hq
  · simp (maxSteps := 1000000) (disch := first | omega | rfl | (simp only [zL, two63, room] <;> omega) | fail) only [↓reduceIte, ↓zP, zW, WOp, evOp, evBin, binI, binSh, binS, evNil, keyIs, keyEq, mkv, AV.cells, AV.sc, optv, bnd, env, put, Env.get, Env.set, Env.del, Env.dels, Env.init, res1, resL, resV, fillP, splice, newRow, Nat.reduceEqDiff, Nat.reduceLT, Nat.reduceLeDiff, Nat.reduceAdd, Nat.reduceMul, Nat.reduceSub, Nat.reduceBEq, reduceCtorEq, ↓zR, zQ, Tr, StA, StT]
    refine S_ext (r := .int .i64 0) rfl (by simp only [xIndex, i1]) ?_
    simp (maxSteps := 1000000) (disch := first | omega | rfl | (simp only [zL, two63, room] <;> omega) | fail) only [↓reduceIte, ↓zP, zW, WOp, evOp, evBin, binI, binSh, binS, evNil, keyIs, keyEq, mkv, AV.cells, AV.sc, optv, bnd, env, put, Env.get, Env.set, Env.del, Env.dels, Env.init, res1, resL, resV, fillP, splice, newRow, Nat.reduceEqDiff, Nat.reduceLT, Nat.reduceLeDiff, Nat.reduceAdd, Nat.reduceMul, Nat.reduceSub, Nat.reduceBEq, reduceCtorEq, ↓zR, zQ, Tr, StA, StT]
    exact hq
end Go.Proofs.YtbpenpikaehloaaDoor.Ab

/- WHOLE VALUES: the program's loop, and the law. -/
namespace Go.Proofs.YtbpenpikaehloaaDoor.Ab
open Go
set_option maxRecDepth 100000
set_option maxHeartbeats 4000000

theorem rep1 : ∀ n : Nat, Go.Lib.repeatL [46] n = List.replicate n 46
  | 0 => rfl
  | n + 1 => by rw [Go.Lib.repeatL, rep1 n, List.replicate_succ]; rfl
theorem c_Repeat (m : Nat) (hm : m ≤ 100) {h : AH} {post : AV → AH → Prop} (hp : post (.str (List.replicate m 46)) h) : S 123 [.str [46], .int .i64 m] h post k := by
  refine S_ext (r := .str (List.replicate m 46)) rfl ?_ hp
  simp only [xRepeat]
  rw [if_pos ⟨by omega, by omega, by simp; omega⟩, Int.toNat_natCast, rep1]
theorem lp_WholeValue (w : List UInt8) (hw : signs w ∧ 1 ≤ w.length ∧ w.length ≤ 5) (h0 : AH) {R : X → Env → AH → Prop} : ∀ (d : Nat) (n : Int) (h : AH), n + d = 5 → d ≤ 9 → Pre h0 h →
    (∀ h' m, Pre h0 h' → firstW w d n = some m → R .ret [(2, .int .i64 m), (3, .bool true)] h') → (∀ h', Pre h0 h' → firstW w d n = none → R (.exit 0) [] h') →
    Cx (.loop lp223_0) [(0, .str w), (4, .int .i64 n)] h R k k
  | 0, n, h, hd, h9, hp, h1, h2 => by
    have hn : ¬ (n ≤ 4) := by omega
    rw [w_loopb (c := lp223_0) (d := lb223_0) rfl]; unfold lb223_0
    simp (maxSteps := 1000000) (disch := first | omega | rfl | (simp only [zL, two63, room] <;> omega) | fail) only [↓reduceIte, ↓zP, zW, WOp, evOp, evBin, binI, binSh, binS, evNil, keyIs, keyEq, mkv, AV.cells, AV.sc, optv, bnd, env, put, Env.get, Env.set, Env.del, Env.dels, Env.init, res1, resL, resV, fillP, splice, newRow, Nat.reduceEqDiff, Nat.reduceLT, Nat.reduceLeDiff, Nat.reduceAdd, Nat.reduceMul, Nat.reduceSub, Nat.reduceBEq, reduceCtorEq, ↓zR, zQ, Tr, StA, StT, hn]
    exact h2 h hp rfl
  | d + 1, n, h, hd, h9, hp, h1, h2 => by
    have ih := lp_WholeValue w hw h0 (R := R) d (n + 1)
    have hn : n ≤ 4 := by omega
    have hwr : IntKind.i64.wrap (n + 1) = n + 1 := wrap_i (by omega)
    have hok := wholeL_ok (n := n) (by omega)
    have hc : (cmpS (outP w (wholeL n)) == [61]) = eqW w n := cmp_eq _
    by_cases hneg : n < 0
    · have hwl : wholeL n = List.replicate (-n).toNat 46 ++ [70] := by unfold wholeL; rw [if_pos hneg]
      obtain ⟨m, hm⟩ : ∃ m : Nat, 0 - n = m := ⟨(-n).toNat, by omega⟩
      have hm2 : (-n).toNat = m := by omega
      rw [hm2] at hwl
      have hwm : IntKind.i64.wrap (m : Int) = (m : Int) := wrap_i (by omega)
      have hmx : ¬ (n > 0) := by omega
      have hc0 : (0 : Int) = ((0 : Nat) : Int) := rfl
      rw [w_loopb (c := lp223_0) (d := lb223_0) rfl]; unfold lb223_0
      simp (maxSteps := 1000000) (disch := first | omega | rfl | (simp only [zL, two63, room] <;> omega) | fail) only [↓reduceIte, ↓zP, zW, WOp, evOp, evBin, binI, binSh, binS, evNil, keyIs, keyEq, mkv, AV.cells, AV.sc, optv, bnd, env, put, Env.get, Env.set, Env.del, Env.dels, Env.init, res1, resL, resV, fillP, splice, newRow, Nat.reduceEqDiff, Nat.reduceLT, Nat.reduceLeDiff, Nat.reduceAdd, Nat.reduceMul, Nat.reduceSub, Nat.reduceBEq, reduceCtorEq, ↓zR, zQ, Tr, StA, StT, hn, hmx]
      refine c_Repeat 0 (by omega) ?_
      simp (maxSteps := 1000000) (disch := first | omega | rfl | (simp only [zL, two63, room] <;> omega) | fail) only [↓reduceIte, ↓zP, zW, WOp, evOp, evBin, binI, binSh, binS, evNil, keyIs, keyEq, mkv, AV.cells, AV.sc, optv, bnd, env, put, Env.get, Env.set, Env.del, Env.dels, Env.init, res1, resL, resV, fillP, splice, newRow, Nat.reduceEqDiff, Nat.reduceLT, Nat.reduceLeDiff, Nat.reduceAdd, Nat.reduceMul, Nat.reduceSub, Nat.reduceBEq, reduceCtorEq, ↓zR, zQ, Tr, StA, StT, List.replicate_zero, hneg, hm, hwm]
      refine c_Repeat m (by omega) ?_
      simp (maxSteps := 1000000) (disch := first | omega | rfl | (simp only [zL, two63, room] <;> omega) | fail) only [↓reduceIte, ↓zP, zW, WOp, evOp, evBin, binI, binSh, binS, evNil, keyIs, keyEq, mkv, AV.cells, AV.sc, optv, bnd, env, put, Env.get, Env.set, Env.del, Env.dels, Env.init, res1, resL, resV, fillP, splice, newRow, Nat.reduceEqDiff, Nat.reduceLT, Nat.reduceLeDiff, Nat.reduceAdd, Nat.reduceMul, Nat.reduceSub, Nat.reduceBEq, reduceCtorEq, ↓zR, zQ, Tr, StA, StT, List.length_replicate]
      rw [← hwl]
      refine c_CompareGames w _ hw hok ?_
      intro h3 hp3
      cases e : eqW w n
      · rw [e] at hc
        simp (maxSteps := 1000000) (disch := first | omega | rfl | (simp only [zL, two63, room] <;> omega) | fail) only [↓reduceIte, ↓zP, zW, WOp, evOp, evBin, binI, binSh, binS, evNil, keyIs, keyEq, mkv, AV.cells, AV.sc, optv, bnd, env, put, Env.get, Env.set, Env.del, Env.dels, Env.init, res1, resL, resV, fillP, splice, newRow, Nat.reduceEqDiff, Nat.reduceLT, Nat.reduceLeDiff, Nat.reduceAdd, Nat.reduceMul, Nat.reduceSub, Nat.reduceBEq, reduceCtorEq, ↓zR, zQ, Tr, StA, StT, hc, hwr]
        rw [w_loopn (c := lp223_0) rfl]
        simp (maxSteps := 1000000) (disch := first | omega | rfl | (simp only [zL, two63, room] <;> omega) | fail) only [↓reduceIte, ↓zP, zW, WOp, evOp, evBin, binI, binSh, binS, evNil, keyIs, keyEq, mkv, AV.cells, AV.sc, optv, bnd, env, put, Env.get, Env.set, Env.del, Env.dels, Env.init, res1, resL, resV, fillP, splice, newRow, Nat.reduceEqDiff, Nat.reduceLT, Nat.reduceLeDiff, Nat.reduceAdd, Nat.reduceMul, Nat.reduceSub, Nat.reduceBEq, reduceCtorEq, ↓zR, zQ, Tr, StA, StT]
        refine ih h3 (by omega) (by omega) (hp.trans hp3) ?_ ?_
        · intro h' m hp' hm
          exact h1 h' m hp' (by simp only [firstW, e]; exact hm)
        · intro h' hp' hm
          exact h2 h' hp' (by simp only [firstW, e]; exact hm)
      · rw [e] at hc
        simp (maxSteps := 1000000) (disch := first | omega | rfl | (simp only [zL, two63, room] <;> omega) | fail) only [↓reduceIte, ↓zP, zW, WOp, evOp, evBin, binI, binSh, binS, evNil, keyIs, keyEq, mkv, AV.cells, AV.sc, optv, bnd, env, put, Env.get, Env.set, Env.del, Env.dels, Env.init, res1, resL, resV, fillP, splice, newRow, Nat.reduceEqDiff, Nat.reduceLT, Nat.reduceLeDiff, Nat.reduceAdd, Nat.reduceMul, Nat.reduceSub, Nat.reduceBEq, reduceCtorEq, ↓zR, zQ, Tr, StA, StT, hc]
        exact h1 h3 n (hp.trans hp3) (by simp only [firstW, e]; rfl)
    · have hwl : wholeL n = 84 :: List.replicate n.toNat 46 := by unfold wholeL; rw [if_neg hneg]
      obtain ⟨m, rfl⟩ : ∃ m : Nat, n = m := ⟨n.toNat, by omega⟩
      rw [Int.toNat_natCast] at hwl
      have hmx : (if (m : Int) > 0 then (m : Int) else 0) = (m : Int) := by split <;> omega
      rw [w_loopb (c := lp223_0) (d := lb223_0) rfl]; unfold lb223_0
      simp (maxSteps := 1000000) (disch := first | omega | rfl | (simp only [zL, two63, room] <;> omega) | fail) only [↓reduceIte, ↓zP, zW, WOp, evOp, evBin, binI, binSh, binS, evNil, keyIs, keyEq, mkv, AV.cells, AV.sc, optv, bnd, env, put, Env.get, Env.set, Env.del, Env.dels, Env.init, res1, resL, resV, fillP, splice, newRow, Nat.reduceEqDiff, Nat.reduceLT, Nat.reduceLeDiff, Nat.reduceAdd, Nat.reduceMul, Nat.reduceSub, Nat.reduceBEq, reduceCtorEq, ↓zR, zQ, Tr, StA, StT, hn, hmx]
      refine c_Repeat m (by omega) ?_
      simp (maxSteps := 1000000) (disch := first | omega | rfl | (simp only [zL, two63, room] <;> omega) | fail) only [↓reduceIte, ↓zP, zW, WOp, evOp, evBin, binI, binSh, binS, evNil, keyIs, keyEq, mkv, AV.cells, AV.sc, optv, bnd, env, put, Env.get, Env.set, Env.del, Env.dels, Env.init, res1, resL, resV, fillP, splice, newRow, Nat.reduceEqDiff, Nat.reduceLT, Nat.reduceLeDiff, Nat.reduceAdd, Nat.reduceMul, Nat.reduceSub, Nat.reduceBEq, reduceCtorEq, ↓zR, zQ, Tr, StA, StT, List.length_replicate, hneg]
      rw [← hwl]
      refine c_CompareGames w _ hw hok ?_
      intro h3 hp3
      cases e : eqW w (m : Int)
      · rw [e] at hc
        simp (maxSteps := 1000000) (disch := first | omega | rfl | (simp only [zL, two63, room] <;> omega) | fail) only [↓reduceIte, ↓zP, zW, WOp, evOp, evBin, binI, binSh, binS, evNil, keyIs, keyEq, mkv, AV.cells, AV.sc, optv, bnd, env, put, Env.get, Env.set, Env.del, Env.dels, Env.init, res1, resL, resV, fillP, splice, newRow, Nat.reduceEqDiff, Nat.reduceLT, Nat.reduceLeDiff, Nat.reduceAdd, Nat.reduceMul, Nat.reduceSub, Nat.reduceBEq, reduceCtorEq, ↓zR, zQ, Tr, StA, StT, hc, hwr]
        rw [w_loopn (c := lp223_0) rfl]
        simp (maxSteps := 1000000) (disch := first | omega | rfl | (simp only [zL, two63, room] <;> omega) | fail) only [↓reduceIte, ↓zP, zW, WOp, evOp, evBin, binI, binSh, binS, evNil, keyIs, keyEq, mkv, AV.cells, AV.sc, optv, bnd, env, put, Env.get, Env.set, Env.del, Env.dels, Env.init, res1, resL, resV, fillP, splice, newRow, Nat.reduceEqDiff, Nat.reduceLT, Nat.reduceLeDiff, Nat.reduceAdd, Nat.reduceMul, Nat.reduceSub, Nat.reduceBEq, reduceCtorEq, ↓zR, zQ, Tr, StA, StT]
        refine ih h3 (by omega) (by omega) (hp.trans hp3) ?_ ?_
        · intro h' m hp' hm
          exact h1 h' m hp' (by simp only [firstW, e]; exact hm)
        · intro h' hp' hm
          exact h2 h' hp' (by simp only [firstW, e]; exact hm)
      · rw [e] at hc
        simp (maxSteps := 1000000) (disch := first | omega | rfl | (simp only [zL, two63, room] <;> omega) | fail) only [↓reduceIte, ↓zP, zW, WOp, evOp, evBin, binI, binSh, binS, evNil, keyIs, keyEq, mkv, AV.cells, AV.sc, optv, bnd, env, put, Env.get, Env.set, Env.del, Env.dels, Env.init, res1, resL, resV, fillP, splice, newRow, Nat.reduceEqDiff, Nat.reduceLT, Nat.reduceLeDiff, Nat.reduceAdd, Nat.reduceMul, Nat.reduceSub, Nat.reduceBEq, reduceCtorEq, ↓zR, zQ, Tr, StA, StT, hc]
        exact h1 h3 m (hp.trans hp3) (by simp only [firstW, e]; rfl)
theorem c_WholeValue (s : List UInt8) (hs : s.length < 2 ^ 60) {h : AH} {post : AV → AH → Prop} (hp : ∀ h', Pre h h' → post (wvV s) h') : S 223 [.str s] h post k := by
  unfold wvV at hp
  refine S_of rfl T223 ?_; unfold fi223
  simp (maxSteps := 1000000) (disch := first | omega | rfl | (simp only [zL, two63, room] <;> omega) | fail) only [↓reduceIte, ↓zP, zW, WOp, evOp, evBin, binI, binSh, binS, evNil, keyIs, keyEq, mkv, AV.cells, AV.sc, optv, bnd, env, put, Env.get, Env.set, Env.del, Env.dels, Env.init, res1, resL, resV, fillP, splice, newRow, Nat.reduceEqDiff, Nat.reduceLT, Nat.reduceLeDiff, Nat.reduceAdd, Nat.reduceMul, Nat.reduceSub, Nat.reduceBEq, reduceCtorEq, ↓zR, zQ, Tr, StA, StT]
  refine c_isLineOf s 5 (by omega) hs ?_
  have hk : (decide (1 ≤ (s.length : Int) ∧ (s.length : Int) ≤ 5) && s.all isSign) = okW s := rfl
  rw [hk]
  cases e : okW s
  · rw [e] at hp
    simp (maxSteps := 1000000) (disch := first | omega | rfl | (simp only [zL, two63, room] <;> omega) | fail) only [↓reduceIte, ↓zP, zW, WOp, evOp, evBin, binI, binSh, binS, evNil, keyIs, keyEq, mkv, AV.cells, AV.sc, optv, bnd, env, put, Env.get, Env.set, Env.del, Env.dels, Env.init, res1, resL, resV, fillP, splice, newRow, Nat.reduceEqDiff, Nat.reduceLT, Nat.reduceLeDiff, Nat.reduceAdd, Nat.reduceMul, Nat.reduceSub, Nat.reduceBEq, reduceCtorEq, ↓zR, zQ, Tr, StA, StT]
    exact hp h (Pre.refl _)
  · rw [e] at hp
    unfold okW at e
    rw [Bool.and_eq_true, decide_eq_true_eq] at e
    simp (maxSteps := 1000000) (disch := first | omega | rfl | (simp only [zL, two63, room] <;> omega) | fail) only [↓reduceIte, ↓zP, zW, WOp, evOp, evBin, binI, binSh, binS, evNil, keyIs, keyEq, mkv, AV.cells, AV.sc, optv, bnd, env, put, Env.get, Env.set, Env.del, Env.dels, Env.init, res1, resL, resV, fillP, splice, newRow, Nat.reduceEqDiff, Nat.reduceLT, Nat.reduceLeDiff, Nat.reduceAdd, Nat.reduceMul, Nat.reduceSub, Nat.reduceBEq, reduceCtorEq, ↓zR, zQ, Tr, StA, StT]
    refine lp_WholeValue s ⟨e.2, by omega, by omega⟩ h 9 (-4) h (by omega) (by omega) (Pre.refl _) ?_ ?_
    · intro h' m hp' hm
      have := hp h' hp'
      rw [hm] at this
      simp (maxSteps := 1000000) (disch := first | omega | rfl | (simp only [zL, two63, room] <;> omega) | fail) only [↓reduceIte, ↓zP, zW, WOp, evOp, evBin, binI, binSh, binS, evNil, keyIs, keyEq, mkv, AV.cells, AV.sc, optv, bnd, env, put, Env.get, Env.set, Env.del, Env.dels, Env.init, res1, resL, resV, fillP, splice, newRow, Nat.reduceEqDiff, Nat.reduceLT, Nat.reduceLeDiff, Nat.reduceAdd, Nat.reduceMul, Nat.reduceSub, Nat.reduceBEq, reduceCtorEq, ↓zR, zQ, Tr, StA, StT]
      exact this
    · intro h' hp' hm
      have := hp h' hp'
      rw [hm] at this
      simp (maxSteps := 1000000) (disch := first | omega | rfl | (simp only [zL, two63, room] <;> omega) | fail) only [↓reduceIte, ↓zP, zW, WOp, evOp, evBin, binI, binSh, binS, evNil, keyIs, keyEq, mkv, AV.cells, AV.sc, optv, bnd, env, put, Env.get, Env.set, Env.del, Env.dels, Env.init, res1, resL, resV, fillP, splice, newRow, Nat.reduceEqDiff, Nat.reduceLT, Nat.reduceLeDiff, Nat.reduceAdd, Nat.reduceMul, Nat.reduceSub, Nat.reduceBEq, reduceCtorEq, ↓zR, zQ, Tr, StA, StT]
      exact this
theorem law_WholeValue (s : List UInt8) (hs : s.length < 2 ^ 63) {h : AH} : S 221 [.str s] h (fun r _ => r = .bool true) k := by
  refine S_of rfl T221 ?_; unfold fi221
  by_cases hl : (s.length : Int) > 1048576
  · simp (maxSteps := 1000000) (disch := first | omega | rfl | (simp only [zL, two63, room] <;> omega) | fail) only [↓reduceIte, ↓zP, zW, WOp, evOp, evBin, binI, binSh, binS, evNil, keyIs, keyEq, mkv, AV.cells, AV.sc, optv, bnd, env, put, Env.get, Env.set, Env.del, Env.dels, Env.init, res1, resL, resV, fillP, splice, newRow, Nat.reduceEqDiff, Nat.reduceLT, Nat.reduceLeDiff, Nat.reduceAdd, Nat.reduceMul, Nat.reduceSub, Nat.reduceBEq, reduceCtorEq, ↓zR, zQ, Tr, StA, StT, hl]
  · simp (maxSteps := 1000000) (disch := first | omega | rfl | (simp only [zL, two63, room] <;> omega) | fail) only [↓reduceIte, ↓zP, zW, WOp, evOp, evBin, binI, binSh, binS, evNil, keyIs, keyEq, mkv, AV.cells, AV.sc, optv, bnd, env, put, Env.get, Env.set, Env.del, Env.dels, Env.init, res1, resL, resV, fillP, splice, newRow, Nat.reduceEqDiff, Nat.reduceLT, Nat.reduceLeDiff, Nat.reduceAdd, Nat.reduceMul, Nat.reduceSub, Nat.reduceBEq, reduceCtorEq, ↓zR, zQ, Tr, StA, StT, hl]
    refine c_sWholeValue s (by omega) ?_
    intro h1 p1
    obtain ⟨n, b, hv⟩ : ∃ n b, wvV s = .tup [.int .i64 n, .bool b] := by
      unfold wvV
      split
      · split
        · exact ⟨_, _, rfl⟩
        · exact ⟨_, _, rfl⟩
      · exact ⟨_, _, rfl⟩
    rw [hv]
    simp (maxSteps := 1000000) (disch := first | omega | rfl | (simp only [zL, two63, room] <;> omega) | fail) only [↓reduceIte, ↓zP, zW, WOp, evOp, evBin, binI, binSh, binS, evNil, keyIs, keyEq, mkv, AV.cells, AV.sc, optv, bnd, env, put, Env.get, Env.set, Env.del, Env.dels, Env.init, res1, resL, resV, fillP, splice, newRow, Nat.reduceEqDiff, Nat.reduceLT, Nat.reduceLeDiff, Nat.reduceAdd, Nat.reduceMul, Nat.reduceSub, Nat.reduceBEq, reduceCtorEq, ↓zR, zQ, Tr, StA, StT]
    refine c_WholeValue s (by omega) ?_
    intro h2 p2
    rw [hv]
    simp (maxSteps := 1000000) (disch := first | omega | rfl | (simp only [zL, two63, room] <;> omega) | fail) only [↓reduceIte, ↓zP, zW, WOp, evOp, evBin, binI, binSh, binS, evNil, keyIs, keyEq, mkv, AV.cells, AV.sc, optv, bnd, env, put, Env.get, Env.set, Env.del, Env.dels, Env.init, res1, resL, resV, fillP, splice, newRow, Nat.reduceEqDiff, Nat.reduceLT, Nat.reduceLeDiff, Nat.reduceAdd, Nat.reduceMul, Nat.reduceSub, Nat.reduceBEq, reduceCtorEq, ↓zR, zQ, Tr, StA, StT, bne_self_eq_false]
end Go.Proofs.YtbpenpikaehloaaDoor.Ab
