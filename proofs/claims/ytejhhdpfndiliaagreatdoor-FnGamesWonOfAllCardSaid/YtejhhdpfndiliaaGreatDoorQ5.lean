/- Part 6 of the proof of a law of the given program: the rules that it leans on, and what the functions that it reaches answer; the conditions stand with each theorem. -/
import Derived.Test.YtejhhdpfndiliaaGreatDoorQ4
set_option linter.unusedSimpArgs false
set_option linter.unusedVariables false
/- GAMES of the program: one line, its best moves, the play. -/
namespace Go.Proofs.YtejhhdpfndiliaaGreatDoor.Ab
open Go
set_option maxRecDepth 100000
set_option maxHeartbeats 4000000

/-- append to a slice of one's own that may be written; what lies behind it is given up. -/
theorem ap_w {α : Type} {esz : Nat} {enc : α → List AV} (hl : ∀ x, (enc x).length = esz) (hsc : ∀ x, (enc x).all AV.sc = true) {b h : AH} {v : AV} {L M : List α} (ho : OwW esz enc b h v L) (hb : b.length ≤ h.length) (hr : L.length + M.length ≤ 1099511627776) :
    ∃ v' h', apRow h esz v M.length (M.flatMap enc) = some (v', h') ∧ OwL esz enc b h' v' (L ++ M) ∧ (∀ i, i < h.length → rowOf v ≠ some i → h'[i]? = h[i]?) ∧ h.length ≤ h'.length := by
  have hscM : (M.flatMap enc).all AV.sc = true := by
    rw [List.all_eq_true]
    intro y hy
    obtain ⟨a, _, ha⟩ := List.mem_flatMap.1 hy
    exact List.all_eq_true.1 (hsc a) y ha
  have hml := flat_len hl M
  have hll := flat_len hl L
  have fresh : ∀ u : AV, L = [] → rowOf u = none → (u = .nilS ∨ u = .empS) → ∃ v' h', (if M.length = 0 then some (u, h) else if M.length ≤ room then (newRow h (M.flatMap enc)).map fun (c, h') => (AV.slice c 0 0 M.length esz, h') else none) = some (v', h') ∧ OwL esz enc b h' v' (L ++ M) ∧ (∀ i, i < h.length → rowOf u ≠ some i → h'[i]? = h[i]?) ∧ h.length ≤ h'.length := by
    intro u hL hu hu2
    subst hL
    by_cases h0 : M.length = 0
    · have : M = [] := List.eq_nil_of_length_eq_zero h0
      subst this
      refine ⟨u, h, by simp, ?_, fun _ _ _ => rfl, Nat.le_refl _⟩
      rcases hu2 with rfl | rfl
      · exact OwL.nil
      · exact OwL.emp
    · rw [if_neg h0, if_pos (by unfold room; simp at hr; omega)]
      refine ⟨.slice h.length 0 0 M.length esz, h ++ [.row (M.flatMap enc) 0 0 false], by simp only [newRow, hscM, if_true, Option.map_some], ?_, fun i hi _ => List.getElem?_append_left hi, by simp⟩
      unfold OwL Own
      simp only [List.nil_append]
      exact ⟨trivial, trivial, hml.symm, hb, _, 0, by rw [List.getElem?_append_right (Nat.le_refl _), Nat.sub_self]; rfl, Nat.le_refl _, by have := hml; rw [List.flatMap] at this; rw [this]; omega, rfl⟩
  unfold OwW at ho
  cases v <;> simp only at ho <;> first
    | exact fresh _ ho rfl (.inl rfl)
    | exact fresh _ ho rfl (.inr rfl)
    | exact ho.elim
    | skip
  rename_i c kk off len e
  obtain ⟨rfl, rfl, h3, A, Z, fl, h4, h5, h6⟩ := ho
  have hlt := (List.getElem?_eq_some_iff.1 h4).1
  have hfin : ∀ (k' fl' : Nat), fl' ≤ k' → OwL e enc b (h.set c (.row (A ++ L.flatMap enc ++ M.flatMap enc) k' fl' false)) (.slice c k' off (L.length + M.length) e) (L ++ M) := by
    intro k' fl' hk
    unfold OwL Own
    simp only
    refine ⟨trivial, by simp, by rw [List.flatMap_append, List.length_append, List.length_append, hll, hml, Nat.add_mul], h3, _, fl', by rw [List.getElem?_set, if_pos rfl, if_pos hlt], hk, ?_, ?_⟩
    · simp only [List.length_append, hll, hml, Nat.add_mul]; omega
    · rw [List.append_assoc, List.drop_left' h6, List.flatMap_append]
  have hfr : ∀ o, (∀ i, i < h.length → rowOf (.slice c kk off L.length e) ≠ some i → (h.set c o)[i]? = h[i]?) ∧ h.length ≤ (h.set c o).length := fun o => ⟨fun i _ hr => by rw [List.getElem?_set, if_neg (fun e => hr (by simp [rowOf, e]))], by simp⟩
  simp only [apRow, h4]
  by_cases hz : off + L.length * e = (A ++ L.flatMap enc ++ Z).length
  · rw [if_pos ⟨trivial, trivial, hz, h5, hscM, hr⟩]
    have hZ : Z = [] := by
      simp only [List.length_append, hll] at hz
      exact List.eq_nil_of_length_eq_zero (by omega)
    subst hZ
    rw [List.append_nil]
    exact ⟨_, _, rfl, hfin _ _ (by omega), (hfr _).1, (hfr _).2⟩
  · rw [if_neg (fun hh => hz hh.2.2.1), if_pos ⟨trivial, trivial, by simp only [List.length_append, hll]; omega, h5, hscM, hr⟩]
    have : (A ++ L.flatMap enc ++ Z).take (off + L.length * e) = A ++ L.flatMap enc := by
      rw [List.take_left' (by simp only [List.length_append, hll]; omega)]
    rw [this]
    exact ⟨_, _, rfl, hfin _ _ (by omega), (hfr _).1, (hfr _).2⟩

theorem Mh.keep {σ : Type} {key : σ → List UInt8} {val : σ → AV} {c : Nat} {h h' : AH} (hm : Mh key val c h) (hc : h'[c]? = h[c]?) : Mh key val c h' := by
  obtain ⟨es, h1, h2⟩ := hm
  exact ⟨es, by rw [hc]; exact h1, h2⟩
/-- A line of at most ten cells. -/
def plG10 (w : List UInt8) : Bool := decide (1 ≤ (w.length : Int) ∧ (w.length : Int) ≤ 10) && w.all isSign
theorem pl10 {w : List UInt8} (h : plG10 w = true) : 1 ≤ w.length ∧ w.length ≤ 10 ∧ signs w := by
  unfold plG10 at h
  rw [Bool.and_eq_true, decide_eq_true_eq] at h
  exact ⟨by omega, by omega, h.2⟩
theorem pl10_good (w : List UInt8) : plG10 w = (goodLine w && decide (w.length ≤ 10)) := by
  unfold plG10 goodLine
  cases w.all isSign
  · simp only [Bool.and_false, Bool.false_and]
  · rw [Bool.eq_iff_iff]
    simp only [Bool.and_true, Bool.and_eq_true, decide_eq_true_eq]
    omega
theorem e_isPlayed (s : List UInt8) (hs : s.length < 2 ^ 60) {h : AH} {post : AV → AH → Prop} : S 254 [.str s] h post k = post (.bool (plG10 s)) h := S_eq fun _ hp => c_isPlayed s hs hp
theorem e_gaFew (s : List UInt8) (hs : s.length < 2 ^ 60) {h : AH} {post : AV → AH → Prop} : S 447 [.str s] h post k = post (.bool (plG10 s)) h := S_eq fun _ hp => by
  rw [pl10_good] at hp
  refine S_of rfl T447 ?_; unfold fi447
  cases hg : goodLine s <;> simp only [hg, Bool.false_and, Bool.true_and] at hp
  · simp (maxSteps := 1000000) (disch := first | omega | rfl | (simp only [zL, two63, room] <;> omega) | fail) only [↓reduceIte, ↓zP, zW, WOp, evOp, evBin, binI, binSh, binS, evNil, keyIs, keyEq, mkv, AV.cells, AV.sc, optv, bnd, env, put, Env.get, Env.set, Env.del, Env.dels, Env.init, res1, resL, resV, fillP, splice, newRow, Nat.reduceEqDiff, Nat.reduceLT, Nat.reduceLeDiff, Nat.reduceAdd, Nat.reduceMul, Nat.reduceSub, Nat.reduceBEq, reduceCtorEq, ↓zR, zQ, Tr, StA, StT, e_liGoodG s hs, hg]
    exact hp
  · have he : decide ((s.length : Int) ≤ 10) = decide (s.length ≤ 10) := decide_eq_decide.2 (by omega)
    by_cases hl : s.length ≤ 10
    · have n1 : (s.length : Int) ≤ 10 := by omega
      simp only [hl, decide_true] at hp
      simp (maxSteps := 1000000) (disch := first | omega | rfl | (simp only [zL, two63, room] <;> omega) | fail) only [↓reduceIte, ↓zP, zW, WOp, evOp, evBin, binI, binSh, binS, evNil, keyIs, keyEq, mkv, AV.cells, AV.sc, optv, bnd, env, put, Env.get, Env.set, Env.del, Env.dels, Env.init, res1, resL, resV, fillP, splice, newRow, Nat.reduceEqDiff, Nat.reduceLT, Nat.reduceLeDiff, Nat.reduceAdd, Nat.reduceMul, Nat.reduceSub, Nat.reduceBEq, reduceCtorEq, ↓zR, zQ, Tr, StA, StT, e_liGoodG s hs, hg, n1]
      exact hp
    · have n1 : ¬ ((s.length : Int) ≤ 10) := by omega
      simp only [hl, decide_false] at hp
      simp (maxSteps := 1000000) (disch := first | omega | rfl | (simp only [zL, two63, room] <;> omega) | fail) only [↓reduceIte, ↓zP, zW, WOp, evOp, evBin, binI, binSh, binS, evNil, keyIs, keyEq, mkv, AV.cells, AV.sc, optv, bnd, env, put, Env.get, Env.set, Env.del, Env.dels, Env.init, res1, resL, resV, fillP, splice, newRow, Nat.reduceEqDiff, Nat.reduceLT, Nat.reduceLeDiff, Nat.reduceAdd, Nat.reduceMul, Nat.reduceSub, Nat.reduceBEq, reduceCtorEq, ↓zR, zQ, Tr, StA, StT, e_liGoodG s hs, hg, n1]
      exact hp
theorem join1 (x : List UInt8) : Go.Lib.join [x] [32] = x := by simp [Go.Lib.join, List.intercalate, List.intersperse]
theorem c_sumOf1 (w : List UInt8) (hw : w.length < 2 ^ 60) {h : AH} {c kk off : Nat} (hs : Slc 1 encS h (.slice c kk off 1 1) [w]) {post : AV → AH → Prop} (hp : post (.tup [.str (if plG10 w then w else []), .bool (plG10 w)]) h) : S 249 [.slice c kk off 1 1] h post k := by
  obtain ⟨_, _, hrd⟩ := hs.all
  have hr : rdRow h c kk off 1 = some [.str w] := by simpa using hrd
  have n0 : (0 : Int) < 1 := by omega
  have n1 : ¬ ((1 : Int) < 1) := by omega
  have z0 : (0 : Int).toNat * 1 = 0 := rfl
  refine S_of rfl T249 ?_; unfold fi249
  simp (maxSteps := 1000000) (disch := first | omega | rfl | (simp only [zL, two63, room] <;> omega) | fail) only [↓reduceIte, ↓zP, zW, WOp, evOp, evBin, binI, binSh, binS, evNil, keyIs, keyEq, mkv, AV.cells, AV.sc, optv, bnd, env, put, Env.get, Env.set, Env.del, Env.dels, Env.init, res1, resL, resV, fillP, splice, newRow, Nat.reduceEqDiff, Nat.reduceLT, Nat.reduceLeDiff, Nat.reduceAdd, Nat.reduceMul, Nat.reduceSub, Nat.reduceBEq, reduceCtorEq, ↓zR, zQ, Tr, StA, StT]
  rw [w_loopb (c := lp249_0) (d := lb249_0) rfl]; unfold lb249_0
  cases e : plG10 w
  · rw [e] at hp
    simp (maxSteps := 1000000) (disch := first | omega | rfl | (simp only [zL, two63, room] <;> omega) | fail) only [↓reduceIte, ↓zP, zW, WOp, evOp, evBin, binI, binSh, binS, evNil, keyIs, keyEq, mkv, AV.cells, AV.sc, optv, bnd, env, put, Env.get, Env.set, Env.del, Env.dels, Env.init, res1, resL, resV, fillP, splice, newRow, Nat.reduceEqDiff, Nat.reduceLT, Nat.reduceLeDiff, Nat.reduceAdd, Nat.reduceMul, Nat.reduceSub, Nat.reduceBEq, reduceCtorEq, ↓zR, zQ, Tr, StA, StT, n0, z0, Nat.add_zero, hr, e_isPlayed w hw, e]
    exact hp
  · rw [e] at hp
    obtain ⟨h1, h2, h3⟩ := pl10 e
    have w1 : IntKind.i64.wrap (0 + (w.length : Int)) = (w.length : Int) := by rw [Int.zero_add]; exact wrap_i (by omega)
    have w2 : IntKind.i64.wrap (w.length : Int) = (w.length : Int) := wrap_i (by omega)
    have w3 : IntKind.i64.wrap (0 + 1) = 1 := rfl
    simp (maxSteps := 1000000) (disch := first | omega | rfl | (simp only [zL, two63, room] <;> omega) | fail) only [↓reduceIte, ↓zP, zW, WOp, evOp, evBin, binI, binSh, binS, evNil, keyIs, keyEq, mkv, AV.cells, AV.sc, optv, bnd, env, put, Env.get, Env.set, Env.del, Env.dels, Env.init, res1, resL, resV, fillP, splice, newRow, Nat.reduceEqDiff, Nat.reduceLT, Nat.reduceLeDiff, Nat.reduceAdd, Nat.reduceMul, Nat.reduceSub, Nat.reduceBEq, reduceCtorEq, ↓zR, zQ, Tr, StA, StT, n0, z0, Nat.add_zero, hr, e_isPlayed w hw, e, w1, w2, w3]
    rw [w_loopn (c := lp249_0) rfl]
    simp (maxSteps := 1000000) (disch := first | omega | rfl | (simp only [zL, two63, room] <;> omega) | fail) only [↓reduceIte, ↓zP, zW, WOp, evOp, evBin, binI, binSh, binS, evNil, keyIs, keyEq, mkv, AV.cells, AV.sc, optv, bnd, env, put, Env.get, Env.set, Env.del, Env.dels, Env.init, res1, resL, resV, fillP, splice, newRow, Nat.reduceEqDiff, Nat.reduceLT, Nat.reduceLeDiff, Nat.reduceAdd, Nat.reduceMul, Nat.reduceSub, Nat.reduceBEq, reduceCtorEq, ↓zR, zQ, Tr, StA, StT]
    rw [w_loopb (c := lp249_0) (d := lb249_0) rfl]; unfold lb249_0
    simp (maxSteps := 1000000) (disch := first | omega | rfl | (simp only [zL, two63, room] <;> omega) | fail) only [↓reduceIte, ↓zP, zW, WOp, evOp, evBin, binI, binSh, binS, evNil, keyIs, keyEq, mkv, AV.cells, AV.sc, optv, bnd, env, put, Env.get, Env.set, Env.del, Env.dels, Env.init, res1, resL, resV, fillP, splice, newRow, Nat.reduceEqDiff, Nat.reduceLT, Nat.reduceLeDiff, Nat.reduceAdd, Nat.reduceMul, Nat.reduceSub, Nat.reduceBEq, reduceCtorEq, ↓zR, zQ, Tr, StA, StT, n1]
    refine S_ext (r := .str w) rfl ?_ ?_
    · simp only [xJoin, if_true]
      rw [hr]
      simp only [strsOf, Option.map_some]
      rw [join1, if_pos ⟨by omega, by omega⟩]
    · have h10 : (w.length : Int) ≤ 10 := by omega
      have hin : decide ((1 : Int) ≤ 1 ∧ (1 : Int) ≤ 3) = true := by decide
      simp (maxSteps := 1000000) (disch := first | omega | rfl | (simp only [zL, two63, room] <;> omega) | fail) only [↓reduceIte, ↓zP, zW, WOp, evOp, evBin, binI, binSh, binS, evNil, keyIs, keyEq, mkv, AV.cells, AV.sc, optv, bnd, env, put, Env.get, Env.set, Env.del, Env.dels, Env.init, res1, resL, resV, fillP, splice, newRow, Nat.reduceEqDiff, Nat.reduceLT, Nat.reduceLeDiff, Nat.reduceAdd, Nat.reduceMul, Nat.reduceSub, Nat.reduceBEq, reduceCtorEq, ↓zR, zQ, Tr, StA, StT, e_within, hin, h10]
      exact hp
theorem slc1 (h : AH) (x : List UInt8) : Slc 1 encS (h ++ [AO.row [.str x] 0 0 false]) (.slice h.length 0 0 1 1) [x] := ⟨rfl, rfl, rfl, by rw [show [x].length * 1 = 1 from rfl, rd_last, if_pos (by simp)]; rfl⟩
def wnG (w : List UInt8) (t : Bool) : Bool := plG10 w && winB w t
def ocG (w : List UInt8) : List UInt8 := if plG10 w then outcS (winB w true) (winB w false) else []
theorem c_WinsMoving (w : List UInt8) (t : Bool) (hw : w.length < 2 ^ 60) {h : AH} {post : AV → AH → Prop} (hp : ∀ h', Pre h h' → post (.tup [.bool (wnG w t), .bool (plG10 w)]) h') : S 415 [.str w, .bool t] h post k := by
  refine S_of rfl T415 ?_; unfold fi415
  simp (maxSteps := 1000000) (disch := first | omega | rfl | (simp only [zL, two63, room] <;> omega) | fail) only [↓reduceIte, ↓zP, zW, WOp, evOp, evBin, binI, binSh, binS, evNil, keyIs, keyEq, mkv, AV.cells, AV.sc, optv, bnd, env, put, Env.get, Env.set, Env.del, Env.dels, Env.init, res1, resL, resV, fillP, splice, newRow, Nat.reduceEqDiff, Nat.reduceLT, Nat.reduceLeDiff, Nat.reduceAdd, Nat.reduceMul, Nat.reduceSub, Nat.reduceBEq, reduceCtorEq, ↓zR, zQ, Tr, StA, StT]
  refine S_of rfl T446 ?_; unfold fi446
  simp (maxSteps := 1000000) (disch := first | omega | rfl | (simp only [zL, two63, room] <;> omega) | fail) only [↓reduceIte, ↓zP, zW, WOp, evOp, evBin, binI, binSh, binS, evNil, keyIs, keyEq, mkv, AV.cells, AV.sc, optv, bnd, env, put, Env.get, Env.set, Env.del, Env.dels, Env.init, res1, resL, resV, fillP, splice, newRow, Nat.reduceEqDiff, Nat.reduceLT, Nat.reduceLeDiff, Nat.reduceAdd, Nat.reduceMul, Nat.reduceSub, Nat.reduceBEq, reduceCtorEq, ↓zR, zQ, Tr, StA, StT]
  refine c_sumOf1 w hw (slc1 h w) ?_
  unfold wnG at hp
  cases e : plG10 w <;> rw [e] at hp
  · simp (maxSteps := 1000000) (disch := first | omega | rfl | (simp only [zL, two63, room] <;> omega) | fail) only [↓reduceIte, ↓zP, zW, WOp, evOp, evBin, binI, binSh, binS, evNil, keyIs, keyEq, mkv, AV.cells, AV.sc, optv, bnd, env, put, Env.get, Env.set, Env.del, Env.dels, Env.init, res1, resL, resV, fillP, splice, newRow, Nat.reduceEqDiff, Nat.reduceLT, Nat.reduceLeDiff, Nat.reduceAdd, Nat.reduceMul, Nat.reduceSub, Nat.reduceBEq, reduceCtorEq, ↓zR, zQ, Tr, StA, StT]
    exact hp _ (Pre.push _ _)
  · obtain ⟨h1, h2, h3⟩ := pl10 e
    simp (maxSteps := 1000000) (disch := first | omega | rfl | (simp only [zL, two63, room] <;> omega) | fail) only [↓reduceIte, ↓zP, zW, WOp, evOp, evBin, binI, binSh, binS, evNil, keyIs, keyEq, mkv, AV.cells, AV.sc, optv, bnd, env, put, Env.get, Env.set, Env.del, Env.dels, Env.init, res1, resL, resV, fillP, splice, newRow, Nat.reduceEqDiff, Nat.reduceLT, Nat.reduceLeDiff, Nat.reduceAdd, Nat.reduceMul, Nat.reduceSub, Nat.reduceBEq, reduceCtorEq, ↓zR, zQ, Tr, StA, StT]
    refine c_newGames ?_
    intro c2 h2 hp2 hc2 hm2
    simp (maxSteps := 1000000) (disch := first | omega | rfl | (simp only [zL, two63, room] <;> omega) | fail) only [↓reduceIte, ↓zP, zW, WOp, evOp, evBin, binI, binSh, binS, evNil, keyIs, keyEq, mkv, AV.cells, AV.sc, optv, bnd, env, put, Env.get, Env.set, Env.del, Env.dels, Env.init, res1, resL, resV, fillP, splice, newRow, Nat.reduceEqDiff, Nat.reduceLT, Nat.reduceLeDiff, Nat.reduceAdd, Nat.reduceMul, Nat.reduceSub, Nat.reduceBEq, reduceCtorEq, ↓zR, zQ, Tr, StA, StT]
    refine c_win (mu w + 1) w t c2 _ (by omega) (by omega) hm2 _ ?_
    intro h3 hp3 hm3
    simp (maxSteps := 1000000) (disch := first | omega | rfl | (simp only [zL, two63, room] <;> omega) | fail) only [↓reduceIte, ↓zP, zW, WOp, evOp, evBin, binI, binSh, binS, evNil, keyIs, keyEq, mkv, AV.cells, AV.sc, optv, bnd, env, put, Env.get, Env.set, Env.del, Env.dels, Env.init, res1, resL, resV, fillP, splice, newRow, Nat.reduceEqDiff, Nat.reduceLT, Nat.reduceLeDiff, Nat.reduceAdd, Nat.reduceMul, Nat.reduceSub, Nat.reduceBEq, reduceCtorEq, ↓zR, zQ, Tr, StA, StT]
    refine hp h3 ((Pre.push h (AO.row [.str w] 0 0 false)).trans (hp2.trans' ⟨hp3.1, fun i hi => hp3.2 i (by have := hp2.1; omega) (by omega)⟩))
theorem c_OutcomeOf (w : List UInt8) (hw : w.length < 2 ^ 60) {h : AH} {post : AV → AH → Prop} (hp : ∀ h', Pre h h' → post (.tup [.str (ocG w), .bool (plG10 w)]) h') : S 430 [.str w] h post k := by
  refine S_of rfl T430 ?_; unfold fi430
  simp (maxSteps := 1000000) (disch := first | omega | rfl | (simp only [zL, two63, room] <;> omega) | fail) only [↓reduceIte, ↓zP, zW, WOp, evOp, evBin, binI, binSh, binS, evNil, keyIs, keyEq, mkv, AV.cells, AV.sc, optv, bnd, env, put, Env.get, Env.set, Env.del, Env.dels, Env.init, res1, resL, resV, fillP, splice, newRow, Nat.reduceEqDiff, Nat.reduceLT, Nat.reduceLeDiff, Nat.reduceAdd, Nat.reduceMul, Nat.reduceSub, Nat.reduceBEq, reduceCtorEq, ↓zR, zQ, Tr, StA, StT]
  refine S_of rfl T241 ?_; unfold fi241
  simp (maxSteps := 1000000) (disch := first | omega | rfl | (simp only [zL, two63, room] <;> omega) | fail) only [↓reduceIte, ↓zP, zW, WOp, evOp, evBin, binI, binSh, binS, evNil, keyIs, keyEq, mkv, AV.cells, AV.sc, optv, bnd, env, put, Env.get, Env.set, Env.del, Env.dels, Env.init, res1, resL, resV, fillP, splice, newRow, Nat.reduceEqDiff, Nat.reduceLT, Nat.reduceLeDiff, Nat.reduceAdd, Nat.reduceMul, Nat.reduceSub, Nat.reduceBEq, reduceCtorEq, ↓zR, zQ, Tr, StA, StT]
  refine c_sumOf1 w hw (slc1 h w) ?_
  unfold ocG at hp
  cases e : plG10 w <;> rw [e] at hp
  · simp (maxSteps := 1000000) (disch := first | omega | rfl | (simp only [zL, two63, room] <;> omega) | fail) only [↓reduceIte, ↓zP, zW, WOp, evOp, evBin, binI, binSh, binS, evNil, keyIs, keyEq, mkv, AV.cells, AV.sc, optv, bnd, env, put, Env.get, Env.set, Env.del, Env.dels, Env.init, res1, resL, resV, fillP, splice, newRow, Nat.reduceEqDiff, Nat.reduceLT, Nat.reduceLeDiff, Nat.reduceAdd, Nat.reduceMul, Nat.reduceSub, Nat.reduceBEq, reduceCtorEq, ↓zR, zQ, Tr, StA, StT]
    exact hp _ (Pre.push _ _)
  · obtain ⟨h1, h2, h3⟩ := pl10 e
    simp (maxSteps := 1000000) (disch := first | omega | rfl | (simp only [zL, two63, room] <;> omega) | fail) only [↓reduceIte, ↓zP, zW, WOp, evOp, evBin, binI, binSh, binS, evNil, keyIs, keyEq, mkv, AV.cells, AV.sc, optv, bnd, env, put, Env.get, Env.set, Env.del, Env.dels, Env.init, res1, resL, resV, fillP, splice, newRow, Nat.reduceEqDiff, Nat.reduceLT, Nat.reduceLeDiff, Nat.reduceAdd, Nat.reduceMul, Nat.reduceSub, Nat.reduceBEq, reduceCtorEq, ↓zR, zQ, Tr, StA, StT]
    refine c_newGames ?_
    intro c2 h2 hp2 hc2 hm2
    simp (maxSteps := 1000000) (disch := first | omega | rfl | (simp only [zL, two63, room] <;> omega) | fail) only [↓reduceIte, ↓zP, zW, WOp, evOp, evBin, binI, binSh, binS, evNil, keyIs, keyEq, mkv, AV.cells, AV.sc, optv, bnd, env, put, Env.get, Env.set, Env.del, Env.dels, Env.init, res1, resL, resV, fillP, splice, newRow, Nat.reduceEqDiff, Nat.reduceLT, Nat.reduceLeDiff, Nat.reduceAdd, Nat.reduceMul, Nat.reduceSub, Nat.reduceBEq, reduceCtorEq, ↓zR, zQ, Tr, StA, StT]
    refine c_outcome w (by omega) hm2 ?_
    intro h3 hp3
    simp (maxSteps := 1000000) (disch := first | omega | rfl | (simp only [zL, two63, room] <;> omega) | fail) only [↓reduceIte, ↓zP, zW, WOp, evOp, evBin, binI, binSh, binS, evNil, keyIs, keyEq, mkv, AV.cells, AV.sc, optv, bnd, env, put, Env.get, Env.set, Env.del, Env.dels, Env.init, res1, resL, resV, fillP, splice, newRow, Nat.reduceEqDiff, Nat.reduceLT, Nat.reduceLeDiff, Nat.reduceAdd, Nat.reduceMul, Nat.reduceSub, Nat.reduceBEq, reduceCtorEq, ↓zR, zQ, Tr, StA, StT]
    exact hp h3 ((Pre.push h (AO.row [.str w] 0 0 false)).trans (hp2.trans' ⟨hp3.1, fun i hi => hp3.2 i (by have := hp2.1; omega) (by omega)⟩))
theorem c_IsNothing (w : List UInt8) (hw : w.length < 2 ^ 60) {h : AH} {post : AV → AH → Prop} (hp : ∀ h', Pre h h' → post (.tup [.bool (ocG w == [50]), .bool (plG10 w)]) h') : S 431 [.str w] h post k := by
  refine S_of rfl T431 ?_; unfold fi431
  simp (maxSteps := 1000000) (disch := first | omega | rfl | (simp only [zL, two63, room] <;> omega) | fail) only [↓reduceIte, ↓zP, zW, WOp, evOp, evBin, binI, binSh, binS, evNil, keyIs, keyEq, mkv, AV.cells, AV.sc, optv, bnd, env, put, Env.get, Env.set, Env.del, Env.dels, Env.init, res1, resL, resV, fillP, splice, newRow, Nat.reduceEqDiff, Nat.reduceLT, Nat.reduceLeDiff, Nat.reduceAdd, Nat.reduceMul, Nat.reduceSub, Nat.reduceBEq, reduceCtorEq, ↓zR, zQ, Tr, StA, StT]
  refine c_OutcomeOf w hw ?_
  intro h2 hp2
  simp (maxSteps := 1000000) (disch := first | omega | rfl | (simp only [zL, two63, room] <;> omega) | fail) only [↓reduceIte, ↓zP, zW, WOp, evOp, evBin, binI, binSh, binS, evNil, keyIs, keyEq, mkv, AV.cells, AV.sc, optv, bnd, env, put, Env.get, Env.set, Env.del, Env.dels, Env.init, res1, resL, resV, fillP, splice, newRow, Nat.reduceEqDiff, Nat.reduceLT, Nat.reduceLeDiff, Nat.reduceAdd, Nat.reduceMul, Nat.reduceSub, Nat.reduceBEq, reduceCtorEq, ↓zR, zQ, Tr, StA, StT]
  exact hp h2 hp2

/-! ### The best moves -/
theorem c_best1 {w : List UInt8} {t : Bool} (hw : w.length < 2 ^ 30) {c c3 c4 c5 : Nat} {h : AH} (hm : Mh winK winV c h) (r3 : rdRow h c3 0 0 1 = some [.map c]) (r4 : rdRow h c4 0 0 1 = some [.str w]) (r5 : rdRow h c5 0 0 1 = some [.bool t])
    {m : Int × Int} (hmm : m ∈ movesB w (kindS t)) {post : AV → AH → Prop} (hp : ∀ h', PreX c h h' → Mh winK winV c h' → post (.bool (winB (madeB w m.1.toNat m.2.toNat) (!t))) h') :
    S 456 [.agg (encM m), .ptr c3 0 0 1, .ptr c4 0 0 1, .ptr c5 0 0 1] h post k := by
  obtain ⟨i, t', rfl, hmv⟩ := movesB_mv hmm
  have hpush := Pre.push h (AO.row (encM ((i : Int), (t' : Int))) 0 0 false)
  have q3 := rdRow_pre hpush r3
  have q4 := rdRow_pre hpush r4
  have q5 := rdRow_pre hpush r5
  refine S_of rfl T456 ?_; unfold fi456
  simp (maxSteps := 1000000) (disch := first | omega | rfl | (simp only [zL, two63, room] <;> omega) | fail) only [↓reduceIte, ↓zP, zW, WOp, evOp, evBin, binI, binSh, binS, evNil, keyIs, keyEq, mkv, AV.cells, AV.sc, optv, bnd, env, put, Env.get, Env.set, Env.del, Env.dels, Env.init, res1, resL, resV, fillP, splice, newRow, Nat.reduceEqDiff, Nat.reduceLT, Nat.reduceLeDiff, Nat.reduceAdd, Nat.reduceMul, Nat.reduceSub, Nat.reduceBEq, reduceCtorEq, ↓zR, zQ, Tr, StA, StT, q3, q4, q5]
  refine w_drw ?_
  simp (maxSteps := 1000000) (disch := first | omega | rfl | (simp only [zL, two63, room] <;> omega) | fail) only [↓reduceIte, ↓zP, zW, WOp, evOp, evBin, binI, binSh, binS, evNil, keyIs, keyEq, mkv, AV.cells, AV.sc, optv, bnd, env, put, Env.get, Env.set, Env.del, Env.dels, Env.init, res1, resL, resV, fillP, splice, newRow, Nat.reduceEqDiff, Nat.reduceLT, Nat.reduceLeDiff, Nat.reduceAdd, Nat.reduceMul, Nat.reduceSub, Nat.reduceBEq, reduceCtorEq, ↓zR, zQ, Tr, StA, StT, q3, q4, q5]
  refine c_made w i t' hmv.fst hmv.snd hw ?_
  intro h2 hp2
  have hp1 := hpush.trans hp2
  have k5 := rdRow_pre hp2 q5
  have k3 := rdRow_pre hp2 q3
  simp (maxSteps := 1000000) (disch := first | omega | rfl | (simp only [zL, two63, room] <;> omega) | fail) only [↓reduceIte, ↓zP, zW, WOp, evOp, evBin, binI, binSh, binS, evNil, keyIs, keyEq, mkv, AV.cells, AV.sc, optv, bnd, env, put, Env.get, Env.set, Env.del, Env.dels, Env.init, res1, resL, resV, fillP, splice, newRow, Nat.reduceEqDiff, Nat.reduceLT, Nat.reduceLeDiff, Nat.reduceAdd, Nat.reduceMul, Nat.reduceSub, Nat.reduceBEq, reduceCtorEq, ↓zR, zQ, Tr, StA, StT, q3, q4, q5, k3, k5]
  refine c_win (mu (madeB w i t') + 1) _ _ _ _ (by omega) (by rw [madeB_length]; exact hw) (hm.pre hp1) _ ?_
  intro h3 hp3 hm3
  simp (maxSteps := 1000000) (disch := first | omega | rfl | (simp only [zL, two63, room] <;> omega) | fail) only [↓reduceIte, ↓zP, zW, WOp, evOp, evBin, binI, binSh, binS, evNil, keyIs, keyEq, mkv, AV.cells, AV.sc, optv, bnd, env, put, Env.get, Env.set, Env.del, Env.dels, Env.init, res1, resL, resV, fillP, splice, newRow, Nat.reduceEqDiff, Nat.reduceLT, Nat.reduceLeDiff, Nat.reduceAdd, Nat.reduceMul, Nat.reduceSub, Nat.reduceBEq, reduceCtorEq, ↓zR, zQ, Tr, StA, StT, q3, q4, q5, k3, k5]
  exact hp _ ((hp1.x c).trans hp3) hm3
theorem c_best (w : List UInt8) (t : Bool) (hw : w.length < 2 ^ 30) {c : Nat} {h : AH} (hm : Mh winK winV c h) {post : AV → AH → Prop}
    (hp : ∀ v' h', OwW 2 encM h h' v' (bestB w t) → PreX c h h' → Mh winK winV c h' → post v' h') : S 448 [.agg [.map c], .str w, .bool t] h post k := by
  have p1 := Pre.push h (AO.row [.map c] 0 0 false)
  have p2 := Pre.push (h ++ [AO.row [.map c] 0 0 false]) (AO.row [.str w] 0 0 false)
  have p3 := Pre.push (h ++ [AO.row [.map c] 0 0 false] ++ [AO.row [.str w] 0 0 false]) (AO.row [.bool t] 0 0 false)
  have p123 := p1.trans (p2.trans p3)
  have hl1 : (h ++ [AO.row [.map c] 0 0 false]).length = h.length + 1 := by simp
  have hl2 : (h ++ [AO.row [.map c] 0 0 false] ++ [AO.row [.str w] 0 0 false]).length = h.length + 2 := by simp
  have r3 : rdRow (h ++ [AO.row [.map c] 0 0 false] ++ [AO.row [.str w] 0 0 false] ++ [AO.row [.bool t] 0 0 false]) h.length 0 0 1 = some [.map c] := rdRow_pre (p2.trans p3) (by rw [rd_last, if_pos (by simp)]; simp)
  have r4 : rdRow (h ++ [AO.row [.map c] 0 0 false] ++ [AO.row [.str w] 0 0 false] ++ [AO.row [.bool t] 0 0 false]) (h.length + 1) 0 0 1 = some [.str w] := rdRow_pre p3 (by rw [← hl1, rd_last, if_pos (by simp)]; simp)
  have r5 : rdRow (h ++ [AO.row [.map c] 0 0 false] ++ [AO.row [.str w] 0 0 false] ++ [AO.row [.bool t] 0 0 false]) (h.length + 2) 0 0 1 = some [.bool t] := by rw [← hl2, rd_last, if_pos (by simp)]; simp
  have hcl := hm.lt
  have hbd := movesB_len w (kindS t)
  refine S_of rfl T448 ?_; unfold fi448
  simp (maxSteps := 1000000) (disch := first | omega | rfl | (simp only [zL, two63, room] <;> omega) | fail) only [↓reduceIte, ↓zP, zW, WOp, evOp, evBin, binI, binSh, binS, evNil, keyIs, keyEq, mkv, AV.cells, AV.sc, optv, bnd, env, put, Env.get, Env.set, Env.del, Env.dels, Env.init, res1, resL, resV, fillP, splice, newRow, Nat.reduceEqDiff, Nat.reduceLT, Nat.reduceLeDiff, Nat.reduceAdd, Nat.reduceMul, Nat.reduceSub, Nat.reduceBEq, reduceCtorEq, ↓zR, zQ, Tr, StA, StT, hl1, hl2, r3, r4, r5]
  refine w_drw ?_
  simp (maxSteps := 1000000) (disch := first | omega | rfl | (simp only [zL, two63, room] <;> omega) | fail) only [↓reduceIte, ↓zP, zW, WOp, evOp, evBin, binI, binSh, binS, evNil, keyIs, keyEq, mkv, AV.cells, AV.sc, optv, bnd, env, put, Env.get, Env.set, Env.del, Env.dels, Env.init, res1, resL, resV, fillP, splice, newRow, Nat.reduceEqDiff, Nat.reduceLT, Nat.reduceLeDiff, Nat.reduceAdd, Nat.reduceMul, Nat.reduceSub, Nat.reduceBEq, reduceCtorEq, ↓zR, zQ, Tr, StA, StT, hl1, hl2, r3, r4, r5, e_kindOf]
  refine c_moves w (kindS t) hw ?_
  intro vm h2 ho2 hp2
  have hoL : OwL 2 encM (h ++ [AO.row [.map c] 0 0 false] ++ [AO.row [.str w] 0 0 false] ++ [AO.row [.bool t] 0 0 false]) h2 vm (movesB w (kindS t)) := ho2
  have hown : ∀ r, rowOf vm = some r → h.length + 3 ≤ r := fun r hr => by have := own_ge ho2 hr; simp at this; omega
  have q3 := rdRow_pre hp2 r3
  have q4 := rdRow_pre hp2 r4
  have q5 := rdRow_pre hp2 r5
  have hpe := p123.trans hp2
  simp (maxSteps := 1000000) (disch := first | omega | rfl | (simp only [zL, two63, room] <;> omega) | fail) only [↓reduceIte, ↓zP, zW, WOp, evOp, evBin, binI, binSh, binS, evNil, keyIs, keyEq, mkv, AV.cells, AV.sc, optv, bnd, env, put, Env.get, Env.set, Env.del, Env.dels, Env.init, res1, resL, resV, fillP, splice, newRow, Nat.reduceEqDiff, Nat.reduceLT, Nat.reduceLeDiff, Nat.reduceAdd, Nat.reduceMul, Nat.reduceSub, Nat.reduceBEq, reduceCtorEq, ↓zR, zQ, Tr, StA, StT, q3, q4, q5]
  refine c_DeleteFuncM _ [.ptr h.length 0 0 1, .ptr (h.length + 1) 0 0 1, .ptr (h.length + 2) 0 0 1] (fun m => winB (madeB w m.1.toNat m.2.toNat) (!t)) (cm := c) (b := h) (h := h2) (Nat.lt_of_lt_of_le hcl hpe.1) (fun h' => Mh winK winV c h') (fun a a' h1 h2 => h1.keep h2) (hoL.w.base (by simp)) (fun r hr => by have := hown r hr; omega) (by omega) (hm.pre hpe) ?_ ?_
  · intro x hx h' hpy hmh post hpost
    have g : ∀ (r : Nat) (y : AV), r < h.length + 3 → r ≠ c → rdRow h2 r 0 0 1 = some [y] → rdRow h' r 0 0 1 = some [y] := by
      intro r y hr hrc hrd
      rw [← hrd]
      unfold rdRow
      rw [hpy.2 r (rd_lt hrd) hrc fun e => by have := hown _ e; omega]
    refine c_best1 hw hmh (g _ _ (by omega) (by omega) q3) (g _ _ (by omega) (by omega) q4) (g _ _ (by omega) (by omega) q5) hx ?_
    exact fun h'' a b => hpost h'' a b
  · intro v' h' ho' hpy hm'
    simp (maxSteps := 1000000) (disch := first | omega | rfl | (simp only [zL, two63, room] <;> omega) | fail) only [↓reduceIte, ↓zP, zW, WOp, evOp, evBin, binI, binSh, binS, evNil, keyIs, keyEq, mkv, AV.cells, AV.sc, optv, bnd, env, put, Env.get, Env.set, Env.del, Env.dels, Env.init, res1, resL, resV, fillP, splice, newRow, Nat.reduceEqDiff, Nat.reduceLT, Nat.reduceLeDiff, Nat.reduceAdd, Nat.reduceMul, Nat.reduceSub, Nat.reduceBEq, reduceCtorEq, ↓zR, zQ, Tr, StA, StT]
    refine hp v' h' ho' ⟨Nat.le_trans hpe.1 hpy.1, fun i hi hc => ?_⟩ hm'
    rw [hpy.2 i (Nat.lt_of_lt_of_le hi hpe.1) hc fun e => by have := hown _ e; omega, hpe.2 i hi]
def bmG (w : List UInt8) (t : Bool) : List (Int × Int) := if plG10 w then bestB w t else []
theorem c_BestMoves (w : List UInt8) (t : Bool) (hw : w.length < 2 ^ 60) {h : AH} {post : AV → AH → Prop} (hp : ∀ v h', Slc 2 encM h' v (bmG w t) → Pre h h' → post (.tup [v, .bool (plG10 w)]) h') : S 417 [.str w, .bool t] h post k := by
  unfold bmG at hp
  refine S_of rfl T417 ?_; unfold fi417
  cases e : plG10 w <;> rw [e] at hp
  · simp (maxSteps := 1000000) (disch := first | omega | rfl | (simp only [zL, two63, room] <;> omega) | fail) only [↓reduceIte, ↓zP, zW, WOp, evOp, evBin, binI, binSh, binS, evNil, keyIs, keyEq, mkv, AV.cells, AV.sc, optv, bnd, env, put, Env.get, Env.set, Env.del, Env.dels, Env.init, res1, resL, resV, fillP, splice, newRow, Nat.reduceEqDiff, Nat.reduceLT, Nat.reduceLeDiff, Nat.reduceAdd, Nat.reduceMul, Nat.reduceSub, Nat.reduceBEq, reduceCtorEq, ↓zR, zQ, Tr, StA, StT, e_isPlayed w hw, e]
    exact hp _ h Slc.nil (Pre.refl h)
  · obtain ⟨h1, h2, h3⟩ := pl10 e
    simp (maxSteps := 1000000) (disch := first | omega | rfl | (simp only [zL, two63, room] <;> omega) | fail) only [↓reduceIte, ↓zP, zW, WOp, evOp, evBin, binI, binSh, binS, evNil, keyIs, keyEq, mkv, AV.cells, AV.sc, optv, bnd, env, put, Env.get, Env.set, Env.del, Env.dels, Env.init, res1, resL, resV, fillP, splice, newRow, Nat.reduceEqDiff, Nat.reduceLT, Nat.reduceLeDiff, Nat.reduceAdd, Nat.reduceMul, Nat.reduceSub, Nat.reduceBEq, reduceCtorEq, ↓zR, zQ, Tr, StA, StT, e_isPlayed w hw, e]
    refine c_newGames ?_
    intro c2 h2 hp2 hc2 hm2
    simp (maxSteps := 1000000) (disch := first | omega | rfl | (simp only [zL, two63, room] <;> omega) | fail) only [↓reduceIte, ↓zP, zW, WOp, evOp, evBin, binI, binSh, binS, evNil, keyIs, keyEq, mkv, AV.cells, AV.sc, optv, bnd, env, put, Env.get, Env.set, Env.del, Env.dels, Env.init, res1, resL, resV, fillP, splice, newRow, Nat.reduceEqDiff, Nat.reduceLT, Nat.reduceLeDiff, Nat.reduceAdd, Nat.reduceMul, Nat.reduceSub, Nat.reduceBEq, reduceCtorEq, ↓zR, zQ, Tr, StA, StT]
    refine c_best w t (by omega) hm2 ?_
    intro v h3 ho3 hp3 _
    simp (maxSteps := 1000000) (disch := first | omega | rfl | (simp only [zL, two63, room] <;> omega) | fail) only [↓reduceIte, ↓zP, zW, WOp, evOp, evBin, binI, binSh, binS, evNil, keyIs, keyEq, mkv, AV.cells, AV.sc, optv, bnd, env, put, Env.get, Env.set, Env.del, Env.dels, Env.init, res1, resL, resV, fillP, splice, newRow, Nat.reduceEqDiff, Nat.reduceLT, Nat.reduceLeDiff, Nat.reduceAdd, Nat.reduceMul, Nat.reduceSub, Nat.reduceBEq, reduceCtorEq, ↓zR, zQ, Tr, StA, StT]
    exact hp v h3 (ho3.slc hlM) (hp2.trans' ⟨hp3.1, fun i hi => hp3.2 i (by have := hp2.1; omega) (by omega)⟩)

/-! ### The play -/
def gmP (o : Option (Int × Int)) : Int × Int := match o with
  | some m => m
  | none => (0, 0)
theorem c_move (w : List UInt8) (t : Bool) (hw : w.length < 2 ^ 30) {c : Nat} {h : AH} (hm : Mh winK winV c h) {post : AV → AH → Prop}
    (hp : ∀ h', PreX c h h' → Mh winK winV c h' → post (.tup [.agg (encM (gmP (gmB w t))), .bool (gmB w t).isSome]) h') : S 450 [.agg [.map c], .str w, .bool t] h post k := by
  have p1 := Pre.push h (AO.row [.map c] 0 0 false)
  have p2 := Pre.push (h ++ [AO.row [.map c] 0 0 false]) (AO.row [.int .i64 0, .int .i64 0] 0 0 false)
  have p12 := p1.trans p2
  have hl1 : (h ++ [AO.row [.map c] 0 0 false]).length = h.length + 1 := by simp
  have hl2 : (h ++ [AO.row [.map c] 0 0 false] ++ [AO.row [.int .i64 0, .int .i64 0] 0 0 false]).length = h.length + 2 := by simp
  have r3 : rdRow (h ++ [AO.row [.map c] 0 0 false] ++ [AO.row [.int .i64 0, .int .i64 0] 0 0 false]) h.length 0 0 1 = some [.map c] := rdRow_pre p2 (by rw [rd_last, if_pos (by simp)]; simp)
  have hcl := hm.lt
  have hbd := movesB_len w (kindS t)
  have hbb : (bestB w t).length ≤ w.length := Nat.le_trans (List.length_filter_le _ _) hbd
  refine S_of rfl T450 ?_; unfold fi450
  simp (maxSteps := 1000000) (disch := first | omega | rfl | (simp only [zL, two63, room] <;> omega) | fail) only [↓reduceIte, ↓zP, zW, WOp, evOp, evBin, binI, binSh, binS, evNil, keyIs, keyEq, mkv, AV.cells, AV.sc, optv, bnd, env, put, Env.get, Env.set, Env.del, Env.dels, Env.init, res1, resL, resV, fillP, splice, newRow, Nat.reduceEqDiff, Nat.reduceLT, Nat.reduceLeDiff, Nat.reduceAdd, Nat.reduceMul, Nat.reduceSub, Nat.reduceBEq, reduceCtorEq, ↓zR, zQ, Tr, StA, StT, hl1, hl2, r3]
  refine c_best w t hw (hm.pre p12) ?_
  intro v2 h2 ho2 hp2 hm2
  simp (maxSteps := 1000000) (disch := first | omega | rfl | (simp only [zL, two63, room] <;> omega) | fail) only [↓reduceIte, ↓zP, zW, WOp, evOp, evBin, binI, binSh, binS, evNil, keyIs, keyEq, mkv, AV.cells, AV.sc, optv, bnd, env, put, Env.get, Env.set, Env.del, Env.dels, Env.init, res1, resL, resV, fillP, splice, newRow, Nat.reduceEqDiff, Nat.reduceLT, Nat.reduceLeDiff, Nat.reduceAdd, Nat.reduceMul, Nat.reduceSub, Nat.reduceBEq, reduceCtorEq, ↓zR, zQ, Tr, StA, StT, e_kindOf]
  refine c_moves w (kindS t) hw ?_
  intro v3 h3 ho3 hp3
  have hoL : OwL 2 encM h2 h3 v3 (movesB w (kindS t)) := ho3
  have ho2' := ho2.pre hp3
  obtain ⟨v4, h4, ha, ho4, hfr, hle4⟩ := ap_w (M := movesB w (kindS t)) hlM scM ho2' (Nat.le_trans hp2.1 hp3.1) (by omega)
  have hx23 := hp2.trans (hp3.x c)
  have e6 : h3[h.length + 1]? = some (.row [.int .i64 0, .int .i64 0] 0 0 false) := by
    rw [hx23.2 (h.length + 1) (by simp) (by omega)]
    rw [← hl1]; simp
  have hown : ∀ r, rowOf v2 = some r → h.length + 2 ≤ r := by
    intro r hr
    have := ho2
    unfold OwW at this
    cases v2 <;> simp only [rowOf] at hr <;> first
      | (cases hr; done)
      | (cases hr; have := this.2.2.1; rw [hl2] at this; exact this)
  have e6' : h4[h.length + 1]? = some (.row [.int .i64 0, .int .i64 0] 0 0 false) := by
    rw [hfr _ (List.getElem?_eq_some_iff.1 e6).1 (fun hr => by have := hown _ hr; omega)]; exact e6
  have hlt4 := (List.getElem?_eq_some_iff.1 e6').1
  have hmk : ∀ m : Int × Int, wrRow h4 (h.length + 1) 0 0 [.int .i64 m.1, .int .i64 m.2] = some (h4.set (h.length + 1) (.row [.int .i64 m.1, .int .i64 m.2] 0 0 false)) ∧
      rdRow (h4.set (h.length + 1) (.row [.int .i64 m.1, .int .i64 m.2] 0 0 false)) (h.length + 1) 0 0 2 = some [.int .i64 m.1, .int .i64 m.2] := by
    intro m
    refine ⟨by simp [wrRow, e6', splice, AV.sc], ?_⟩
    unfold rdRow
    rw [List.getElem?_set, if_pos rfl, if_pos hlt4]; simp
  have hfin : ∀ o, PreX c h (h4.set (h.length + 1) o) ∧ Mh winK winV c (h4.set (h.length + 1) o) := by
    intro o
    have hx : ∀ i, i < h.length → i ≠ c → (h4.set (h.length + 1) o)[i]? = h[i]? := by
      intro i hi hc
      rw [List.getElem?_set, if_neg (by omega), hfr i (by have := p12.1; have := hx23.1; omega) (fun hr => by have := hown _ hr; omega), hx23.2 i (by have := p12.1; omega) hc, p12.2 i hi]
    have hc2 := hm2.lt
    have hm3 := hm2.pre hp3
    refine ⟨⟨by have := p12.1; have := hx23.1; simp; omega, hx⟩, hm3.keep ?_⟩
    rw [List.getElem?_set, if_neg (by omega), hfr c (Nat.lt_of_lt_of_le hc2 hp3.1) (fun hr => by have := hown _ hr; omega)]
  obtain ⟨f1, f2⟩ := hfin (.row [.int .i64 (gmP (gmB w t)).1, .int .i64 (gmP (gmB w t)).2] 0 0 false)
  have hq := hp _ f1 f2
  obtain ⟨k1, k2⟩ := hmk (gmP (gmB w t))
  have hs4 := ho4.slc
  have hg : gmB w t = (bestB w t ++ movesB w (kindS t)).head? := rfl
  rw [hg] at hq k1 k2
  have l4 := fun g => Slc.lenV (hs4) (g := g) (ρ := fun _ => _) (x := .t 0) rfl; simp only [evOp] at l4
  have key : ∀ hA : apRow h3 2 v2 (movesB w (kindS t)).length ((movesB w (kindS t)).flatMap encM) = some (v4, h4), True := fun _ => trivial
  have hsl := hoL.slc
  generalize bestB w t ++ movesB w (kindS t) = L at *
  rcases hsl.cases with ⟨rfl, h0⟩ | ⟨rfl, h0⟩ | ⟨c', kk', off', rfl⟩
  all_goals
    first
      | (rw [h0] at ha; simp only [List.length_nil, List.flatMap_nil] at ha; simp (maxSteps := 1000000) (disch := first | omega | rfl | (simp only [zL, two63, room] <;> omega) | fail) only [↓reduceIte, ↓zP, zW, WOp, evOp, evBin, binI, binSh, binS, evNil, keyIs, keyEq, mkv, AV.cells, AV.sc, optv, bnd, env, put, Env.get, Env.set, Env.del, Env.dels, Env.init, res1, resL, resV, fillP, splice, newRow, Nat.reduceEqDiff, Nat.reduceLT, Nat.reduceLeDiff, Nat.reduceAdd, Nat.reduceMul, Nat.reduceSub, Nat.reduceBEq, reduceCtorEq, ↓zR, zQ, Tr, StA, StT, ha, l4])
      | (obtain ⟨_, _, hall⟩ := hsl.all; simp (maxSteps := 1000000) (disch := first | omega | rfl | (simp only [zL, two63, room] <;> omega) | fail) only [↓reduceIte, ↓zP, zW, WOp, evOp, evBin, binI, binSh, binS, evNil, keyIs, keyEq, mkv, AV.cells, AV.sc, optv, bnd, env, put, Env.get, Env.set, Env.del, Env.dels, Env.init, res1, resL, resV, fillP, splice, newRow, Nat.reduceEqDiff, Nat.reduceLT, Nat.reduceLeDiff, Nat.reduceAdd, Nat.reduceMul, Nat.reduceSub, Nat.reduceBEq, reduceCtorEq, ↓zR, zQ, Tr, StA, StT, hall, ha, l4])
    cases L with
    | nil =>
      have z0 : ((([] : List (Int × Int)).length : Nat) : Int) = 0 := rfl
      simp only [List.head?_nil, gmP, Option.isSome_none] at hq k1 k2
      simp (maxSteps := 1000000) (disch := first | omega | rfl | (simp only [zL, two63, room] <;> omega) | fail) only [↓reduceIte, ↓zP, zW, WOp, evOp, evBin, binI, binSh, binS, evNil, keyIs, keyEq, mkv, AV.cells, AV.sc, optv, bnd, env, put, Env.get, Env.set, Env.del, Env.dels, Env.init, res1, resL, resV, fillP, splice, newRow, Nat.reduceEqDiff, Nat.reduceLT, Nat.reduceLeDiff, Nat.reduceAdd, Nat.reduceMul, Nat.reduceSub, Nat.reduceBEq, reduceCtorEq, ↓zR, zQ, Tr, StA, StT, z0, k1, k2]
      exact hq
    | cons m rest =>
      obtain ⟨c4, kk4, off4, rfl, hr4⟩ := Slc.at hlM (pre := []) hs4
      have z0 : ((((m :: rest : List (Int × Int)).length : Nat) : Int) == 0) = false := by rw [beq_eq_false_iff_ne]; simp; omega
      have z1 : (0 : Int) < (((m :: rest : List (Int × Int)).length : Nat) : Int) := by simp
      have z2 : (0 : Int).toNat * 2 = 0 := rfl
      have hr4' : rdRow h4 c4 kk4 off4 2 = some [.int .i64 m.1, .int .i64 m.2] := by simpa using hr4
      simp only [List.head?_cons, gmP, Option.isSome_some] at hq k1 k2
      simp (maxSteps := 1000000) (disch := first | omega | rfl | (simp only [zL, two63, room] <;> omega) | fail) only [↓reduceIte, ↓zP, zW, WOp, evOp, evBin, binI, binSh, binS, evNil, keyIs, keyEq, mkv, AV.cells, AV.sc, optv, bnd, env, put, Env.get, Env.set, Env.del, Env.dels, Env.init, res1, resL, resV, fillP, splice, newRow, Nat.reduceEqDiff, Nat.reduceLT, Nat.reduceLeDiff, Nat.reduceAdd, Nat.reduceMul, Nat.reduceSub, Nat.reduceBEq, reduceCtorEq, ↓zR, zQ, Tr, StA, StT, z0, z1, z2, Nat.add_zero, hr4', k1, k2]
      exact hq
def mvG10 (w : List UInt8) (t : Bool) : Option (Int × Int) := if plG10 w then gmB w t else none
theorem c_GameMove (w : List UInt8) (t : Bool) (hw : w.length < 2 ^ 60) {h : AH} {post : AV → AH → Prop} (hp : ∀ h', Pre h h' → post (.tup [.agg (encM (gmP (mvG10 w t))), .bool (mvG10 w t).isSome]) h') : S 419 [.str w, .bool t] h post k := by
  unfold mvG10 at hp
  have hz := rd_last h [.int .i64 0, .int .i64 0] false 0 2
  refine S_of rfl T419 ?_; unfold fi419
  cases e : plG10 w <;> rw [e] at hp
  · simp (maxSteps := 1000000) (disch := first | omega | rfl | (simp only [zL, two63, room] <;> omega) | fail) only [↓reduceIte, ↓zP, zW, WOp, evOp, evBin, binI, binSh, binS, evNil, keyIs, keyEq, mkv, AV.cells, AV.sc, optv, bnd, env, put, Env.get, Env.set, Env.del, Env.dels, Env.init, res1, resL, resV, fillP, splice, newRow, Nat.reduceEqDiff, Nat.reduceLT, Nat.reduceLeDiff, Nat.reduceAdd, Nat.reduceMul, Nat.reduceSub, Nat.reduceBEq, reduceCtorEq, ↓zR, zQ, Tr, StA, StT, e_isPlayed w hw, e]
    exact hp _ (Pre.push _ _)
  · obtain ⟨h1, h2, h3⟩ := pl10 e
    simp (maxSteps := 1000000) (disch := first | omega | rfl | (simp only [zL, two63, room] <;> omega) | fail) only [↓reduceIte, ↓zP, zW, WOp, evOp, evBin, binI, binSh, binS, evNil, keyIs, keyEq, mkv, AV.cells, AV.sc, optv, bnd, env, put, Env.get, Env.set, Env.del, Env.dels, Env.init, res1, resL, resV, fillP, splice, newRow, Nat.reduceEqDiff, Nat.reduceLT, Nat.reduceLeDiff, Nat.reduceAdd, Nat.reduceMul, Nat.reduceSub, Nat.reduceBEq, reduceCtorEq, ↓zR, zQ, Tr, StA, StT, e_isPlayed w hw, e]
    refine c_newGames ?_
    intro c2 h2 hp2 hc2 hm2
    simp (maxSteps := 1000000) (disch := first | omega | rfl | (simp only [zL, two63, room] <;> omega) | fail) only [↓reduceIte, ↓zP, zW, WOp, evOp, evBin, binI, binSh, binS, evNil, keyIs, keyEq, mkv, AV.cells, AV.sc, optv, bnd, env, put, Env.get, Env.set, Env.del, Env.dels, Env.init, res1, resL, resV, fillP, splice, newRow, Nat.reduceEqDiff, Nat.reduceLT, Nat.reduceLeDiff, Nat.reduceAdd, Nat.reduceMul, Nat.reduceSub, Nat.reduceBEq, reduceCtorEq, ↓zR, zQ, Tr, StA, StT]
    refine c_move w t (by omega) hm2 ?_
    intro h3 hp3 _
    have hpre : Pre (h ++ [AO.row [.int .i64 0, .int .i64 0] 0 0 false]) h3 := hp2.trans' ⟨hp3.1, fun i hi => hp3.2 i (by have := hp2.1; omega) (by omega)⟩
    obtain ⟨r1, r2, r3⟩ := wr_res hpre (gmP (gmB w t)).1 (gmP (gmB w t)).2
    simp (maxSteps := 1000000) (disch := first | omega | rfl | (simp only [zL, two63, room] <;> omega) | fail) only [↓reduceIte, ↓zP, zW, WOp, evOp, evBin, binI, binSh, binS, evNil, keyIs, keyEq, mkv, AV.cells, AV.sc, optv, bnd, env, put, Env.get, Env.set, Env.del, Env.dels, Env.init, res1, resL, resV, fillP, splice, newRow, Nat.reduceEqDiff, Nat.reduceLT, Nat.reduceLeDiff, Nat.reduceAdd, Nat.reduceMul, Nat.reduceSub, Nat.reduceBEq, reduceCtorEq, ↓zR, zQ, Tr, StA, StT, r1, r2]
    exact hp _ r3
theorem muF_leG (n : Nat) : ∀ (l : List UInt8) (i : Nat), i + l.length ≤ n → muF n i l ≤ l.length * n
  | [], _, _ => by simp [muF]
  | b :: l, i, h => by
    have := muF_leG n l (i + 1) (by simp at h; omega)
    have hb : fmu n i b ≤ n := by
      unfold fmu
      simp at h
      split
      · omega
      · split <;> omega
    simp only [muF, List.length_cons, Nat.succ_mul]
    omega
theorem mu_leG (w : List UInt8) : mu w ≤ w.length * w.length := muF_leG _ _ _ (by omega)
theorem lp_gplay {c p6 : Nat} {B : AH} (hcB : c < B.length) (hpB : p6 < B.length) (hcp : p6 ≠ c) {R : X → Env → AH → Prop} : ∀ (n : Nat) (w : List UInt8) (t : Bool) (v : AV) (out : List (Int × Int)) (h : AH), mu w < n → w.length < 2 ^ 30 → out.length + n ≤ 2 ^ 30 → Mh winK winV c h → rdRow h p6 0 0 1 = some [.map c] → OwL 2 encM B h v out → PreX c B h →
    (∀ v' h', OwL 2 encM B h' v' (out ++ plyB w t) → PreX c B h' → R .ret [(4, v'), (5, .bool true)] h') →
    Cx (.loop lp421_0) [(0, .str w), (1, .bool t), (6, .ptr p6 0 0 1), (7, v)] h R k k
  | 0, _, _, _, _, _, hn, _, _, _, _, _, _, _ => by omega
  | n + 1, w, t, v, out, h, hn, hw, ho, hm, h6, hv, hx, hR => by
    have ih := lp_gplay hcB hpB hcp (R := R) n
    rw [w_loopb (c := lp421_0) (d := lb421_0) rfl]; unfold lb421_0
    simp (maxSteps := 1000000) (disch := first | omega | rfl | (simp only [zL, two63, room] <;> omega) | fail) only [↓reduceIte, ↓zP, zW, WOp, evOp, evBin, binI, binSh, binS, evNil, keyIs, keyEq, mkv, AV.cells, AV.sc, optv, bnd, env, put, Env.get, Env.set, Env.del, Env.dels, Env.init, res1, resL, resV, fillP, splice, newRow, Nat.reduceEqDiff, Nat.reduceLT, Nat.reduceLeDiff, Nat.reduceAdd, Nat.reduceMul, Nat.reduceSub, Nat.reduceBEq, reduceCtorEq, ↓zR, zQ, Tr, StA, StT, h6]
    refine c_move w t hw hm ?_
    intro h2 hp2 hm2
    have hx2 := hx.trans hp2
    have hv2 := hv.x hp2 hcB
    have k6 := rdRow_prex hp2 hcp h6
    cases e : gmB w t with
    | none =>
      simp only [gmP, Option.isSome_none]
      simp (maxSteps := 1000000) (disch := first | omega | rfl | (simp only [zL, two63, room] <;> omega) | fail) only [↓reduceIte, ↓zP, zW, WOp, evOp, evBin, binI, binSh, binS, evNil, keyIs, keyEq, mkv, AV.cells, AV.sc, optv, bnd, env, put, Env.get, Env.set, Env.del, Env.dels, Env.init, res1, resL, resV, fillP, splice, newRow, Nat.reduceEqDiff, Nat.reduceLT, Nat.reduceLeDiff, Nat.reduceAdd, Nat.reduceMul, Nat.reduceSub, Nat.reduceBEq, reduceCtorEq, ↓zR, zQ, Tr, StA, StT]
      refine hR v _ ?_ (hx2.trans ((Pre.push _ _).x c))
      rw [plyB_none e, List.append_nil]
      exact hv2.pre (Pre.push _ _)
    | some m =>
      have hmm := gmB_mem e
      obtain ⟨i, u, rfl, hmv⟩ := movesB_mv hmm
      have pu := (Pre.push h2 (AO.row [.int .i64 i, .int .i64 u] 0 0 false)).trans (Pre.push _ (AO.row [.int .i64 i, .int .i64 u] 0 0 false))
      obtain ⟨v3, h3, ha, hv3, hag⟩ := apA hlM scM (hv2.pre pu) (Nat.le_trans hx2.1 pu.1) ((i : Int), (u : Int)) (by omega)
      have hrow : rowOf v ≠ some h2.length := by
        intro hr
        have := own_lt hv2 hr
        omega
      have q3 : rdRow h3 h2.length 0 0 2 = some [.int .i64 i, .int .i64 u] := by
        refine rd_row ((apRow_fr ha).1 h2.length (by simp) hrow) ?_
        exact rd_app1 (mvRow h2 i u).1
      simp only [gmP, Option.isSome_some]
      simp (maxSteps := 1000000) (disch := first | omega | rfl | (simp only [zL, two63, room] <;> omega) | fail) only [↓reduceIte, ↓zP, zW, WOp, evOp, evBin, binI, binSh, binS, evNil, keyIs, keyEq, mkv, AV.cells, AV.sc, optv, bnd, env, put, Env.get, Env.set, Env.del, Env.dels, Env.init, res1, resL, resV, fillP, splice, newRow, Nat.reduceEqDiff, Nat.reduceLT, Nat.reduceLeDiff, Nat.reduceAdd, Nat.reduceMul, Nat.reduceSub, Nat.reduceBEq, reduceCtorEq, ↓zR, zQ, Tr, StA, StT, ha, q3]
      refine c_made w i u hmv.1 hmv.2.1 hw ?_
      intro h4 hp4
      simp (maxSteps := 1000000) (disch := first | omega | rfl | (simp only [zL, two63, room] <;> omega) | fail) only [↓reduceIte, ↓zP, zW, WOp, evOp, evBin, binI, binSh, binS, evNil, keyIs, keyEq, mkv, AV.cells, AV.sc, optv, bnd, env, put, Env.get, Env.set, Env.del, Env.dels, Env.init, res1, resL, resV, fillP, splice, newRow, Nat.reduceEqDiff, Nat.reduceLT, Nat.reduceLeDiff, Nat.reduceAdd, Nat.reduceMul, Nat.reduceSub, Nat.reduceBEq, reduceCtorEq, ↓zR, zQ, Tr, StA, StT]
      rw [w_loopn (c := lp421_0) rfl]
      simp (maxSteps := 1000000) (disch := first | omega | rfl | (simp only [zL, two63, room] <;> omega) | fail) only [↓reduceIte, ↓zP, zW, WOp, evOp, evBin, binI, binSh, binS, evNil, keyIs, keyEq, mkv, AV.cells, AV.sc, optv, bnd, env, put, Env.get, Env.set, Env.del, Env.dels, Env.init, res1, resL, resV, fillP, splice, newRow, Nat.reduceEqDiff, Nat.reduceLT, Nat.reduceLeDiff, Nat.reduceAdd, Nat.reduceMul, Nat.reduceSub, Nat.reduceBEq, reduceCtorEq, ↓zR, zQ, Tr, StA, StT]
      have hx3 : PreX c B h3 := (hx2.trans (pu.x c)).ag hag
      refine ih (madeB w i u) (!t) v3 (out ++ [((i : Int), (u : Int))]) h4 (by have := mu_made hmv; omega) (by rw [madeB_length]; exact hw) (by simp; omega) ?_ ?_ (hv3.pre hp4) (hx3.trans (hp4.x c)) ?_
      · exact ((hm2.pre pu).keep (hag.2 c hcB)).pre hp4
      · refine rdRow_pre hp4 (rd_row (hag.2 p6 hpB) (rdRow_pre pu k6))
      · intro v' h' a1 a2
        refine hR v' h' ?_ a2
        rw [plyB_some e]
        simpa using a1
def gpG (w : List UInt8) (t : Bool) : List (Int × Int) := if plG10 w then plyB w t else []
theorem c_GamePlay (w : List UInt8) (t : Bool) (hw : w.length < 2 ^ 60) {h : AH} {post : AV → AH → Prop} (hp : ∀ v h', Slc 2 encM h' v (gpG w t) → Pre h h' → post (.tup [v, .bool (plG10 w)]) h') : S 421 [.str w, .bool t] h post k := by
  unfold gpG at hp
  refine S_of rfl T421 ?_; unfold fi421
  cases e : plG10 w <;> rw [e] at hp
  · simp (maxSteps := 1000000) (disch := first | omega | rfl | (simp only [zL, two63, room] <;> omega) | fail) only [↓reduceIte, ↓zP, zW, WOp, evOp, evBin, binI, binSh, binS, evNil, keyIs, keyEq, mkv, AV.cells, AV.sc, optv, bnd, env, put, Env.get, Env.set, Env.del, Env.dels, Env.init, res1, resL, resV, fillP, splice, newRow, Nat.reduceEqDiff, Nat.reduceLT, Nat.reduceLeDiff, Nat.reduceAdd, Nat.reduceMul, Nat.reduceSub, Nat.reduceBEq, reduceCtorEq, ↓zR, zQ, Tr, StA, StT, e_isPlayed w hw, e]
    exact hp _ h Slc.nil (Pre.refl h)
  · obtain ⟨h1, h2, h3⟩ := pl10 e
    have hmu := mu_leG w
    have hmm : w.length * w.length ≤ 10 * 10 := Nat.mul_le_mul h2 h2
    simp (maxSteps := 1000000) (disch := first | omega | rfl | (simp only [zL, two63, room] <;> omega) | fail) only [↓reduceIte, ↓zP, zW, WOp, evOp, evBin, binI, binSh, binS, evNil, keyIs, keyEq, mkv, AV.cells, AV.sc, optv, bnd, env, put, Env.get, Env.set, Env.del, Env.dels, Env.init, res1, resL, resV, fillP, splice, newRow, Nat.reduceEqDiff, Nat.reduceLT, Nat.reduceLeDiff, Nat.reduceAdd, Nat.reduceMul, Nat.reduceSub, Nat.reduceBEq, reduceCtorEq, ↓zR, zQ, Tr, StA, StT, e_isPlayed w hw, e]
    refine c_newGames ?_
    intro c2 h2 hp2 hc2 hm2
    have hcl := hm2.lt
    simp (maxSteps := 1000000) (disch := first | omega | rfl | (simp only [zL, two63, room] <;> omega) | fail) only [↓reduceIte, ↓zP, zW, WOp, evOp, evBin, binI, binSh, binS, evNil, keyIs, keyEq, mkv, AV.cells, AV.sc, optv, bnd, env, put, Env.get, Env.set, Env.del, Env.dels, Env.init, res1, resL, resV, fillP, splice, newRow, Nat.reduceEqDiff, Nat.reduceLT, Nat.reduceLeDiff, Nat.reduceAdd, Nat.reduceMul, Nat.reduceSub, Nat.reduceBEq, reduceCtorEq, ↓zR, zQ, Tr, StA, StT]
    have hp3 := Pre.push h2 (AO.row [.map c2] 0 0 false)
    have r6 : rdRow (h2 ++ [AO.row [.map c2] 0 0 false]) h2.length 0 0 1 = some [.map c2] := by rw [rd_last, if_pos (by simp)]; simp
    refine lp_gplay (B := h2 ++ [AO.row [.map c2] 0 0 false]) (by simp; omega) (by simp) (by omega) (mu w + 1) w t .empS [] _ (by omega) (by omega) (by simp; omega) (hm2.pre hp3) r6 OwL.emp (PreX.refl _ _) ?_
    intro v h3 ho3 hx3
    simp (maxSteps := 1000000) (disch := first | omega | rfl | (simp only [zL, two63, room] <;> omega) | fail) only [↓reduceIte, ↓zP, zW, WOp, evOp, evBin, binI, binSh, binS, evNil, keyIs, keyEq, mkv, AV.cells, AV.sc, optv, bnd, env, put, Env.get, Env.set, Env.del, Env.dels, Env.init, res1, resL, resV, fillP, splice, newRow, Nat.reduceEqDiff, Nat.reduceLT, Nat.reduceLeDiff, Nat.reduceAdd, Nat.reduceMul, Nat.reduceSub, Nat.reduceBEq, reduceCtorEq, ↓zR, zQ, Tr, StA, StT]
    rw [List.nil_append] at ho3
    exact hp v h3 ho3.slc ((hp2.trans hp3).trans' ⟨hx3.1, fun i hi => hx3.2 i (by have := (hp2.trans hp3).1; omega) (by omega)⟩)
end Go.Proofs.YtejhhdpfndiliaaGreatDoor.Ab

/- GAMES of the reference: best moves, the play. -/
namespace Go.Proofs.YtejhhdpfndiliaaGreatDoor.Ab
open Go
set_option maxRecDepth 100000
set_option maxHeartbeats 4000000

def NGk (c : Nat) (h : AH) (v : AV) : Prop := ∀ r, rowOf v = some r → ¬ gr c h r
theorem gr_keepK {c : Nat} {h h' : AH} (hc : h'[c]? = h[c]?) (i : Nat) : gr c h' i ↔ gr c h i := by unfold gr; rw [hc]
theorem KN.keep {N c : Nat} {h h' : AH} {K : List (List UInt8)} (hk : KN N c h K) (he : ∀ i, gr c h i → h'[i]? = h[i]?) : KN N c h' K := by
  have hc := he c (.inl rfl)
  obtain ⟨v1, v2, W, h1, h2, h3, h4⟩ := hk
  exact ⟨v1, v2, W, by rw [hc]; exact h1, own_row h2 fun r hr => he r (.inr ⟨v1, v2, h1, .inl hr⟩), own_row h3 fun r hr => he r (.inr ⟨v1, v2, h1, .inr hr⟩), h4⟩
theorem NGk.fr {c : Nat} {h h' : AH} {v : AV} (hn : NGk c h v) (hf : FrG c h h') (hl : ∀ r, rowOf v = some r → r < h.length) : NGk c h' v := fun r hr => (hf.2 r (hl r hr) (hn r hr)).2
theorem own_frK {α : Type} {esz : Nat} {enc : α → List AV} {c : Nat} {b h h' : AH} {v : AV} {L : List α} (ho : OwL esz enc b h v L) (hn : NGk c h v) (hf : FrG c h h') : OwL esz enc b h' v L := own_row ho fun r hr => (hf.2 r (own_lt ho hr) (hn r hr)).1
theorem apGK {α : Type} {esz : Nat} {enc : α → List AV} (hl : ∀ x, (enc x).length = esz) (hsc : ∀ x, (enc x).all AV.sc = true) {N c : Nat} {b h : AH} {v : AV} {L : List α} {K : List (List UInt8)} (ho : OwL esz enc b h v L) (hb : b.length ≤ h.length) (hng : NGk c h v) (hk : KN N c h K) (hL : L.length + 1 ≤ 1099511627776) (x : α) :
    ∃ v' h', apRow h esz v 1 (enc x) = some (v', h') ∧ OwL esz enc b h' v' (L ++ [x]) ∧ NGk c h' v' ∧ KN N c h' K ∧ h.length ≤ h'.length ∧ (∀ i, i < h.length → rowOf v ≠ some i → h'[i]? = h[i]?) ∧ ∀ i, gr c h' i ↔ gr c h i := by
  obtain ⟨v', h', ha, ho', _⟩ := apA hl hsc ho hb x hL
  obtain ⟨f1, f2, f3⟩ := apRow_fr ha
  have hg : ∀ i, gr c h i → h'[i]? = h[i]? := fun i hi => f1 i (hk.gr_lt hi) fun e => hng i e hi
  have hgr := gr_keepK (h := h) (h' := h') (hg c (.inl rfl))
  refine ⟨v', h', ha, ho', fun r hr hgr' => ?_, hk.keep hg, f2, f1, hgr⟩
  rw [hgr] at hgr'
  rcases f3 r hr with h1 | h1
  · exact hng r h1 hgr'
  · have := hk.gr_lt hgr'; omega
theorem FrG.app {c : Nat} {h0 h h' : AH} (hf : FrG c h0 h) (hle : h.length ≤ h'.length) (hr : ∀ i, i < h0.length → ¬ gr c h0 i → h'[i]? = h[i]?) (hg : ∀ i, gr c h' i ↔ gr c h i) : FrG c h0 h' := ⟨Nat.le_trans hf.1 hle, fun i hi hn => by
  obtain ⟨h1, h2⟩ := hf.2 i hi hn
  exact ⟨by rw [hr i hi hn, h1], by rw [hg]; exact h2⟩⟩
theorem ok1 {w : List UInt8} (t : Bool) (hg : signs w) : OkS (w.length + 2) ([w], t) := ⟨by simpa using hg, by simp [gaK, gaTail]⟩
theorem ok1_made {w : List UInt8} {t : Bool} {i u : Nat} (hg : signs w) (hi : i < w.length) : OkS (w.length + 2) ([madeB w i u], !t) := (ok1 t hg).step (pre := []) (rest := []) i u hi
theorem signs_madeG {w : List UInt8} {i u : Nat} (hg : signs w) (hi : i < w.length) : signs (madeB w i u) := (ok1_made (t := true) (u := u) hg hi).1 _ (by simp)
theorem lp_gaBest {N c : Nat} {w : List UInt8} {t : Bool} (hN : w.length + 2 = N) (hN2 : N ≤ 14) (hg : signs w) {B : AH} {vm : AV} (hvm : ∀ r, rowOf vm = some r → r < B.length) {R : X → Env → AH → Prop} : ∀ (mr mp out : List (Int × Int)) (v : AV) (h : AH) (K : List (List UInt8)), movesB w (kindS t) = mp ++ mr → KN N c h K → FrG c B h → SlcG 2 encM c h vm (movesB w (kindS t)) → OwL 2 encM B h v out → NGk c h v → (∀ r, rowOf v = some r → B.length ≤ r) → out.length ≤ mp.length →
    (∀ v' h' K', KN N c h' K' → FrG c B h' → OwL 2 encM B h' v' (out ++ mr.filter fun m => !winB (madeB w m.1.toNat m.2.toNat) (!t)) → NGk c h' v' → R (.exit 0) [(7, v')] h') →
    Cx (.loop lp449_0) [(0, .ptr c 0 0 2), (1, .str w), (2, .bool t), (7, v), (14, vm), (15, .int .i64 (movesB w (kindS t)).length), (16, .int .i64 mp.length)] h R k k := by
  intro mr
  induction mr with
  | nil =>
    intro mp out v h K hL hk hf hs ho hn hrv hl hR
    have hll : (movesB w (kindS t)).length = mp.length := by rw [hL]; simp
    rw [hll]
    rw [w_loopb (c := lp449_0) (d := lb449_0) rfl]; unfold lb449_0
    simp (maxSteps := 1000000) (disch := first | omega | rfl | (simp only [zL, two63, room] <;> omega) | fail) only [↓reduceIte, ↓zP, zW, WOp, evOp, evBin, binI, binSh, binS, evNil, keyIs, keyEq, mkv, AV.cells, AV.sc, optv, bnd, env, put, Env.get, Env.set, Env.del, Env.dels, Env.init, res1, resL, resV, fillP, splice, newRow, Nat.reduceEqDiff, Nat.reduceLT, Nat.reduceLeDiff, Nat.reduceAdd, Nat.reduceMul, Nat.reduceSub, Nat.reduceBEq, reduceCtorEq, ↓zR, zQ, Tr, StA, StT]
    exact hR v h K hk hf (by simpa using ho) hn
  | cons m mr ih =>
    intro mp out v h K hL hk hf hs ho hn hrv hl hR
    have hmm : m ∈ movesB w (kindS t) := by rw [hL]; simp
    obtain ⟨i, u, rfl, hmv⟩ := movesB_mv hmm
    have hlen := movesB_len w (kindS t)
    have hml : (movesB w (kindS t)).length = mp.length + 1 + mr.length := by rw [hL]; simp; omega
    have hs' := hs
    rw [hL] at hs'
    obtain ⟨r1, k1, o1, hv1, hr⟩ := hs'.1.at hlM
    rw [← hL, hml] at hv1
    subst hv1
    rw [hml] at ih ⊢
    have hr' : rdRow h r1 k1 (o1 + mp.length * 2) 2 = some [.int .i64 i, .int .i64 u] := hr
    have hlt : (mp.length : Int) < ((mp.length + 1 + mr.length : Nat) : Int) := by omega
    have hw1 : (mp.length : Int) + 1 = ((mp ++ [(((i : Int), (u : Int)) : Int × Int)]).length : Int) := by simp
    have hw2 : IntKind.i64.wrap ((mp ++ [(((i : Int), (u : Int)) : Int × Int)]).length : Int) = ((mp ++ [(((i : Int), (u : Int)) : Int × Int)]).length : Int) := wrap_i (by simp; omega)
    have hcl := hk.lt
    have p1 := Pre.push h (AO.row [.int .i64 i, .int .i64 u] 0 0 false)
    rw [w_loopb (c := lp449_0) (d := lb449_0) rfl]; unfold lb449_0
    simp (maxSteps := 1000000) (disch := first | omega | rfl | (simp only [zL, two63, room] <;> omega) | fail) only [↓reduceIte, ↓zP, zW, WOp, evOp, evBin, binI, binSh, binS, evNil, keyIs, keyEq, mkv, AV.cells, AV.sc, optv, bnd, env, put, Env.get, Env.set, Env.del, Env.dels, Env.init, res1, resL, resV, fillP, splice, newRow, Nat.reduceEqDiff, Nat.reduceLT, Nat.reduceLeDiff, Nat.reduceAdd, Nat.reduceMul, Nat.reduceSub, Nat.reduceBEq, reduceCtorEq, ↓zR, zQ, Tr, StA, StT, hlt, hr']
    refine c_liMake w i u hmv.1 hmv.2.1 hmv.ne (by omega) ?_
    intro h2 hp2
    have p12 := p1.trans hp2
    have p3 := Pre.push h2 (AO.row [.str (madeB w i u)] 0 0 false)
    have p123 := p12.trans p3
    have hk3 := hk.pre p123
    have hf3 := p123.frg hcl
    have q3 : rdRow (h2 ++ [AO.row [.str (madeB w i u)] 0 0 false]) h.length 0 0 2 = some [.int .i64 i, .int .i64 u] := rdRow_pre (hp2.trans p3) (mvRow h i u).1
    have ng3 : ¬ gr c (h2 ++ [AO.row [.str (madeB w i u)] 0 0 false]) h.length := hk.fresh p123 (Nat.le_refl _)
    have hsl : SlcG 1 encS c (h2 ++ [AO.row [.str (madeB w i u)] 0 0 false]) (.slice h2.length 0 0 1 1) [madeB w i u] := ⟨slc1 h2 _, fun r hr => by cases hr; exact (hk.pre p12).fresh p3 (Nat.le_refl _)⟩
    simp (maxSteps := 1000000) (disch := first | omega | rfl | (simp only [zL, two63, room] <;> omega) | fail) only [↓reduceIte, ↓zP, zW, WOp, evOp, evBin, binI, binSh, binS, evNil, keyIs, keyEq, mkv, AV.cells, AV.sc, optv, bnd, env, put, Env.get, Env.set, Env.del, Env.dels, Env.init, res1, resL, resV, fillP, splice, newRow, Nat.reduceEqDiff, Nat.reduceLT, Nat.reduceLeDiff, Nat.reduceAdd, Nat.reduceMul, Nat.reduceSub, Nat.reduceBEq, reduceCtorEq, ↓zR, zQ, Tr, StA, StT]
    refine c_gaWin hN2 _ [madeB w i u] (!t) _ _ _ _ (Nat.lt_succ_self _) (by rw [← hN]; exact ok1_made hg hmv.1) hk3 hsl _ ?_
    intro h4 K4 hf4 hk4 _
    have hwl : winL [madeB w i u] (!t) = winB (madeB w i u) (!t) := winL_one _ _ _ (Nat.lt_succ_self _)
    have hf04 := hf3.trans hf4
    have ho4 := own_frK ho hn hf04
    have hn4 := hn.fr hf04 (fun r hr => own_lt ho hr)
    have q4 := rd_fr hf4 ng3 q3
    have hs4 := hs.fr hf04
    have hfB := hf.trans hf04
    rw [hwl]
    cases e : winB (madeB w i u) (!t)
    · have p5 := Pre.push h4 (AO.row [.int .i64 i, .int .i64 u] 0 0 false)
      obtain ⟨v', h5, ha, ho5, hn5, hk5, hle5, hfr5, hgr5⟩ := apGK hlM scM (ho4.pre p5) (Nat.le_trans hfB.1 p5.1) (fun r hr => by rw [gr_pre p5 hk4.lt]; exact hn4 r hr) (hk4.pre p5) (by omega) ((i : Int), (u : Int))
      simp (maxSteps := 1000000) (disch := first | omega | rfl | (simp only [zL, two63, room] <;> omega) | fail) only [↓reduceIte, ↓zP, zW, WOp, evOp, evBin, binI, binSh, binS, evNil, keyIs, keyEq, mkv, AV.cells, AV.sc, optv, bnd, env, put, Env.get, Env.set, Env.del, Env.dels, Env.init, res1, resL, resV, fillP, splice, newRow, Nat.reduceEqDiff, Nat.reduceLT, Nat.reduceLeDiff, Nat.reduceAdd, Nat.reduceMul, Nat.reduceSub, Nat.reduceBEq, reduceCtorEq, ↓zR, zQ, Tr, StA, StT, q4, ha, hw1, hw2]
      rw [w_loopn (c := lp449_0) rfl]
      simp (maxSteps := 1000000) (disch := first | omega | rfl | (simp only [zL, two63, room] <;> omega) | fail) only [↓reduceIte, ↓zP, zW, WOp, evOp, evBin, binI, binSh, binS, evNil, keyIs, keyEq, mkv, AV.cells, AV.sc, optv, bnd, env, put, Env.get, Env.set, Env.del, Env.dels, Env.init, res1, resL, resV, fillP, splice, newRow, Nat.reduceEqDiff, Nat.reduceLT, Nat.reduceLeDiff, Nat.reduceAdd, Nat.reduceMul, Nat.reduceSub, Nat.reduceBEq, reduceCtorEq, ↓zR, zQ, Tr, StA, StT]
      have hf5 : FrG c B h5 := (hfB.trans (p5.frg hk4.lt)).app hle5 (fun i hi _ => hfr5 i (Nat.lt_of_lt_of_le hi (Nat.le_trans hfB.1 p5.1)) (fun hr => by have := hrv _ hr; omega)) hgr5
      have hs5 : SlcG 2 encM c h5 (.slice r1 k1 o1 (mp.length + 1 + mr.length) 2) (movesB w (kindS t)) := by
        have h6 := hs4.fr (p5.frg hk4.lt)
        refine ⟨h6.1.stay fun r hr => ?_, fun r hr => by rw [hgr5]; exact h6.2 r hr⟩
        have h7 := hvm r hr
        exact hfr5 r (Nat.lt_of_lt_of_le h7 (Nat.le_trans hfB.1 p5.1)) (fun h8 => by have := hrv r h8; omega)
      refine ih (mp ++ [((i : Int), (u : Int))]) (out ++ [((i : Int), (u : Int))]) v' h5 K4 (by rw [hL]; simp) hk5 hf5 hs5 ho5 hn5 (fun r hr => own_ge ho5 hr) (by simp; omega) ?_
      intro v'' h' K' a1 a2 a3 a4
      refine hR v'' h' K' a1 a2 ?_ a4
      simp only [List.filter_cons, Int.toNat_natCast, e, Bool.not_false, if_true]
      simpa using a3
    · simp (maxSteps := 1000000) (disch := first | omega | rfl | (simp only [zL, two63, room] <;> omega) | fail) only [↓reduceIte, ↓zP, zW, WOp, evOp, evBin, binI, binSh, binS, evNil, keyIs, keyEq, mkv, AV.cells, AV.sc, optv, bnd, env, put, Env.get, Env.set, Env.del, Env.dels, Env.init, res1, resL, resV, fillP, splice, newRow, Nat.reduceEqDiff, Nat.reduceLT, Nat.reduceLeDiff, Nat.reduceAdd, Nat.reduceMul, Nat.reduceSub, Nat.reduceBEq, reduceCtorEq, ↓zR, zQ, Tr, StA, StT, hw1, hw2]
      rw [w_loopn (c := lp449_0) rfl]
      simp (maxSteps := 1000000) (disch := first | omega | rfl | (simp only [zL, two63, room] <;> omega) | fail) only [↓reduceIte, ↓zP, zW, WOp, evOp, evBin, binI, binSh, binS, evNil, keyIs, keyEq, mkv, AV.cells, AV.sc, optv, bnd, env, put, Env.get, Env.set, Env.del, Env.dels, Env.init, res1, resL, resV, fillP, splice, newRow, Nat.reduceEqDiff, Nat.reduceLT, Nat.reduceLeDiff, Nat.reduceAdd, Nat.reduceMul, Nat.reduceSub, Nat.reduceBEq, reduceCtorEq, ↓zR, zQ, Tr, StA, StT]
      refine ih (mp ++ [((i : Int), (u : Int))]) out v h4 K4 (by rw [hL]; simp) hk4 hfB hs4 ho4 hn4 hrv (by simp; omega) ?_
      intro v'' h' K' a1 a2 a3 a4
      refine hR v'' h' K' a1 a2 ?_ a4
      simp only [List.filter_cons, Int.toNat_natCast, e, Bool.not_true, Bool.false_eq_true, if_false]
      exact a3
theorem c_gaBest {N c : Nat} {w : List UInt8} {t : Bool} (hN : w.length + 2 = N) (hN2 : N ≤ 14) (hg : signs w) {h : AH} {K : List (List UInt8)} (hk : KN N c h K) {post : AV → AH → Prop}
    (hp : ∀ v' h' K', KN N c h' K' → FrG c h h' → Slc 2 encM h' v' (bestB w t) → NGk c h' v' → post v' h') : S 449 [.ptr c 0 0 2, .str w, .bool t] h post k := by
  have hlen := movesB_len w (kindS t)
  refine S_of rfl T449 ?_; unfold fi449
  simp (maxSteps := 1000000) (disch := first | omega | rfl | (simp only [zL, two63, room] <;> omega) | fail) only [↓reduceIte, ↓zP, zW, WOp, evOp, evBin, binI, binSh, binS, evNil, keyIs, keyEq, mkv, AV.cells, AV.sc, optv, bnd, env, put, Env.get, Env.set, Env.del, Env.dels, Env.init, res1, resL, resV, fillP, splice, newRow, Nat.reduceEqDiff, Nat.reduceLT, Nat.reduceLeDiff, Nat.reduceAdd, Nat.reduceMul, Nat.reduceSub, Nat.reduceBEq, reduceCtorEq, ↓zR, zQ, Tr, StA, StT]
  refine c_liMoves w hg (by omega) t (!t) ?_
  intro vm h2 ho2 hp2
  rw [liMovesB_eq, kindsS_not] at ho2
  have hsm := ho2.slcG hk hp2
  have hf2 := hp2.frg (c := c) hk.lt
  have lv := fun g => Slc.lenV (hsm.1) (g := g) (ρ := fun _ => _) (x := .t 0) rfl; simp only [evOp] at lv
  simp (maxSteps := 1000000) (disch := first | omega | rfl | (simp only [zL, two63, room] <;> omega) | fail) only [↓reduceIte, ↓zP, zW, WOp, evOp, evBin, binI, binSh, binS, evNil, keyIs, keyEq, mkv, AV.cells, AV.sc, optv, bnd, env, put, Env.get, Env.set, Env.del, Env.dels, Env.init, res1, resL, resV, fillP, splice, newRow, Nat.reduceEqDiff, Nat.reduceLT, Nat.reduceLeDiff, Nat.reduceAdd, Nat.reduceMul, Nat.reduceSub, Nat.reduceBEq, reduceCtorEq, ↓zR, zQ, Tr, StA, StT, lv]
  refine lp_gaBest hN hN2 hg (B := h2) (fun r hr => own_lt ho2 hr) (movesB w (kindS t)) [] [] .nilS h2 K rfl (hk.pre hp2) (FrG.refl _ _) hsm OwL.nil (fun r hr => by cases hr) (fun r hr => by cases hr) (by simp) ?_
  intro v' h' K' a1 a2 a3 a4
  simp (maxSteps := 1000000) (disch := first | omega | rfl | (simp only [zL, two63, room] <;> omega) | fail) only [↓reduceIte, ↓zP, zW, WOp, evOp, evBin, binI, binSh, binS, evNil, keyIs, keyEq, mkv, AV.cells, AV.sc, optv, bnd, env, put, Env.get, Env.set, Env.del, Env.dels, Env.init, res1, resL, resV, fillP, splice, newRow, Nat.reduceEqDiff, Nat.reduceLT, Nat.reduceLeDiff, Nat.reduceAdd, Nat.reduceMul, Nat.reduceSub, Nat.reduceBEq, reduceCtorEq, ↓zR, zQ, Tr, StA, StT]
  rw [List.nil_append] at a3
  exact hp v' h' K' a1 (hf2.trans a2) a3.slc a4
theorem kn_box (h : AH) : h ++ [AO.row [.nilS, .nilS] 0 0 false] = h ++ [AO.row ([.nilS, .nilS] : List AV) 0 0 false] := rfl
theorem ng_old {h : AH} {r : Nat} (hr : r < h.length) : ¬ gr h.length (h ++ [.row [.nilS, .nilS] 0 0 false]) r := by
  rintro (rfl | ⟨v1, v2, e1, e2⟩)
  · exact Nat.lt_irrefl _ hr
  · simp at e1
    obtain ⟨rfl, rfl⟩ := e1
    simp [rowOf] at e2
theorem pre_new {h h' : AH} (hf : FrG h.length (h ++ [.row [.nilS, .nilS] 0 0 false]) h') : Pre h h' := ⟨by have := hf.1; simp at this; omega, fun i hi => by rw [(hf.2 i (by simp; omega) (ng_old hi)).1, List.getElem?_append_left hi]⟩
theorem c_sWinsMoving (w : List UInt8) (t : Bool) (hw : w.length < 2 ^ 60) {h : AH} {post : AV → AH → Prop} (hp : ∀ h', Pre h h' → post (.tup [.bool (wnG w t), .bool (plG10 w)]) h') : S 416 [.str w, .bool t] h post k := by
  unfold wnG at hp
  refine S_of rfl T416 ?_; unfold fi416
  cases e : plG10 w <;> rw [e] at hp
  · simp (maxSteps := 1000000) (disch := first | omega | rfl | (simp only [zL, two63, room] <;> omega) | fail) only [↓reduceIte, ↓zP, zW, WOp, evOp, evBin, binI, binSh, binS, evNil, keyIs, keyEq, mkv, AV.cells, AV.sc, optv, bnd, env, put, Env.get, Env.set, Env.del, Env.dels, Env.init, res1, resL, resV, fillP, splice, newRow, Nat.reduceEqDiff, Nat.reduceLT, Nat.reduceLeDiff, Nat.reduceAdd, Nat.reduceMul, Nat.reduceSub, Nat.reduceBEq, reduceCtorEq, ↓zR, zQ, Tr, StA, StT, e_gaFew w hw, e]
    exact hp h (Pre.refl h)
  · obtain ⟨h1, h2, h3⟩ := pl10 e
    have hk0 : KN (w.length + 2) h.length (h ++ [.row [.nilS, .nilS] 0 0 false]) [] := KN.new
    have p1 := Pre.push (h ++ [AO.row [.nilS, .nilS] 0 0 false]) (AO.row [.str w] 0 0 false)
    simp (maxSteps := 1000000) (disch := first | omega | rfl | (simp only [zL, two63, room] <;> omega) | fail) only [↓reduceIte, ↓zP, zW, WOp, evOp, evBin, binI, binSh, binS, evNil, keyIs, keyEq, mkv, AV.cells, AV.sc, optv, bnd, env, put, Env.get, Env.set, Env.del, Env.dels, Env.init, res1, resL, resV, fillP, splice, newRow, Nat.reduceEqDiff, Nat.reduceLT, Nat.reduceLeDiff, Nat.reduceAdd, Nat.reduceMul, Nat.reduceSub, Nat.reduceBEq, reduceCtorEq, ↓zR, zQ, Tr, StA, StT, e_gaFew w hw, e]
    refine c_gaWin (N := w.length + 2) (by omega) _ [w] t _ _ _ _ (Nat.lt_succ_self _) (ok1 t h3) (hk0.pre p1) ⟨slc1 _ _, fun r hr => by cases hr; exact hk0.fresh p1 (by simp)⟩ _ ?_
    intro h4 K4 hf4 _ _
    have hwl : winL [w] t = winB w t := winL_one _ _ _ (Nat.lt_succ_self _)
    rw [hwl]
    simp (maxSteps := 1000000) (disch := first | omega | rfl | (simp only [zL, two63, room] <;> omega) | fail) only [↓reduceIte, ↓zP, zW, WOp, evOp, evBin, binI, binSh, binS, evNil, keyIs, keyEq, mkv, AV.cells, AV.sc, optv, bnd, env, put, Env.get, Env.set, Env.del, Env.dels, Env.init, res1, resL, resV, fillP, splice, newRow, Nat.reduceEqDiff, Nat.reduceLT, Nat.reduceLeDiff, Nat.reduceAdd, Nat.reduceMul, Nat.reduceSub, Nat.reduceBEq, reduceCtorEq, ↓zR, zQ, Tr, StA, StT]
    exact hp h4 (pre_new ((p1.frg hk0.lt).trans hf4))
theorem c_sBestMoves (w : List UInt8) (t : Bool) (hw : w.length < 2 ^ 60) {h : AH} {post : AV → AH → Prop} (hp : ∀ v h', Slc 2 encM h' v (bmG w t) → Pre h h' → post (.tup [v, .bool (plG10 w)]) h') : S 418 [.str w, .bool t] h post k := by
  unfold bmG at hp
  refine S_of rfl T418 ?_; unfold fi418
  cases e : plG10 w <;> rw [e] at hp
  · simp (maxSteps := 1000000) (disch := first | omega | rfl | (simp only [zL, two63, room] <;> omega) | fail) only [↓reduceIte, ↓zP, zW, WOp, evOp, evBin, binI, binSh, binS, evNil, keyIs, keyEq, mkv, AV.cells, AV.sc, optv, bnd, env, put, Env.get, Env.set, Env.del, Env.dels, Env.init, res1, resL, resV, fillP, splice, newRow, Nat.reduceEqDiff, Nat.reduceLT, Nat.reduceLeDiff, Nat.reduceAdd, Nat.reduceMul, Nat.reduceSub, Nat.reduceBEq, reduceCtorEq, ↓zR, zQ, Tr, StA, StT, e_gaFew w hw, e]
    exact hp _ h Slc.nil (Pre.refl h)
  · obtain ⟨h1, h2, h3⟩ := pl10 e
    simp (maxSteps := 1000000) (disch := first | omega | rfl | (simp only [zL, two63, room] <;> omega) | fail) only [↓reduceIte, ↓zP, zW, WOp, evOp, evBin, binI, binSh, binS, evNil, keyIs, keyEq, mkv, AV.cells, AV.sc, optv, bnd, env, put, Env.get, Env.set, Env.del, Env.dels, Env.init, res1, resL, resV, fillP, splice, newRow, Nat.reduceEqDiff, Nat.reduceLT, Nat.reduceLeDiff, Nat.reduceAdd, Nat.reduceMul, Nat.reduceSub, Nat.reduceBEq, reduceCtorEq, ↓zR, zQ, Tr, StA, StT, e_gaFew w hw, e]
    refine c_gaBest (N := w.length + 2) rfl (by omega) h3 KN.new ?_
    intro v h4 K4 _ hf4 hs4 _
    simp (maxSteps := 1000000) (disch := first | omega | rfl | (simp only [zL, two63, room] <;> omega) | fail) only [↓reduceIte, ↓zP, zW, WOp, evOp, evBin, binI, binSh, binS, evNil, keyIs, keyEq, mkv, AV.cells, AV.sc, optv, bnd, env, put, Env.get, Env.set, Env.del, Env.dels, Env.init, res1, resL, resV, fillP, splice, newRow, Nat.reduceEqDiff, Nat.reduceLT, Nat.reduceLeDiff, Nat.reduceAdd, Nat.reduceMul, Nat.reduceSub, Nat.reduceBEq, reduceCtorEq, ↓zR, zQ, Tr, StA, StT]
    exact hp v h4 hs4 (pre_new hf4)
theorem frg_set {c : Nat} {h h' : AH} {o : AO} {i : Nat} (hf : FrG c h h') (hi : h.length ≤ i) (hc : c < h.length) : FrG c h (h'.set i o) :=
  hf.app (by simp) (fun j hj _ => by rw [List.getElem?_set, if_neg (by omega)]) (gr_keepK (by rw [List.getElem?_set, if_neg (by omega)]))
theorem c_gaMove {N c : Nat} {w : List UInt8} {t : Bool} (hN : w.length + 2 = N) (hN2 : N ≤ 14) (hg : signs w) {h : AH} {K : List (List UInt8)} (hk : KN N c h K) {post : AV → AH → Prop}
    (hp : ∀ h' K', KN N c h' K' → FrG c h h' → post (.tup [.agg (encM (gmP (gmB w t))), .bool (gmB w t).isSome]) h') : S 451 [.ptr c 0 0 2, .str w, .bool t] h post k := by
  have p1 := Pre.push h (AO.row [.int .i64 0, .int .i64 0] 0 0 false)
  have hcl := hk.lt
  have hlen := movesB_len w (kindS t)
  have hbb : (bestB w t).length ≤ w.length := Nat.le_trans (List.length_filter_le _ _) hlen
  have ngp : ¬ gr c (h ++ [AO.row [.int .i64 0, .int .i64 0] 0 0 false]) h.length := hk.fresh p1 (Nat.le_refl _)
  have hrow0 : (h ++ [AO.row [.int .i64 0, .int .i64 0] 0 0 false])[h.length]? = some (.row [.int .i64 0, .int .i64 0] 0 0 false) := by simp
  have fin : ∀ (h' : AH) (K' : List (List UInt8)) (m : Int × Int), KN N c h' K' → FrG c (h ++ [AO.row [.int .i64 0, .int .i64 0] 0 0 false]) h' → wrRow h' h.length 0 0 [.int .i64 m.1, .int .i64 m.2] = some (h'.set h.length (.row [.int .i64 m.1, .int .i64 m.2] 0 0 false)) ∧
      rdRow (h'.set h.length (.row [.int .i64 m.1, .int .i64 m.2] 0 0 false)) h.length 0 0 2 = some [.int .i64 m.1, .int .i64 m.2] ∧ KN N c (h'.set h.length (.row [.int .i64 m.1, .int .i64 m.2] 0 0 false)) K' ∧ FrG c h (h'.set h.length (.row [.int .i64 m.1, .int .i64 m.2] 0 0 false)) := by
    intro h' K' m hk' hf'
    have hl : h.length < (h ++ [AO.row [.int .i64 0, .int .i64 0] 0 0 false]).length := by simp
    obtain ⟨e1, e2⟩ := hf'.2 h.length hl ngp
    rw [hrow0] at e1
    have hlt := (List.getElem?_eq_some_iff.1 e1).1
    refine ⟨by simp [wrRow, e1, splice, AV.sc], ?_, hk'.keep fun i hi => ?_, frg_set ((p1.frg hcl).trans hf') (Nat.le_refl _) hcl⟩
    · unfold rdRow
      rw [List.getElem?_set, if_pos rfl, if_pos hlt]; simp
    · rw [List.getElem?_set, if_neg]
      rintro rfl
      exact e2 hi
  refine S_of rfl T451 ?_; unfold fi451
  simp (maxSteps := 1000000) (disch := first | omega | rfl | (simp only [zL, two63, room] <;> omega) | fail) only [↓reduceIte, ↓zP, zW, WOp, evOp, evBin, binI, binSh, binS, evNil, keyIs, keyEq, mkv, AV.cells, AV.sc, optv, bnd, env, put, Env.get, Env.set, Env.del, Env.dels, Env.init, res1, resL, resV, fillP, splice, newRow, Nat.reduceEqDiff, Nat.reduceLT, Nat.reduceLeDiff, Nat.reduceAdd, Nat.reduceMul, Nat.reduceSub, Nat.reduceBEq, reduceCtorEq, ↓zR, zQ, Tr, StA, StT]
  refine c_gaBest hN hN2 hg (hk.pre p1) ?_
  intro v2 h2 K2 hk2 hf2 hs2 hn2
  have hgm : gmB w t = (bestB w t ++ movesB w (kindS t)).head? := rfl
  have l2 := fun g => Slc.lenV (hs2) (g := g) (ρ := fun _ => _) (x := .t 0) rfl; simp only [evOp] at l2
  cases hb : bestB w t with
  | cons m rest =>
    rw [hb] at hs2 l2
    obtain ⟨c4, kk4, off4, rfl, hr4⟩ := Slc.at hlM (pre := []) hs2
    have z0 : ((((m :: rest : List (Int × Int)).length : Nat) : Int) > 0) := by simp
    have z1 : (0 : Int) < (((m :: rest : List (Int × Int)).length : Nat) : Int) := by simp
    have z2 : (0 : Int).toNat * 2 = 0 := rfl
    have hr4' : rdRow h2 c4 kk4 off4 2 = some [.int .i64 m.1, .int .i64 m.2] := by simpa using hr4
    obtain ⟨k1, k2, k3, k4⟩ := fin h2 K2 m hk2 hf2
    have e : gmB w t = some m := by rw [hgm, hb]; rfl
    rw [e] at hp
    simp only [gmP, Option.isSome_some] at hp
    simp (maxSteps := 1000000) (disch := first | omega | rfl | (simp only [zL, two63, room] <;> omega) | fail) only [↓reduceIte, ↓zP, zW, WOp, evOp, evBin, binI, binSh, binS, evNil, keyIs, keyEq, mkv, AV.cells, AV.sc, optv, bnd, env, put, Env.get, Env.set, Env.del, Env.dels, Env.init, res1, resL, resV, fillP, splice, newRow, Nat.reduceEqDiff, Nat.reduceLT, Nat.reduceLeDiff, Nat.reduceAdd, Nat.reduceMul, Nat.reduceSub, Nat.reduceBEq, reduceCtorEq, ↓zR, zQ, Tr, StA, StT, l2, z0, z1, z2, Nat.add_zero, hr4', k1, k2]
    exact hp _ K2 k3 k4
  | nil =>
    rw [hb] at l2 hgm
    have z0 : ¬ ((((([] : List (Int × Int)).length : Nat) : Int)) > 0) := by simp
    simp (maxSteps := 1000000) (disch := first | omega | rfl | (simp only [zL, two63, room] <;> omega) | fail) only [↓reduceIte, ↓zP, zW, WOp, evOp, evBin, binI, binSh, binS, evNil, keyIs, keyEq, mkv, AV.cells, AV.sc, optv, bnd, env, put, Env.get, Env.set, Env.del, Env.dels, Env.init, res1, resL, resV, fillP, splice, newRow, Nat.reduceEqDiff, Nat.reduceLT, Nat.reduceLeDiff, Nat.reduceAdd, Nat.reduceMul, Nat.reduceSub, Nat.reduceBEq, reduceCtorEq, ↓zR, zQ, Tr, StA, StT, l2, z0]
    refine c_liMoves w hg (by omega) t (!t) ?_
    intro v3 h3 ho3 hp3
    rw [liMovesB_eq, kindsS_not] at ho3
    have hk3 := hk2.pre hp3
    have hf3 := hf2.trans (hp3.frg hk2.lt)
    have hs3 := ho3.slc
    have l3 := fun g => Slc.lenV (hs3) (g := g) (ρ := fun _ => _) (x := .t 0) rfl; simp only [evOp] at l3
    cases hm : movesB w (kindS t) with
    | cons m rest =>
      rw [hm] at hs3 l3
      obtain ⟨c4, kk4, off4, rfl, hr4⟩ := Slc.at hlM (pre := []) hs3
      have z0 : ((((m :: rest : List (Int × Int)).length : Nat) : Int) > 0) := by simp
      have z1 : (0 : Int) < (((m :: rest : List (Int × Int)).length : Nat) : Int) := by simp
      have z2 : (0 : Int).toNat * 2 = 0 := rfl
      have hr4' : rdRow h3 c4 kk4 off4 2 = some [.int .i64 m.1, .int .i64 m.2] := by simpa using hr4
      obtain ⟨k1, k2, k3, k4⟩ := fin h3 K2 m hk3 hf3
      have e : gmB w t = some m := by rw [hgm, hm]; rfl
      rw [e] at hp
      simp only [gmP, Option.isSome_some] at hp
      simp (maxSteps := 1000000) (disch := first | omega | rfl | (simp only [zL, two63, room] <;> omega) | fail) only [↓reduceIte, ↓zP, zW, WOp, evOp, evBin, binI, binSh, binS, evNil, keyIs, keyEq, mkv, AV.cells, AV.sc, optv, bnd, env, put, Env.get, Env.set, Env.del, Env.dels, Env.init, res1, resL, resV, fillP, splice, newRow, Nat.reduceEqDiff, Nat.reduceLT, Nat.reduceLeDiff, Nat.reduceAdd, Nat.reduceMul, Nat.reduceSub, Nat.reduceBEq, reduceCtorEq, ↓zR, zQ, Tr, StA, StT, l3, z0, z1, z2, Nat.add_zero, hr4', k1, k2]
      exact hp _ K2 k3 k4
    | nil =>
      rw [hm] at l3
      obtain ⟨k1, k2, k3, k4⟩ := fin h3 K2 (0, 0) hk3 hf3
      have e : gmB w t = none := by rw [hgm, hm]; rfl
      rw [e] at hp
      simp only [gmP, Option.isSome_none] at hp
      simp (maxSteps := 1000000) (disch := first | omega | rfl | (simp only [zL, two63, room] <;> omega) | fail) only [↓reduceIte, ↓zP, zW, WOp, evOp, evBin, binI, binSh, binS, evNil, keyIs, keyEq, mkv, AV.cells, AV.sc, optv, bnd, env, put, Env.get, Env.set, Env.del, Env.dels, Env.init, res1, resL, resV, fillP, splice, newRow, Nat.reduceEqDiff, Nat.reduceLT, Nat.reduceLeDiff, Nat.reduceAdd, Nat.reduceMul, Nat.reduceSub, Nat.reduceBEq, reduceCtorEq, ↓zR, zQ, Tr, StA, StT, l3, z0, k1, k2]
      exact hp _ K2 k3 k4
theorem c_sGameMove (w : List UInt8) (t : Bool) (hw : w.length < 2 ^ 60) {h : AH} {post : AV → AH → Prop} (hp : ∀ h', Pre h h' → post (.tup [.agg (encM (gmP (mvG10 w t))), .bool (mvG10 w t).isSome]) h') : S 420 [.str w, .bool t] h post k := by
  unfold mvG10 at hp
  refine S_of rfl T420 ?_; unfold fi420
  cases e : plG10 w <;> rw [e] at hp
  · simp (maxSteps := 1000000) (disch := first | omega | rfl | (simp only [zL, two63, room] <;> omega) | fail) only [↓reduceIte, ↓zP, zW, WOp, evOp, evBin, binI, binSh, binS, evNil, keyIs, keyEq, mkv, AV.cells, AV.sc, optv, bnd, env, put, Env.get, Env.set, Env.del, Env.dels, Env.init, res1, resL, resV, fillP, splice, newRow, Nat.reduceEqDiff, Nat.reduceLT, Nat.reduceLeDiff, Nat.reduceAdd, Nat.reduceMul, Nat.reduceSub, Nat.reduceBEq, reduceCtorEq, ↓zR, zQ, Tr, StA, StT, e_gaFew w hw, e]
    exact hp _ (Pre.push _ _)
  · obtain ⟨h1, h2, h3⟩ := pl10 e
    have hl1 : (h ++ [AO.row [.int .i64 0, .int .i64 0] 0 0 false]).length = h.length + 1 := by simp
    simp (maxSteps := 1000000) (disch := first | omega | rfl | (simp only [zL, two63, room] <;> omega) | fail) only [↓reduceIte, ↓zP, zW, WOp, evOp, evBin, binI, binSh, binS, evNil, keyIs, keyEq, mkv, AV.cells, AV.sc, optv, bnd, env, put, Env.get, Env.set, Env.del, Env.dels, Env.init, res1, resL, resV, fillP, splice, newRow, Nat.reduceEqDiff, Nat.reduceLT, Nat.reduceLeDiff, Nat.reduceAdd, Nat.reduceMul, Nat.reduceSub, Nat.reduceBEq, reduceCtorEq, ↓zR, zQ, Tr, StA, StT, e_gaFew w hw, e]
    refine c_gaMove (N := w.length + 2) rfl (by omega) h3 KN.new ?_
    intro h4 K4 _ hf4
    obtain ⟨r1, r2, r3⟩ := wr_res (pre_new hf4) (gmP (gmB w t)).1 (gmP (gmB w t)).2
    simp (maxSteps := 1000000) (disch := first | omega | rfl | (simp only [zL, two63, room] <;> omega) | fail) only [↓reduceIte, ↓zP, zW, WOp, evOp, evBin, binI, binSh, binS, evNil, keyIs, keyEq, mkv, AV.cells, AV.sc, optv, bnd, env, put, Env.get, Env.set, Env.del, Env.dels, Env.init, res1, resL, resV, fillP, splice, newRow, Nat.reduceEqDiff, Nat.reduceLT, Nat.reduceLeDiff, Nat.reduceAdd, Nat.reduceMul, Nat.reduceSub, Nat.reduceBEq, reduceCtorEq, ↓zR, zQ, Tr, StA, StT, r1, r2]
    exact hp _ r3
theorem lp_sgplay {N c : Nat} (hN2 : N ≤ 14) {B : AH} (hcB : c < B.length) {R : X → Env → AH → Prop} : ∀ (n : Nat) (w : List UInt8) (t : Bool) (v : AV) (out : List (Int × Int)) (h : AH) (K : List (List UInt8)), mu w < n → w.length + 2 = N → signs w → out.length + n ≤ 2 ^ 30 → KN N c h K → FrG c B h → OwL 2 encM B h v out → NGk c h v → (∀ r, rowOf v = some r → B.length ≤ r) →
    (∀ v' h', OwL 2 encM B h' v' (out ++ plyB w t) → FrG c B h' → R .ret [(4, v'), (5, .bool true)] h') →
    Cx (.loop lp422_0) [(0, .str w), (1, .bool t), (6, .ptr c 0 0 2), (7, v)] h R k k
  | 0, _, _, _, _, _, _, hn, _, _, _, _, _, _, _, _, _ => by omega
  | n + 1, w, t, v, out, h, K, hn, hN, hg, ho, hk, hf, hv, hng, hrv, hR => by
    have ih := lp_sgplay hN2 hcB (R := R) n
    rw [w_loopb (c := lp422_0) (d := lb422_0) rfl]; unfold lb422_0
    simp (maxSteps := 1000000) (disch := first | omega | rfl | (simp only [zL, two63, room] <;> omega) | fail) only [↓reduceIte, ↓zP, zW, WOp, evOp, evBin, binI, binSh, binS, evNil, keyIs, keyEq, mkv, AV.cells, AV.sc, optv, bnd, env, put, Env.get, Env.set, Env.del, Env.dels, Env.init, res1, resL, resV, fillP, splice, newRow, Nat.reduceEqDiff, Nat.reduceLT, Nat.reduceLeDiff, Nat.reduceAdd, Nat.reduceMul, Nat.reduceSub, Nat.reduceBEq, reduceCtorEq, ↓zR, zQ, Tr, StA, StT]
    refine c_gaMove hN hN2 hg hk ?_
    intro h2 K2 hk2 hf2
    have hf02 := hf.trans hf2
    have hv2 := own_frK hv hng hf2
    have hn2 := hng.fr hf2 (fun r hr => own_lt hv hr)
    cases e : gmB w t with
    | none =>
      simp only [gmP, Option.isSome_none]
      simp (maxSteps := 1000000) (disch := first | omega | rfl | (simp only [zL, two63, room] <;> omega) | fail) only [↓reduceIte, ↓zP, zW, WOp, evOp, evBin, binI, binSh, binS, evNil, keyIs, keyEq, mkv, AV.cells, AV.sc, optv, bnd, env, put, Env.get, Env.set, Env.del, Env.dels, Env.init, res1, resL, resV, fillP, splice, newRow, Nat.reduceEqDiff, Nat.reduceLT, Nat.reduceLeDiff, Nat.reduceAdd, Nat.reduceMul, Nat.reduceSub, Nat.reduceBEq, reduceCtorEq, ↓zR, zQ, Tr, StA, StT]
      refine hR v _ ?_ (hf02.trans ((Pre.push _ _).frg hk2.lt))
      rw [plyB_none e, List.append_nil]
      exact hv2.pre (Pre.push _ _)
    | some m =>
      have hmm := gmB_mem e
      obtain ⟨i, u, rfl, hmv⟩ := movesB_mv hmm
      have pu := (Pre.push h2 (AO.row [.int .i64 i, .int .i64 u] 0 0 false)).trans (Pre.push _ (AO.row [.int .i64 i, .int .i64 u] 0 0 false))
      obtain ⟨v3, h3, ha, hv3, hn3, hk3, hle3, hfr3, hgr3⟩ := apGK hlM scM (hv2.pre pu) (Nat.le_trans hf02.1 pu.1) (fun r hr => by rw [gr_pre pu hk2.lt]; exact hn2 r hr) (hk2.pre pu) (by omega) ((i : Int), (u : Int))
      have hrow : rowOf v ≠ some h2.length := by
        intro hr
        have := own_lt hv2 hr
        omega
      have q3 : rdRow h3 h2.length 0 0 2 = some [.int .i64 i, .int .i64 u] := by
        refine rd_row (hfr3 h2.length (by simp) hrow) ?_
        exact rd_app1 (mvRow h2 i u).1
      simp only [gmP, Option.isSome_some]
      simp (maxSteps := 1000000) (disch := first | omega | rfl | (simp only [zL, two63, room] <;> omega) | fail) only [↓reduceIte, ↓zP, zW, WOp, evOp, evBin, binI, binSh, binS, evNil, keyIs, keyEq, mkv, AV.cells, AV.sc, optv, bnd, env, put, Env.get, Env.set, Env.del, Env.dels, Env.init, res1, resL, resV, fillP, splice, newRow, Nat.reduceEqDiff, Nat.reduceLT, Nat.reduceLeDiff, Nat.reduceAdd, Nat.reduceMul, Nat.reduceSub, Nat.reduceBEq, reduceCtorEq, ↓zR, zQ, Tr, StA, StT, ha, q3]
      refine c_liMake w i u hmv.1 hmv.2.1 hmv.ne (by omega) ?_
      intro h4 hp4
      simp (maxSteps := 1000000) (disch := first | omega | rfl | (simp only [zL, two63, room] <;> omega) | fail) only [↓reduceIte, ↓zP, zW, WOp, evOp, evBin, binI, binSh, binS, evNil, keyIs, keyEq, mkv, AV.cells, AV.sc, optv, bnd, env, put, Env.get, Env.set, Env.del, Env.dels, Env.init, res1, resL, resV, fillP, splice, newRow, Nat.reduceEqDiff, Nat.reduceLT, Nat.reduceLeDiff, Nat.reduceAdd, Nat.reduceMul, Nat.reduceSub, Nat.reduceBEq, reduceCtorEq, ↓zR, zQ, Tr, StA, StT]
      rw [w_loopn (c := lp422_0) rfl]
      simp (maxSteps := 1000000) (disch := first | omega | rfl | (simp only [zL, two63, room] <;> omega) | fail) only [↓reduceIte, ↓zP, zW, WOp, evOp, evBin, binI, binSh, binS, evNil, keyIs, keyEq, mkv, AV.cells, AV.sc, optv, bnd, env, put, Env.get, Env.set, Env.del, Env.dels, Env.init, res1, resL, resV, fillP, splice, newRow, Nat.reduceEqDiff, Nat.reduceLT, Nat.reduceLeDiff, Nat.reduceAdd, Nat.reduceMul, Nat.reduceSub, Nat.reduceBEq, reduceCtorEq, ↓zR, zQ, Tr, StA, StT]
      have hf3 : FrG c B h3 := (hf02.trans (pu.frg hk2.lt)).app hle3 (fun i hi _ => hfr3 i (Nat.lt_of_lt_of_le hi (Nat.le_trans hf02.1 pu.1)) (fun hr => by have := hrv _ hr; omega)) hgr3
      refine ih (madeB w i u) (!t) v3 (out ++ [((i : Int), (u : Int))]) h4 K2 (by have := mu_made hmv; omega) (by rw [madeB_length]; exact hN) (signs_madeG hg hmv.1) (by simp; omega) (hk3.pre hp4) (hf3.trans (hp4.frg hk3.lt)) (hv3.pre hp4) (fun r hr => by rw [gr_pre hp4 hk3.lt]; exact hn3 r hr) (fun r hr => own_ge hv3 hr) ?_
      intro v' h' a1 a2
      refine hR v' h' ?_ a2
      rw [plyB_some e]
      simpa using a1
theorem c_sGamePlay (w : List UInt8) (t : Bool) (hw : w.length < 2 ^ 60) {h : AH} {post : AV → AH → Prop} (hp : ∀ v h', Slc 2 encM h' v (gpG w t) → Pre h h' → post (.tup [v, .bool (plG10 w)]) h') : S 422 [.str w, .bool t] h post k := by
  unfold gpG at hp
  refine S_of rfl T422 ?_; unfold fi422
  cases e : plG10 w <;> rw [e] at hp
  · simp (maxSteps := 1000000) (disch := first | omega | rfl | (simp only [zL, two63, room] <;> omega) | fail) only [↓reduceIte, ↓zP, zW, WOp, evOp, evBin, binI, binSh, binS, evNil, keyIs, keyEq, mkv, AV.cells, AV.sc, optv, bnd, env, put, Env.get, Env.set, Env.del, Env.dels, Env.init, res1, resL, resV, fillP, splice, newRow, Nat.reduceEqDiff, Nat.reduceLT, Nat.reduceLeDiff, Nat.reduceAdd, Nat.reduceMul, Nat.reduceSub, Nat.reduceBEq, reduceCtorEq, ↓zR, zQ, Tr, StA, StT, e_gaFew w hw, e]
    exact hp _ h Slc.nil (Pre.refl h)
  · obtain ⟨h1, h2, h3⟩ := pl10 e
    have hmu := mu_leG w
    have hmm : w.length * w.length ≤ 10 * 10 := Nat.mul_le_mul h2 h2
    simp (maxSteps := 1000000) (disch := first | omega | rfl | (simp only [zL, two63, room] <;> omega) | fail) only [↓reduceIte, ↓zP, zW, WOp, evOp, evBin, binI, binSh, binS, evNil, keyIs, keyEq, mkv, AV.cells, AV.sc, optv, bnd, env, put, Env.get, Env.set, Env.del, Env.dels, Env.init, res1, resL, resV, fillP, splice, newRow, Nat.reduceEqDiff, Nat.reduceLT, Nat.reduceLeDiff, Nat.reduceAdd, Nat.reduceMul, Nat.reduceSub, Nat.reduceBEq, reduceCtorEq, ↓zR, zQ, Tr, StA, StT, e_gaFew w hw, e]
    refine lp_sgplay (N := w.length + 2) (by omega) (c := h.length) (B := h ++ [AO.row [.nilS, .nilS] 0 0 false]) (by simp) (mu w + 1) w t .nilS [] _ [] (by omega) rfl h3 (by simp; omega) KN.new (FrG.refl _ _) OwL.nil (fun r hr => by cases hr) (fun r hr => by cases hr) ?_
    intro v h3 ho3 hf3
    simp (maxSteps := 1000000) (disch := first | omega | rfl | (simp only [zL, two63, room] <;> omega) | fail) only [↓reduceIte, ↓zP, zW, WOp, evOp, evBin, binI, binSh, binS, evNil, keyIs, keyEq, mkv, AV.cells, AV.sc, optv, bnd, env, put, Env.get, Env.set, Env.del, Env.dels, Env.init, res1, resL, resV, fillP, splice, newRow, Nat.reduceEqDiff, Nat.reduceLT, Nat.reduceLeDiff, Nat.reduceAdd, Nat.reduceMul, Nat.reduceSub, Nat.reduceBEq, reduceCtorEq, ↓zR, zQ, Tr, StA, StT]
    rw [List.nil_append] at ho3
    exact hp v h3 ho3.slc (pre_new hf3)
end Go.Proofs.YtejhhdpfndiliaaGreatDoor.Ab

/- LENGTHS of games, the program's. -/
namespace Go.Proofs.YtejhhdpfndiliaaGreatDoor.Ab
open Go
set_option maxRecDepth 100000
set_option maxHeartbeats 4000000

theorem loF_snoc (l : List Nat) (y : Nat) : loF (l ++ [y]) = max (loF l) (y + 1) := by unfold loF; rw [List.foldl_append]; rfl
theorem shF_snoc {l : List Nat} (h : l ≠ []) (y : Nat) : shF (l ++ [y]) = min (shF l) (y + 1) := by
  cases l with
  | nil => exact absurd rfl h
  | cons x l => simp only [shF, List.cons_append, List.foldl_append, List.foldl_cons, List.foldl_nil]
theorem lo_le : ∀ (n : Nat) (w : List UInt8) (t : Bool), mu w < n → (lnB w t).1 ≤ mu w
  | 0, _, _, h => by omega
  | n + 1, w, t, h => by
    rw [lnB_eq w t]
    simp only [lnSt, List.map_map]
    have key : ∀ (l : List Nat) (a M : Nat), a ≤ M → (∀ y ∈ l, y + 1 ≤ M) → l.foldl (fun a y => max a (y + 1)) a ≤ M := by
      intro l
      induction l with
      | nil => intro a M ha _; exact ha
      | cons y l ih =>
        intro a M ha hl
        simp only [List.foldl_cons]
        have := hl y (by simp)
        exact ih _ M (by omega) (fun z hz => hl z (by simp [hz]))
    refine key _ 0 _ (by omega) ?_
    intro y hy
    obtain ⟨m, hm, rfl⟩ := List.mem_map.1 hy
    have h1 := mvm hm
    have h2 := lo_le n (madeB w m.1.toNat m.2.toNat) (!t) (by omega)
    simp only [Function.comp_apply]
    omega
def ln1 (w : List UInt8) (t : Bool) (m : Int × Int) : Nat := (lnB (madeB w m.1.toNat m.2.toNat) (!t)).1
def ln2 (w : List UInt8) (t : Bool) (m : Int × Int) : Nat := (lnB (madeB w m.1.toNat m.2.toNat) (!t)).2.1
def ln3 (w : List UInt8) (t : Bool) (m : Int × Int) : Nat := (lnB (madeB w m.1.toNat m.2.toNat) (!t)).2.2
/-- What is reckoned of so many moves. -/
def acL (w : List UInt8) (t : Bool) (l : List (Int × Int)) : Nat := loF (l.map (ln1 w t))
def acS (w : List UInt8) (t : Bool) (l : List (Int × Int)) : Nat := shF (l.map (ln2 w t))
def acM (w : List UInt8) (t : Bool) (l : List (Int × Int)) : Nat := (l.map (ln3 w t)).sum
theorem ac_all (w : List UInt8) (t : Bool) : (lnB w t).1 = acL w t (movesB w (kindS t)) ∧ (lnB w t).2.1 = acS w t (movesB w (kindS t)) ∧ (lnB w t).2.2 = if movesB w (kindS t) = [] then 1 else acM w t (movesB w (kindS t)) := by
  rw [lnB_eq w t]
  simp only [lnSt, List.map_map, List.map_eq_nil_iff]
  exact ⟨rfl, rfl, rfl⟩
theorem acM_le {w : List UInt8} {t : Bool} {pre rest : List (Int × Int)} (h : movesB w (kindS t) = pre ++ rest) (hg : signs w) (hl : w.length ≤ 10) : acM w t pre < 2 ^ 60 := by
  have h1 := (games_lt t hg hl).2
  rw [(ac_all w t).2.2] at h1
  have h2 : acM w t (movesB w (kindS t)) = acM w t pre + acM w t rest := by unfold acM; rw [h, List.map_append, List.sum_append]
  split at h1
  · rename_i h0
    rw [h] at h0
    have := (List.append_eq_nil_iff.1 h0).1
    subst this
    simp [acM]
  · omega
theorem ln_few {w : List UInt8} {t : Bool} {m : Int × Int} (hm : m ∈ movesB w (kindS t)) (hl : w.length ≤ 10) : ln1 w t m < 1000 ∧ ln2 w t m < 1000 := by
  obtain ⟨i, u, rfl, hmv⟩ := movesB_mv hm
  have h1 := mu_leG (madeB w i u)
  rw [madeB_length] at h1
  have h2 : w.length * w.length ≤ 10 * 10 := Nat.mul_le_mul hl hl
  have h3 := lo_le _ (madeB w i u) (!t) (Nat.lt_succ_self _)
  have h4 := sh_lo (madeB w i u) (!t)
  unfold ln1 ln2
  simp only [Int.toNat_natCast]
  omega
def lenV (s : List UInt8 × Bool) : AV := .agg [.int .i64 (lnB s.1 s.2).1, .int .i64 (lnB s.1 s.2).2.1, .int .i64 (lnB s.1 s.2).2.2]
theorem lenK_inj (s s' : List UInt8 × Bool) (h : winK s = winK s') : lenV s = lenV s' := by
  obtain ⟨w, t⟩ := s
  obtain ⟨w', t'⟩ := s'
  cases t <;> cases t' <;> simp [winK, kindS] at h ⊢ <;> subst h <;> rfl
def LenAt (c a b : Nat) (n : Nat) : Prop := ∀ (w : List UInt8) (t : Bool) (h : AH), mu w < n → signs w → w.length ≤ 10 → Mh winK lenV c h → rdRow h a 0 0 1 = some [.map c] → rdRow h b 0 0 1 = some [.fn 457 [.ptr a 0 0 1, .ptr b 0 0 1]] → ∀ post : AV → AH → Prop, (∀ h', PreX c h h' → Mh winK lenV c h' → post (lenV (w, t)) h') →
  S 457 [.str w, .bool t, .ptr a 0 0 1, .ptr b 0 0 1] h post k
theorem mmx_max (a b : Nat) : (if ((b : Nat) : Int) > (a : Int) then ((b : Nat) : Int) else (a : Int)) = ((max a b : Nat) : Int) := by
  split <;> omega
theorem mmx_min (a b : Nat) : (if ((b : Nat) : Int) < (a : Int) then ((b : Nat) : Int) else (a : Int)) = ((min a b : Nat) : Int) := by
  split <;> omega
theorem out3 {H : AH} {p : Nat} {x0 y0 z0 : AV} (h : H[p]? = some (.row [x0, y0, z0] 0 0 false)) : (∀ o, (H.set p o)[p]? = some o) ∧ rdRow H p 0 0 1 = some [x0] ∧ rdRow H p 0 1 1 = some [y0] ∧ rdRow H p 0 2 1 = some [z0] ∧
    (∀ x y z, rdRow (H.set p (.row [x, y, z] 0 0 false)) p 0 0 1 = some [x]) ∧ (∀ x y z, rdRow (H.set p (.row [x, y, z] 0 0 false)) p 0 1 1 = some [y]) ∧ (∀ x y z, rdRow (H.set p (.row [x, y, z] 0 0 false)) p 0 2 1 = some [z]) ∧
    (∀ v, wrRow H p 0 0 [.int .i64 v] = some (H.set p (.row [.int .i64 v, y0, z0] 0 0 false))) ∧ (∀ v, wrRow H p 0 1 [.int .i64 v] = some (H.set p (.row [x0, .int .i64 v, z0] 0 0 false))) ∧
    (∀ x y z v, wrRow (H.set p (.row [x, y, z] 0 0 false)) p 0 0 [.int .i64 v] = some (H.set p (.row [.int .i64 v, y, z] 0 0 false))) ∧
    (∀ x y z v, wrRow (H.set p (.row [x, y, z] 0 0 false)) p 0 1 [.int .i64 v] = some (H.set p (.row [x, .int .i64 v, z] 0 0 false))) ∧
    (∀ x y z v, wrRow (H.set p (.row [x, y, z] 0 0 false)) p 0 2 [.int .i64 v] = some (H.set p (.row [x, y, .int .i64 v] 0 0 false))) := by
  have hl := (List.getElem?_eq_some_iff.1 h).1
  have hset : ∀ o, (H.set p o)[p]? = some o := fun o => by rw [List.getElem?_set, if_pos rfl, if_pos hl]
  refine ⟨hset, by simp [rdRow, h], by simp [rdRow, h], by simp [rdRow, h], fun x y z => by simp [rdRow, hset], fun x y z => by simp [rdRow, hset], fun x y z => by simp [rdRow, hset], fun v => by simp [wrRow, h, splice, AV.sc], fun v => by simp [wrRow, h, splice, AV.sc],
    fun x y z v => by simp [wrRow, hset, splice, AV.sc], fun x y z v => by simp [wrRow, hset, splice, AV.sc], fun x y z v => by simp [wrRow, hset, splice, AV.sc]⟩
theorem oth3 {H : AH} {p q : Nat} {x0 y0 z0 : AV} (hne : q ≠ p) (h : H[q]? = some (.row [x0, y0, z0] 0 0 false)) : rdRow H q 0 0 1 = some [x0] ∧ rdRow H q 0 1 1 = some [y0] ∧ rdRow H q 0 2 1 = some [z0] ∧
    (∀ o, rdRow (H.set p o) q 0 0 1 = some [x0]) ∧ (∀ o, rdRow (H.set p o) q 0 1 1 = some [y0]) ∧ (∀ o, rdRow (H.set p o) q 0 2 1 = some [z0]) := by
  have hset : ∀ o, (H.set p o)[q]? = some (.row [x0, y0, z0] 0 0 false) := fun o => by rw [List.getElem?_set, if_neg (Ne.symm hne)]; exact h
  exact ⟨by simp [rdRow, h], by simp [rdRow, h], by simp [rdRow, h], fun o => by simp [rdRow, hset], fun o => by simp [rdRow, hset], fun o => by simp [rdRow, hset]⟩
theorem lp_len {c a b n : Nat} (ih : LenAt c a b n) (hac : a ≠ c) (hbc : b ≠ c) {w : List UInt8} {t : Bool} (hn : mu w < n + 1) (hg : signs w) (hl : w.length ≤ 10) {p6 p10 : Nat} (h10 : p10 ≠ c) (key : AV) {B : AH} (hB10 : p10 < B.length) (hBa : a < B.length) (hBb : b < B.length) (ha10 : a ≠ p10) (hb10 : b ≠ p10) {vm : AV} (hvm : Slc 2 encM B vm (movesB w (kindS t))) (hvc : ∀ r, rowOf vm = some r → r ≠ c ∧ r ≠ p10) {R : X → Env → AH → Prop} :
    ∀ (rest pre : List (Int × Int)) (h : AH), movesB w (kindS t) = pre ++ rest → Mh winK lenV c h → rdRow h a 0 0 1 = some [.map c] → rdRow h b 0 0 1 = some [.fn 457 [.ptr a 0 0 1, .ptr b 0 0 1]] → h[p10]? = some (.row [.int .i64 (acL w t pre), .int .i64 (acS w t pre), .int .i64 (acM w t pre)] 0 0 false) →
    (B.length ≤ h.length ∧ ∀ i, i < B.length → i ≠ c → i ≠ p10 → h[i]? = B[i]?) →
    (∀ h', Mh winK lenV c h' → h'[p10]? = some (.row [.int .i64 (lnB w t).1, .int .i64 (lnB w t).2.1, .int .i64 (acM w t (movesB w (kindS t)))] 0 0 false) → (B.length ≤ h'.length ∧ ∀ i, i < B.length → i ≠ c → i ≠ p10 → h'[i]? = B[i]?) → R (.exit 0) [(2, .ptr a 0 0 1), (6, .ptr p6 0 0 3), (7, key), (10, .ptr p10 0 0 3)] h') →
    Cx (.loop lp457_0) [(0, .str w), (1, .bool t), (2, .ptr a 0 0 1), (3, .ptr b 0 0 1), (6, .ptr p6 0 0 3), (7, key), (10, .ptr p10 0 0 3), (30, vm), (31, .int .i64 (movesB w (kindS t)).length), (32, .int .i64 pre.length)] h R k k := by
  intro rest
  induction rest with
  | nil =>
    intro pre h hL hm r2 r3 r10 hB hR
    have hll : (movesB w (kindS t)).length = pre.length := by rw [hL]; simp
    rw [hll]
    rw [List.append_nil] at hL
    rw [← hL, ← (ac_all w t).1, ← (ac_all w t).2.1] at r10
    rw [w_loopb (c := lp457_0) (d := lb457_0) rfl]; unfold lb457_0
    simp (maxSteps := 1000000) (disch := first | omega | rfl | (simp only [zL, two63, room] <;> omega) | fail) only [↓reduceIte, ↓zP, zW, WOp, evOp, evBin, binI, binSh, binS, evNil, keyIs, keyEq, mkv, AV.cells, AV.sc, optv, bnd, env, put, Env.get, Env.set, Env.del, Env.dels, Env.init, res1, resL, resV, fillP, splice, newRow, Nat.reduceEqDiff, Nat.reduceLT, Nat.reduceLeDiff, Nat.reduceAdd, Nat.reduceMul, Nat.reduceSub, Nat.reduceBEq, reduceCtorEq, ↓zR, zQ, Tr, StA, StT]
    exact hR h hm r10 hB
  | cons m rest ihl =>
    intro pre h hL hm r2 r3 r10 hB hR
    have hmm : m ∈ movesB w (kindS t) := by rw [hL]; simp
    obtain ⟨b1, b2⟩ := ln_few hmm hl
    have bM := acM_le (pre := pre ++ [m]) (rest := rest) (by rw [hL]; simp) hg hl
    have eL : acL w t (pre ++ [m]) = max (acL w t pre) (ln1 w t m + 1) := by unfold acL; rw [List.map_append]; exact loF_snoc _ _
    have eM : acM w t (pre ++ [m]) = acM w t pre + ln3 w t m := by unfold acM; rw [List.map_append, List.sum_append]; simp
    have hs : Slc 2 encM h vm (movesB w (kindS t)) := hvm.stay fun r hr => hB.2 r (hvm.lt hr) (hvc r hr).1 (hvc r hr).2
    obtain ⟨i, u, rfl, hmv⟩ := movesB_mv hmm
    have hlen := movesB_len w (kindS t)
    have hml : (movesB w (kindS t)).length = pre.length + 1 + rest.length := by rw [hL]; simp; omega
    have hs' := hs
    rw [hL] at hs'
    obtain ⟨r1, k1, o1, hv1, hr⟩ := hs'.at hlM
    rw [← hL, hml] at hv1
    subst hv1
    rw [hml] at ihl ⊢
    have hr' : rdRow h r1 k1 (o1 + pre.length * 2) 2 = some [.int .i64 i, .int .i64 u] := hr
    have hlt : (pre.length : Int) < ((pre.length + 1 + rest.length : Nat) : Int) := by omega
    have hw1 : (pre.length : Int) + 1 = ((pre ++ [(((i : Int), (u : Int)) : Int × Int)]).length : Int) := by simp
    have hw2 : IntKind.i64.wrap ((pre ++ [(((i : Int), (u : Int)) : Int × Int)]).length : Int) = ((pre ++ [(((i : Int), (u : Int)) : Int × Int)]).length : Int) := wrap_i (by simp; omega)
    have p1 := Pre.push h (AO.row [.int .i64 i, .int .i64 u] 0 0 false)
    have qm := (mvRow h i u).1
    have q3 := rdRow_pre p1 r3
    have hcl := hm.lt
    have h10l := (List.getElem?_eq_some_iff.1 r10).1
    rw [w_loopb (c := lp457_0) (d := lb457_0) rfl]; unfold lb457_0
    simp (maxSteps := 1000000) (disch := first | omega | rfl | (simp only [zL, two63, room] <;> omega) | fail) only [↓reduceIte, ↓zP, zW, WOp, evOp, evBin, binI, binSh, binS, evNil, keyIs, keyEq, mkv, AV.cells, AV.sc, optv, bnd, env, put, Env.get, Env.set, Env.del, Env.dels, Env.init, res1, resL, resV, fillP, splice, newRow, Nat.reduceEqDiff, Nat.reduceLT, Nat.reduceLeDiff, Nat.reduceAdd, Nat.reduceMul, Nat.reduceSub, Nat.reduceBEq, reduceCtorEq, ↓zR, zQ, Tr, StA, StT, hlt, hr']
    refine w_drw ?_
    simp (maxSteps := 1000000) (disch := first | omega | rfl | (simp only [zL, two63, room] <;> omega) | fail) only [↓reduceIte, ↓zP, zW, WOp, evOp, evBin, binI, binSh, binS, evNil, keyIs, keyEq, mkv, AV.cells, AV.sc, optv, bnd, env, put, Env.get, Env.set, Env.del, Env.dels, Env.init, res1, resL, resV, fillP, splice, newRow, Nat.reduceEqDiff, Nat.reduceLT, Nat.reduceLeDiff, Nat.reduceAdd, Nat.reduceMul, Nat.reduceSub, Nat.reduceBEq, reduceCtorEq, ↓zR, zQ, Tr, StA, StT, q3, qm]
    refine c_made w i u hmv.1 hmv.2.1 (by omega) ?_
    intro h2 hp2
    have p12 := p1.trans hp2
    have q3b := rdRow_pre hp2 q3
    have qmb := rdRow_pre hp2 qm
    simp (maxSteps := 1000000) (disch := first | omega | rfl | (simp only [zL, two63, room] <;> omega) | fail) only [↓reduceIte, ↓zP, zW, WOp, evOp, evBin, binI, binSh, binS, evNil, keyIs, keyEq, mkv, AV.cells, AV.sc, optv, bnd, env, put, Env.get, Env.set, Env.del, Env.dels, Env.init, res1, resL, resV, fillP, splice, newRow, Nat.reduceEqDiff, Nat.reduceLT, Nat.reduceLeDiff, Nat.reduceAdd, Nat.reduceMul, Nat.reduceSub, Nat.reduceBEq, reduceCtorEq, ↓zR, zQ, Tr, StA, StT, q3, qm, q3b, qmb]
    refine ih (madeB w i u) (!t) h2 (by have := mu_made hmv; omega) (signs_madeG hg hmv.1) (by rw [madeB_length]; exact hl) (hm.pre p12) (rdRow_pre p12 r2) q3b _ ?_
    intro h3 hp3 hm3
    have q3c := rdRow_prex hp3 hbc q3b
    have qmc := rdRow_prex hp3 (show h.length ≠ c by omega) qmb
    have hB3 : B.length ≤ h3.length ∧ ∀ i, i < B.length → i ≠ c → i ≠ p10 → h3[i]? = B[i]? := ⟨Nat.le_trans hB.1 (Nat.le_trans p12.1 hp3.1), fun j hj h1 h2 => by rw [hp3.2 j (by have := p12.1; have := hB.1; omega) h1, p12.2 j (by have := hB.1; omega), hB.2 j hj h1 h2]⟩
    have e10 : h3[p10]? = some (.row [.int .i64 (acL w t pre), .int .i64 (acS w t pre), .int .i64 (acM w t pre)] 0 0 false) := by rw [hp3.2 p10 (by have := p12.1; omega) h10, p12.2 p10 h10l, r10]
    have r2c := rdRow_prex hp3 hac (rdRow_pre p12 r2)
    have h3l : p10 < h3.length := (List.getElem?_eq_some_iff.1 e10).1
    have hln : lenV (madeB w i u, !t) = .agg [.int .i64 (ln1 w t ((i : Int), (u : Int))), .int .i64 (ln2 w t ((i : Int), (u : Int))), .int .i64 (ln3 w t ((i : Int), (u : Int)))] := rfl
    rw [hln]
    generalize ln1 w t ((i : Int), (u : Int)) = n1 at *
    have eS : acS w t (pre ++ [((i : Int), (u : Int))]) = if pre = [] then ln2 w t ((i : Int), (u : Int)) + 1 else min (acS w t pre) (ln2 w t ((i : Int), (u : Int)) + 1) := by
      unfold acS
      rw [List.map_append]
      split
      · rename_i h0; subst h0; rfl
      · rename_i h0; exact shF_snoc (by simpa using h0) _
    generalize ln2 w t ((i : Int), (u : Int)) = n2 at *
    generalize ln3 w t ((i : Int), (u : Int)) = n3 at *
    have hlh : h.length < h3.length := Nat.lt_of_lt_of_le (by simp) (Nat.le_trans hp2.1 hp3.1)
    obtain ⟨hset, a0, a1, a2, g0, g1, g2, u0, u1, v0, v1, v2⟩ := out3 e10
    have d : ∀ (o : AO) (off : Nat), rdRow (h3.set p10 o ++ [AO.row [.int .i64 n1, .int .i64 n2, .int .i64 n3] 0 0 false]) h3.length 0 off 1 = if off + 1 ≤ 3 then some ((([.int .i64 n1, .int .i64 n2, .int .i64 n3] : List AV).drop off).take 1) else none := by
      intro o off
      have := rd_last (h3.set p10 o) [.int .i64 n1, .int .i64 n2, .int .i64 n3] false off 1
      rwa [List.length_set] at this
    have d0 : ∀ o, rdRow (h3.set p10 o ++ [AO.row [.int .i64 n1, .int .i64 n2, .int .i64 n3] 0 0 false]) h3.length 0 0 1 = some [.int .i64 n1] := fun o => by rw [d]; rfl
    have d1 : ∀ o, rdRow (h3.set p10 o ++ [AO.row [.int .i64 n1, .int .i64 n2, .int .i64 n3] 0 0 false]) h3.length 0 1 1 = some [.int .i64 n2] := fun o => by rw [d]; rfl
    have d2 : ∀ o, rdRow (h3.set p10 o ++ [AO.row [.int .i64 n1, .int .i64 n2, .int .i64 n3] 0 0 false]) h3.length 0 2 1 = some [.int .i64 n3] := fun o => by rw [d]; rfl
    have hls : ∀ o, p10 < (h3.set p10 o).length := fun o => by rw [List.length_set]; exact h3l
    clear d
    have w1 : IntKind.i64.wrap ((n1 : Int) + 1) = ((n1 + 1 : Nat) : Int) := by rw [IntKind.wrap_i64]; omega
    have w2 : IntKind.i64.wrap ((n2 : Int) + 1) = ((n2 + 1 : Nat) : Int) := by rw [IntKind.wrap_i64]; omega
    have w3 : IntKind.i64.wrap (((acM w t pre : Nat) : Int) + (n3 : Int)) = ((acM w t pre + n3 : Nat) : Int) := by rw [IntKind.wrap_i64]; omega
    have fin : ∀ S' : Nat, S' = acS w t (pre ++ [((i : Int), (u : Int))]) → Cx (.loop lp457_0) [(0, .str w), (1, .bool t), (2, .ptr a 0 0 1), (3, .ptr b 0 0 1), (6, .ptr p6 0 0 3), (7, key), (10, .ptr p10 0 0 3), (30, .slice r1 k1 o1 (pre.length + 1 + rest.length) 2), (31, .int .i64 ((pre.length + 1 + rest.length : Nat) : Int)), (32, .int .i64 (pre ++ [((i : Int), (u : Int))]).length)]
        (h3.set p10 (.row [.int .i64 ((max (acL w t pre) (n1 + 1) : Nat) : Int), .int .i64 S', .int .i64 ((acM w t pre + n3 : Nat) : Int)] 0 0 false) ++ [AO.row [.int .i64 n1, .int .i64 n2, .int .i64 n3] 0 0 false]) R k k := by
      rintro S' rfl
      have hget : ∀ j o, j < h3.length → j ≠ p10 → (h3.set p10 o ++ [AO.row [.int .i64 n1, .int .i64 n2, .int .i64 n3] 0 0 false])[j]? = h3[j]? := fun j o h1 h2 => by rw [List.getElem?_append_left (by rw [List.length_set]; exact h1), List.getElem?_set, if_neg (Ne.symm h2)]
      have hc3 := hm3.lt
      refine ihl (pre ++ [((i : Int), (u : Int))]) _ (by rw [hL]; simp) (hm3.keep (hget c _ hc3 (Ne.symm h10))) (rd_row (hget a _ (rd_lt r2c) ha10) r2c) (rd_row (hget b _ (rd_lt q3c) hb10) q3c) (by rw [List.getElem?_append_left (hls _), hset, eL, eM]) ⟨by have := hB3.1; rw [List.length_append, List.length_set]; omega, fun j hj h1 h2 => by rw [hget j _ (by have := hB3.1; omega) h2]; exact hB3.2 j hj h1 h2⟩ hR
    by_cases h0 : pre = []
    · have k0 : (((pre.length : Nat) : Int) == 0) = true := by rw [h0]; rfl
      have z0 : acL w t pre = 0 := by rw [h0]; rfl
      simp (maxSteps := 1000000) (disch := first | omega | rfl | (simp only [zL, two63, room] <;> omega) | fail) only [↓reduceIte, ↓zP, zW, WOp, evOp, evBin, binI, binSh, binS, evNil, keyIs, keyEq, mkv, AV.cells, AV.sc, optv, bnd, env, put, Env.get, Env.set, Env.del, Env.dels, Env.init, res1, resL, resV, fillP, splice, newRow, Nat.reduceEqDiff, Nat.reduceLT, Nat.reduceLeDiff, Nat.reduceAdd, Nat.reduceMul, Nat.reduceSub, Nat.reduceBEq, reduceCtorEq, ↓zR, zQ, Tr, StA, StT, q3, qm, q3b, qmb, q3c, qmc, k0, hls, a0, a1, a2, d0, d1, d2, g0, g1, g2, u0, u1, v0, v1, v2, w1, w2, w3]
      try refine w_drw ?_
      simp (maxSteps := 1000000) (disch := first | omega | rfl | (simp only [zL, two63, room] <;> omega) | fail) only [↓reduceIte, ↓zP, zW, WOp, evOp, evBin, binI, binSh, binS, evNil, keyIs, keyEq, mkv, AV.cells, AV.sc, optv, bnd, env, put, Env.get, Env.set, Env.del, Env.dels, Env.init, res1, resL, resV, fillP, splice, newRow, Nat.reduceEqDiff, Nat.reduceLT, Nat.reduceLeDiff, Nat.reduceAdd, Nat.reduceMul, Nat.reduceSub, Nat.reduceBEq, reduceCtorEq, ↓zR, zQ, Tr, StA, StT, hls, a0, a1, a2, d0, d1, d2, g0, g1, g2, u0, u1, v0, v1, v2, w1, w2, w3, mmx_max, mmx_min, hw1, hw2]
      rw [w_loopn (c := lp457_0) rfl]
      simp (maxSteps := 1000000) (disch := first | omega | rfl | (simp only [zL, two63, room] <;> omega) | fail) only [↓reduceIte, ↓zP, zW, WOp, evOp, evBin, binI, binSh, binS, evNil, keyIs, keyEq, mkv, AV.cells, AV.sc, optv, bnd, env, put, Env.get, Env.set, Env.del, Env.dels, Env.init, res1, resL, resV, fillP, splice, newRow, Nat.reduceEqDiff, Nat.reduceLT, Nat.reduceLeDiff, Nat.reduceAdd, Nat.reduceMul, Nat.reduceSub, Nat.reduceBEq, reduceCtorEq, ↓zR, zQ, Tr, StA, StT]
      have := fin _ (by rw [eS, if_pos h0])
      rw [show max (acL w t pre) (n1 + 1) = n1 + 1 by omega] at this
      exact this
    · have k0 : (((pre.length : Nat) : Int) == 0) = false := by
        rw [beq_eq_false_iff_ne]
        intro hh
        exact h0 (List.eq_nil_of_length_eq_zero (by omega))
      simp (maxSteps := 1000000) (disch := first | omega | rfl | (simp only [zL, two63, room] <;> omega) | fail) only [↓reduceIte, ↓zP, zW, WOp, evOp, evBin, binI, binSh, binS, evNil, keyIs, keyEq, mkv, AV.cells, AV.sc, optv, bnd, env, put, Env.get, Env.set, Env.del, Env.dels, Env.init, res1, resL, resV, fillP, splice, newRow, Nat.reduceEqDiff, Nat.reduceLT, Nat.reduceLeDiff, Nat.reduceAdd, Nat.reduceMul, Nat.reduceSub, Nat.reduceBEq, reduceCtorEq, ↓zR, zQ, Tr, StA, StT, q3, qm, q3b, qmb, q3c, qmc, k0, hls, a0, a1, a2, d0, d1, d2, g0, g1, g2, u0, u1, v0, v1, v2, w1, w2, w3]
      try refine w_drw ?_
      simp (maxSteps := 1000000) (disch := first | omega | rfl | (simp only [zL, two63, room] <;> omega) | fail) only [↓reduceIte, ↓zP, zW, WOp, evOp, evBin, binI, binSh, binS, evNil, keyIs, keyEq, mkv, AV.cells, AV.sc, optv, bnd, env, put, Env.get, Env.set, Env.del, Env.dels, Env.init, res1, resL, resV, fillP, splice, newRow, Nat.reduceEqDiff, Nat.reduceLT, Nat.reduceLeDiff, Nat.reduceAdd, Nat.reduceMul, Nat.reduceSub, Nat.reduceBEq, reduceCtorEq, ↓zR, zQ, Tr, StA, StT, hls, a0, a1, a2, d0, d1, d2, g0, g1, g2, u0, u1, v0, v1, v2, w1, w2, w3, mmx_max, mmx_min, hw1, hw2]
      rw [w_loopn (c := lp457_0) rfl]
      simp (maxSteps := 1000000) (disch := first | omega | rfl | (simp only [zL, two63, room] <;> omega) | fail) only [↓reduceIte, ↓zP, zW, WOp, evOp, evBin, binI, binSh, binS, evNil, keyIs, keyEq, mkv, AV.cells, AV.sc, optv, bnd, env, put, Env.get, Env.set, Env.del, Env.dels, Env.init, res1, resL, resV, fillP, splice, newRow, Nat.reduceEqDiff, Nat.reduceLT, Nat.reduceLeDiff, Nat.reduceAdd, Nat.reduceMul, Nat.reduceSub, Nat.reduceBEq, reduceCtorEq, ↓zR, zQ, Tr, StA, StT]
      exact fin _ (by rw [eS, if_neg h0])
theorem u2of {H : AH} {p : Nat} {x0 y0 z0 : AV} (h : H[p]? = some (.row [x0, y0, z0] 0 0 false)) (v : Int) : wrRow H p 0 2 [.int .i64 v] = some (H.set p (.row [x0, y0, .int .i64 v] 0 0 false)) := by simp [wrRow, h, splice, AV.sc]
theorem w3of {H : AH} {p : Nat} {x0 y0 z0 : AV} (h : H[p]? = some (.row [x0, y0, z0] 0 0 false)) (x y z : Int) : wrRow H p 0 0 [.int .i64 x, .int .i64 y, .int .i64 z] = some (H.set p (.row [.int .i64 x, .int .i64 y, .int .i64 z] 0 0 false)) := by simp [wrRow, h, splice, AV.sc]
theorem r3of {H : AH} {p : Nat} {x0 y0 z0 : AV} (h : H[p]? = some (.row [x0, y0, z0] 0 0 false)) : rdRow H p 0 0 3 = some [x0, y0, z0] := by simp [rdRow, h]
theorem c_len {c a b : Nat} (hac : a ≠ c) (hbc : b ≠ c) : ∀ n : Nat, LenAt c a b n
  | 0 => fun w t h hn _ _ _ _ _ _ _ => by omega
  | n + 1 => by
    intro w t h hn hg hl hm r2 r3 post hp
    have ih := c_len hac hbc n
    have hlt := hm.lt
    have hal := rd_lt r2
    have hbl := rd_lt r3
    have hm0 := hm
    obtain ⟨es, he, hks, hgood⟩ := hm
    have p1 := Pre.push h (AO.row [.int .i64 0, .int .i64 0, .int .i64 0] 0 0 false)
    have hm1 : (h ++ [AO.row [.int .i64 0, .int .i64 0, .int .i64 0] 0 0 false])[c]? = some (.map es) := by rw [p1.2 c hlt, he]
    have q2 := rdRow_pre p1 r2
    obtain ⟨o, ho⟩ := mfind_some hks (kindS t ++ w)
    have hkl := kindS_len t
    have hadd : (kindS t).length + w.length ≤ two63 := by simp only [two63]; omega
    refine S_of rfl T457 ?_; unfold fi457
    cases o with
    | some v =>
      obtain rfl : v = lenV (w, t) := hgood (w, t) v ho
      simp only [lenV] at ho hp
      simp (maxSteps := 1000000) (disch := first | omega | rfl | (simp only [zL, two63, room] <;> omega) | fail) only [↓reduceIte, ↓zP, zW, WOp, evOp, evBin, binI, binSh, binS, evNil, keyIs, keyEq, mkv, AV.cells, AV.sc, optv, bnd, env, put, Env.get, Env.set, Env.del, Env.dels, Env.init, res1, resL, resV, fillP, splice, newRow, Nat.reduceEqDiff, Nat.reduceLT, Nat.reduceLeDiff, Nat.reduceAdd, Nat.reduceMul, Nat.reduceSub, Nat.reduceBEq, reduceCtorEq, ↓zR, zQ, Tr, StA, StT, e_kindOf, hadd, q2, hm1, ho]
      exact hp _ (((Pre.push h _).trans (Pre.push _ _)).x c) (hm0.pre ((Pre.push h _).trans (Pre.push _ _)))
    | none =>
      have pp := (Pre.push h (AO.row [.int .i64 0, .int .i64 0, .int .i64 0] 0 0 false)).trans ((Pre.push _ (AO.row [.int .i64 0, .int .i64 0, .int .i64 0] 0 0 false)).trans (Pre.push _ (AO.row [.int .i64 0, .int .i64 0, .int .i64 0] 0 0 false)))
      have hl2 : (h ++ [AO.row [.int .i64 0, .int .i64 0, .int .i64 0] 0 0 false] ++ [AO.row [.int .i64 0, .int .i64 0, .int .i64 0] 0 0 false]).length = h.length + 2 := by simp
      have hl3 : (h ++ [AO.row [.int .i64 0, .int .i64 0, .int .i64 0] 0 0 false] ++ [AO.row [.int .i64 0, .int .i64 0, .int .i64 0] 0 0 false] ++ [AO.row [.int .i64 0, .int .i64 0, .int .i64 0] 0 0 false]).length = h.length + 3 := by simp
      have x6 : (h ++ [AO.row [.int .i64 0, .int .i64 0, .int .i64 0] 0 0 false] ++ [AO.row [.int .i64 0, .int .i64 0, .int .i64 0] 0 0 false] ++ [AO.row [.int .i64 0, .int .i64 0, .int .i64 0] 0 0 false])[h.length]? = some (.row [.int .i64 0, .int .i64 0, .int .i64 0] 0 0 false) := by
        rw [List.getElem?_append_left (by simp), List.getElem?_append_left (by simp)]; simp
      have x10 : (h ++ [AO.row [.int .i64 0, .int .i64 0, .int .i64 0] 0 0 false] ++ [AO.row [.int .i64 0, .int .i64 0, .int .i64 0] 0 0 false] ++ [AO.row [.int .i64 0, .int .i64 0, .int .i64 0] 0 0 false])[h.length + 2]? = some (.row [.int .i64 0, .int .i64 0, .int .i64 0] 0 0 false) := by
        rw [← hl2]; simp
      simp (maxSteps := 1000000) (disch := first | omega | rfl | (simp only [zL, two63, room] <;> omega) | fail) only [↓reduceIte, ↓zP, zW, WOp, evOp, evBin, binI, binSh, binS, evNil, keyIs, keyEq, mkv, AV.cells, AV.sc, optv, bnd, env, put, Env.get, Env.set, Env.del, Env.dels, Env.init, res1, resL, resV, fillP, splice, newRow, Nat.reduceEqDiff, Nat.reduceLT, Nat.reduceLeDiff, Nat.reduceAdd, Nat.reduceMul, Nat.reduceSub, Nat.reduceBEq, reduceCtorEq, ↓zR, zQ, Tr, StA, StT, e_kindOf, hadd, q2, hm1, ho]
      refine c_moves w (kindS t) (by omega) ?_
      intro vm h2 ho2 hp2
      have hoL : OwL 2 encM _ h2 vm (movesB w (kindS t)) := ho2
      have hown : ∀ r, rowOf vm = some r → h.length + 3 ≤ r := fun r hr => by have := own_ge ho2 hr; rw [hl3] at this; exact this
      have h2l := hp2.1
      rw [hl3] at h2l
      have e6 : h2[h.length]? = some (.row [.int .i64 0, .int .i64 0, .int .i64 0] 0 0 false) := by rw [hp2.2 _ (by rw [hl3]; omega), x6]
      have e10 : h2[h.length + 2]? = some (.row [.int .i64 0, .int .i64 0, .int .i64 0] 0 0 false) := by rw [hp2.2 _ (by rw [hl3]; omega), x10]
      have pp2 := pp.trans hp2
      have lv := fun g => Slc.lenV (hoL.slc) (g := g) (ρ := fun _ => _) (x := .t 0) rfl; simp only [evOp] at lv
      simp only [hl2]
      simp (maxSteps := 1000000) (disch := first | omega | rfl | (simp only [zL, two63, room] <;> omega) | fail) only [↓reduceIte, ↓zP, zW, WOp, evOp, evBin, binI, binSh, binS, evNil, keyIs, keyEq, mkv, AV.cells, AV.sc, optv, bnd, env, put, Env.get, Env.set, Env.del, Env.dels, Env.init, res1, resL, resV, fillP, splice, newRow, Nat.reduceEqDiff, Nat.reduceLT, Nat.reduceLeDiff, Nat.reduceAdd, Nat.reduceMul, Nat.reduceSub, Nat.reduceBEq, reduceCtorEq, ↓zR, zQ, Tr, StA, StT, lv]
      refine lp_len ih hac hbc hn hg hl (p6 := h.length) (p10 := h.length + 2) (by omega) (.str (kindS t ++ w)) (B := h2) (by omega) (by omega) (by omega) (by omega) (by omega) hoL.slc (fun r hr => by have := hown r hr; omega) (movesB w (kindS t)) [] h2 rfl (hm0.pre pp2) (rdRow_pre pp2 r2) (rdRow_pre pp2 r3) e10 ⟨Nat.le_refl _, fun _ _ _ _ => rfl⟩ ?_
      intro h3 hm3 k10 hB3
      have k6 : h3[h.length]? = some (.row [.int .i64 0, .int .i64 0, .int .i64 0] 0 0 false) := by rw [hB3.2 _ (by omega) (by omega) (by omega), e6]
      have ka : rdRow h3 a 0 0 1 = some [.map c] := rd_row (hB3.2 a (by omega) hac (by omega)) (rdRow_pre pp2 r2)
      have hM : max 1 (acM w t (movesB w (kindS t))) = (lnB w t).2.2 := by
        have h1 := (games_lt t hg hl).1
        have h4 := (ac_all w t).2.2
        by_cases h0 : movesB w (kindS t) = []
        · rw [if_pos h0] at h4
          rw [h4, h0]; rfl
        · rw [if_neg h0] at h4
          omega
      obtain ⟨hset, a0, a1, a2, g0, g1, g2, u0, u1, v0, v1, v2⟩ := out3 k10
      have u2 := u2of k10
      have hc3 := hm3.lt
      have hm4 : Mh winK lenV c (h3.set (h.length + 2) (.row [.int .i64 (lnB w t).1, .int .i64 (lnB w t).2.1, .int .i64 (lnB w t).2.2] 0 0 false)) := hm3.keep (by rw [List.getElem?_set, if_neg (by omega)])
      obtain ⟨es4, f1, ⟨o4, f2⟩, hm5⟩ := hm4.put lenK_inj (w, t)
      have r10 := r3of (hset (.row [.int .i64 (lnB w t).1, .int .i64 (lnB w t).2.1, .int .i64 (lnB w t).2.2] 0 0 false))
      have ka4 : rdRow (h3.set (h.length + 2) (.row [.int .i64 (lnB w t).1, .int .i64 (lnB w t).2.1, .int .i64 (lnB w t).2.2] 0 0 false)) a 0 0 1 = some [.map c] := by rw [rd_ne (by omega)]; exact ka
      have r10' : ∀ es, rdRow ((h3.set (h.length + 2) (.row [.int .i64 (lnB w t).1, .int .i64 (lnB w t).2.1, .int .i64 (lnB w t).2.2] 0 0 false)).set c (.map es)) (h.length + 2) 0 0 3 = some [.int .i64 (lnB w t).1, .int .i64 (lnB w t).2.1, .int .i64 (lnB w t).2.2] := fun es => by rw [rd_ne (by omega)]; exact r10
      have k6' : ∀ es, ((h3.set (h.length + 2) (.row [.int .i64 (lnB w t).1, .int .i64 (lnB w t).2.1, .int .i64 (lnB w t).2.2] 0 0 false)).set c (.map es))[h.length]? = some (.row [.int .i64 0, .int .i64 0, .int .i64 0] 0 0 false) := fun es => by rw [List.getElem?_set, if_neg (by omega), List.getElem?_set, if_neg (by omega), k6]
      have s6 := fun es => w3of (k6' es) (lnB w t).1 (lnB w t).2.1 (lnB w t).2.2
      have z6 : ∀ es, rdRow (((h3.set (h.length + 2) (.row [.int .i64 (lnB w t).1, .int .i64 (lnB w t).2.1, .int .i64 (lnB w t).2.2] 0 0 false)).set c (.map es)).set h.length (.row [.int .i64 (lnB w t).1, .int .i64 (lnB w t).2.1, .int .i64 (lnB w t).2.2] 0 0 false)) h.length 0 0 3 = some [.int .i64 (lnB w t).1, .int .i64 (lnB w t).2.1, .int .i64 (lnB w t).2.2] := fun es => r3of (by rw [List.getElem?_set, if_pos rfl, if_pos (List.getElem?_eq_some_iff.1 (k6' es)).1])
      have hmx : (if ((acM w t (movesB w (kindS t)) : Nat) : Int) > 1 then ((acM w t (movesB w (kindS t)) : Nat) : Int) else 1) = (((lnB w t).2.2 : Nat) : Int) := by
        rw [← hM]; split <;> omega
      simp only [lenV, winK] at f2 hm5 hp
      simp (maxSteps := 1000000) (disch := first | omega | rfl | (simp only [zL, two63, room] <;> omega) | fail) only [↓reduceIte, ↓zP, zW, WOp, evOp, evBin, binI, binSh, binS, evNil, keyIs, keyEq, mkv, AV.cells, AV.sc, optv, bnd, env, put, Env.get, Env.set, Env.del, Env.dels, Env.init, res1, resL, resV, fillP, splice, newRow, Nat.reduceEqDiff, Nat.reduceLT, Nat.reduceLeDiff, Nat.reduceAdd, Nat.reduceMul, Nat.reduceSub, Nat.reduceBEq, reduceCtorEq, ↓zR, zQ, Tr, StA, StT, a2, hmx, u2, ka4, f1, f2, r10, r10', s6, z6]
      refine hp _ ⟨?_, fun i hi hic => ?_⟩ (hm5.keep (by rw [List.getElem?_set, if_neg (by omega)]))
      · have := hB3.1
        simp only [List.length_set]; omega
      · rw [List.getElem?_set, if_neg (by omega), List.getElem?_set, if_neg (by omega), List.getElem?_set, if_neg (by omega), hB3.2 i (by omega) hic (by omega), pp2.2 i hi]
def lnI (w : List UInt8) (t : Bool) : Nat × Nat × Nat := if plG10 w then lnB w t else (0, 0, 0)
theorem c_gamesFrom (w : List UInt8) (t : Bool) (hw : w.length < 2 ^ 60) {h : AH} {post : AV → AH → Prop} (hp : ∀ h', Pre h h' → post (.tup [.agg [.int .i64 (lnI w t).1, .int .i64 (lnI w t).2.1, .int .i64 (lnI w t).2.2], .bool (plG10 w)]) h') : S 452 [.str w, .bool t] h post k := by
  unfold lnI at hp
  refine S_of rfl T452 ?_; unfold fi452
  cases e : plG10 w <;> rw [e] at hp
  · simp (maxSteps := 1000000) (disch := first | omega | rfl | (simp only [zL, two63, room] <;> omega) | fail) only [↓reduceIte, ↓zP, zW, WOp, evOp, evBin, binI, binSh, binS, evNil, keyIs, keyEq, mkv, AV.cells, AV.sc, optv, bnd, env, put, Env.get, Env.set, Env.del, Env.dels, Env.init, res1, resL, resV, fillP, splice, newRow, Nat.reduceEqDiff, Nat.reduceLT, Nat.reduceLeDiff, Nat.reduceAdd, Nat.reduceMul, Nat.reduceSub, Nat.reduceBEq, reduceCtorEq, ↓zR, zQ, Tr, StA, StT, e_isPlayed w hw, e]
    exact hp _ (Pre.push _ _)
  · obtain ⟨h1, h2, h3⟩ := pl10 e
    have pA := Pre.push h (AO.row [.int .i64 0, .int .i64 0, .int .i64 0] 0 0 false)
    have pB := Pre.push (h ++ [AO.row [.int .i64 0, .int .i64 0, .int .i64 0] 0 0 false]) (AO.map [])
    have pC := Pre.push (h ++ [AO.row [.int .i64 0, .int .i64 0, .int .i64 0] 0 0 false] ++ [AO.map []]) (AO.row [.map (h.length + 1)] 0 0 false)
    have pD := Pre.push (h ++ [AO.row [.int .i64 0, .int .i64 0, .int .i64 0] 0 0 false] ++ [AO.map []] ++ [AO.row [.map (h.length + 1)] 0 0 false]) (AO.row [.fn 457 [.ptr (h.length + 2) 0 0 1, .ptr (h.length + 3) 0 0 1]] 0 0 false)
    have l1 : (h ++ [AO.row [.int .i64 0, .int .i64 0, .int .i64 0] 0 0 false]).length = h.length + 1 := by simp
    have l2 : (h ++ [AO.row [.int .i64 0, .int .i64 0, .int .i64 0] 0 0 false] ++ [AO.map []]).length = h.length + 2 := by simp
    have l3 : (h ++ [AO.row [.int .i64 0, .int .i64 0, .int .i64 0] 0 0 false] ++ [AO.map []] ++ [AO.row [.map (h.length + 1)] 0 0 false]).length = h.length + 3 := by simp
    have hmA : Mh winK lenV (h.length + 1) (h ++ [AO.row [.int .i64 0, .int .i64 0, .int .i64 0] 0 0 false] ++ [AO.map []]) := Mh.new' l1.symm
    have rA : rdRow (h ++ [AO.row [.int .i64 0, .int .i64 0, .int .i64 0] 0 0 false] ++ [AO.map []] ++ [AO.row [.map (h.length + 1)] 0 0 false]) (h.length + 2) 0 0 1 = some [.map (h.length + 1)] := by rw [← l2, rd_last, if_pos (by simp)]; simp
    have rB : rdRow (h ++ [AO.row [.int .i64 0, .int .i64 0, .int .i64 0] 0 0 false] ++ [AO.map []] ++ [AO.row [.map (h.length + 1)] 0 0 false] ++ [AO.row [.fn 457 [.ptr (h.length + 2) 0 0 1, .ptr (h.length + 3) 0 0 1]] 0 0 false]) (h.length + 3) 0 0 1 = some [.fn 457 [.ptr (h.length + 2) 0 0 1, .ptr (h.length + 3) 0 0 1]] := by rw [← l3, rd_last, if_pos (by simp)]; simp
    have k4 : (h ++ [AO.row [.int .i64 0, .int .i64 0, .int .i64 0] 0 0 false] ++ [AO.map []] ++ [AO.row [.map (h.length + 1)] 0 0 false] ++ [AO.row [.fn 457 [.ptr (h.length + 2) 0 0 1, .ptr (h.length + 3) 0 0 1]] 0 0 false])[h.length]? = some (.row [.int .i64 0, .int .i64 0, .int .i64 0] 0 0 false) := by
      rw [List.getElem?_append_left (by simp), List.getElem?_append_left (by simp), List.getElem?_append_left (by simp)]; simp
    have p4 := (pA.trans pB).trans (pC.trans pD)
    simp (maxSteps := 1000000) (disch := first | omega | rfl | (simp only [zL, two63, room] <;> omega) | fail) only [↓reduceIte, ↓zP, zW, WOp, evOp, evBin, binI, binSh, binS, evNil, keyIs, keyEq, mkv, AV.cells, AV.sc, optv, bnd, env, put, Env.get, Env.set, Env.del, Env.dels, Env.init, res1, resL, resV, fillP, splice, newRow, Nat.reduceEqDiff, Nat.reduceLT, Nat.reduceLeDiff, Nat.reduceAdd, Nat.reduceMul, Nat.reduceSub, Nat.reduceBEq, reduceCtorEq, ↓zR, zQ, Tr, StA, StT, e_isPlayed w hw, e]
    simp only [l1, l2, l3]
    refine c_len (c := h.length + 1) (a := h.length + 2) (b := h.length + 3) (by omega) (by omega) (mu w + 1) w t _ (by omega) h3 h2 ((hmA.pre pC).pre pD) (rdRow_pre pD rA) rB _ ?_
    intro h5 hp5 hm5
    have k5 : h5[h.length]? = some (.row [.int .i64 0, .int .i64 0, .int .i64 0] 0 0 false) := by rw [hp5.2 _ (List.getElem?_eq_some_iff.1 k4).1 (by omega), k4]
    have s5 := w3of k5 (lnB w t).1 (lnB w t).2.1 (lnB w t).2.2
    have z5 := r3of (show (h5.set h.length (.row [.int .i64 (lnB w t).1, .int .i64 (lnB w t).2.1, .int .i64 (lnB w t).2.2] 0 0 false))[h.length]? = _ by rw [List.getElem?_set, if_pos rfl, if_pos (List.getElem?_eq_some_iff.1 k5).1])
    simp only [lenV]
    simp (maxSteps := 1000000) (disch := first | omega | rfl | (simp only [zL, two63, room] <;> omega) | fail) only [↓reduceIte, ↓zP, zW, WOp, evOp, evBin, binI, binSh, binS, evNil, keyIs, keyEq, mkv, AV.cells, AV.sc, optv, bnd, env, put, Env.get, Env.set, Env.del, Env.dels, Env.init, res1, resL, resV, fillP, splice, newRow, Nat.reduceEqDiff, Nat.reduceLT, Nat.reduceLeDiff, Nat.reduceAdd, Nat.reduceMul, Nat.reduceSub, Nat.reduceBEq, reduceCtorEq, ↓zR, zQ, Tr, StA, StT, s5, z5]
    refine hp _ ⟨?_, fun i hi => ?_⟩
    · have := hp5.1
      simp only [List.length_set, List.length_append, List.length_cons, List.length_nil] at this ⊢; omega
    · rw [List.getElem?_set, if_neg (by omega), hp5.2 i (Nat.lt_of_lt_of_le hi p4.1) (by omega), p4.2 i hi]
theorem c_LongestGame (w : List UInt8) (t : Bool) (hw : w.length < 2 ^ 60) {h : AH} {post : AV → AH → Prop} (hp : ∀ h', Pre h h' → post (.tup [.int .i64 ((lnI w t).1 : Nat), .bool (plG10 w)]) h') : S 423 [.str w, .bool t] h post k := by
  refine S_of rfl T423 ?_; unfold fi423
  simp (maxSteps := 1000000) (disch := first | omega | rfl | (simp only [zL, two63, room] <;> omega) | fail) only [↓reduceIte, ↓zP, zW, WOp, evOp, evBin, binI, binSh, binS, evNil, keyIs, keyEq, mkv, AV.cells, AV.sc, optv, bnd, env, put, Env.get, Env.set, Env.del, Env.dels, Env.init, res1, resL, resV, fillP, splice, newRow, Nat.reduceEqDiff, Nat.reduceLT, Nat.reduceLeDiff, Nat.reduceAdd, Nat.reduceMul, Nat.reduceSub, Nat.reduceBEq, reduceCtorEq, ↓zR, zQ, Tr, StA, StT]
  refine c_gamesFrom w t hw ?_
  intro h2 hp2
  simp (maxSteps := 1000000) (disch := first | omega | rfl | (simp only [zL, two63, room] <;> omega) | fail) only [↓reduceIte, ↓zP, zW, WOp, evOp, evBin, binI, binSh, binS, evNil, keyIs, keyEq, mkv, AV.cells, AV.sc, optv, bnd, env, put, Env.get, Env.set, Env.del, Env.dels, Env.init, res1, resL, resV, fillP, splice, newRow, Nat.reduceEqDiff, Nat.reduceLT, Nat.reduceLeDiff, Nat.reduceAdd, Nat.reduceMul, Nat.reduceSub, Nat.reduceBEq, reduceCtorEq, ↓zR, zQ, Tr, StA, StT]
  exact hp _ (hp2.trans (Pre.push _ _))
theorem c_ShortestGame (w : List UInt8) (t : Bool) (hw : w.length < 2 ^ 60) {h : AH} {post : AV → AH → Prop} (hp : ∀ h', Pre h h' → post (.tup [.int .i64 ((lnI w t).2.1 : Nat), .bool (plG10 w)]) h') : S 425 [.str w, .bool t] h post k := by
  refine S_of rfl T425 ?_; unfold fi425
  simp (maxSteps := 1000000) (disch := first | omega | rfl | (simp only [zL, two63, room] <;> omega) | fail) only [↓reduceIte, ↓zP, zW, WOp, evOp, evBin, binI, binSh, binS, evNil, keyIs, keyEq, mkv, AV.cells, AV.sc, optv, bnd, env, put, Env.get, Env.set, Env.del, Env.dels, Env.init, res1, resL, resV, fillP, splice, newRow, Nat.reduceEqDiff, Nat.reduceLT, Nat.reduceLeDiff, Nat.reduceAdd, Nat.reduceMul, Nat.reduceSub, Nat.reduceBEq, reduceCtorEq, ↓zR, zQ, Tr, StA, StT]
  refine c_gamesFrom w t hw ?_
  intro h2 hp2
  simp (maxSteps := 1000000) (disch := first | omega | rfl | (simp only [zL, two63, room] <;> omega) | fail) only [↓reduceIte, ↓zP, zW, WOp, evOp, evBin, binI, binSh, binS, evNil, keyIs, keyEq, mkv, AV.cells, AV.sc, optv, bnd, env, put, Env.get, Env.set, Env.del, Env.dels, Env.init, res1, resL, resV, fillP, splice, newRow, Nat.reduceEqDiff, Nat.reduceLT, Nat.reduceLeDiff, Nat.reduceAdd, Nat.reduceMul, Nat.reduceSub, Nat.reduceBEq, reduceCtorEq, ↓zR, zQ, Tr, StA, StT]
  exact hp _ (hp2.trans (Pre.push _ _))
theorem c_CountGames (w : List UInt8) (t : Bool) (hw : w.length < 2 ^ 60) {h : AH} {post : AV → AH → Prop} (hp : ∀ h', Pre h h' → post (.tup [.int .i64 ((lnI w t).2.2 : Nat), .bool (plG10 w)]) h') : S 427 [.str w, .bool t] h post k := by
  refine S_of rfl T427 ?_; unfold fi427
  simp (maxSteps := 1000000) (disch := first | omega | rfl | (simp only [zL, two63, room] <;> omega) | fail) only [↓reduceIte, ↓zP, zW, WOp, evOp, evBin, binI, binSh, binS, evNil, keyIs, keyEq, mkv, AV.cells, AV.sc, optv, bnd, env, put, Env.get, Env.set, Env.del, Env.dels, Env.init, res1, resL, resV, fillP, splice, newRow, Nat.reduceEqDiff, Nat.reduceLT, Nat.reduceLeDiff, Nat.reduceAdd, Nat.reduceMul, Nat.reduceSub, Nat.reduceBEq, reduceCtorEq, ↓zR, zQ, Tr, StA, StT]
  refine c_gamesFrom w t hw ?_
  intro h2 hp2
  simp (maxSteps := 1000000) (disch := first | omega | rfl | (simp only [zL, two63, room] <;> omega) | fail) only [↓reduceIte, ↓zP, zW, WOp, evOp, evBin, binI, binSh, binS, evNil, keyIs, keyEq, mkv, AV.cells, AV.sc, optv, bnd, env, put, Env.get, Env.set, Env.del, Env.dels, Env.init, res1, resL, resV, fillP, splice, newRow, Nat.reduceEqDiff, Nat.reduceLT, Nat.reduceLeDiff, Nat.reduceAdd, Nat.reduceMul, Nat.reduceSub, Nat.reduceBEq, reduceCtorEq, ↓zR, zQ, Tr, StA, StT]
  exact hp _ (hp2.trans (Pre.push _ _))
end Go.Proofs.YtejhhdpfndiliaaGreatDoor.Ab

/- LENGTHS of games, the reference's: what is known lies in slices of one struct. -/
namespace Go.Proofs.YtejhhdpfndiliaaGreatDoor.Ab
open Go
set_option maxRecDepth 100000
set_option maxHeartbeats 4000000

/-! ### A struct of slices of one's own -/
def KS (c : Nat) (h : AH) (vs : List AV) (Ls : List (List AV)) : Prop := h[c]? = some (.row vs 0 0 false) ∧ vs.length = Ls.length ∧ (∀ (j : Nat) v L, vs[j]? = some v → Ls[j]? = some L → Own 1 [] h v L.length L) ∧
  (∀ (j : Nat) v, vs[j]? = some v → rowOf v ≠ some c) ∧ ∀ (i j : Nat) u v r, i ≠ j → vs[i]? = some u → vs[j]? = some v → rowOf u = some r → rowOf v ≠ some r
def grS (c : Nat) (h : AH) (i : Nat) : Prop := i = c ∨ ∃ vs v, h[c]? = some (.row vs 0 0 false) ∧ v ∈ vs ∧ rowOf v = some i
def FrS (c : Nat) (h h' : AH) : Prop := h.length ≤ h'.length ∧ ∀ i, i < h.length → ¬ grS c h i → h'[i]? = h[i]? ∧ ¬ grS c h' i
theorem FrS.refl (c : Nat) (h : AH) : FrS c h h := ⟨Nat.le_refl _, fun _ _ hg => ⟨rfl, hg⟩⟩
theorem FrS.trans {c : Nat} {x y z : AH} (p : FrS c x y) (q : FrS c y z) : FrS c x z := ⟨Nat.le_trans p.1 q.1, fun i hi hg => by
  obtain ⟨h1, h2⟩ := p.2 i hi hg
  obtain ⟨h3, h4⟩ := q.2 i (Nat.lt_of_lt_of_le hi p.1) h2
  exact ⟨by rw [h3, h1], h4⟩⟩
theorem grS_pre {c : Nat} {h h' : AH} (hp : Pre h h') (hc : c < h.length) (i : Nat) : grS c h' i ↔ grS c h i := by
  unfold grS; rw [hp.2 c hc]
theorem Pre.frs {c : Nat} {h h' : AH} (hp : Pre h h') (hc : c < h.length) : FrS c h h' := ⟨hp.1, fun i hi hg => ⟨hp.2 i hi, by rw [grS_pre hp hc]; exact hg⟩⟩
section
variable {c : Nat} {h h' : AH} {vs : List AV} {Ls : List (List AV)}
theorem KS.lt (hk : KS c h vs Ls) : c < h.length := (List.getElem?_eq_some_iff.1 hk.1).1
theorem KS.gr_iff (hk : KS c h vs Ls) (i : Nat) : grS c h i ↔ i = c ∨ ∃ v ∈ vs, rowOf v = some i := by
  unfold grS
  constructor
  · rintro (rfl | ⟨us, v, h1, h2, h3⟩)
    · exact .inl rfl
    · rw [hk.1] at h1
      simp only [Option.some.injEq, AO.row.injEq, and_true] at h1
      subst h1
      exact .inr ⟨v, h2, h3⟩
  · rintro (rfl | ⟨v, h2, h3⟩)
    · exact .inl rfl
    · exact .inr ⟨vs, v, hk.1, h2, h3⟩
theorem KS.gr_lt (hk : KS c h vs Ls) {i : Nat} (hg : grS c h i) : i < h.length := by
  rcases (hk.gr_iff i).1 hg with rfl | ⟨v, h2, h3⟩
  · exact hk.lt
  · obtain ⟨j, hj⟩ := List.mem_iff_getElem?.1 h2
    have hjl := (List.getElem?_eq_some_iff.1 hj).1
    exact own_lt (hk.2.2.1 j v (Ls[j]'(by rw [← hk.2.1]; exact hjl)) hj (by simp)) h3
theorem KS.pre (hk : KS c h vs Ls) (hp : Pre h h') : KS c h' vs Ls := by
  have := hk.lt
  exact ⟨by rw [hp.2 c this]; exact hk.1, hk.2.1, fun j v L h1 h2 => Own.pre hp (hk.2.2.1 j v L h1 h2), hk.2.2.2⟩
theorem KS.fresh (hk : KS c h vs Ls) (hp : Pre h h') {r : Nat} (hr : h.length ≤ r) : ¬ grS c h' r := by
  rw [grS_pre hp hk.lt]
  intro hg
  have := hk.gr_lt hg
  omega
theorem KS.rd (hk : KS c h vs Ls) {j : Nat} {v : AV} (hv : vs[j]? = some v) : rdRow h c 0 j 1 = some [v] := by
  have hj := (List.getElem?_eq_some_iff.1 hv).1
  rw [rd_of hk.1 ⟨Nat.le_refl _, Nat.le_refl _, by omega⟩, List.drop_eq_getElem_cons hj]
  obtain ⟨_, e⟩ := List.getElem?_eq_some_iff.1 hv
  rw [e]; rfl
/-- One element more in one of the slices. -/
theorem KS.push (hk : KS c h vs Ls) {j : Nat} {v : AV} {L : List AV} (hv : vs[j]? = some v) (hL : Ls[j]? = some L) (hl : L.length + 1 ≤ 1099511627776) {x : AV} (hx : x.sc = true) :
    ∃ v' g1, apRow (h ++ [.row [x] 0 0 false]) 1 v 1 [x] = some (v', g1) ∧ v'.cells = [v'] ∧ v'.sc = true ∧ wrRow g1 c 0 j [v'] = some (g1.set c (.row (vs.set j v') 0 0 false)) ∧ KS c (g1.set c (.row (vs.set j v') 0 0 false)) (vs.set j v') (Ls.set j (L ++ [x])) ∧
      FrS c h (g1.set c (.row (vs.set j v') 0 0 false)) := by
  have pu := Pre.push h (AO.row [x] 0 0 false)
  have hk1 := hk.pre pu
  have ho := hk1.2.2.1 j v L hv hL
  obtain ⟨v', g1, ha, ho', hag⟩ := ap_ag (b := []) ho (by simp) (q := 1) (vs := [x]) (by simp) (by simp [hx]) hl
  obtain ⟨f1, f2, f3⟩ := apRow_fr ha
  have hcl := hk1.lt
  have hjl := (List.getElem?_eq_some_iff.1 hv).1
  have hjl2 := (List.getElem?_eq_some_iff.1 hL).1
  have hcv : v'.cells = [v'] ∧ v'.sc = true := by
    unfold Own at ho'
    cases v' <;> simp only at ho' <;> first
      | exact ⟨rfl, rfl⟩
      | exact ho'.elim
  have rc : g1[c]? = some (.row vs 0 0 false) := by rw [f1 c hcl (hk.2.2.2.1 j v hv)]; exact hk1.1
  have hcl1 := (List.getElem?_eq_some_iff.1 rc).1
  have hgl : (h ++ [AO.row [x] 0 0 false]).length = h.length + 1 := by simp
  -- the rows of the new slice
  have hnew : ∀ r, rowOf v' = some r → rowOf v = some r ∨ r = h.length + 1 := fun r hr => by
    rcases f3 r hr with h1 | h1
    · exact .inl h1
    · exact .inr (by omega)
  have hold : ∀ (i : Nat) u r, vs[i]? = some u → rowOf u = some r → r < h.length := by
    intro i u r hu hr
    have hil := (List.getElem?_eq_some_iff.1 hu).1
    exact own_lt (hk.2.2.1 i u (Ls[i]'(by rw [← hk.2.1]; exact hil)) hu (by simp)) hr
  have hset : (g1.set c (.row (vs.set j v') 0 0 false))[c]? = some (.row (vs.set j v') 0 0 false) := by rw [List.getElem?_set, if_pos rfl, if_pos hcl1]
  have hks : KS c (g1.set c (.row (vs.set j v') 0 0 false)) (vs.set j v') (Ls.set j (L ++ [x])) := by
    refine ⟨hset, by simp [hk.2.1], ?_, ?_, ?_⟩
    · intro i u M hu hM
      by_cases hij : j = i
      · subst hij
        rw [List.getElem?_set, if_pos rfl, if_pos hjl] at hu
        rw [List.getElem?_set, if_pos rfl, if_pos hjl2] at hM
        cases hu; cases hM
        have h1 : Own 1 [] g1 v' (L ++ [x]).length (L ++ [x]) := by rw [List.length_append]; exact ho'
        refine own_row h1 fun r hr => ?_
        rw [List.getElem?_set, if_neg]
        rintro rfl
        rcases hnew c hr with h2 | h2
        · exact hk.2.2.2.1 j v hv h2
        · have := hk.lt; omega
      · rw [List.getElem?_set, if_neg hij] at hu hM
        refine own_row (hk1.2.2.1 i u M hu hM) fun r hr => ?_
        rw [List.getElem?_set, if_neg (by rintro rfl; exact hk.2.2.2.1 i u hu hr)]
        exact f1 r (by have := hold i u r hu hr; omega) (hk.2.2.2.2 i j u v r (Ne.symm hij) hu hv hr)
    · intro i u hu
      by_cases hij : j = i
      · subst hij
        rw [List.getElem?_set, if_pos rfl, if_pos hjl] at hu
        cases hu
        intro hr
        rcases hnew c hr with h2 | h2
        · exact hk.2.2.2.1 j v hv h2
        · have := hk.lt; omega
      · rw [List.getElem?_set, if_neg hij] at hu
        exact hk.2.2.2.1 i u hu
    · intro i1 i2 u1 u2 r hne h1 h2 h3 h4
      by_cases e1 : j = i1
      · subst e1
        rw [List.getElem?_set, if_pos rfl, if_pos hjl] at h1
        rw [List.getElem?_set, if_neg hne] at h2
        cases h1
        rcases hnew r h3 with h5 | h5
        · exact hk.2.2.2.2 j i2 v u2 r hne hv h2 h5 h4
        · have := hold i2 u2 r h2 h4; omega
      · rw [List.getElem?_set, if_neg e1] at h1
        by_cases e2 : j = i2
        · subst e2
          rw [List.getElem?_set, if_pos rfl, if_pos hjl] at h2
          cases h2
          rcases hnew r h4 with h5 | h5
          · exact hk.2.2.2.2 i1 j u1 v r hne h1 hv h3 h5
          · have := hold i1 u1 r h1 h3; omega
        · rw [List.getElem?_set, if_neg e2] at h2
          exact hk.2.2.2.2 i1 i2 u1 u2 r hne h1 h2 h3 h4
  refine ⟨v', g1, ha, hcv.1, hcv.2, ?_, hks, ?_⟩
  · rw [wr_of rc ⟨rfl, Nat.le_refl _, by simp; omega⟩, if_pos (by simp [hcv.2]), splice_one hjl]
  · refine ⟨by simp only [List.length_set]; have := pu.1; omega, fun i hi hn => ⟨?_, ?_⟩⟩
    · have hic : i ≠ c := fun e => hn (.inl e)
      rw [List.getElem?_set, if_neg (Ne.symm hic), f1 i (by omega) (fun hr => hn ((hk.gr_iff i).2 (.inr ⟨v, List.mem_of_getElem? hv, hr⟩))), pu.2 i hi]
    · rw [hks.gr_iff]
      rintro (rfl | ⟨u, hu, hr⟩)
      · exact hn (.inl rfl)
      · obtain ⟨q, hq⟩ := List.mem_iff_getElem?.1 hu
        by_cases hij : j = q
        · subst hij
          rw [List.getElem?_set, if_pos rfl, if_pos hjl] at hq
          cases hq
          rcases hnew i hr with h2 | h2
          · exact hn ((hk.gr_iff i).2 (.inr ⟨v, List.mem_of_getElem? hv, h2⟩))
          · omega
        · rw [List.getElem?_set, if_neg hij] at hq
          exact hn ((hk.gr_iff i).2 (.inr ⟨u, List.mem_of_getElem? hq, hr⟩))
end
def SlcS {α : Type} (esz : Nat) (enc : α → List AV) (c : Nat) (h : AH) (v : AV) (L : List α) : Prop := Slc esz enc h v L ∧ ∀ r, rowOf v = some r → ¬ grS c h r
theorem SlcS.fr {α : Type} {esz : Nat} {enc : α → List AV} {c : Nat} {h h' : AH} {v : AV} {L : List α} (hs : SlcS esz enc c h v L) (hf : FrS c h h') : SlcS esz enc c h' v L :=
  ⟨hs.1.stay fun r hr => (hf.2 r (hs.1.lt hr) (hs.2 r hr)).1, fun r hr => (hf.2 r (hs.1.lt hr) (hs.2 r hr)).2⟩
theorem Slc.getK {α : Type} {esz : Nat} {enc : α → List AV} (hl : ∀ x, (enc x).length = esz) {h : AH} {v : AV} {L : List α} (hs : Slc esz enc h v L) {i : Nat} {x : α} (hi : L[i]? = some x) : ∃ c kk off, v = .slice c kk off L.length esz ∧ rdRow h c kk (off + i * esz) esz = some (enc x) := by
  obtain ⟨hlt, e⟩ := List.getElem?_eq_some_iff.1 hi
  have hLe : L = L.take i ++ x :: L.drop (i + 1) := by
    have := (List.take_append_drop i L).symm
    rwa [List.drop_eq_getElem_cons hlt, e] at this
  have hs2 := hs
  rw [hLe] at hs2
  obtain ⟨c, kk, off, hv, hr⟩ := hs2.at hl
  rw [← hLe] at hv
  rw [List.length_take, show min i L.length = i by omega] at hr
  exact ⟨c, kk, off, hv, hr⟩
theorem ks_own {α : Type} {enc : α → List AV} (hl : ∀ x, (enc x).length = 1) {h : AH} {v : AV} {L : List α} (ho : Own 1 [] h v (L.flatMap enc).length (L.flatMap enc)) : OwL 1 enc [] h v L := by
  have := flat_len hl L
  rw [Nat.mul_one] at this
  rw [this] at ho
  exact ho
end Go.Proofs.YtejhhdpfndiliaaGreatDoor.Ab

/- LENGTHS of games, the reference's. -/
namespace Go.Proofs.YtejhhdpfndiliaaGreatDoor.Ab
open Go
set_option maxRecDepth 100000
set_option maxHeartbeats 4000000

abbrev encN (n : Nat) : List AV := [.int .i64 n]
theorem hlN (n : Nat) : (encN n).length = 1 := rfl
def KL (N c : Nat) (h : AH) (K : List (List UInt8)) (M : List (Nat × Nat × Nat)) : Prop := (∃ v0 v1 v2 v3, KS c h [v0, v1, v2, v3] [K.flatMap encS, (M.map (·.1)).flatMap encN, (M.map (·.2.1)).flatMap encN, (M.map (·.2.2)).flatMap encN]) ∧ K.length = M.length ∧ K.Nodup ∧
  (∀ x ∈ K, x.length = N ∧ ∀ b ∈ x, b ∈ alph) ∧ ∀ (i : Nat) x m, K[i]? = some x → M[i]? = some m → ∀ w t, OkS N ([w], t) → x = gaK ([w], t) → m = lnB w t
theorem KL.pre {N c : Nat} {h h' : AH} {K : List (List UInt8)} {M : List (Nat × Nat × Nat)} (hk : KL N c h K M) (hp : Pre h h') : KL N c h' K M := by
  obtain ⟨⟨v0, v1, v2, v3, h1⟩, h2⟩ := hk
  exact ⟨⟨v0, v1, v2, v3, h1.pre hp⟩, h2⟩
theorem KL.lt {N c : Nat} {h : AH} {K : List (List UInt8)} {M : List (Nat × Nat × Nat)} (hk : KL N c h K M) : c < h.length := by
  obtain ⟨⟨v0, v1, v2, v3, h1⟩, h2⟩ := hk
  exact h1.lt
theorem KL.few {N c : Nat} (hN : N ≤ 14) {h : AH} {K : List (List UInt8)} {M : List (Nat × Nat × Nat)} (hk : KL N c h K M) : K.length < 2 ^ 39 := by
  obtain ⟨_, _, hnd, hal, _⟩ := hk
  have h1 := nodup_bound hnd hal
  have h2 : (6 : Nat) ^ N ≤ 6 ^ 14 := Nat.pow_le_pow_right (by omega) hN
  have h3 : alph.length = 6 := rfl
  rw [h3] at h1
  have h4 : (6 : Nat) ^ 14 < 2 ^ 39 := by decide
  omega
theorem e_l1Most (a b : Int) {h : AH} {post : AV → AH → Prop} : S 455 [.int .i64 a, .int .i64 b] h post k = post (.int .i64 (if a > b then a else b)) h := S_eq fun _ hp => by
  refine S_of rfl T455 ?_; unfold fi455
  by_cases h0 : a > b
  · rw [if_pos h0] at hp
    simp (maxSteps := 1000000) (disch := first | omega | rfl | (simp only [zL, two63, room] <;> omega) | fail) only [↓reduceIte, ↓zP, zW, WOp, evOp, evBin, binI, binSh, binS, evNil, keyIs, keyEq, mkv, AV.cells, AV.sc, optv, bnd, env, put, Env.get, Env.set, Env.del, Env.dels, Env.init, res1, resL, resV, fillP, splice, newRow, Nat.reduceEqDiff, Nat.reduceLT, Nat.reduceLeDiff, Nat.reduceAdd, Nat.reduceMul, Nat.reduceSub, Nat.reduceBEq, reduceCtorEq, ↓zR, zQ, Tr, StA, StT, h0]
    exact hp
  · rw [if_neg h0] at hp
    simp (maxSteps := 1000000) (disch := first | omega | rfl | (simp only [zL, two63, room] <;> omega) | fail) only [↓reduceIte, ↓zP, zW, WOp, evOp, evBin, binI, binSh, binS, evNil, keyIs, keyEq, mkv, AV.cells, AV.sc, optv, bnd, env, put, Env.get, Env.set, Env.del, Env.dels, Env.init, res1, resL, resV, fillP, splice, newRow, Nat.reduceEqDiff, Nat.reduceLT, Nat.reduceLeDiff, Nat.reduceAdd, Nat.reduceMul, Nat.reduceSub, Nat.reduceBEq, reduceCtorEq, ↓zR, zQ, Tr, StA, StT, h0]
    exact hp
theorem most_max (a b : Nat) : (if (a : Int) > ((b : Nat) : Int) then (a : Int) else ((b : Nat) : Int)) = ((max a b : Nat) : Int) := by
  split <;> omega
theorem lp_gl0 {c : Nat} {h : AH} {v0 : AV} {K : List (List UInt8)} (hs : Slc 1 encS h v0 K) (hK : K.length < 2 ^ 39) (w t : AV) (key : List UInt8) {R : X → Env → AH → Prop} :
    ∀ (rest pre : List (List UInt8)), K = pre ++ rest → (∀ i : Nat, K[i]? = some key → R .ret [(6, .int .i64 i)] h) → (key ∉ rest → R (.exit 0) [(0, .ptr c 0 0 4), (1, w), (2, t), (7, .str key)] h) →
    Cx (.loop lp453_0) [(0, .ptr c 0 0 4), (1, w), (2, t), (7, .str key), (24, v0), (25, .int .i64 K.length), (26, .int .i64 pre.length)] h R k k
  | [], pre, hpre, hf, hR => by
    subst hpre
    rw [w_loopb (c := lp453_0) (d := lb453_0) rfl]; unfold lb453_0
    simp only [List.append_nil]
    simp (maxSteps := 1000000) (disch := first | omega | rfl | (simp only [zL, two63, room] <;> omega) | fail) only [↓reduceIte, ↓zP, zW, WOp, evOp, evBin, binI, binSh, binS, evNil, keyIs, keyEq, mkv, AV.cells, AV.sc, optv, bnd, env, put, Env.get, Env.set, Env.del, Env.dels, Env.init, res1, resL, resV, fillP, splice, newRow, Nat.reduceEqDiff, Nat.reduceLT, Nat.reduceLeDiff, Nat.reduceAdd, Nat.reduceMul, Nat.reduceSub, Nat.reduceBEq, reduceCtorEq, ↓zR, zQ, Tr, StA, StT]
    exact hR (by simp)
  | x :: rest, pre, hpre, hf, hR => by
    have ih := lp_gl0 (c := c) hs hK w t key (R := R) rest (pre ++ [x])
    subst hpre
    obtain ⟨r1, k1, o1, rfl, hr⟩ := hs.at hlS
    have hl : (pre ++ x :: rest).length = pre.length + 1 + rest.length := by simp; omega
    have hr' : rdRow h r1 k1 (o1 + pre.length * 1) 1 = some [.str x] := hr
    have hK' := hK
    rw [hl] at ih hK' ⊢
    have hlt : (pre.length : Int) < ((pre.length + 1 + rest.length : Nat) : Int) := by omega
    have hw : (pre.length : Int) + 1 = ((pre ++ [x]).length : Int) := by simp
    have hw2 : IntKind.i64.wrap ((pre ++ [x]).length : Int) = ((pre ++ [x]).length : Int) := wrap_i (by simp; omega)
    rw [w_loopb (c := lp453_0) (d := lb453_0) rfl]; unfold lb453_0
    cases e : (x == key)
    · simp (maxSteps := 1000000) (disch := first | omega | rfl | (simp only [zL, two63, room] <;> omega) | fail) only [↓reduceIte, ↓zP, zW, WOp, evOp, evBin, binI, binSh, binS, evNil, keyIs, keyEq, mkv, AV.cells, AV.sc, optv, bnd, env, put, Env.get, Env.set, Env.del, Env.dels, Env.init, res1, resL, resV, fillP, splice, newRow, Nat.reduceEqDiff, Nat.reduceLT, Nat.reduceLeDiff, Nat.reduceAdd, Nat.reduceMul, Nat.reduceSub, Nat.reduceBEq, reduceCtorEq, ↓zR, zQ, Tr, StA, StT, hlt, hr', e, hw, hw2]
      rw [w_loopn (c := lp453_0) rfl]
      simp (maxSteps := 1000000) (disch := first | omega | rfl | (simp only [zL, two63, room] <;> omega) | fail) only [↓reduceIte, ↓zP, zW, WOp, evOp, evBin, binI, binSh, binS, evNil, keyIs, keyEq, mkv, AV.cells, AV.sc, optv, bnd, env, put, Env.get, Env.set, Env.del, Env.dels, Env.init, res1, resL, resV, fillP, splice, newRow, Nat.reduceEqDiff, Nat.reduceLT, Nat.reduceLeDiff, Nat.reduceAdd, Nat.reduceMul, Nat.reduceSub, Nat.reduceBEq, reduceCtorEq, ↓zR, zQ, Tr, StA, StT]
      refine ih (by simp) hf ?_
      intro hn
      refine hR ?_
      rw [List.mem_cons]
      rintro (rfl | hn')
      · simp at e
      · exact hn hn'
    · simp (maxSteps := 1000000) (disch := first | omega | rfl | (simp only [zL, two63, room] <;> omega) | fail) only [↓reduceIte, ↓zP, zW, WOp, evOp, evBin, binI, binSh, binS, evNil, keyIs, keyEq, mkv, AV.cells, AV.sc, optv, bnd, env, put, Env.get, Env.set, Env.del, Env.dels, Env.init, res1, resL, resV, fillP, splice, newRow, Nat.reduceEqDiff, Nat.reduceLT, Nat.reduceLeDiff, Nat.reduceAdd, Nat.reduceMul, Nat.reduceSub, Nat.reduceBEq, reduceCtorEq, ↓zR, zQ, Tr, StA, StT, hlt, hr', e]
      rw [beq_iff_eq] at e
      subst e
      exact hf pre.length (by simp)
def LOf (N c n : Nat) : Prop := ∀ (w : List UInt8) (t : Bool) (h : AH) (K : List (List UInt8)) (M : List (Nat × Nat × Nat)), mu w < n → w.length + 2 = N → signs w → KL N c h K M → ∀ post : AV → AH → Prop,
  (∀ (h' : AH) (K' : List (List UInt8)) (M' : List (Nat × Nat × Nat)) (i : Nat), FrS c h h' → KL N c h' K' M' → Came N (mu w + 1) K K' → M'[i]? = some (lnB w t) → post (.int .i64 i) h') → S 453 [.ptr c 0 0 4, .str w, .bool t] h post k
theorem lp_gl1 {N c n : Nat} (ih : LOf N c n) (hN2 : N ≤ 12) {w : List UInt8} {t : Bool} (hn : mu w < n + 1) (hN : w.length + 2 = N) (hg : signs w) (key : AV) {vm : AV} (C0 : Nat) (hC0 : C0 ≤ 1) {h0 : AH} {K0 : List (List UInt8)} {R : X → Env → AH → Prop} :
    ∀ (rest pre : List (Int × Int)) (h : AH) (K : List (List UInt8)) (M : List (Nat × Nat × Nat)), movesB w (kindS t) = pre ++ rest → FrS c h0 h → KL N c h K M → Came N (mu w) K0 K → SlcS 2 encM c h vm (movesB w (kindS t)) →
    (∀ h' K' M', FrS c h0 h' → KL N c h' K' M' → Came N (mu w) K0 K' → R (.exit 2) [(0, .ptr c 0 0 4), (7, key), (10, .int .i64 (lnB w t).1), (11, .int .i64 (lnB w t).2.1), (12, .int .i64 ((C0 + acM w t (movesB w (kindS t)) : Nat) : Int))] h') →
    Cx (.loop lp453_1) [(0, .ptr c 0 0 4), (1, .str w), (2, .bool t), (7, key), (10, .int .i64 (acL w t pre)), (11, .int .i64 (acS w t pre)), (12, .int .i64 ((C0 + acM w t pre : Nat) : Int)), (44, vm), (45, .int .i64 (movesB w (kindS t)).length), (46, .int .i64 pre.length)] h R k k := by
  intro rest
  induction rest with
  | nil =>
    intro pre h K M hL hf hk hc hs hR
    have hll : (movesB w (kindS t)).length = pre.length := by rw [hL]; simp
    rw [hll]
    rw [List.append_nil] at hL
    have e1 := (ac_all w t).1
    have e2 := (ac_all w t).2.1
    rw [e1, e2] at hR
    rw [← hL]
    rw [w_loopb (c := lp453_1) (d := lb453_1) rfl]; unfold lb453_1
    simp (maxSteps := 1000000) (disch := first | omega | rfl | (simp only [zL, two63, room] <;> omega) | fail) only [↓reduceIte, ↓zP, zW, WOp, evOp, evBin, binI, binSh, binS, evNil, keyIs, keyEq, mkv, AV.cells, AV.sc, optv, bnd, env, put, Env.get, Env.set, Env.del, Env.dels, Env.init, res1, resL, resV, fillP, splice, newRow, Nat.reduceEqDiff, Nat.reduceLT, Nat.reduceLeDiff, Nat.reduceAdd, Nat.reduceMul, Nat.reduceSub, Nat.reduceBEq, reduceCtorEq, ↓zR, zQ, Tr, StA, StT]
    exact hR h K M hf hk hc
  | cons m rest ihl =>
    intro pre h K M hL hf hk hc hs hR
    have hl10 : w.length ≤ 10 := by omega
    have hmm : m ∈ movesB w (kindS t) := by rw [hL]; simp
    obtain ⟨b1, b2⟩ := ln_few hmm hl10
    have bM := acM_le (pre := pre ++ [m]) (rest := rest) (by rw [hL]; simp) hg hl10
    have eL : acL w t (pre ++ [m]) = max (acL w t pre) (ln1 w t m + 1) := by unfold acL; rw [List.map_append]; exact loF_snoc _ _
    have eM : acM w t (pre ++ [m]) = acM w t pre + ln3 w t m := by unfold acM; rw [List.map_append, List.sum_append]; simp
    obtain ⟨i, u, rfl, hmv⟩ := movesB_mv hmm
    have hlen := movesB_len w (kindS t)
    have hml : (movesB w (kindS t)).length = pre.length + 1 + rest.length := by rw [hL]; simp; omega
    have hs' := hs
    rw [hL] at hs'
    obtain ⟨r1, k1, o1, hv1, hr⟩ := hs'.1.at hlM
    rw [← hL, hml] at hv1
    subst hv1
    rw [hml] at ihl ⊢
    have hr' : rdRow h r1 k1 (o1 + pre.length * 2) 2 = some [.int .i64 i, .int .i64 u] := hr
    have hlt : (pre.length : Int) < ((pre.length + 1 + rest.length : Nat) : Int) := by omega
    have hw1 : (pre.length : Int) + 1 = ((pre ++ [(((i : Int), (u : Int)) : Int × Int)]).length : Int) := by simp
    have hw2 : IntKind.i64.wrap ((pre ++ [(((i : Int), (u : Int)) : Int × Int)]).length : Int) = ((pre ++ [(((i : Int), (u : Int)) : Int × Int)]).length : Int) := wrap_i (by simp; omega)
    have p1 := Pre.push h (AO.row [.int .i64 i, .int .i64 u] 0 0 false)
    have hcl := hk.lt
    have hmu := mu_made hmv
    rw [w_loopb (c := lp453_1) (d := lb453_1) rfl]; unfold lb453_1
    simp (maxSteps := 1000000) (disch := first | omega | rfl | (simp only [zL, two63, room] <;> omega) | fail) only [↓reduceIte, ↓zP, zW, WOp, evOp, evBin, binI, binSh, binS, evNil, keyIs, keyEq, mkv, AV.cells, AV.sc, optv, bnd, env, put, Env.get, Env.set, Env.del, Env.dels, Env.init, res1, resL, resV, fillP, splice, newRow, Nat.reduceEqDiff, Nat.reduceLT, Nat.reduceLeDiff, Nat.reduceAdd, Nat.reduceMul, Nat.reduceSub, Nat.reduceBEq, reduceCtorEq, ↓zR, zQ, Tr, StA, StT, hlt, hr']
    refine c_liMake w i u hmv.1 hmv.2.1 hmv.ne (by omega) ?_
    intro h2 hp2
    have p12 := p1.trans hp2
    simp (maxSteps := 1000000) (disch := first | omega | rfl | (simp only [zL, two63, room] <;> omega) | fail) only [↓reduceIte, ↓zP, zW, WOp, evOp, evBin, binI, binSh, binS, evNil, keyIs, keyEq, mkv, AV.cells, AV.sc, optv, bnd, env, put, Env.get, Env.set, Env.del, Env.dels, Env.init, res1, resL, resV, fillP, splice, newRow, Nat.reduceEqDiff, Nat.reduceLT, Nat.reduceLeDiff, Nat.reduceAdd, Nat.reduceMul, Nat.reduceSub, Nat.reduceBEq, reduceCtorEq, ↓zR, zQ, Tr, StA, StT]
    refine ih (madeB w i u) (!t) h2 K M (by omega) (by rw [madeB_length]; exact hN) (signs_madeG hg hmv.1) (hk.pre p12) _ ?_
    intro h3 K3 M3 j hf3 hk3 hc3 hj
    have hf03 := hf.trans ((p12.frs hcl).trans hf3)
    have hcc : Came N (mu w) K0 K3 := hc.trans (hc3.mono (by omega))
    have hs3 := hs.fr ((p12.frs hcl).trans hf3)
    have hk3' := hk3
    obtain ⟨⟨v0, v1, v2, v3, hks⟩, hlen3, _⟩ := hk3'
    have hjl : j < M3.length := (List.getElem?_eq_some_iff.1 hj).1
    have hKb := hk3.few (by omega)
    have d1 := hks.rd (j := 1) rfl
    have d2 := hks.rd (j := 2) rfl
    have d3 := hks.rd (j := 3) rfl
    obtain ⟨c1, q1, f1, rfl, x1⟩ := Slc.getK hlN (ks_own hlN (hks.2.2.1 1 _ _ rfl rfl)).slc (i := j) (x := ln1 w t ((i : Int), (u : Int))) (by rw [List.getElem?_map, hj]; rfl)
    obtain ⟨c2, q2, f2, rfl, x2⟩ := Slc.getK hlN (ks_own hlN (hks.2.2.1 2 _ _ rfl rfl)).slc (i := j) (x := ln2 w t ((i : Int), (u : Int))) (by rw [List.getElem?_map, hj]; rfl)
    obtain ⟨c3, q3, f3, rfl, x3⟩ := Slc.getK hlN (ks_own hlN (hks.2.2.1 3 _ _ rfl rfl)).slc (i := j) (x := ln3 w t ((i : Int), (u : Int))) (by rw [List.getElem?_map, hj]; rfl)
    rw [List.length_map] at d1 d2 d3
    have eS : acS w t (pre ++ [((i : Int), (u : Int))]) = if pre = [] then ln2 w t ((i : Int), (u : Int)) + 1 else min (acS w t pre) (ln2 w t ((i : Int), (u : Int)) + 1) := by
      unfold acS
      rw [List.map_append]
      split
      · rename_i h0; subst h0; rfl
      · rename_i h0; exact shF_snoc (by simpa using h0) _
    generalize ln1 w t ((i : Int), (u : Int)) = n1 at *
    generalize ln2 w t ((i : Int), (u : Int)) = n2 at *
    generalize ln3 w t ((i : Int), (u : Int)) = n3 at *
    have y1 : rdRow h3 c1 q1 (f1 + j * 1) 1 = some [.int .i64 n1] := x1
    have y2 : rdRow h3 c2 q2 (f2 + j * 1) 1 = some [.int .i64 n2] := x2
    have y3 : rdRow h3 c3 q3 (f3 + j * 1) 1 = some [.int .i64 n3] := x3
    have hjlt : (j : Int) < ((M3.length : Nat) : Int) := by omega
    have w1 : IntKind.i64.wrap ((n1 : Int) + 1) = ((n1 + 1 : Nat) : Int) := by rw [IntKind.wrap_i64]; omega
    have w2 : IntKind.i64.wrap ((n2 : Int) + 1) = ((n2 + 1 : Nat) : Int) := by rw [IntKind.wrap_i64]; omega
    have w3 : IntKind.i64.wrap (((C0 + acM w t pre : Nat) : Int) + (n3 : Int)) = ((C0 + acM w t (pre ++ [((i : Int), (u : Int))]) : Nat) : Int) := by rw [IntKind.wrap_i64, eM]; omega
    have fin : ∀ S' : Nat, S' = acS w t (pre ++ [((i : Int), (u : Int))]) → Cx (.loop lp453_1) [(0, .ptr c 0 0 4), (1, .str w), (2, .bool t), (7, key), (10, .int .i64 ((max (acL w t pre) (n1 + 1) : Nat) : Int)), (11, .int .i64 S'), (12, .int .i64 ((C0 + acM w t (pre ++ [((i : Int), (u : Int))]) : Nat) : Int)), (44, .slice r1 k1 o1 (pre.length + 1 + rest.length) 2), (45, .int .i64 ((pre.length + 1 + rest.length : Nat) : Int)), (46, .int .i64 (pre ++ [((i : Int), (u : Int))]).length)] h3 R k k := by
      rintro S' rfl
      rw [← eL]
      exact ihl (pre ++ [((i : Int), (u : Int))]) h3 K3 M3 (by rw [hL]; simp) hf03 hk3 hcc hs3 hR
    by_cases h0 : pre = []
    · have k0 : (((pre.length : Nat) : Int) == 0) = true := by rw [h0]; rfl
      simp (maxSteps := 1000000) (disch := first | omega | rfl | (simp only [zL, two63, room] <;> omega) | fail) only [↓reduceIte, ↓zP, zW, WOp, evOp, evBin, binI, binSh, binS, evNil, keyIs, keyEq, mkv, AV.cells, AV.sc, optv, bnd, env, put, Env.get, Env.set, Env.del, Env.dels, Env.init, res1, resL, resV, fillP, splice, newRow, Nat.reduceEqDiff, Nat.reduceLT, Nat.reduceLeDiff, Nat.reduceAdd, Nat.reduceMul, Nat.reduceSub, Nat.reduceBEq, reduceCtorEq, ↓zR, zQ, Tr, StA, StT, d1, d2, d3, y1, y2, y3, hjlt, w1, w2, w3, k0, e_l1Most, most_max, hw1, hw2]
      rw [w_loopn (c := lp453_1) rfl]
      simp (maxSteps := 1000000) (disch := first | omega | rfl | (simp only [zL, two63, room] <;> omega) | fail) only [↓reduceIte, ↓zP, zW, WOp, evOp, evBin, binI, binSh, binS, evNil, keyIs, keyEq, mkv, AV.cells, AV.sc, optv, bnd, env, put, Env.get, Env.set, Env.del, Env.dels, Env.init, res1, resL, resV, fillP, splice, newRow, Nat.reduceEqDiff, Nat.reduceLT, Nat.reduceLeDiff, Nat.reduceAdd, Nat.reduceMul, Nat.reduceSub, Nat.reduceBEq, reduceCtorEq, ↓zR, zQ, Tr, StA, StT]
      exact fin _ (by rw [eS, if_pos h0])
    · have k0 : (((pre.length : Nat) : Int) == 0) = false := by
        rw [beq_eq_false_iff_ne]
        intro hh
        exact h0 (List.eq_nil_of_length_eq_zero (by omega))
      by_cases h9 : n2 + 1 < acS w t pre
      · have k9 : ((n2 + 1 : Nat) : Int) < ((acS w t pre : Nat) : Int) := by omega
        simp (maxSteps := 1000000) (disch := first | omega | rfl | (simp only [zL, two63, room] <;> omega) | fail) only [↓reduceIte, ↓zP, zW, WOp, evOp, evBin, binI, binSh, binS, evNil, keyIs, keyEq, mkv, AV.cells, AV.sc, optv, bnd, env, put, Env.get, Env.set, Env.del, Env.dels, Env.init, res1, resL, resV, fillP, splice, newRow, Nat.reduceEqDiff, Nat.reduceLT, Nat.reduceLeDiff, Nat.reduceAdd, Nat.reduceMul, Nat.reduceSub, Nat.reduceBEq, reduceCtorEq, ↓zR, zQ, Tr, StA, StT, d1, d2, d3, y1, y2, y3, hjlt, w1, w2, w3, k0, k9, e_l1Most, most_max, hw1, hw2]
        rw [w_loopn (c := lp453_1) rfl]
        simp (maxSteps := 1000000) (disch := first | omega | rfl | (simp only [zL, two63, room] <;> omega) | fail) only [↓reduceIte, ↓zP, zW, WOp, evOp, evBin, binI, binSh, binS, evNil, keyIs, keyEq, mkv, AV.cells, AV.sc, optv, bnd, env, put, Env.get, Env.set, Env.del, Env.dels, Env.init, res1, resL, resV, fillP, splice, newRow, Nat.reduceEqDiff, Nat.reduceLT, Nat.reduceLeDiff, Nat.reduceAdd, Nat.reduceMul, Nat.reduceSub, Nat.reduceBEq, reduceCtorEq, ↓zR, zQ, Tr, StA, StT]
        exact fin _ (by rw [eS, if_neg h0]; omega)
      · have k9 : ¬ (((n2 + 1 : Nat) : Int) < ((acS w t pre : Nat) : Int)) := by omega
        simp (maxSteps := 1000000) (disch := first | omega | rfl | (simp only [zL, two63, room] <;> omega) | fail) only [↓reduceIte, ↓zP, zW, WOp, evOp, evBin, binI, binSh, binS, evNil, keyIs, keyEq, mkv, AV.cells, AV.sc, optv, bnd, env, put, Env.get, Env.set, Env.del, Env.dels, Env.init, res1, resL, resV, fillP, splice, newRow, Nat.reduceEqDiff, Nat.reduceLT, Nat.reduceLeDiff, Nat.reduceAdd, Nat.reduceMul, Nat.reduceSub, Nat.reduceBEq, reduceCtorEq, ↓zR, zQ, Tr, StA, StT, d1, d2, d3, y1, y2, y3, hjlt, w1, w2, w3, k0, k9, e_l1Most, most_max, hw1, hw2]
        rw [w_loopn (c := lp453_1) rfl]
        simp (maxSteps := 1000000) (disch := first | omega | rfl | (simp only [zL, two63, room] <;> omega) | fail) only [↓reduceIte, ↓zP, zW, WOp, evOp, evBin, binI, binSh, binS, evNil, keyIs, keyEq, mkv, AV.cells, AV.sc, optv, bnd, env, put, Env.get, Env.set, Env.del, Env.dels, Env.init, res1, resL, resV, fillP, splice, newRow, Nat.reduceEqDiff, Nat.reduceLT, Nat.reduceLeDiff, Nat.reduceAdd, Nat.reduceMul, Nat.reduceSub, Nat.reduceBEq, reduceCtorEq, ↓zR, zQ, Tr, StA, StT]
        exact fin _ (by rw [eS, if_neg h0]; omega)
theorem c_lof {N c : Nat} (hN2 : N ≤ 12) : ∀ n : Nat, LOf N c n
  | 0 => fun w t h K M hn _ _ _ _ _ => by omega
  | n + 1 => by
    intro w t h K M hn hN hg hk post hp
    have ih := c_lof hN2 (c := c) n
    have hok : OkS N ([w], t) := by rw [← hN]; exact ok1 t hg
    have hKb := hk.few (by omega)
    have hcl := hk.lt
    have hk0 := hk
    obtain ⟨⟨v0, v1, v2, v3, hks⟩, hlen, hnd, hal, hgood⟩ := hk
    have p1 := Pre.push h (AO.row [.str w] 0 0 false)
    have hks1 := hks.pre p1
    have d0 := hks1.rd (j := 0) rfl
    have s0 := (ks_own hlS (hks1.2.2.1 0 _ _ rfl rfl)).slc
    have hbl := movesB_len w (kindS t)
    refine S_of rfl T453 ?_; unfold fi453
    simp (maxSteps := 1000000) (disch := first | omega | rfl | (simp only [zL, two63, room] <;> omega) | fail) only [↓reduceIte, ↓zP, zW, WOp, evOp, evBin, binI, binSh, binS, evNil, keyIs, keyEq, mkv, AV.cells, AV.sc, optv, bnd, env, put, Env.get, Env.set, Env.del, Env.dels, Env.init, res1, resL, resV, fillP, splice, newRow, Nat.reduceEqDiff, Nat.reduceLT, Nat.reduceLeDiff, Nat.reduceAdd, Nat.reduceMul, Nat.reduceSub, Nat.reduceBEq, reduceCtorEq, ↓zR, zQ, Tr, StA, StT]
    refine c_gaKey t (slc1 h w) (by simp) (by simp [gaTail]; omega) ?_
    have l0 := fun g => Slc.lenV (s0) (g := g) (ρ := fun _ => _) (x := .t 0) rfl; simp only [evOp] at l0
    simp (maxSteps := 1000000) (disch := first | omega | rfl | (simp only [zL, two63, room] <;> omega) | fail) only [↓reduceIte, ↓zP, zW, WOp, evOp, evBin, binI, binSh, binS, evNil, keyIs, keyEq, mkv, AV.cells, AV.sc, optv, bnd, env, put, Env.get, Env.set, Env.del, Env.dels, Env.init, res1, resL, resV, fillP, splice, newRow, Nat.reduceEqDiff, Nat.reduceLT, Nat.reduceLeDiff, Nat.reduceAdd, Nat.reduceMul, Nat.reduceSub, Nat.reduceBEq, reduceCtorEq, ↓zR, zQ, Tr, StA, StT, d0, l0]
    refine lp_gl0 s0 hKb (.str w) (.bool t) (gaK ([w], t)) K [] rfl ?_ ?_
    · intro i hi
      have hil : i < M.length := by rw [← hlen]; exact (List.getElem?_eq_some_iff.1 hi).1
      have e := hgood i _ M[i] hi (by simp) w t hok rfl
      simp (maxSteps := 1000000) (disch := first | omega | rfl | (simp only [zL, two63, room] <;> omega) | fail) only [↓reduceIte, ↓zP, zW, WOp, evOp, evBin, binI, binSh, binS, evNil, keyIs, keyEq, mkv, AV.cells, AV.sc, optv, bnd, env, put, Env.get, Env.set, Env.del, Env.dels, Env.init, res1, resL, resV, fillP, splice, newRow, Nat.reduceEqDiff, Nat.reduceLT, Nat.reduceLeDiff, Nat.reduceAdd, Nat.reduceMul, Nat.reduceSub, Nat.reduceBEq, reduceCtorEq, ↓zR, zQ, Tr, StA, StT]
      exact hp _ K M i (p1.frs hcl) (hk0.pre p1) (Came.refl _ _ _) (by rw [← e]; simp)
    · intro hnot
      simp (maxSteps := 1000000) (disch := first | omega | rfl | (simp only [zL, two63, room] <;> omega) | fail) only [↓reduceIte, ↓zP, zW, WOp, evOp, evBin, binI, binSh, binS, evNil, keyIs, keyEq, mkv, AV.cells, AV.sc, optv, bnd, env, put, Env.get, Env.set, Env.del, Env.dels, Env.init, res1, resL, resV, fillP, splice, newRow, Nat.reduceEqDiff, Nat.reduceLT, Nat.reduceLeDiff, Nat.reduceAdd, Nat.reduceMul, Nat.reduceSub, Nat.reduceBEq, reduceCtorEq, ↓zR, zQ, Tr, StA, StT]
      refine c_liMoves w hg (by omega) t (!t) ?_
      intro vm h2 ho2 hp2
      rw [liMovesB_eq, kindsS_not] at ho2
      have hkA := (hk0.pre p1)
      have hsm : SlcS 2 encM c h2 vm (movesB w (kindS t)) := ⟨ho2.slc, fun r hr => hks1.fresh hp2 (own_ge ho2 hr)⟩
      have pA := p1.trans hp2
      have lv := fun g => Slc.lenV (hsm.1) (g := g) (ρ := fun _ => _) (x := .t 0) rfl; simp only [evOp] at lv
      have hC : ∃ C0 : Nat, C0 ≤ 1 ∧ C0 + acM w t (movesB w (kindS t)) = (lnB w t).2.2 ∧ (C0 : Int) = if movesB w (kindS t) = [] then 1 else 0 := by
        have e := (ac_all w t).2.2
        by_cases h0 : movesB w (kindS t) = []
        · rw [if_pos h0] at e
          exact ⟨1, Nat.le_refl _, by rw [e, h0]; rfl, by rw [if_pos h0]; rfl⟩
        · rw [if_neg h0] at e
          exact ⟨0, by omega, by rw [e, Nat.zero_add], by rw [if_neg h0]; rfl⟩
      obtain ⟨C0, hC1, hC2, hC3⟩ := hC
      have main : ∀ R : X → Env → AH → Prop, (∀ h' K' M', FrS c h2 h' → KL N c h' K' M' → Came N (mu w) K K' → R (.exit 2) [(0, .ptr c 0 0 4), (7, .str (gaK ([w], t))), (10, .int .i64 (lnB w t).1), (11, .int .i64 (lnB w t).2.1), (12, .int .i64 ((lnB w t).2.2 : Nat))] h') →
          Cx (.loop lp453_1) [(0, .ptr c 0 0 4), (1, .str w), (2, .bool t), (7, .str (gaK ([w], t))), (10, .int .i64 0), (11, .int .i64 0), (12, .int .i64 C0), (44, vm), (45, .int .i64 (movesB w (kindS t)).length), (46, .int .i64 0)] h2 R k k := by
        intro R hR
        have := lp_gl1 ih hN2 hn hN hg (.str (gaK ([w], t))) (vm := vm) C0 hC1 (h0 := h2) (K0 := K) (R := R) (movesB w (kindS t)) [] h2 K M rfl (FrS.refl _ _) (hkA.pre hp2) (Came.refl _ _ _) hsm (by rw [hC2]; exact hR)
        exact this
      have last : ∀ h3 K3 M3, FrS c h2 h3 → KL N c h3 K3 M3 → Came N (mu w) K K3 → ∃ n0 n1 n2 n3 g0 g1 g2 g3 u0 u1 u2 u3,
          (rdRow h3 c 0 0 1 = some [u0] ∧ apRow (h3 ++ [.row [.str (gaK ([w], t))] 0 0 false]) 1 u0 1 [.str (gaK ([w], t))] = some (n0, g0) ∧ n0.cells = [n0] ∧ wrRow g0 c 0 0 [n0] = some (g0.set c (.row [n0, u1, u2, u3] 0 0 false))) ∧
          (rdRow (g0.set c (.row [n0, u1, u2, u3] 0 0 false)) c 0 1 1 = some [u1] ∧ apRow (g0.set c (.row [n0, u1, u2, u3] 0 0 false) ++ [.row [.int .i64 (lnB w t).1] 0 0 false]) 1 u1 1 [.int .i64 (lnB w t).1] = some (n1, g1) ∧ n1.cells = [n1] ∧ wrRow g1 c 0 1 [n1] = some (g1.set c (.row [n0, n1, u2, u3] 0 0 false))) ∧
          (rdRow (g1.set c (.row [n0, n1, u2, u3] 0 0 false)) c 0 2 1 = some [u2] ∧ apRow (g1.set c (.row [n0, n1, u2, u3] 0 0 false) ++ [.row [.int .i64 (lnB w t).2.1] 0 0 false]) 1 u2 1 [.int .i64 (lnB w t).2.1] = some (n2, g2) ∧ n2.cells = [n2] ∧ wrRow g2 c 0 2 [n2] = some (g2.set c (.row [n0, n1, n2, u3] 0 0 false))) ∧
          (rdRow (g2.set c (.row [n0, n1, n2, u3] 0 0 false)) c 0 3 1 = some [u3] ∧ apRow (g2.set c (.row [n0, n1, n2, u3] 0 0 false) ++ [.row [.int .i64 ((lnB w t).2.2 : Nat)] 0 0 false]) 1 u3 1 [.int .i64 ((lnB w t).2.2 : Nat)] = some (n3, g3) ∧ n3.cells = [n3] ∧ wrRow g3 c 0 3 [n3] = some (g3.set c (.row [n0, n1, n2, n3] 0 0 false))) ∧
          rdRow (g3.set c (.row [n0, n1, n2, n3] 0 0 false)) c 0 0 1 = some [n0] ∧ Slc 1 encS (g3.set c (.row [n0, n1, n2, n3] 0 0 false)) n0 (K3 ++ [gaK ([w], t)]) ∧ FrS c h2 (g3.set c (.row [n0, n1, n2, n3] 0 0 false)) ∧
          KL N c (g3.set c (.row [n0, n1, n2, n3] 0 0 false)) (K3 ++ [gaK ([w], t)]) (M3 ++ [lnB w t]) ∧ Came N (mu w + 1) K (K3 ++ [gaK ([w], t)]) ∧ K3.length < 2 ^ 39 ∧ K3.length = M3.length := by
        intro h3 K3 M3 hf3 hk3 hc3
        have hKb3 := hk3.few (by omega)
        obtain ⟨⟨u0, u1, u2, u3, kq⟩, ql, qnd, qal, qgood⟩ := hk3
        have hnot2 : gaK ([w], t) ∉ K3 := by
          intro hin
          rcases hc3 _ hin with h1 | ⟨s, h1, h4, h5⟩
          · exact hnot h1
          · have := gaK_inj (s := ([w], t)) (s' := s) hok.1 h1.1 h5
            subst this
            rw [muL_one] at h4
            omega
        have lK := flat_len hlS K3
        have lA := flat_len hlN (M3.map (·.1))
        have lB := flat_len hlN (M3.map (·.2.1))
        have lC := flat_len hlN (M3.map (·.2.2))
        rw [Nat.mul_one] at lK
        rw [Nat.mul_one, List.length_map] at lA lB lC
        obtain ⟨n0, g0, a0, b0, _, e0, kq0, f0⟩ := kq.push (j := 0) rfl rfl (by omega) (x := .str (gaK ([w], t))) rfl
        simp only [List.set_cons_zero, List.set_cons_succ] at e0 kq0 f0
        obtain ⟨n1, g1, a1, b1, _, e1, kq1, f1⟩ := kq0.push (j := 1) rfl rfl (by omega) (x := .int .i64 (lnB w t).1) rfl
        simp only [List.set_cons_zero, List.set_cons_succ] at e1 kq1 f1
        obtain ⟨n2, g2, a2, b2, _, e2, kq2, f2⟩ := kq1.push (j := 2) rfl rfl (by omega) (x := .int .i64 (lnB w t).2.1) rfl
        simp only [List.set_cons_zero, List.set_cons_succ] at e2 kq2 f2
        obtain ⟨n3, g3, a3, b3, _, e3, kq3, f3⟩ := kq2.push (j := 3) rfl rfl (by omega) (x := .int .i64 ((lnB w t).2.2 : Nat)) rfl
        simp only [List.set_cons_zero, List.set_cons_succ] at e3 kq3 f3
        have eK : K3.flatMap encS ++ [AV.str (gaK ([w], t))] = (K3 ++ [gaK ([w], t)]).flatMap encS := by rw [List.flatMap_append]; rfl
        have eA : (M3.map (·.1)).flatMap encN ++ [AV.int .i64 ((lnB w t).1 : Nat)] = ((M3 ++ [lnB w t]).map (·.1)).flatMap encN := by rw [List.map_append, List.flatMap_append]; rfl
        have eB : (M3.map (·.2.1)).flatMap encN ++ [AV.int .i64 ((lnB w t).2.1 : Nat)] = ((M3 ++ [lnB w t]).map (·.2.1)).flatMap encN := by rw [List.map_append, List.flatMap_append]; rfl
        have eC : (M3.map (·.2.2)).flatMap encN ++ [AV.int .i64 ((lnB w t).2.2 : Nat)] = ((M3 ++ [lnB w t]).map (·.2.2)).flatMap encN := by rw [List.map_append, List.flatMap_append]; rfl
        have D0 := kq.rd (j := 0) rfl
        have D1 := kq0.rd (j := 1) rfl
        have D2 := kq1.rd (j := 2) rfl
        have D3 := kq2.rd (j := 3) rfl
        have D4 := kq3.rd (j := 0) rfl
        rw [eK, eA, eB, eC] at kq3
        refine ⟨n0, n1, n2, n3, g0, g1, g2, g3, u0, u1, u2, u3, ⟨D0, a0, b0, e0⟩, ⟨D1, a1, b1, e1⟩, ⟨D2, a2, b2, e2⟩, ⟨D3, a3, b3, e3⟩, D4, (ks_own hlS (kq3.2.2.1 0 _ _ rfl rfl)).slc, hf3.trans (f0.trans (f1.trans (f2.trans f3))), ⟨⟨n0, n1, n2, n3, kq3⟩, by simp [ql], ?_, ?_, ?_⟩, ?_, hKb3, ql⟩
        · rw [List.nodup_append]
          exact ⟨qnd, by simp, fun a ha b hb' => by simp at hb'; subst hb'; rintro rfl; exact hnot2 ha⟩
        · intro x hx
          rcases List.mem_append.1 hx with hx | hx
          · exact qal x hx
          · simp at hx; subst hx; exact ⟨hok.2, hok.alph⟩
        · intro i x b hx hb' w' t' hs' hxs
          by_cases hi : i < K3.length
          · rw [List.getElem?_append_left hi] at hx
            rw [List.getElem?_append_left (by omega)] at hb'
            exact qgood i x b hx hb' w' t' hs' hxs
          · have hi2 : i = K3.length := by
              have := (List.getElem?_eq_some_iff.1 hx).1
              simp at this; omega
            subst hi2
            rw [List.getElem?_append_right (Nat.le_refl _)] at hx
            rw [List.getElem?_append_right (by omega)] at hb'
            simp at hx
            rw [show K3.length - M3.length = 0 by omega] at hb'
            simp at hb'
            subst hb'
            have := gaK_inj (s := ([w], t)) (s' := ([w'], t')) hok.1 hs'.1 (hx.trans hxs)
            simp only [Prod.mk.injEq, List.cons.injEq, and_true] at this
            obtain ⟨rfl, rfl⟩ := this
            rfl
        · intro x hx
          rcases List.mem_append.1 hx with hx | hx
          · exact (hc3.mono (by omega)) x hx
          · simp at hx; subst hx; exact .inr ⟨([w], t), hok, by rw [muL_one]; omega, rfl⟩
      by_cases h0 : movesB w (kindS t) = []
      · have k0 : (((movesB w (kindS t)).length : Int) == 0) = true := by rw [h0]; rfl
        rw [if_pos h0] at hC3
        rw [hC3] at main
        simp (maxSteps := 1000000) (disch := first | omega | rfl | (simp only [zL, two63, room] <;> omega) | fail) only [↓reduceIte, ↓zP, zW, WOp, evOp, evBin, binI, binSh, binS, evNil, keyIs, keyEq, mkv, AV.cells, AV.sc, optv, bnd, env, put, Env.get, Env.set, Env.del, Env.dels, Env.init, res1, resL, resV, fillP, splice, newRow, Nat.reduceEqDiff, Nat.reduceLT, Nat.reduceLeDiff, Nat.reduceAdd, Nat.reduceMul, Nat.reduceSub, Nat.reduceBEq, reduceCtorEq, ↓zR, zQ, Tr, StA, StT, lv, k0]
        refine main _ ?_
        intro h3 K3 M3 hf3 hk3 hc3
        obtain ⟨n0, n1, n2, n3, g0, g1, g2, g3, u0, u1, u2, u3, ⟨D0, a0, b0, e0⟩, ⟨D1, a1, b1, e1⟩, ⟨D2, a2, b2, e2⟩, ⟨D3, a3, b3, e3⟩, D4, S4, F4, K4, C4, L4, Q4⟩ := last h3 K3 M3 hf3 hk3 hc3
        have l4 := fun g => Slc.lenV (S4) (g := g) (ρ := fun _ => _) (x := .t 0) rfl; simp only [evOp] at l4
        have wz : IntKind.i64.wrap (((K3 ++ [gaK ([w], t)]).length : Int) - 1) = (M3.length : Int) := by
          rw [List.length_append, IntKind.wrap_i64]
          simp only [List.length_cons, List.length_nil]
          omega
        simp only [AV.cells] at b0 b1 b2 b3
        simp (maxSteps := 1000000) (disch := first | omega | rfl | (simp only [zL, two63, room] <;> omega) | fail) only [↓reduceIte, ↓zP, zW, WOp, evOp, evBin, binI, binSh, binS, evNil, keyIs, keyEq, mkv, AV.cells, AV.sc, optv, bnd, env, put, Env.get, Env.set, Env.del, Env.dels, Env.init, res1, resL, resV, fillP, splice, newRow, Nat.reduceEqDiff, Nat.reduceLT, Nat.reduceLeDiff, Nat.reduceAdd, Nat.reduceMul, Nat.reduceSub, Nat.reduceBEq, reduceCtorEq, ↓zR, zQ, Tr, StA, StT, D0, D1, D2, D3, D4, a0, a1, a2, a3, b0, b1, b2, b3, e0, e1, e2, e3, l4, wz]
        exact hp _ _ _ M3.length ((pA.frs hcl).trans F4) K4 C4 (by rw [List.getElem?_append_right (Nat.le_refl _), Nat.sub_self]; rfl)
      · have k0 : (((movesB w (kindS t)).length : Int) == 0) = false := by
          rw [beq_eq_false_iff_ne]
          intro hh
          exact h0 (List.eq_nil_of_length_eq_zero (by omega))
        rw [if_neg h0] at hC3
        rw [hC3] at main
        simp (maxSteps := 1000000) (disch := first | omega | rfl | (simp only [zL, two63, room] <;> omega) | fail) only [↓reduceIte, ↓zP, zW, WOp, evOp, evBin, binI, binSh, binS, evNil, keyIs, keyEq, mkv, AV.cells, AV.sc, optv, bnd, env, put, Env.get, Env.set, Env.del, Env.dels, Env.init, res1, resL, resV, fillP, splice, newRow, Nat.reduceEqDiff, Nat.reduceLT, Nat.reduceLeDiff, Nat.reduceAdd, Nat.reduceMul, Nat.reduceSub, Nat.reduceBEq, reduceCtorEq, ↓zR, zQ, Tr, StA, StT, lv, k0]
        refine main _ ?_
        intro h3 K3 M3 hf3 hk3 hc3
        obtain ⟨n0, n1, n2, n3, g0, g1, g2, g3, u0, u1, u2, u3, ⟨D0, a0, b0, e0⟩, ⟨D1, a1, b1, e1⟩, ⟨D2, a2, b2, e2⟩, ⟨D3, a3, b3, e3⟩, D4, S4, F4, K4, C4, L4, Q4⟩ := last h3 K3 M3 hf3 hk3 hc3
        have l4 := fun g => Slc.lenV (S4) (g := g) (ρ := fun _ => _) (x := .t 0) rfl; simp only [evOp] at l4
        have wz : IntKind.i64.wrap (((K3 ++ [gaK ([w], t)]).length : Int) - 1) = (M3.length : Int) := by
          rw [List.length_append, IntKind.wrap_i64]
          simp only [List.length_cons, List.length_nil]
          omega
        simp only [AV.cells] at b0 b1 b2 b3
        simp (maxSteps := 1000000) (disch := first | omega | rfl | (simp only [zL, two63, room] <;> omega) | fail) only [↓reduceIte, ↓zP, zW, WOp, evOp, evBin, binI, binSh, binS, evNil, keyIs, keyEq, mkv, AV.cells, AV.sc, optv, bnd, env, put, Env.get, Env.set, Env.del, Env.dels, Env.init, res1, resL, resV, fillP, splice, newRow, Nat.reduceEqDiff, Nat.reduceLT, Nat.reduceLeDiff, Nat.reduceAdd, Nat.reduceMul, Nat.reduceSub, Nat.reduceBEq, reduceCtorEq, ↓zR, zQ, Tr, StA, StT, D0, D1, D2, D3, D4, a0, a1, a2, a3, b0, b1, b2, b3, e0, e1, e2, e3, l4, wz]
        exact hp _ _ _ M3.length ((pA.frs hcl).trans F4) K4 C4 (by rw [List.getElem?_append_right (Nat.le_refl _), Nat.sub_self]; rfl)
theorem KL.new {N : Nat} {h : AH} : KL N h.length (h ++ [.row [.nilS, .nilS, .nilS, .nilS] 0 0 false]) [] [] := by
  refine ⟨⟨.nilS, .nilS, .nilS, .nilS, by simp, rfl, ?_, ?_, ?_⟩, rfl, List.nodup_nil, fun x hx => by simp at hx, fun i x m hx => by simp at hx⟩
  · intro j v L hv hL
    have hj := (List.getElem?_eq_some_iff.1 hv).1
    simp only [List.length_cons, List.length_nil] at hj
    have : j = 0 ∨ j = 1 ∨ j = 2 ∨ j = 3 := by omega
    rcases this with rfl | rfl | rfl | rfl <;> (simp at hv hL; subst hv; subst hL; exact ⟨rfl, rfl⟩)
  · intro j v hv
    have := List.mem_of_getElem? hv
    simp at this
    subst this
    simp [rowOf]
  · intro i j u v r _ hu _ hr
    have := List.mem_of_getElem? hu
    simp at this
    subst this
    simp [rowOf] at hr
theorem ngs_old {h : AH} {r : Nat} (hr : r < h.length) : ¬ grS h.length (h ++ [.row [.nilS, .nilS, .nilS, .nilS] 0 0 false]) r := by
  rintro (rfl | ⟨vs, v, e1, e2, e3⟩)
  · exact Nat.lt_irrefl _ hr
  · simp at e1
    subst e1
    simp at e2
    subst e2
    simp [rowOf] at e3
theorem pre_newS {h h' : AH} (hf : FrS h.length (h ++ [.row [.nilS, .nilS, .nilS, .nilS] 0 0 false]) h') : Pre h h' := ⟨by have := hf.1; simp at this; omega, fun i hi => by rw [(hf.2 i (by simp; omega) (ngs_old hi)).1, List.getElem?_append_left hi]⟩
theorem c_sLongestGame (w : List UInt8) (t : Bool) (hw : w.length < 2 ^ 60) {h : AH} {post : AV → AH → Prop} (hp : ∀ h', Pre h h' → post (.tup [.int .i64 ((lnI w t).1 : Nat), .bool (plG10 w)]) h') : S 424 [.str w, .bool t] h post k := by
  unfold lnI at hp
  refine S_of rfl T424 ?_; unfold fi424
  cases e : plG10 w <;> rw [e] at hp
  · simp (maxSteps := 1000000) (disch := first | omega | rfl | (simp only [zL, two63, room] <;> omega) | fail) only [↓reduceIte, ↓zP, zW, WOp, evOp, evBin, binI, binSh, binS, evNil, keyIs, keyEq, mkv, AV.cells, AV.sc, optv, bnd, env, put, Env.get, Env.set, Env.del, Env.dels, Env.init, res1, resL, resV, fillP, splice, newRow, Nat.reduceEqDiff, Nat.reduceLT, Nat.reduceLeDiff, Nat.reduceAdd, Nat.reduceMul, Nat.reduceSub, Nat.reduceBEq, reduceCtorEq, ↓zR, zQ, Tr, StA, StT, e_gaFew w hw, e]
    exact hp h (Pre.refl h)
  · obtain ⟨h1, h2, h3⟩ := pl10 e
    simp (maxSteps := 1000000) (disch := first | omega | rfl | (simp only [zL, two63, room] <;> omega) | fail) only [↓reduceIte, ↓zP, zW, WOp, evOp, evBin, binI, binSh, binS, evNil, keyIs, keyEq, mkv, AV.cells, AV.sc, optv, bnd, env, put, Env.get, Env.set, Env.del, Env.dels, Env.init, res1, resL, resV, fillP, splice, newRow, Nat.reduceEqDiff, Nat.reduceLT, Nat.reduceLeDiff, Nat.reduceAdd, Nat.reduceMul, Nat.reduceSub, Nat.reduceBEq, reduceCtorEq, ↓zR, zQ, Tr, StA, StT, e_gaFew w hw, e]
    refine c_lof (N := w.length + 2) (by omega) (mu w + 1) w t _ [] [] (by omega) rfl h3 KL.new _ ?_
    intro h4 K4 M4 i hf4 hk4 _ hi
    have hk4' := hk4
    obtain ⟨⟨v0, v1, v2, v3, hks⟩, hlen, _⟩ := hk4'
    have hKb := hk4.few (by omega)
    have d := hks.rd (j := 1) rfl
    obtain ⟨c1, q1, f1, rfl, x1⟩ := Slc.getK hlN (ks_own hlN (hks.2.2.1 1 _ _ rfl rfl)).slc (i := i) (x := (lnB w t).1) (by rw [List.getElem?_map, hi]; rfl)
    rw [List.length_map] at d
    have hil : i < M4.length := (List.getElem?_eq_some_iff.1 hi).1
    have hilt : (i : Int) < ((M4.length : Nat) : Int) := by omega
    have y1 : rdRow h4 c1 q1 (f1 + i * 1) 1 = some [.int .i64 ((lnB w t).1 : Nat)] := x1
    simp (maxSteps := 1000000) (disch := first | omega | rfl | (simp only [zL, two63, room] <;> omega) | fail) only [↓reduceIte, ↓zP, zW, WOp, evOp, evBin, binI, binSh, binS, evNil, keyIs, keyEq, mkv, AV.cells, AV.sc, optv, bnd, env, put, Env.get, Env.set, Env.del, Env.dels, Env.init, res1, resL, resV, fillP, splice, newRow, Nat.reduceEqDiff, Nat.reduceLT, Nat.reduceLeDiff, Nat.reduceAdd, Nat.reduceMul, Nat.reduceSub, Nat.reduceBEq, reduceCtorEq, ↓zR, zQ, Tr, StA, StT, d, hilt, y1]
    exact hp h4 (pre_newS hf4)
theorem c_sShortestGame (w : List UInt8) (t : Bool) (hw : w.length < 2 ^ 60) {h : AH} {post : AV → AH → Prop} (hp : ∀ h', Pre h h' → post (.tup [.int .i64 ((lnI w t).2.1 : Nat), .bool (plG10 w)]) h') : S 426 [.str w, .bool t] h post k := by
  unfold lnI at hp
  refine S_of rfl T426 ?_; unfold fi426
  cases e : plG10 w <;> rw [e] at hp
  · simp (maxSteps := 1000000) (disch := first | omega | rfl | (simp only [zL, two63, room] <;> omega) | fail) only [↓reduceIte, ↓zP, zW, WOp, evOp, evBin, binI, binSh, binS, evNil, keyIs, keyEq, mkv, AV.cells, AV.sc, optv, bnd, env, put, Env.get, Env.set, Env.del, Env.dels, Env.init, res1, resL, resV, fillP, splice, newRow, Nat.reduceEqDiff, Nat.reduceLT, Nat.reduceLeDiff, Nat.reduceAdd, Nat.reduceMul, Nat.reduceSub, Nat.reduceBEq, reduceCtorEq, ↓zR, zQ, Tr, StA, StT, e_gaFew w hw, e]
    exact hp h (Pre.refl h)
  · obtain ⟨h1, h2, h3⟩ := pl10 e
    simp (maxSteps := 1000000) (disch := first | omega | rfl | (simp only [zL, two63, room] <;> omega) | fail) only [↓reduceIte, ↓zP, zW, WOp, evOp, evBin, binI, binSh, binS, evNil, keyIs, keyEq, mkv, AV.cells, AV.sc, optv, bnd, env, put, Env.get, Env.set, Env.del, Env.dels, Env.init, res1, resL, resV, fillP, splice, newRow, Nat.reduceEqDiff, Nat.reduceLT, Nat.reduceLeDiff, Nat.reduceAdd, Nat.reduceMul, Nat.reduceSub, Nat.reduceBEq, reduceCtorEq, ↓zR, zQ, Tr, StA, StT, e_gaFew w hw, e]
    refine c_lof (N := w.length + 2) (by omega) (mu w + 1) w t _ [] [] (by omega) rfl h3 KL.new _ ?_
    intro h4 K4 M4 i hf4 hk4 _ hi
    have hk4' := hk4
    obtain ⟨⟨v0, v1, v2, v3, hks⟩, hlen, _⟩ := hk4'
    have hKb := hk4.few (by omega)
    have d := hks.rd (j := 2) rfl
    obtain ⟨c1, q1, f1, rfl, x1⟩ := Slc.getK hlN (ks_own hlN (hks.2.2.1 2 _ _ rfl rfl)).slc (i := i) (x := (lnB w t).2.1) (by rw [List.getElem?_map, hi]; rfl)
    rw [List.length_map] at d
    have hil : i < M4.length := (List.getElem?_eq_some_iff.1 hi).1
    have hilt : (i : Int) < ((M4.length : Nat) : Int) := by omega
    have y1 : rdRow h4 c1 q1 (f1 + i * 1) 1 = some [.int .i64 ((lnB w t).2.1 : Nat)] := x1
    simp (maxSteps := 1000000) (disch := first | omega | rfl | (simp only [zL, two63, room] <;> omega) | fail) only [↓reduceIte, ↓zP, zW, WOp, evOp, evBin, binI, binSh, binS, evNil, keyIs, keyEq, mkv, AV.cells, AV.sc, optv, bnd, env, put, Env.get, Env.set, Env.del, Env.dels, Env.init, res1, resL, resV, fillP, splice, newRow, Nat.reduceEqDiff, Nat.reduceLT, Nat.reduceLeDiff, Nat.reduceAdd, Nat.reduceMul, Nat.reduceSub, Nat.reduceBEq, reduceCtorEq, ↓zR, zQ, Tr, StA, StT, d, hilt, y1]
    exact hp h4 (pre_newS hf4)
theorem c_sCountGames (w : List UInt8) (t : Bool) (hw : w.length < 2 ^ 60) {h : AH} {post : AV → AH → Prop} (hp : ∀ h', Pre h h' → post (.tup [.int .i64 ((lnI w t).2.2 : Nat), .bool (plG10 w)]) h') : S 428 [.str w, .bool t] h post k := by
  unfold lnI at hp
  refine S_of rfl T428 ?_; unfold fi428
  cases e : plG10 w <;> rw [e] at hp
  · simp (maxSteps := 1000000) (disch := first | omega | rfl | (simp only [zL, two63, room] <;> omega) | fail) only [↓reduceIte, ↓zP, zW, WOp, evOp, evBin, binI, binSh, binS, evNil, keyIs, keyEq, mkv, AV.cells, AV.sc, optv, bnd, env, put, Env.get, Env.set, Env.del, Env.dels, Env.init, res1, resL, resV, fillP, splice, newRow, Nat.reduceEqDiff, Nat.reduceLT, Nat.reduceLeDiff, Nat.reduceAdd, Nat.reduceMul, Nat.reduceSub, Nat.reduceBEq, reduceCtorEq, ↓zR, zQ, Tr, StA, StT, e_gaFew w hw, e]
    exact hp h (Pre.refl h)
  · obtain ⟨h1, h2, h3⟩ := pl10 e
    simp (maxSteps := 1000000) (disch := first | omega | rfl | (simp only [zL, two63, room] <;> omega) | fail) only [↓reduceIte, ↓zP, zW, WOp, evOp, evBin, binI, binSh, binS, evNil, keyIs, keyEq, mkv, AV.cells, AV.sc, optv, bnd, env, put, Env.get, Env.set, Env.del, Env.dels, Env.init, res1, resL, resV, fillP, splice, newRow, Nat.reduceEqDiff, Nat.reduceLT, Nat.reduceLeDiff, Nat.reduceAdd, Nat.reduceMul, Nat.reduceSub, Nat.reduceBEq, reduceCtorEq, ↓zR, zQ, Tr, StA, StT, e_gaFew w hw, e]
    refine c_lof (N := w.length + 2) (by omega) (mu w + 1) w t _ [] [] (by omega) rfl h3 KL.new _ ?_
    intro h4 K4 M4 i hf4 hk4 _ hi
    have hk4' := hk4
    obtain ⟨⟨v0, v1, v2, v3, hks⟩, hlen, _⟩ := hk4'
    have hKb := hk4.few (by omega)
    have d := hks.rd (j := 3) rfl
    obtain ⟨c1, q1, f1, rfl, x1⟩ := Slc.getK hlN (ks_own hlN (hks.2.2.1 3 _ _ rfl rfl)).slc (i := i) (x := (lnB w t).2.2) (by rw [List.getElem?_map, hi]; rfl)
    rw [List.length_map] at d
    have hil : i < M4.length := (List.getElem?_eq_some_iff.1 hi).1
    have hilt : (i : Int) < ((M4.length : Nat) : Int) := by omega
    have y1 : rdRow h4 c1 q1 (f1 + i * 1) 1 = some [.int .i64 ((lnB w t).2.2 : Nat)] := x1
    simp (maxSteps := 1000000) (disch := first | omega | rfl | (simp only [zL, two63, room] <;> omega) | fail) only [↓reduceIte, ↓zP, zW, WOp, evOp, evBin, binI, binSh, binS, evNil, keyIs, keyEq, mkv, AV.cells, AV.sc, optv, bnd, env, put, Env.get, Env.set, Env.del, Env.dels, Env.init, res1, resL, resV, fillP, splice, newRow, Nat.reduceEqDiff, Nat.reduceLT, Nat.reduceLeDiff, Nat.reduceAdd, Nat.reduceMul, Nat.reduceSub, Nat.reduceBEq, reduceCtorEq, ↓zR, zQ, Tr, StA, StT, d, hilt, y1]
    exact hp h4 (pre_newS hf4)
end Go.Proofs.YtejhhdpfndiliaaGreatDoor.Ab

/- GAMES won: the law's own helpers, what is drawn, plain facts. -/
namespace Go.Proofs.YtejhhdpfndiliaaGreatDoor.Ab
open Go
set_option maxRecDepth 100000
set_option maxHeartbeats 8000000

theorem lp_nMoves {v u : AV} {L : List (Int × Int)} (hlen : L.length < 2 ^ 30) {h : AH} (hs : Slc 2 encM h v L) (ht : Slc 2 encM h u L) {R : X → Env → AH → Prop} (hR : R (.exit 0) [] h) : ∀ (rest pre : List (Int × Int)), L = pre ++ rest →
    Cx (.loop lp429_0) [(0, v), (1, u), (12, .int .i64 L.length), (13, .int .i64 pre.length)] h R k k
  | [], pre, hL => by
    have hl : L.length = pre.length := by rw [hL]; simp
    rw [hl]
    rw [w_loopb (c := lp429_0) (d := lb429_0) rfl]; unfold lb429_0
    simp (maxSteps := 1000000) (disch := first | omega | rfl | (simp only [zL, two63, room] <;> omega) | fail) only [↓reduceIte, ↓zP, zW, WOp, evOp, evBin, binI, binSh, binS, evNil, keyIs, keyEq, mkv, AV.cells, AV.sc, optv, bnd, env, put, Env.get, Env.set, Env.del, Env.dels, Env.init, res1, resL, resV, fillP, splice, newRow, Nat.reduceEqDiff, Nat.reduceLT, Nat.reduceLeDiff, Nat.reduceAdd, Nat.reduceMul, Nat.reduceSub, Nat.reduceBEq, reduceCtorEq, ↓zR, zQ, Tr, StA, StT]
    exact hR
  | x :: rest, pre, hL => by
    have ih := lp_nMoves hlen hs ht (R := R) hR rest (pre ++ [x]) (by rw [hL]; simp)
    have hl : L.length = pre.length + 1 + rest.length := by rw [hL]; simp; omega
    have hs' := hs
    have ht' := ht
    rw [hL] at hs' ht'
    obtain ⟨r1, k1, o1, hve, hr⟩ := hs'.at hlM
    obtain ⟨r2, k2, o2, hue, hr2⟩ := ht'.at hlM
    rw [← hL, hl] at hve hue
    subst hve
    subst hue
    rw [hl] at ih ⊢
    have hr' : rdRow h r1 k1 (o1 + pre.length * 2) 2 = some [.int .i64 x.1, .int .i64 x.2] := hr
    have hr2' : rdRow h r2 k2 (o2 + pre.length * 2) 2 = some [.int .i64 x.1, .int .i64 x.2] := hr2
    have hlt : (pre.length : Int) < ((pre.length + 1 + rest.length : Nat) : Int) := by omega
    have hw1 : (pre.length : Int) + 1 = ((pre ++ [x]).length : Int) := by simp
    have hw2 : IntKind.i64.wrap ((pre ++ [x]).length : Int) = ((pre ++ [x]).length : Int) := wrap_i (by simp; omega)
    have hx : (((x.1, x.2) : Int × Int) == (x.1, x.2)) = true := by simp
    rw [w_loopb (c := lp429_0) (d := lb429_0) rfl]; unfold lb429_0
    simp (maxSteps := 1000000) (disch := first | omega | rfl | (simp only [zL, two63, room] <;> omega) | fail) only [↓reduceIte, ↓zP, zW, WOp, evOp, evBin, binI, binSh, binS, evNil, keyIs, keyEq, mkv, AV.cells, AV.sc, optv, bnd, env, put, Env.get, Env.set, Env.del, Env.dels, Env.init, res1, resL, resV, fillP, splice, newRow, Nat.reduceEqDiff, Nat.reduceLT, Nat.reduceLeDiff, Nat.reduceAdd, Nat.reduceMul, Nat.reduceSub, Nat.reduceBEq, reduceCtorEq, ↓zR, zQ, Tr, StA, StT, hlt, hr', hr2', seqM, hx, hw1, hw2]
    try refine w_drw ?_
    try (simp (maxSteps := 1000000) (disch := first | omega | rfl | (simp only [zL, two63, room] <;> omega) | fail) only [↓reduceIte, ↓zP, zW, WOp, evOp, evBin, binI, binSh, binS, evNil, keyIs, keyEq, mkv, AV.cells, AV.sc, optv, bnd, env, put, Env.get, Env.set, Env.del, Env.dels, Env.init, res1, resL, resV, fillP, splice, newRow, Nat.reduceEqDiff, Nat.reduceLT, Nat.reduceLeDiff, Nat.reduceAdd, Nat.reduceMul, Nat.reduceSub, Nat.reduceBEq, reduceCtorEq, ↓zR, zQ, Tr, StA, StT, hlt, hr', hr2', seqM, hx, hw1, hw2])
    rw [w_loopn (c := lp429_0) rfl]
    simp (maxSteps := 1000000) (disch := first | omega | rfl | (simp only [zL, two63, room] <;> omega) | fail) only [↓reduceIte, ↓zP, zW, WOp, evOp, evBin, binI, binSh, binS, evNil, keyIs, keyEq, mkv, AV.cells, AV.sc, optv, bnd, env, put, Env.get, Env.set, Env.del, Env.dels, Env.init, res1, resL, resV, fillP, splice, newRow, Nat.reduceEqDiff, Nat.reduceLT, Nat.reduceLeDiff, Nat.reduceAdd, Nat.reduceMul, Nat.reduceSub, Nat.reduceBEq, reduceCtorEq, ↓zR, zQ, Tr, StA, StT]
    exact ih
theorem c_nMoves {v u : AV} {L : List (Int × Int)} (hlen : L.length < 2 ^ 30) {h : AH} (hs : Slc 2 encM h v L) (ht : Slc 2 encM h u L) {post : AV → AH → Prop} (hp : post (.bool true) h) : S 429 [v, u] h post k := by
  refine S_of rfl T429 ?_; unfold fi429
  have hv := fun g => Slc.lenV (hs) (g := g) (ρ := fun _ => _) (x := .t 0) rfl; simp only [evOp] at hv
  have hu := fun g => Slc.lenV (ht) (g := g) (ρ := fun _ => _) (x := .t 0) rfl; simp only [evOp] at hu
  simp (maxSteps := 1000000) (disch := first | omega | rfl | (simp only [zL, two63, room] <;> omega) | fail) only [↓reduceIte, ↓zP, zW, WOp, evOp, evBin, binI, binSh, binS, evNil, keyIs, keyEq, mkv, AV.cells, AV.sc, optv, bnd, env, put, Env.get, Env.set, Env.del, Env.dels, Env.init, res1, resL, resV, fillP, splice, newRow, Nat.reduceEqDiff, Nat.reduceLT, Nat.reduceLeDiff, Nat.reduceAdd, Nat.reduceMul, Nat.reduceSub, Nat.reduceBEq, reduceCtorEq, ↓zR, zQ, Tr, StA, StT, hv, hu]
  refine lp_nMoves hlen hs ht ?_ L [] rfl
  simp (maxSteps := 1000000) (disch := first | omega | rfl | (simp only [zL, two63, room] <;> omega) | fail) only [↓reduceIte, ↓zP, zW, WOp, evOp, evBin, binI, binSh, binS, evNil, keyIs, keyEq, mkv, AV.cells, AV.sc, optv, bnd, env, put, Env.get, Env.set, Env.del, Env.dels, Env.init, res1, resL, resV, fillP, splice, newRow, Nat.reduceEqDiff, Nat.reduceLT, Nat.reduceLeDiff, Nat.reduceAdd, Nat.reduceMul, Nat.reduceSub, Nat.reduceBEq, reduceCtorEq, ↓zR, zQ, Tr, StA, StT]
  exact hp
theorem lp_nMove {v : AV} {L : List (Int × Int)} (hlen : L.length < 2 ^ 30) {b : AH} (hs : Slc 2 encM b v L) (p : Nat) (m : Int × Int) (hm : rdRow b p 0 0 2 = some [.int .i64 m.1, .int .i64 m.2]) {R : X → Env → AH → Prop} : ∀ (rest pre : List (Int × Int)) (h : AH), L = pre ++ rest → Pre b h →
    (∀ h', Pre b h' → rest.contains m = false → R (.exit 0) [] h') → (∀ h', Pre b h' → rest.contains m = true → R .ret [(4, .bool true)] h') →
    Cx (.loop lp35_0) [(3, .ptr p 0 0 2), (7, v), (8, .int .i64 L.length), (9, .int .i64 pre.length)] h R k k
  | [], pre, h, hL, hp, h1, h2 => by
    have hl : L.length = pre.length := by rw [hL]; simp
    rw [hl]
    rw [w_loopb (c := lp35_0) (d := lb35_0) rfl]; unfold lb35_0
    simp (maxSteps := 1000000) (disch := first | omega | rfl | (simp only [zL, two63, room] <;> omega) | fail) only [↓reduceIte, ↓zP, zW, WOp, evOp, evBin, binI, binSh, binS, evNil, keyIs, keyEq, mkv, AV.cells, AV.sc, optv, bnd, env, put, Env.get, Env.set, Env.del, Env.dels, Env.init, res1, resL, resV, fillP, splice, newRow, Nat.reduceEqDiff, Nat.reduceLT, Nat.reduceLeDiff, Nat.reduceAdd, Nat.reduceMul, Nat.reduceSub, Nat.reduceBEq, reduceCtorEq, ↓zR, zQ, Tr, StA, StT]
    exact h1 h hp rfl
  | x :: rest, pre, h, hL, hp, h1, h2 => by
    have ih := lp_nMove hlen hs p m hm (R := R) rest (pre ++ [x])
    have hl : L.length = pre.length + 1 + rest.length := by rw [hL]; simp; omega
    have hs' := hs.pre hp
    rw [hL] at hs'
    obtain ⟨r1, k1, o1, hve, hr⟩ := hs'.at hlM
    rw [← hL, hl] at hve
    subst hve
    rw [hl] at ih ⊢
    have hr' : rdRow h r1 k1 (o1 + pre.length * 2) 2 = some [.int .i64 x.1, .int .i64 x.2] := hr
    have hp2 : Pre b (h ++ [AO.row [AV.int .i64 x.1, AV.int .i64 x.2] 0 0 false]) := hp.trans (Pre.push _ _)
    have hm2 := rdRow_pre hp2 hm
    have hm3 := rdRow_pre hp hm
    have hpl := rd_lt hm3
    have hlt : (pre.length : Int) < ((pre.length + 1 + rest.length : Nat) : Int) := by omega
    have hw1 : (pre.length : Int) + 1 = ((pre ++ [x]).length : Int) := by simp
    have hw2 : IntKind.i64.wrap ((pre ++ [x]).length : Int) = ((pre ++ [x]).length : Int) := wrap_i (by simp; omega)
    rw [w_loopb (c := lp35_0) (d := lb35_0) rfl]; unfold lb35_0
    cases e : (((x.1, x.2) : Int × Int) == (m.1, m.2))
    · simp (maxSteps := 1000000) (disch := first | omega | rfl | (simp only [zL, two63, room] <;> omega) | fail) only [↓reduceIte, ↓zP, zW, WOp, evOp, evBin, binI, binSh, binS, evNil, keyIs, keyEq, mkv, AV.cells, AV.sc, optv, bnd, env, put, Env.get, Env.set, Env.del, Env.dels, Env.init, res1, resL, resV, fillP, splice, newRow, Nat.reduceEqDiff, Nat.reduceLT, Nat.reduceLeDiff, Nat.reduceAdd, Nat.reduceMul, Nat.reduceSub, Nat.reduceBEq, reduceCtorEq, ↓zR, zQ, Tr, StA, StT, hlt, hr', hm2, hm3, hpl, seqM, e, hw1, hw2]
      rw [w_loopn (c := lp35_0) rfl]
      simp (maxSteps := 1000000) (disch := first | omega | rfl | (simp only [zL, two63, room] <;> omega) | fail) only [↓reduceIte, ↓zP, zW, WOp, evOp, evBin, binI, binSh, binS, evNil, keyIs, keyEq, mkv, AV.cells, AV.sc, optv, bnd, env, put, Env.get, Env.set, Env.del, Env.dels, Env.init, res1, resL, resV, fillP, splice, newRow, Nat.reduceEqDiff, Nat.reduceLT, Nat.reduceLeDiff, Nat.reduceAdd, Nat.reduceMul, Nat.reduceSub, Nat.reduceBEq, reduceCtorEq, ↓zR, zQ, Tr, StA, StT]
      have hc : (x :: rest).contains m = rest.contains m := by
        rw [List.contains_cons, show (m == x) = (x == m) from BEq.comm, show (x == m) = false from e]; rfl
      refine ih _ (by rw [hL]; simp) hp2 (fun h' q1 q2 => h1 h' q1 (by rw [hc]; exact q2)) (fun h' q1 q2 => h2 h' q1 (by rw [hc]; exact q2))
    · simp (maxSteps := 1000000) (disch := first | omega | rfl | (simp only [zL, two63, room] <;> omega) | fail) only [↓reduceIte, ↓zP, zW, WOp, evOp, evBin, binI, binSh, binS, evNil, keyIs, keyEq, mkv, AV.cells, AV.sc, optv, bnd, env, put, Env.get, Env.set, Env.del, Env.dels, Env.init, res1, resL, resV, fillP, splice, newRow, Nat.reduceEqDiff, Nat.reduceLT, Nat.reduceLeDiff, Nat.reduceAdd, Nat.reduceMul, Nat.reduceSub, Nat.reduceBEq, reduceCtorEq, ↓zR, zQ, Tr, StA, StT, hlt, hr', hm2, hm3, hpl, seqM, e]
      refine h2 _ hp2 ?_
      rw [List.contains_cons, show (m == x) = (x == m) from BEq.comm, show (x == m) = true from e]; rfl
theorem c_nMove {v : AV} {L : List (Int × Int)} (hlen : L.length < 2 ^ 30) (i t : Int) {h : AH} (hs : Slc 2 encM h v L) {post : AV → AH → Prop} (hp : ∀ h', Pre h h' → post (.bool (L.contains (i, t))) h') : S 35 [v, mvV i t] h post k := by
  obtain ⟨q, -, -⟩ := mvRow h i t
  refine S_of rfl T35 ?_; unfold fi35
  have hs2 := hs.pre (Pre.push h (AO.row [AV.int .i64 i, AV.int .i64 t] 0 0 false))
  have hv := fun g => Slc.lenV (hs2) (g := g) (ρ := fun _ => _) (x := .t 0) rfl; simp only [evOp] at hv
  simp (maxSteps := 1000000) (disch := first | omega | rfl | (simp only [zL, two63, room] <;> omega) | fail) only [↓reduceIte, ↓zP, zW, WOp, evOp, evBin, binI, binSh, binS, evNil, keyIs, keyEq, mkv, AV.cells, AV.sc, optv, bnd, env, put, Env.get, Env.set, Env.del, Env.dels, Env.init, res1, resL, resV, fillP, splice, newRow, Nat.reduceEqDiff, Nat.reduceLT, Nat.reduceLeDiff, Nat.reduceAdd, Nat.reduceMul, Nat.reduceSub, Nat.reduceBEq, reduceCtorEq, ↓zR, zQ, Tr, StA, StT, hv]
  refine lp_nMove hlen hs2 h.length (i, t) q L [] _ rfl (Pre.refl _) ?_ ?_
  · intro h' hp' e
    rw [e] at hp
    simp (maxSteps := 1000000) (disch := first | omega | rfl | (simp only [zL, two63, room] <;> omega) | fail) only [↓reduceIte, ↓zP, zW, WOp, evOp, evBin, binI, binSh, binS, evNil, keyIs, keyEq, mkv, AV.cells, AV.sc, optv, bnd, env, put, Env.get, Env.set, Env.del, Env.dels, Env.init, res1, resL, resV, fillP, splice, newRow, Nat.reduceEqDiff, Nat.reduceLT, Nat.reduceLeDiff, Nat.reduceAdd, Nat.reduceMul, Nat.reduceSub, Nat.reduceBEq, reduceCtorEq, ↓zR, zQ, Tr, StA, StT]
    exact hp h' ((Pre.push _ _).trans hp')
  · intro h' hp' e
    rw [e] at hp
    simp (maxSteps := 1000000) (disch := first | omega | rfl | (simp only [zL, two63, room] <;> omega) | fail) only [↓reduceIte, ↓zP, zW, WOp, evOp, evBin, binI, binSh, binS, evNil, keyIs, keyEq, mkv, AV.cells, AV.sc, optv, bnd, env, put, Env.get, Env.set, Env.del, Env.dels, Env.init, res1, resL, resV, fillP, splice, newRow, Nat.reduceEqDiff, Nat.reduceLT, Nat.reduceLeDiff, Nat.reduceAdd, Nat.reduceMul, Nat.reduceSub, Nat.reduceBEq, reduceCtorEq, ↓zR, zQ, Tr, StA, StT]
    exact hp h' ((Pre.push _ _).trans hp')
theorem c_nMoveV {v : AV} {L : List (Int × Int)} (hlen : L.length < 2 ^ 30) (i t : Int) {bb : Bool} (hb : L.contains (i, t) = bb) {h : AH} (hs : Slc 2 encM h v L) {post : AV → AH → Prop} (hp : ∀ h', Pre h h' → post (.bool bb) h') : S 35 [v, mvV i t] h post k := c_nMove hlen i t hs (by rw [hb]; exact hp)
theorem gw_other {w : List UInt8} (h : plG10 w = true) (t : Bool) : plG10 (otherL w) = true ∧ wnG (otherL w) (!t) = winB w t ∧ othG w = otherL w := by
  obtain ⟨h1, h2, h3⟩ := pl10 h
  have hg : goodLine w = true := by rw [pl10_good, Bool.and_eq_true] at h; exact h.1
  have hl := otherL_len w
  have ho : plG10 (otherL w) = true := by rw [pl10_good, good_other hg, Bool.true_and, decide_eq_true_eq]; omega
  refine ⟨ho, ?_, by unfold othG; rw [if_pos hg]⟩
  unfold wnG
  rw [ho, Bool.true_and]
  exact win_other _ w t (Nat.lt_succ_self _)
theorem gw_made {w : List UInt8} (h : plG10 w = true) {i u : Nat} (hm : Mv w i u) : plG10 (madeB w i u) = true := by
  rw [pl10_good, Bool.and_eq_true, decide_eq_true_eq] at h ⊢
  rw [madeB_length]
  exact ⟨good_made h.1 hm, h.2⟩
theorem best_has {w : List UInt8} {t : Bool} {i u : Nat} (hm : ((i : Int), (u : Int)) ∈ movesB w (kindS t)) : (bestB w t).contains (((i : Int), (u : Int)) : Int × Int) = !winB (madeB w i u) (!t) := by
  rw [Bool.eq_iff_iff, List.contains_iff_mem]
  unfold bestB
  rw [List.mem_filter]
  exact ⟨fun h => h.2, fun h => ⟨hm, h⟩⟩
structure GwF (w : List UInt8) (t : Bool) : Prop where
  good : goodLine w = true
  len : w.length ≤ 10
  wn : wnG w t = winB w t
  wn' : wnG w (!t) = winB w (!t)
  oc : ocG w = outcS (winB w true) (winB w false)
  bm : bmG w t = bestB w t
  gp : gpG w t = plyB w t
  mv : mvG10 w t = gmB w t
  ln : lnI w t = lnB w t
  best : decide (((bestB w t).length : Int) > 0) = winB w t
  par : (((plyB w t).length : Int).tmod 2 == 1) = winB w t
  lo : ¬ (((plyB w t).length : Int) > ((lnB w t).1 : Int))
  sh : ¬ (((plyB w t).length : Int) < ((lnB w t).2.1 : Int))
  sl : ¬ (((lnB w t).2.1 : Int) > ((lnB w t).1 : Int))
  cn : ¬ (((lnB w t).2.2 : Int) < 1)
  zz : (((lnB w t).1 : Int) == 0) = (((plyB w t).length : Int) == 0)
  so : decide (((plyB w t).length : Int) > 0) = (gmB w t).isSome
  ba : ¬ (((bestB w t).length : Int) > ((movesB w (kindS t)).length : Int))
  sm : decide (((movesB w (kindS t)).length : Int) > 0) = (gmB w t).isSome
  mt : mvG [84] w = movesB w [84]
  mf : mvG [70] w = movesB w [70]
theorem gw_facts {w : List UInt8} (t : Bool) (h : plG10 w = true) : GwF w t := by
  obtain ⟨h1, h2, h3⟩ := pl10 h
  have hg : goodLine w = true := by rw [pl10_good, Bool.and_eq_true] at h; exact h.1
  obtain ⟨f1, f2, f3⟩ := ply_facts _ w t (Nat.lt_succ_self _)
  have f4 := sh_lo w t
  obtain ⟨f5, f6⟩ := ply_zero w t
  have f7 := (games_lt t h3 h2).1
  have f8 : (bestB w t).length ≤ (movesB w (kindS t)).length := List.length_filter_le _ _
  have f9 : (gmB w t).isSome = decide (movesB w (kindS t) ≠ []) := by
    cases e : gmB w t with
    | none => rw [gmB_none e]; rfl
    | some m =>
      have := gmB_mem e
      symm
      rw [Option.isSome_some, decide_eq_true_eq]
      intro h0; rw [h0] at this; simp at this
  refine ⟨hg, h2, by unfold wnG; rw [h]; rfl, by unfold wnG; rw [h]; rfl, by unfold ocG; rw [if_pos h], by unfold bmG; rw [if_pos h], by unfold gpG; rw [if_pos h], by unfold mvG10; rw [if_pos h], by unfold lnI; rw [if_pos h], ?_, ?_, by omega, by omega, by omega, by omega, ?_, ?_, by omega, ?_, by unfold mvG; rw [if_pos hg], by unfold mvG; rw [if_pos hg]⟩
  · rw [win_best, decide_eq_decide]; omega
  · rw [← f1, Bool.eq_iff_iff, beq_iff_eq, decide_eq_true_eq, Int.tmod_eq_emod_of_nonneg (by omega)]; omega
  · rw [Bool.eq_iff_iff, beq_iff_eq, beq_iff_eq]; omega
  · rw [f9, decide_eq_decide, ne_eq, ← f6]; omega
  · rw [f9, decide_eq_decide, ne_eq, ← List.length_eq_zero_iff]; omega
end Go.Proofs.YtejhhdpfndiliaaGreatDoor.Ab
