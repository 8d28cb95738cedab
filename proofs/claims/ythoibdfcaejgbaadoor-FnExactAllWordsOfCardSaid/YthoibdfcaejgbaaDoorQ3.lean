/- Part 4 of the proof of a law of the given program: the rules that it leans on, and what the functions that it reaches answer; the conditions stand with each theorem. -/
import Derived.Laws.RangeString
import Derived.Test.YthoibdfcaejgbaaDoorQ2
set_option linter.unusedSimpArgs false
set_option linter.unusedVariables false
/- MOVES of a line: what the reference lists. -/
namespace Go.Proofs.YthoibdfcaejgbaaDoor.Ab
open Go
set_option maxRecDepth 100000
set_option maxHeartbeats 4000000

theorem dec_low {s : List UInt8} {pos : Nat} (h : pos < s.length) (ha : (s.getD pos 0).toNat < 128) : dec s pos = (((s.getD pos 0).toNat : Int), 1) := by
  have e : s.getD pos 0 = s[pos] := by simp [List.getD_eq_getElem?_getD, h]
  rw [e] at ha ⊢
  unfold dec
  have hg : (⟨s.toArray⟩ : ByteArray)[pos]'h = s[pos] := rfl
  have := decode_ascii ⟨s.toArray⟩ pos h (by rw [hg]; exact ha)
  rw [this, hg]
theorem sign_low {b : UInt8} (h : isSign b = true) : b.toNat < 128 := by
  simp only [isSign, Bool.or_eq_true, beq_iff_eq] at h
  rcases h with (rfl | rfl) | rfl <;> decide
theorem sign_at {w : List UInt8} (h : w.all isSign = true) {i : Nat} (hi : i < w.length) : isSign (w.getD i 0) = true := by
  have e : w.getD i 0 = w[i] := by simp [List.getD_eq_getElem?_getD, hi]
  rw [e]; exact List.all_eq_true.1 h _ (List.getElem_mem hi)

def innerB (w : List UInt8) (i : Nat) : Int → Nat → List (Int × Int)
  | _, 0 => []
  | tq, d + 1 => (if canB w ((i : Int), tq) then [((i : Int), tq)] else []) ++ innerB w i (tq + 1) d
theorem innerB_eq (w : List UInt8) (i : Nat) : innerB w i ((i : Int) - 2) 5 = ([(i : Int) - 2, i - 1, i, i + 1, i + 2].filter fun t => canB w ((i : Int), t)).map fun t => ((i : Int), t) := by
  simp only [innerB]
  rw [show (i : Int) - 2 + 1 = i - 1 by omega, show (i : Int) - 1 + 1 = i by omega, show (i : Int) + 1 + 1 = i + 2 by omega]
  simp only [List.filter_cons, List.filter_nil]
  cases canB w ((i : Int), (i : Int) - 2) <;> cases canB w ((i : Int), (i : Int) - 1) <;> cases canB w ((i : Int), (i : Int)) <;> cases canB w ((i : Int), (i : Int) + 1) <;> cases canB w ((i : Int), (i : Int) + 2) <;> rfl

theorem lp_liMoves1 (w : List UInt8) (i : Nat) (hi : i < w.length) (hw : w.length < 2 ^ 30) (tf ff : Bool) (b : AH) (c : Nat) {R : X → Env → AH → Prop} : ∀ (d : Nat) (tq : Int) (o : AV) (l : List (Int × Int)) (h : AH), tq + d = i + 3 → OwL 2 encM b h o l → b.length ≤ h.length → l.length + d ≤ 2 ^ 33 →
    (∀ o' h', OwL 2 encM b h' o' (l ++ innerB w i tq d) → Ag b.length h h' → R (.exit 2) [(0, .str w), (1, .bool tf), (2, .bool ff), (7, o'), (12, .iter c)] h') →
    d ≤ 5 → Cx (.loop lp119_1) [(0, .str w), (1, .bool tf), (2, .bool ff), (7, o), (8, .int .i64 i), (9, .int .i64 tq), (12, .iter c)] h R k k
  | 0, tq, o, l, h, hd, ho, hb, hl, hR, _ => by
    rw [w_loopb (c := lp119_1) (d := lb119_1) rfl]; unfold lb119_1
    simp (maxSteps := 1000000) (disch := first | omega | rfl | (simp only [zL, two63, room] <;> omega) | fail) only [↓reduceIte, ↓zP, zW, WOp, evOp, evBin, binI, binSh, binS, evNil, keyIs, keyEq, mkv, AV.cells, AV.sc, optv, bnd, env, put, Env.get, Env.set, Env.del, Env.dels, Env.init, res1, resL, resV, fillP, splice, newRow, Nat.reduceEqDiff, Nat.reduceLT, Nat.reduceLeDiff, Nat.reduceAdd, Nat.reduceMul, Nat.reduceSub, Nat.reduceBEq, reduceCtorEq, ↓zR, zQ, Tr, StA, StT]
    exact hR o h (by simpa [innerB] using ho) (Ag.refl _ _)
  | d + 1, tq, o, l, h, hd, ho, hb, hl, hR, h5 => by
    have ih := lp_liMoves1 w i hi hw tf ff b c (R := R) d (tq + 1)
    rw [w_loopb (c := lp119_1) (d := lb119_1) rfl]; unfold lb119_1
    simp (maxSteps := 1000000) (disch := first | omega | rfl | (simp only [zL, two63, room] <;> omega) | fail) only [↓reduceIte, ↓zP, zW, WOp, evOp, evBin, binI, binSh, binS, evNil, keyIs, keyEq, mkv, AV.cells, AV.sc, optv, bnd, env, put, Env.get, Env.set, Env.del, Env.dels, Env.init, res1, resL, resV, fillP, splice, newRow, Nat.reduceEqDiff, Nat.reduceLT, Nat.reduceLeDiff, Nat.reduceAdd, Nat.reduceMul, Nat.reduceSub, Nat.reduceBEq, reduceCtorEq, ↓zR, zQ, Tr, StA, StT]
    refine c_liCan w i tq hw ?_
    intro h2 hp2
    have hp1 := (Pre.push h (AO.row [.int .i64 i, .int .i64 tq] 0 0 false)).trans hp2
    have q := rdRow_pre hp2 (show rdRow (h ++ [AO.row [.int .i64 i, .int .i64 tq] 0 0 false]) h.length 0 0 2 = some [.int .i64 i, .int .i64 tq] by simp (maxSteps := 1000000) (disch := first | omega | rfl | (simp only [zL, two63, room] <;> omega) | fail) only [↓reduceIte, ↓zP, zW, WOp, evOp, evBin, binI, binSh, binS, evNil, keyIs, keyEq, mkv, AV.cells, AV.sc, optv, bnd, env, put, Env.get, Env.set, Env.del, Env.dels, Env.init, res1, resL, resV, fillP, splice, newRow, Nat.reduceEqDiff, Nat.reduceLT, Nat.reduceLeDiff, Nat.reduceAdd, Nat.reduceMul, Nat.reduceSub, Nat.reduceBEq, reduceCtorEq, ↓zR, zQ, Tr, StA, StT])
    have q' := rd_lt q
    have e1 : (i : Int) + -2 = i - 2 := by omega
    cases e : canB w ((i : Int), tq)
    · simp (maxSteps := 1000000) (disch := first | omega | rfl | (simp only [zL, two63, room] <;> omega) | fail) only [↓reduceIte, ↓zP, zW, WOp, evOp, evBin, binI, binSh, binS, evNil, keyIs, keyEq, mkv, AV.cells, AV.sc, optv, bnd, env, put, Env.get, Env.set, Env.del, Env.dels, Env.init, res1, resL, resV, fillP, splice, newRow, Nat.reduceEqDiff, Nat.reduceLT, Nat.reduceLeDiff, Nat.reduceAdd, Nat.reduceMul, Nat.reduceSub, Nat.reduceBEq, reduceCtorEq, ↓zR, zQ, Tr, StA, StT, e]
      rw [w_loopn (c := lp119_1) rfl]
      simp (maxSteps := 1000000) (disch := first | omega | rfl | (simp only [zL, two63, room] <;> omega) | fail) only [↓reduceIte, ↓zP, zW, WOp, evOp, evBin, binI, binSh, binS, evNil, keyIs, keyEq, mkv, AV.cells, AV.sc, optv, bnd, env, put, Env.get, Env.set, Env.del, Env.dels, Env.init, res1, resL, resV, fillP, splice, newRow, Nat.reduceEqDiff, Nat.reduceLT, Nat.reduceLeDiff, Nat.reduceAdd, Nat.reduceMul, Nat.reduceSub, Nat.reduceBEq, reduceCtorEq, ↓zR, zQ, Tr, StA, StT]
      refine ih o l h2 (by omega) (ho.pre hp1) (Nat.le_trans hb hp1.1) (by omega) ?_ (by omega)
      intro o' h' ho' ha
      exact hR o' h' (by simpa [innerB, e] using ho') ((hp1.ag hb).trans ha)
    · obtain ⟨o2, h3, ha, ho3, hag⟩ := apA hlM scM ((ho.pre hp1).pre (Pre.push h2 (AO.row [.int .i64 i, .int .i64 tq] 0 0 false))) (Nat.le_trans hb (Nat.le_trans hp1.1 (Pre.push h2 _).1)) ((i : Int), tq) (by omega)
      simp (maxSteps := 1000000) (disch := first | omega | rfl | (simp only [zL, two63, room] <;> omega) | fail) only [↓reduceIte, ↓zP, zW, WOp, evOp, evBin, binI, binSh, binS, evNil, keyIs, keyEq, mkv, AV.cells, AV.sc, optv, bnd, env, put, Env.get, Env.set, Env.del, Env.dels, Env.init, res1, resL, resV, fillP, splice, newRow, Nat.reduceEqDiff, Nat.reduceLT, Nat.reduceLeDiff, Nat.reduceAdd, Nat.reduceMul, Nat.reduceSub, Nat.reduceBEq, reduceCtorEq, ↓zR, zQ, Tr, StA, StT, e, q, ha]
      rw [w_loopn (c := lp119_1) rfl]
      simp (maxSteps := 1000000) (disch := first | omega | rfl | (simp only [zL, two63, room] <;> omega) | fail) only [↓reduceIte, ↓zP, zW, WOp, evOp, evBin, binI, binSh, binS, evNil, keyIs, keyEq, mkv, AV.cells, AV.sc, optv, bnd, env, put, Env.get, Env.set, Env.del, Env.dels, Env.init, res1, resL, resV, fillP, splice, newRow, Nat.reduceEqDiff, Nat.reduceLT, Nat.reduceLeDiff, Nat.reduceAdd, Nat.reduceMul, Nat.reduceSub, Nat.reduceBEq, reduceCtorEq, ↓zR, zQ, Tr, StA, StT]
      have hag2 : Ag b.length h h3 := (hp1.ag hb).trans (((Pre.push h2 (AO.row [.int .i64 i, .int .i64 tq] 0 0 false)).ag (Nat.le_trans hb hp1.1)).trans hag)
      refine ih o2 _ h3 (by omega) ho3 (Nat.le_trans hb hag2.1) (by simp; omega) ?_ (by omega)
      intro o' h' ho' ha'
      exact hR o' h' (by simpa [innerB, e] using ho') (hag2.trans ha')

theorem lp_liMoves (w : List UInt8) (hg : w.all isSign = true) (hw : w.length < 2 ^ 30) (tf ff : Bool) (b : AH) (c : Nat) (hcb : c < b.length) {R : X → Env → AH → Prop} : ∀ (d i : Nat) (o : AV) (l : List (Int × Int)) (h : AH), i + d = w.length → OwL 2 encM b h o l → b.length ≤ h.length → h[c]? = some (.iter w i) → l.length ≤ 5 * i →
    (∀ o' h', OwL 2 encM b h' o' (l ++ (List.range' i d).flatMap (liMoveB w tf ff)) → Ag c h h' → b.length ≤ h'.length → R (.exit 0) [(7, o')] h') →
    Cx (.loop lp119_0) [(0, .str w), (1, .bool tf), (2, .bool ff), (7, o), (12, .iter c)] h R k k
  | 0, i, o, l, h, hd, ho, hb, hc, hl, hR => by
    rw [w_loopb (c := lp119_0) (d := lb119_0) rfl]; unfold lb119_0
    have hlt : ¬ i < w.length := by omega
    simp (maxSteps := 1000000) (disch := first | omega | rfl | (simp only [zL, two63, room] <;> omega) | fail) only [↓reduceIte, ↓zP, zW, WOp, evOp, evBin, binI, binSh, binS, evNil, keyIs, keyEq, mkv, AV.cells, AV.sc, optv, bnd, env, put, Env.get, Env.set, Env.del, Env.dels, Env.init, res1, resL, resV, fillP, splice, newRow, Nat.reduceEqDiff, Nat.reduceLT, Nat.reduceLeDiff, Nat.reduceAdd, Nat.reduceMul, Nat.reduceSub, Nat.reduceBEq, reduceCtorEq, ↓zR, zQ, Tr, StA, StT, hc, hlt]
    exact hR o h (by simpa using ho) (Ag.refl _ _) hb
  | d + 1, i, o, l, h, hd, ho, hb, hc, hl, hR => by
    have ih := lp_liMoves w hg hw tf ff b c hcb (R := R) d (i + 1)
    have hlt : i < w.length := by omega
    have hdec := dec_low hlt (sign_low (sign_at hg hlt))
    have hd1 : (dec w i).1 = ((w.getD i 0).toNat : Int) := by rw [hdec]
    have hd2 : (dec w i).2 = 1 := by rw [hdec]
    have hlen : (liMoveB w tf ff i).length ≤ 5 := by
      unfold liMoveB
      split
      · simp
      · rw [List.length_map]; exact Nat.le_trans (List.length_filter_le _ _) (by simp)
    have hc' : (h.set c (.iter w (i + 1)))[c]? = some (.iter w (i + 1)) := by rw [List.getElem?_set, if_pos rfl, if_pos (by omega)]
    have hb' : b.length ≤ (h.set c (.iter w (i + 1))).length := by simpa using hb
    rw [w_loopb (c := lp119_0) (d := lb119_0) rfl]; unfold lb119_0
    have hR' : ∀ o2 h2, OwL 2 encM b h2 o2 (l ++ liMoveB w tf ff i) → Ag b.length (h.set c (.iter w (i + 1))) h2 → Cx (.loop lp119_0) [(0, .str w), (1, .bool tf), (2, .bool ff), (7, o2), (12, .iter c)] h2 R k k := by
      intro o2 h2 ho2 hag
      refine ih o2 _ h2 (by omega) ho2 (Nat.le_trans hb' hag.1) (by rw [hag.2 c hcb, hc']) (by simp; omega) ?_
      intro o' h' ho' hag' hb2
      refine hR o' h' ?_ ?_ hb2
      · rw [List.range'_succ, List.flatMap_cons, ← List.append_assoc]; exact ho'
      · exact ((Ag.refl c h).set (Nat.le_refl _)).trans ((hag.mono (by omega)).trans hag')
    have key : Cx (.loop lp119_1) [(0, .str w), (1, .bool tf), (2, .bool ff), (7, o), (8, .int .i64 i), (9, .int .i64 ((i : Int) - 2)), (12, .iter c)] (h.set c (.iter w (i + 1))) (fun x e' h' => x = .exit 2 ∧ ∃ o', e' = [(0, .str w), (1, .bool tf), (2, .bool ff), (7, o'), (12, .iter c)] ∧ OwL 2 encM b h' o' (l ++ innerB w i ((i : Int) - 2) 5) ∧ Ag b.length (h.set c (.iter w (i + 1))) h') k k := by
      refine lp_liMoves1 w i hlt hw tf ff b c 5 ((i : Int) - 2) o l _ (by omega) (own_set ho hcb) hb' (by omega) ?_ (by omega)
      intro o' h' ho' hag
      exact ⟨rfl, o', rfl, ho', hag⟩
    have skip : (((w.getD i 0 == 84) && !tf) || ((w.getD i 0 == 70) && !ff)) = true → Cx (.loop lp119_0) [(0, .str w), (1, .bool tf), (2, .bool ff), (7, o), (12, .iter c)] (h.set c (.iter w (i + 1))) R k k := by
      intro hs
      refine hR' o _ ?_ (Ag.refl _ _)
      unfold liMoveB
      rw [if_pos hs, List.append_nil]
      exact own_set ho hcb
    have go : (((w.getD i 0 == 84) && !tf) || ((w.getD i 0 == 70) && !ff)) = false → ∀ R2 : X → Env → AH → Prop, (∀ o2 h2, OwL 2 encM b h2 o2 (l ++ liMoveB w tf ff i) → Ag b.length (h.set c (.iter w (i + 1))) h2 → R2 (.exit 2) [(0, .str w), (1, .bool tf), (2, .bool ff), (7, o2), (12, .iter c)] h2) →
        Cx (.loop lp119_1) [(0, .str w), (1, .bool tf), (2, .bool ff), (7, o), (8, .int .i64 i), (9, .int .i64 ((i : Int) - 2)), (12, .iter c)] (h.set c (.iter w (i + 1))) R2 k k := by
      intro hs R2 h2
      refine Cx_mono key ?_
      rintro x e' h' ⟨rfl, o', rfl, ho', hag⟩
      refine h2 o' h' ?_ hag
      unfold liMoveB
      rw [if_neg (by rw [hs]; simp), ← innerB_eq]
      exact ho'
    cases e1 : (w.getD i 0 == 84) <;> cases e2 : (w.getD i 0 == 70) <;> cases tf <;> cases ff <;> simp only [e1, e2] at skip go <;> simp (maxSteps := 1000000) (disch := first | omega | rfl | (simp only [zL, two63, room] <;> omega) | fail) only [↓reduceIte, ↓zP, zW, WOp, evOp, evBin, binI, binSh, binS, evNil, keyIs, keyEq, mkv, AV.cells, AV.sc, optv, bnd, env, put, Env.get, Env.set, Env.del, Env.dels, Env.init, res1, resL, resV, fillP, splice, newRow, Nat.reduceEqDiff, Nat.reduceLT, Nat.reduceLeDiff, Nat.reduceAdd, Nat.reduceMul, Nat.reduceSub, Nat.reduceBEq, reduceCtorEq, ↓zR, zQ, Tr, StA, StT, hc, hlt, hd1, hd2, e1, e2]
    all_goals first
      | exact skip rfl
      | (refine go rfl _ ?_
         intro o2 h2 ho2 hag
         simp (maxSteps := 1000000) (disch := first | omega | rfl | (simp only [zL, two63, room] <;> omega) | fail) only [↓reduceIte, ↓zP, zW, WOp, evOp, evBin, binI, binSh, binS, evNil, keyIs, keyEq, mkv, AV.cells, AV.sc, optv, bnd, env, put, Env.get, Env.set, Env.del, Env.dels, Env.init, res1, resL, resV, fillP, splice, newRow, Nat.reduceEqDiff, Nat.reduceLT, Nat.reduceLeDiff, Nat.reduceAdd, Nat.reduceMul, Nat.reduceSub, Nat.reduceBEq, reduceCtorEq, ↓zR, zQ, Tr, StA, StT]
         exact hR' o2 h2 ho2 hag)
theorem c_liMoves (w : List UInt8) (hg : w.all isSign = true) (hw : w.length < 2 ^ 30) (tf ff : Bool) {h : AH} {post : AV → AH → Prop} (hp : ∀ v h', OwL 2 encM h h' v (liMovesB w tf ff) → Pre h h' → post v h') : S 119 [.str w, .bool tf, .bool ff] h post k := by
  refine S_of rfl T119 ?_; unfold fi119
  simp (maxSteps := 1000000) (disch := first | omega | rfl | (simp only [zL, two63, room] <;> omega) | fail) only [↓reduceIte, ↓zP, zW, WOp, evOp, evBin, binI, binSh, binS, evNil, keyIs, keyEq, mkv, AV.cells, AV.sc, optv, bnd, env, put, Env.get, Env.set, Env.del, Env.dels, Env.init, res1, resL, resV, fillP, splice, newRow, Nat.reduceEqDiff, Nat.reduceLT, Nat.reduceLeDiff, Nat.reduceAdd, Nat.reduceMul, Nat.reduceSub, Nat.reduceBEq, reduceCtorEq, ↓zR, zQ, Tr, StA, StT]
  refine lp_liMoves w hg hw tf ff (h ++ [.iter w 0]) h.length (by simp) w.length 0 .nilS [] _ (by omega) OwL.nil (Nat.le_refl _) (by simp) (by simp) ?_
  intro o' h' ho' hag hb
  simp (maxSteps := 1000000) (disch := first | omega | rfl | (simp only [zL, two63, room] <;> omega) | fail) only [↓reduceIte, ↓zP, zW, WOp, evOp, evBin, binI, binSh, binS, evNil, keyIs, keyEq, mkv, AV.cells, AV.sc, optv, bnd, env, put, Env.get, Env.set, Env.del, Env.dels, Env.init, res1, resL, resV, fillP, splice, newRow, Nat.reduceEqDiff, Nat.reduceLT, Nat.reduceLeDiff, Nat.reduceAdd, Nat.reduceMul, Nat.reduceSub, Nat.reduceBEq, reduceCtorEq, ↓zR, zQ, Tr, StA, StT]
  refine hp o' h' ?_ ?_
  · rw [List.nil_append, ← List.range_eq_range'] at ho'
    exact own_base ho' (by simp)
  · exact (Pre.push h (.iter w 0)).trans' hag
end Go.Proofs.YthoibdfcaejgbaaDoor.Ab

/- PLAIN: sums of lines, who wins them. -/
namespace Go.Proofs.YthoibdfcaejgbaaDoor.Ab

/-- All sums behind a move in one of the lines of rest. -/
def nextZ (kd : List UInt8) : List (List UInt8) → List (List UInt8) → List (List (List UInt8))
  | _, [] => []
  | pre, w :: rest => (nextB w kd).map (fun v => pre ++ v :: rest) ++ nextZ kd (pre ++ [w]) rest
def muL (ls : List (List UInt8)) : Nat := (ls.map mu).sum
theorem nextZ_mu {kd : List UInt8} : ∀ {rest pre x : List (List UInt8)}, x ∈ nextZ kd pre rest → muL x < muL (pre ++ rest)
  | [], _, _, h => by simp [nextZ] at h
  | w :: rest, pre, x, h => by
    simp only [nextZ, List.mem_append, List.mem_map] at h
    rcases h with ⟨v, hv, rfl⟩ | h
    · have := nextB_mu hv
      simp only [muL, List.map_append, List.map_cons, List.sum_append, List.sum_cons]
      omega
    · have := nextZ_mu h
      simpa using this
def lsNx (s : List (List UInt8) × Bool) : List (List (List UInt8) × Bool) := (nextZ (kindS s.2) [] s.1).map fun ls => (ls, !s.2)
def lsSt (_ : List (List UInt8) × Bool) (l : List Bool) : Bool := l.any fun b => !b
def winL (ls : List (List UInt8)) (t : Bool) : Bool := rc lsNx lsSt (fun s => muL s.1) (ls, t)
theorem winL_eq (ls : List (List UInt8)) (t : Bool) : winL ls t = (nextZ (kindS t) [] ls).any fun x => !winL x (!t) := by
  unfold winL
  have hm : ∀ s : List (List UInt8) × Bool, ∀ s' ∈ lsNx s, muL s'.1 < muL s.1 := by
    intro s s' hs
    simp only [lsNx, List.mem_map] at hs
    obtain ⟨v, hv, rfl⟩ := hs
    simpa using nextZ_mu hv
  rw [rc_eq lsNx lsSt (mu := fun s => muL s.1) hm (ls, t)]
  simp only [lsSt, lsNx, List.map_map, List.any_map, Function.comp_def]
theorem muL_one (w : List UInt8) : muL [w] = mu w := by simp [muL]
theorem any_congr' {α : Type} {p q : α → Bool} {l : List α} (h : ∀ x ∈ l, p x = q x) : l.any p = l.any q := by
  induction l with
  | nil => rfl
  | cons a l ih => rw [List.any_cons, List.any_cons, h a (by simp), ih fun x hx => h x (by simp [hx])]
theorem winL_one : ∀ (n : Nat) (w : List UInt8) (t : Bool), mu w < n → winL [w] t = winB w t
  | 0, _, _, h => by omega
  | n + 1, w, t, h => by
    rw [winL_eq, winB_eq]
    simp only [nextZ, List.append_nil, List.nil_append, List.any_map, nextB, Function.comp_def]
    apply any_congr'
    intro m hm
    obtain ⟨i, t', rfl, hmv⟩ := movesB_mv hm
    have := mu_made hmv
    rw [winL_one n _ _ (by simp; omega)]

/-! ### Keys of sums -/
def gaTail (ls : List (List UInt8)) : List UInt8 := ls.flatMap fun w => 47 :: w
def gaK (s : List (List UInt8) × Bool) : List UInt8 := (if s.2 then 116 else 102) :: gaTail s.1
def signs (w : List UInt8) : Prop := w.all isSign = true
theorem sign_ne {b : UInt8} (h : isSign b = true) : b ≠ 47 := by rintro rfl; cases h
theorem split_eq : ∀ {w w' r r' : List UInt8}, signs w → signs w' → (r = [] ∨ ∃ x, r = 47 :: x) → (r' = [] ∨ ∃ x, r' = 47 :: x) → w ++ r = w' ++ r' → w = w' ∧ r = r'
  | [], [], _, _, _, _, _, _, h => ⟨rfl, h⟩
  | [], b :: w', r, r', _, h2, h3, _, h => by
    simp only [signs, List.all_cons, Bool.and_eq_true] at h2
    rcases h3 with rfl | ⟨x, rfl⟩
    · simp at h
    · simp at h; exact absurd h.1.symm (sign_ne h2.1)
  | b :: w, [], r, r', h1, _, _, h4, h => by
    simp only [signs, List.all_cons, Bool.and_eq_true] at h1
    rcases h4 with rfl | ⟨x, rfl⟩
    · simp at h
    · simp at h; exact absurd h.1 (sign_ne h1.1)
  | b :: w, b' :: w', r, r', h1, h2, h3, h4, h => by
    simp only [signs, List.all_cons, Bool.and_eq_true] at h1 h2
    simp only [List.cons_append, List.cons.injEq] at h
    obtain ⟨h5, h6⟩ := split_eq (w := w) (w' := w') h1.2 h2.2 h3 h4 h.2
    exact ⟨by rw [h.1, h5], h6⟩
theorem gaTail_hd : ∀ ls : List (List UInt8), gaTail ls = [] ∨ ∃ x, gaTail ls = 47 :: x
  | [] => .inl rfl
  | w :: ls => .inr ⟨w ++ gaTail ls, by simp [gaTail]⟩
theorem gaTail_inj : ∀ {a b : List (List UInt8)}, (∀ w ∈ a, signs w) → (∀ w ∈ b, signs w) → gaTail a = gaTail b → a = b
  | [], [], _, _, _ => rfl
  | [], w :: b, _, _, h => by simp [gaTail] at h
  | w :: a, [], _, _, h => by simp [gaTail] at h
  | w :: a, w' :: b, h1, h2, h => by
    have e : ∀ (w : List UInt8) (l : List (List UInt8)), gaTail (w :: l) = 47 :: (w ++ gaTail l) := fun w l => by simp [gaTail]
    rw [e, e, List.cons.injEq] at h
    obtain ⟨h3, h4⟩ := split_eq (h1 w (by simp)) (h2 w' (by simp)) (gaTail_hd a) (gaTail_hd b) h.2
    rw [h3, gaTail_inj (fun x hx => h1 x (by simp [hx])) (fun x hx => h2 x (by simp [hx])) h4]
theorem gaK_inj {s s' : List (List UInt8) × Bool} (h1 : ∀ w ∈ s.1, signs w) (h2 : ∀ w ∈ s'.1, signs w) (h : gaK s = gaK s') : s = s' := by
  obtain ⟨a, t⟩ := s
  obtain ⟨b, u⟩ := s'
  simp only [gaK, List.cons.injEq] at h
  have := gaTail_inj h1 h2 h.2
  subst this
  cases t <;> cases u <;> simp at h ⊢

/-! ### How many texts there are -/
def allStr (A : List UInt8) : Nat → List (List UInt8)
  | 0 => [[]]
  | n + 1 => A.flatMap fun b => (allStr A n).map (b :: ·)
theorem allStr_length (A : List UInt8) : ∀ n, (allStr A n).length = A.length ^ n
  | 0 => rfl
  | n + 1 => by
    simp only [allStr]
    rw [List.length_flatMap]
    simp only [List.length_map, allStr_length A n]
    rw [List.map_const', List.sum_replicate_nat, Nat.pow_succ, Nat.mul_comm]
theorem allStr_mem {A : List UInt8} : ∀ {x : List UInt8}, (∀ b ∈ x, b ∈ A) → x ∈ allStr A x.length
  | [], _ => by simp [allStr]
  | b :: x, h => by
    simp only [allStr, List.length_cons, List.mem_flatMap, List.mem_map]
    exact ⟨b, h b (by simp), x, allStr_mem fun c hc => h c (by simp [hc]), rfl⟩
theorem nodup_bound {A : List UInt8} {n : Nat} {K : List (List UInt8)} (hn : K.Nodup) (h : ∀ x ∈ K, x.length = n ∧ ∀ b ∈ x, b ∈ A) : K.length ≤ A.length ^ n := by
  rw [← allStr_length A n]
  apply List.Nodup.length_le_of_subset hn
  intro x hx
  obtain ⟨h1, h2⟩ := h x hx
  rw [← h1]
  exact allStr_mem h2
end Go.Proofs.YthoibdfcaejgbaaDoor.Ab

/- GAMES of the reference: small functions. -/
namespace Go.Proofs.YthoibdfcaejgbaaDoor.Ab
open Go
set_option maxRecDepth 100000
set_option maxHeartbeats 4000000

theorem put_put (w : List UInt8) (i t : Nat) (hi : i < w.length) (ht : t < w.length) (hne : i ≠ t) : (w.take i ++ [46] ++ w.drop (i + 1)).take t ++ [w.getD i 0] ++ (w.take i ++ [46] ++ w.drop (i + 1)).drop (t + 1) = madeB w i t := by
  have e1 : w.take i ++ [46] ++ w.drop (i + 1) = w.set i 46 := by
    rw [List.set_eq_take_append_cons_drop, if_pos hi]; simp
  rw [e1]
  have e2 : ∀ (l : List UInt8) (x : UInt8), t < l.length → l.take t ++ [x] ++ l.drop (t + 1) = l.set t x := by
    intro l x hl
    rw [List.set_eq_take_append_cons_drop, if_pos hl]; simp
  rw [e2 _ _ (by simpa using ht)]
  unfold madeB
  exact List.set_comm _ _ hne
theorem c_liMake (w : List UInt8) (i t : Nat) (hi : i < w.length) (ht : t < w.length) (hne : i ≠ t) (hw : w.length < 2 ^ 30) {h : AH} {post : AV → AH → Prop} (hp : ∀ h', Pre h h' → post (.str (madeB w i t)) h') : S 66 [.str w, mvV i t] h post k := by
  refine S_of rfl T66 ?_; unfold fi66
  have e1 : ((i : Int) + 1).toNat = i + 1 := by omega
  have e2 : (w.drop i).take (i + 1 - i) = [w.getD i 0] := sub_one w i hi
  simp (maxSteps := 1000000) (disch := first | omega | rfl | (simp only [zL, two63, room] <;> omega) | fail) only [↓reduceIte, ↓zP, zW, WOp, evOp, evBin, binI, binSh, binS, evNil, keyIs, keyEq, mkv, AV.cells, AV.sc, optv, bnd, env, put, Env.get, Env.set, Env.del, Env.dels, Env.init, res1, resL, resV, fillP, splice, newRow, Nat.reduceEqDiff, Nat.reduceLT, Nat.reduceLeDiff, Nat.reduceAdd, Nat.reduceMul, Nat.reduceSub, Nat.reduceBEq, reduceCtorEq, ↓zR, zQ, Tr, StA, StT, e1, e2]
  refine w_drw ?_
  have l1 : (w.take i ++ [46] ++ w.drop (i + 1)).length = w.length := by simp; omega
  simp (maxSteps := 1000000) (disch := first | omega | rfl | (simp only [zL, two63, room] <;> omega) | fail) only [↓reduceIte, ↓zP, zW, WOp, evOp, evBin, binI, binSh, binS, evNil, keyIs, keyEq, mkv, AV.cells, AV.sc, optv, bnd, env, put, Env.get, Env.set, Env.del, Env.dels, Env.init, res1, resL, resV, fillP, splice, newRow, Nat.reduceEqDiff, Nat.reduceLT, Nat.reduceLeDiff, Nat.reduceAdd, Nat.reduceMul, Nat.reduceSub, Nat.reduceBEq, reduceCtorEq, ↓zR, zQ, Tr, StA, StT, e1, e2]
  refine c_liPut w i [46] hi hw (by simp) ?_
  simp (maxSteps := 1000000) (disch := first | omega | rfl | (simp only [zL, two63, room] <;> omega) | fail) only [↓reduceIte, ↓zP, zW, WOp, evOp, evBin, binI, binSh, binS, evNil, keyIs, keyEq, mkv, AV.cells, AV.sc, optv, bnd, env, put, Env.get, Env.set, Env.del, Env.dels, Env.init, res1, resL, resV, fillP, splice, newRow, Nat.reduceEqDiff, Nat.reduceLT, Nat.reduceLeDiff, Nat.reduceAdd, Nat.reduceMul, Nat.reduceSub, Nat.reduceBEq, reduceCtorEq, ↓zR, zQ, Tr, StA, StT]
  refine c_liPut _ t _ (by rw [l1]; exact ht) (by rw [l1]; exact hw) (by simp) ?_
  rw [put_put w i t hi ht hne]
  simp (maxSteps := 1000000) (disch := first | omega | rfl | (simp only [zL, two63, room] <;> omega) | fail) only [↓reduceIte, ↓zP, zW, WOp, evOp, evBin, binI, binSh, binS, evNil, keyIs, keyEq, mkv, AV.cells, AV.sc, optv, bnd, env, put, Env.get, Env.set, Env.del, Env.dels, Env.init, res1, resL, resV, fillP, splice, newRow, Nat.reduceEqDiff, Nat.reduceLT, Nat.reduceLeDiff, Nat.reduceAdd, Nat.reduceMul, Nat.reduceSub, Nat.reduceBEq, reduceCtorEq, ↓zR, zQ, Tr, StA, StT]
  exact hp _ (Pre.push _ _)

end Go.Proofs.YthoibdfcaejgbaaDoor.Ab

/- GAMES of the reference: who wins a sum, by what is known already. -/
namespace Go.Proofs.YthoibdfcaejgbaaDoor.Ab
open Go
set_option maxRecDepth 100000
set_option maxHeartbeats 4000000

def rowOf : AV → Option Nat
  | .slice c _ _ _ _ => some c
  | _ => none
/-- Rows that belong to what is known. -/
def gr (c : Nat) (h : AH) (i : Nat) : Prop := i = c ∨ ∃ v1 v2, h[c]? = some (.row [v1, v2] 0 0 false) ∧ (rowOf v1 = some i ∨ rowOf v2 = some i)
def FrG (c : Nat) (h h' : AH) : Prop := h.length ≤ h'.length ∧ ∀ i, i < h.length → ¬ gr c h i → h'[i]? = h[i]? ∧ ¬ gr c h' i
theorem FrG.refl (c : Nat) (h : AH) : FrG c h h := ⟨Nat.le_refl _, fun _ _ hg => ⟨rfl, hg⟩⟩
theorem FrG.trans {c : Nat} {x y z : AH} (p : FrG c x y) (q : FrG c y z) : FrG c x z := ⟨Nat.le_trans p.1 q.1, fun i hi hg => by
  obtain ⟨h1, h2⟩ := p.2 i hi hg
  obtain ⟨h3, h4⟩ := q.2 i (Nat.lt_of_lt_of_le hi p.1) h2
  exact ⟨by rw [h3, h1], h4⟩⟩
theorem gr_pre {c : Nat} {h h' : AH} (hp : Pre h h') (hc : c < h.length) (i : Nat) : gr c h' i ↔ gr c h i := by
  unfold gr; rw [hp.2 c hc]
theorem Pre.frg {c : Nat} {h h' : AH} (hp : Pre h h') (hc : c < h.length) : FrG c h h' := ⟨hp.1, fun i hi hg => ⟨hp.2 i hi, by rw [gr_pre hp hc]; exact hg⟩⟩
def alph : List UInt8 := [116, 102, 47, 46, 70, 84]
def OkS (N : Nat) (s : List (List UInt8) × Bool) : Prop := (∀ w ∈ s.1, signs w) ∧ (gaK s).length = N
def KN (N c : Nat) (h : AH) (K : List (List UInt8)) : Prop := ∃ v1 v2 W, h[c]? = some (.row [v1, v2] 0 0 false) ∧ OwL 1 encS [] h v1 K ∧ OwL 1 encB [] h v2 W ∧ rowOf v1 ≠ some c ∧ rowOf v2 ≠ some c ∧ (∀ r, rowOf v1 = some r → rowOf v2 ≠ some r) ∧
  K.length = W.length ∧ K.Nodup ∧ (∀ x ∈ K, x.length = N ∧ ∀ b ∈ x, b ∈ alph) ∧ ∀ (i : Nat) x b, K[i]? = some x → W[i]? = some b → ∀ s, OkS N s → x = gaK s → b = winL s.1 s.2
theorem KN.lt {N c : Nat} {h : AH} {K : List (List UInt8)} (hk : KN N c h K) : c < h.length := by
  obtain ⟨_, _, _, h1, _⟩ := hk
  exact (List.getElem?_eq_some_iff.1 h1).1
theorem own_lt {esz : Nat} {b h : AH} {v : AV} {n : Nat} {cs : List AV} (ho : Own esz b h v n cs) {r : Nat} (hr : rowOf v = some r) : r < h.length := by
  unfold Own at ho
  cases v <;> simp only [rowOf] at hr ho <;> first
    | (cases hr; done)
    | (cases hr; obtain ⟨_, _, _, _, cells, fl, h5, _⟩ := ho; exact (List.getElem?_eq_some_iff.1 h5).1)
theorem own_ge {esz : Nat} {b h : AH} {v : AV} {n : Nat} {cs : List AV} (ho : Own esz b h v n cs) {r : Nat} (hr : rowOf v = some r) : b.length ≤ r := by
  unfold Own at ho
  cases v <;> simp only [rowOf] at hr ho <;> first
    | (cases hr; done)
    | (cases hr; exact ho.2.2.2.1)
theorem KN.gr_lt {N c : Nat} {h : AH} {K : List (List UInt8)} (hk : KN N c h K) {i : Nat} (hg : gr c h i) : i < h.length := by
  have hlt := hk.lt
  obtain ⟨v1, v2, W, h1, h2, h3, _⟩ := hk
  rcases hg with rfl | ⟨u1, u2, h4, h5⟩
  · exact hlt
  · rw [h1] at h4
    simp only [Option.some.injEq, AO.row.injEq, List.cons.injEq, and_true, true_and] at h4
    obtain ⟨rfl, rfl⟩ := h4
    rcases h5 with h5 | h5
    · exact own_lt h2 h5
    · exact own_lt h3 h5
theorem KN.pre {N c : Nat} {h h' : AH} {K : List (List UInt8)} (hk : KN N c h K) (hp : Pre h h') : KN N c h' K := by
  have hlt := hk.lt
  obtain ⟨v1, v2, W, h1, h2, h3, h4⟩ := hk
  exact ⟨v1, v2, W, by rw [hp.2 c hlt]; exact h1, h2.pre hp, h3.pre hp, h4⟩
theorem KN.fresh {N c : Nat} {h h' : AH} {K : List (List UInt8)} (hk : KN N c h K) (hp : Pre h h') {r : Nat} (hr : h.length ≤ r) : ¬ gr c h' r := by
  rw [gr_pre hp hk.lt]
  intro hg
  have := hk.gr_lt hg
  omega
/-- A slice that is read, and does not belong to what is known. -/
def SlcG {α : Type} (esz : Nat) (enc : α → List AV) (c : Nat) (h : AH) (v : AV) (L : List α) : Prop := Slc esz enc h v L ∧ ∀ r, rowOf v = some r → ¬ gr c h r
theorem rd_fr {c : Nat} {h h' : AH} (hf : FrG c h h') {r k o n : Nat} {cs : List AV} (hg : ¬ gr c h r) (hr : rdRow h r k o n = some cs) : rdRow h' r k o n = some cs := by
  have := rd_lt hr
  unfold rdRow at hr ⊢
  rw [(hf.2 r this hg).1]; exact hr
theorem SlcG.fr {α : Type} {esz : Nat} {enc : α → List AV} {c : Nat} {h h' : AH} {v : AV} {L : List α} (hs : SlcG esz enc c h v L) (hf : FrG c h h') : SlcG esz enc c h' v L := by
  obtain ⟨h1, h2⟩ := hs
  unfold SlcG Slc Sl at *
  cases v <;> simp only [rowOf] at * <;> first
    | (exact ⟨h1, fun r hr => by cases hr⟩)
    | (obtain ⟨k1, k2, k3, k4⟩ := h1
       exact ⟨⟨k1, k2, k3, rd_fr hf (h2 _ rfl) k4⟩, fun r hr => by cases hr; exact (hf.2 _ (rd_lt k4) (h2 _ rfl)).2⟩)
theorem OwL.slcG {α : Type} {esz : Nat} {enc : α → List AV} {N c : Nat} {h h' : AH} {v : AV} {L : List α} {K : List (List UInt8)} (ho : OwL esz enc h h' v L) (hk : KN N c h K) (hp : Pre h h') : SlcG esz enc c h' v L :=
  ⟨ho.slc, fun _ hr => hk.fresh hp (own_ge ho hr)⟩

theorem kindsS_not (t : Bool) : kindsS t (!t) = kindS t := by cases t <;> rfl
theorem gaTail_len (ls : List (List UInt8)) : (gaTail ls).length = (ls.map fun w => w.length + 1).sum := by
  induction ls with
  | nil => rfl
  | cons w ls ih => simp only [gaTail, List.flatMap_cons, List.length_append, List.length_cons, List.map_cons, List.sum_cons] at ih ⊢; rw [ih]
theorem OkS.step {N : Nat} {pre : List (List UInt8)} {w : List UInt8} {rest : List (List UInt8)} {t : Bool} (ho : OkS N (pre ++ w :: rest, t)) (i t' : Nat) (hi : i < w.length) : OkS N (pre ++ madeB w i t' :: rest, !t) := by
  obtain ⟨h1, h2⟩ := ho
  refine ⟨?_, ?_⟩
  · intro x hx
    simp only [List.mem_append, List.mem_cons] at hx
    rcases hx with hx | rfl | hx
    · exact h1 x (by simp [hx])
    · have hw := h1 w (by simp)
      have hb := sign_at hw hi
      unfold signs madeB
      rw [List.all_eq_true] at *
      intro b hb'
      rcases List.mem_or_eq_of_mem_set hb' with h3 | rfl
      · rcases List.mem_or_eq_of_mem_set h3 with h4 | rfl
        · exact (List.all_eq_true.1 hw) b h4
        · exact hb
      · rfl
    · exact h1 x (by simp [hx])
  · rw [← h2]
    simp only [gaK, List.length_cons, gaTail_len, List.map_append, List.map_cons, List.sum_append, List.sum_cons, madeB_length]
theorem OkS.bounds {N : Nat} {ls : List (List UInt8)} {t : Bool} (ho : OkS N (ls, t)) : ls.length ≤ N ∧ (gaTail ls).length < N ∧ ∀ w ∈ ls, w.length < N := by
  obtain ⟨_, h2⟩ := ho
  have h3 : (gaTail ls).length + 1 = N := by rw [← h2]; simp [gaK]
  have key : ∀ l : List (List UInt8), l.length ≤ (gaTail l).length ∧ ∀ w ∈ l, w.length < (gaTail l).length := by
    intro l
    induction l with
    | nil => simp
    | cons a l ih =>
      rw [gaTail_len] at ih ⊢
      simp only [List.map_cons, List.sum_cons, List.length_cons]
      refine ⟨by omega, ?_⟩
      intro w hw
      rcases List.mem_cons.1 hw with rfl | hw
      · omega
      · have := ih.2 w hw; omega
  have := key ls
  exact ⟨by omega, by omega, fun w hw => by have := this.2 w hw; omega⟩
theorem OkS.alph {N : Nat} {s : List (List UInt8) × Bool} (ho : OkS N s) : ∀ b ∈ gaK s, b ∈ Ab.alph := by
  obtain ⟨ls, t⟩ := s
  intro b hb
  simp only [gaK, List.mem_cons] at hb
  rcases hb with rfl | hb
  · cases t
    · exact (by decide : (102 : UInt8) ∈ Ab.alph)
    · exact (by decide : (116 : UInt8) ∈ Ab.alph)
  · simp only [gaTail, List.mem_flatMap, List.mem_cons] at hb
    obtain ⟨w, hw, hb⟩ := hb
    rcases hb with rfl | hb
    · decide
    · have := List.all_eq_true.1 (ho.1 w hw) b hb
      simp only [isSign, Bool.or_eq_true, beq_iff_eq] at this
      rcases this with (rfl | rfl) | rfl <;> decide
theorem own_row {esz : Nat} {b h h' : AH} {v : AV} {n : Nat} {cs : List AV} (ho : Own esz b h v n cs) (hh : ∀ r, rowOf v = some r → h'[r]? = h[r]?) : Own esz b h' v n cs := by
  unfold Own at ho ⊢
  cases v <;> simp only [rowOf] at ho hh ⊢ <;> first
    | exact ho
    | (obtain ⟨h1, h2, h3, h4, cells, fl, h5, h6⟩ := ho
       exact ⟨h1, h2, h3, h4, cells, fl, by rw [hh _ rfl]; exact h5, h6⟩)
theorem OwL.sc1 {α : Type} {esz : Nat} {enc : α → List AV} {b h : AH} {v : AV} {L : List α} (ho : OwL esz enc b h v L) : v.sc = true := by
  unfold OwL Own at ho
  cases v <;> simp only at ho <;> first
    | rfl
    | (exact ho.elim)
theorem OwL.cells {α : Type} {esz : Nat} {enc : α → List AV} {b h : AH} {v : AV} {L : List α} (ho : OwL esz enc b h v L) : v.cells = [v] := by
  unfold OwL Own at ho
  cases v <;> simp only at ho <;> first
    | rfl
    | (exact ho.elim)
theorem apRow_fr {h h' : AH} {esz q : Nat} {v v' : AV} {vs : List AV} (ha : apRow h esz v q vs = some (v', h')) : (∀ i, i < h.length → rowOf v ≠ some i → h'[i]? = h[i]?) ∧ h.length ≤ h'.length ∧ ∀ r, rowOf v' = some r → (rowOf v = some r ∨ r = h.length) := by
  have fresh : ∀ u, (if q = 0 then some (u, h) else if q ≤ room then (newRow h vs).map fun (c, h') => (AV.slice c 0 0 q esz, h') else none) = some (v', h') → rowOf u = none → (∀ i, i < h.length → h'[i]? = h[i]?) ∧ h.length ≤ h'.length ∧ ∀ r, rowOf v' = some r → r = h.length := by
    intro u ha hu
    split at ha
    · cases ha
      exact ⟨fun _ _ => rfl, Nat.le_refl _, fun r hr => by rw [hu] at hr; cases hr⟩
    · split at ha
      · unfold newRow at ha
        split at ha
        · simp only [Option.map_some, Option.some.injEq, Prod.mk.injEq] at ha
          obtain ⟨rfl, rfl⟩ := ha
          exact ⟨fun i hi => List.getElem?_append_left hi, by simp, fun r hr => by simp only [rowOf, Option.some.injEq] at hr; exact hr.symm⟩
        · cases ha
      · cases ha
  unfold apRow at ha
  cases v <;> simp only at ha <;> first
    | (cases ha; done)
    | (obtain ⟨h1, h2, h3⟩ := fresh _ ha rfl
       exact ⟨fun i hi _ => h1 i hi, h2, fun r hr => .inr (h3 r hr)⟩)
    | (split at ha
       · split at ha
         · cases ha
           refine ⟨fun i _ hr => ?_, by simp, fun r hr => .inl hr⟩
           rw [List.getElem?_set, if_neg (fun e => hr (by simp [rowOf, e]))]
         · cases ha
       · cases ha)
/-- Keys that came by a call. -/
def Came (N n : Nat) (K K' : List (List UInt8)) : Prop := ∀ x ∈ K', x ∈ K ∨ ∃ s, OkS N s ∧ muL s.1 < n ∧ x = gaK s
theorem Came.refl (N n : Nat) (K : List (List UInt8)) : Came N n K K := fun _ h => .inl h
theorem Came.trans {N n : Nat} {a b c : List (List UInt8)} (x : Came N n a b) (y : Came N n b c) : Came N n a c := fun k hk => by
  rcases y k hk with h | h
  · exact x k h
  · exact .inr h
theorem Came.mono {N n m : Nat} {a b : List (List UInt8)} (x : Came N n a b) (hm : n ≤ m) : Came N m a b := fun k hk => by
  rcases x k hk with h | ⟨s, h1, h2, h3⟩
  · exact .inl h
  · exact .inr ⟨s, h1, by omega, h3⟩
def outcS (a b : Bool) : List UInt8 := if a && b then [49] else if a then [84] else if b then [70] else [50]
theorem KN.new {N : Nat} {h : AH} : KN N h.length (h ++ [.row [.nilS, .nilS] 0 0 false]) [] :=
  ⟨.nilS, .nilS, [], by simp, OwL.nil, OwL.nil, by simp [rowOf], by simp [rowOf], by simp [rowOf], rfl, List.nodup_nil, fun x hx => (List.not_mem_nil hx).elim, fun i x b hx => by simp at hx⟩
end Go.Proofs.YthoibdfcaejgbaaDoor.Ab

/- A CELL that holds a slice of one's own, to which is appended through a pointer. -/
namespace Go.Proofs.YthoibdfcaejgbaaDoor.Ab
open Go
set_option maxRecDepth 100000
set_option maxHeartbeats 4000000

/-- Rows that belong to a cell: its own, and those of the slices that it holds. -/
def grc (c : Nat) (h : AH) (i : Nat) : Prop := i = c ∨ ∃ cs ver fl ro, h[c]? = some (.row cs ver fl ro) ∧ ∃ v ∈ cs, rowOf v = some i
def FrC (c : Nat) (h h' : AH) : Prop := h.length ≤ h'.length ∧ ∀ i, i < h.length → ¬ grc c h i → h'[i]? = h[i]? ∧ ¬ grc c h' i
theorem FrC.refl (c : Nat) (h : AH) : FrC c h h := ⟨Nat.le_refl _, fun _ _ hg => ⟨rfl, hg⟩⟩
theorem FrC.trans {c : Nat} {x y z : AH} (p : FrC c x y) (q : FrC c y z) : FrC c x z := ⟨Nat.le_trans p.1 q.1, fun i hi hg => by
  obtain ⟨h1, h2⟩ := p.2 i hi hg
  obtain ⟨h3, h4⟩ := q.2 i (Nat.lt_of_lt_of_le hi p.1) h2
  exact ⟨by rw [h3, h1], h4⟩⟩
theorem grc_pre {c : Nat} {h h' : AH} (hp : Pre h h') (hc : c < h.length) (i : Nat) : grc c h' i ↔ grc c h i := by
  unfold grc; rw [hp.2 c hc]
theorem Pre.frc {c : Nat} {h h' : AH} (hp : Pre h h') (hc : c < h.length) : FrC c h h' := ⟨hp.1, fun i hi hg => ⟨hp.2 i hi, by rw [grc_pre hp hc]; exact hg⟩⟩
theorem rd_frc {c : Nat} {h h' : AH} (hf : FrC c h h') {r k o n : Nat} {cs : List AV} (hg : ¬ grc c h r) (hr : rdRow h r k o n = some cs) : rdRow h' r k o n = some cs := by
  have := rd_lt hr
  unfold rdRow at hr ⊢
  rw [(hf.2 r this hg).1]; exact hr
/-- A slice that is read, and does not belong to the cell. -/
def SlcC {α : Type} (esz : Nat) (enc : α → List AV) (c : Nat) (h : AH) (v : AV) (L : List α) : Prop := Slc esz enc h v L ∧ ∀ r, rowOf v = some r → ¬ grc c h r
theorem SlcC.fr {α : Type} {esz : Nat} {enc : α → List AV} {c : Nat} {h h' : AH} {v : AV} {L : List α} (hs : SlcC esz enc c h v L) (hf : FrC c h h') : SlcC esz enc c h' v L := by
  obtain ⟨h1, h2⟩ := hs
  unfold SlcC Slc Sl at *
  cases v <;> simp only [rowOf] at * <;> first
    | (exact ⟨h1, fun r hr => by cases hr⟩)
    | (obtain ⟨k1, k2, k3, k4⟩ := h1
       exact ⟨⟨k1, k2, k3, rd_frc hf (h2 _ rfl) k4⟩, fun r hr => by cases hr; exact (hf.2 _ (rd_lt k4) (h2 _ rfl)).2⟩)
section
variable {α : Type} {esz : Nat} {enc : α → List AV}
/-- The cell r holds a slice of one's own. -/
def OutP (esz : Nat) (enc : α → List AV) (r : Nat) (b h : AH) (l : List α) : Prop := ∃ vo, h[r]? = some (.row [vo] 0 0 false) ∧ OwL esz enc b h vo l ∧ rowOf vo ≠ some r
theorem OutP.lt {r : Nat} {b h : AH} {l : List α} (ho : OutP esz enc r b h l) : r < h.length := by
  obtain ⟨vo, h1, _⟩ := ho
  exact (List.getElem?_eq_some_iff.1 h1).1
theorem OutP.pre {r : Nat} {b h h' : AH} {l : List α} (ho : OutP esz enc r b h l) (hp : Pre h h') : OutP esz enc r b h' l := by
  have := ho.lt
  obtain ⟨vo, h1, h2, h3⟩ := ho
  exact ⟨vo, by rw [hp.2 r this]; exact h1, h2.pre hp, h3⟩
theorem OutP.grc_lt {r : Nat} {b h : AH} {l : List α} (ho : OutP esz enc r b h l) {i : Nat} (hg : grc r h i) : i < h.length := by
  have hlt := ho.lt
  obtain ⟨vo, h1, h2, h3⟩ := ho
  rcases hg with rfl | ⟨cs, ver, fl, ro, h4, v, hv, h5⟩
  · exact hlt
  · rw [h1] at h4
    simp only [Option.some.injEq, AO.row.injEq] at h4
    obtain ⟨rfl, _⟩ := h4
    simp at hv
    subst hv
    exact own_lt h2 h5
theorem OutP.fresh {r : Nat} {b h h' : AH} {l : List α} (ho : OutP esz enc r b h l) (hp : Pre h h') {i : Nat} (hi : h.length ≤ i) : ¬ grc r h' i := by
  rw [grc_pre hp ho.lt]
  intro hg
  have := ho.grc_lt hg
  omega
theorem OutP.rd {r : Nat} {b h : AH} {l : List α} (ho : OutP esz enc r b h l) : ∃ vo, rdRow h r 0 0 1 = some [vo] ∧ OwL esz enc b h vo l := by
  obtain ⟨vo, h1, h2, _⟩ := ho
  exact ⟨vo, by simp [rdRow, h1], h2⟩
theorem OutP.push (hl : ∀ x, (enc x).length = esz) (hsc : ∀ x, (enc x).all AV.sc = true) {r : Nat} {b h : AH} {l : List α} (ho : OutP esz enc r b h l) (hb : b.length ≤ h.length) (x : α) (hr : l.length + 1 ≤ 1099511627776) :
    ∃ vo v' h3, rdRow h r 0 0 1 = some [vo] ∧ rdRow (h ++ [AO.row (enc x) 0 0 false]) h.length 0 0 esz = some (enc x) ∧ apRow (h ++ [AO.row (enc x) 0 0 false]) esz vo 1 (enc x) = some (v', h3) ∧ v'.cells = [v'] ∧ v'.sc = true ∧
      wrRow h3 r 0 0 [v'] = some (h3.set r (.row [v'] 0 0 false)) ∧ OutP esz enc r b (h3.set r (.row [v'] 0 0 false)) (l ++ [x]) ∧ FrC r h (h3.set r (.row [v'] 0 0 false)) := by
  have hlt := ho.lt
  obtain ⟨vo, h1, h2, h3⟩ := ho
  have hpush := Pre.push h (AO.row (enc x) 0 0 false)
  obtain ⟨v', g, ha, ho', hag⟩ := apA hl hsc (h2.pre hpush) (by simp; omega) x hr
  obtain ⟨f1, f2, f3⟩ := apRow_fr ha
  have hll : (h ++ [AO.row (enc x) 0 0 false]).length = h.length + 1 := by simp
  have hrg : g[r]? = some (.row [vo] 0 0 false) := by rw [f1 r (by omega) h3, hpush.2 r hlt, h1]
  have hlg : r < g.length := by omega
  have n1 : rowOf v' ≠ some r := fun e => by
    rcases f3 r e with h4 | h4
    · exact h3 h4
    · omega
  have hrx : rdRow (h ++ [AO.row (enc x) 0 0 false]) h.length 0 0 esz = some (enc x) := by
    rw [rd_last, if_pos (by rw [hl]; omega), List.drop_zero, List.take_of_length_le (by rw [hl]; exact Nat.le_refl _)]
  refine ⟨vo, v', g, by simp [rdRow, h1], hrx, ha, ho'.cells, ho'.sc1, ?_, ?_, ?_⟩
  · simp [wrRow, hrg, splice, ho'.sc1]
  · refine ⟨v', by rw [List.getElem?_set, if_pos rfl, if_pos hlg], own_row ho' fun i hi => ?_, n1⟩
    rw [List.getElem?_set, if_neg (by rintro rfl; exact n1 hi)]
  · refine ⟨by simp; omega, fun i hi hg => ?_⟩
    have g1 : i ≠ r := fun e => hg (.inl e)
    have g2 : rowOf vo ≠ some i := fun e => hg (.inr ⟨_, _, _, _, h1, vo, by simp, e⟩)
    refine ⟨by rw [List.getElem?_set, if_neg (Ne.symm g1), f1 i (by omega) g2, hpush.2 i hi], ?_⟩
    rintro (e | ⟨cs, ver, fl, ro, e1, v, hv, e2⟩)
    · exact g1 e
    · rw [List.getElem?_set, if_pos rfl, if_pos hlg] at e1
      simp only [Option.some.injEq, AO.row.injEq] at e1
      obtain ⟨rfl, _⟩ := e1
      simp at hv
      subst hv
      rcases f3 i e2 with h4 | h4
      · exact g2 h4
      · omega
theorem OwL.slcC {esz' : Nat} {β : Type} {enc' : β → List AV} {r : Nat} {b h h' : AH} {l : List α} {v : AV} {L : List β} (ho : OwL esz' enc' h h' v L) (hk : OutP esz enc r b h l) (hp : Pre h h') : SlcC esz' enc' r h' v L :=
  ⟨ho.slc, fun _ hr => hk.fresh hp (own_ge ho hr)⟩
end
end Go.Proofs.YthoibdfcaejgbaaDoor.Ab

/- FRAMES: a map and a cell with its slices may turn, all else stays. -/
namespace Go.Proofs.YthoibdfcaejgbaaDoor.Ab
open Go
set_option maxRecDepth 100000
set_option maxHeartbeats 4000000

def FrW (c r : Nat) (h h' : AH) : Prop := h.length ≤ h'.length ∧ ∀ i, i < h.length → i ≠ c → ¬ grc r h i → h'[i]? = h[i]? ∧ ¬ grc r h' i
section
variable {c r : Nat} {h h' : AH}
theorem FrW.refl : FrW c r h h := ⟨Nat.le_refl _, fun _ _ _ hg => ⟨rfl, hg⟩⟩
theorem FrW.trans {x y z : AH} (p : FrW c r x y) (q : FrW c r y z) : FrW c r x z := ⟨Nat.le_trans p.1 q.1, fun i hi hc hg => by
  obtain ⟨h1, h2⟩ := p.2 i hi hc hg
  obtain ⟨h3, h4⟩ := q.2 i (Nat.lt_of_lt_of_le hi p.1) hc h2
  exact ⟨by rw [h3, h1], h4⟩⟩
theorem FrC.frw (hf : FrC r h h') : FrW c r h h' := ⟨hf.1, fun i hi _ hg => hf.2 i hi hg⟩
theorem Pre.frw (hp : Pre h h') (hr : r < h.length) : FrW c r h h' := (hp.frc hr).frw
theorem grc_row (hr : h'[r]? = h[r]?) (i : Nat) : grc r h' i ↔ grc r h i := by unfold grc; rw [hr]
theorem PreX.frw (hp : PreX c h h') (hr : r < h.length) (hrc : r ≠ c) : FrW c r h h' := ⟨hp.1, fun i hi hc hg => ⟨hp.2 i hi hc, by rw [grc_row (hp.2 r hr hrc)]; exact hg⟩⟩
theorem rd_frw (hf : FrW c r h h') {i k o n : Nat} {cs : List AV} (hc : i ≠ c) (hg : ¬ grc r h i) (hr : rdRow h i k o n = some cs) : rdRow h' i k o n = some cs := by
  have := rd_lt hr
  unfold rdRow at hr ⊢
  rw [(hf.2 i this hc hg).1]; exact hr
def SlcW {α : Type} (esz : Nat) (enc : α → List AV) (c r : Nat) (h : AH) (v : AV) (L : List α) : Prop := Slc esz enc h v L ∧ ∀ i, rowOf v = some i → i ≠ c ∧ ¬ grc r h i
theorem SlcW.fr {α : Type} {esz : Nat} {enc : α → List AV} {v : AV} {L : List α} (hs : SlcW esz enc c r h v L) (hf : FrW c r h h') : SlcW esz enc c r h' v L := by
  obtain ⟨h1, h2⟩ := hs
  unfold SlcW Slc Sl at *
  cases v <;> simp only [rowOf] at * <;> first
    | (exact ⟨h1, fun r hr => by cases hr⟩)
    | (obtain ⟨k1, k2, k3, k4⟩ := h1
       obtain ⟨g1, g2⟩ := h2 _ rfl
       exact ⟨⟨k1, k2, k3, rd_frw hf g1 g2 k4⟩, fun r hr => by cases hr; exact ⟨g1, (hf.2 _ (rd_lt k4) g1 g2).2⟩⟩)
/-- A slice laid since. -/
theorem OutP.slcW {α β : Type} {esz esz' : Nat} {enc : α → List AV} {enc' : β → List AV} {b : AH} {l : List α} {v : AV} {L : List β} (hk : OutP esz enc r b h l) (hc : c < h.length) (ho : OwL esz' enc' h h' v L) (hp : Pre h h') : SlcW esz' enc' c r h' v L :=
  ⟨ho.slc, fun i hr => by
    have := own_ge ho hr
    exact ⟨by omega, hk.fresh hp this⟩⟩
theorem OutP.prex {α : Type} {esz : Nat} {enc : α → List AV} {b : AH} {l : List α} (hk : OutP esz enc r b h l) {es : List (AV × AV)} (hm : h[c]? = some (.map es)) (hp : PreX c h h') : OutP esz enc r b h' l ∧ r ≠ c := by
  have hlt := hk.lt
  obtain ⟨vo, h1, h2, h3⟩ := hk
  have hrc : r ≠ c := by rintro rfl; rw [h1] at hm; cases hm
  refine ⟨⟨vo, by rw [hp.2 r hlt hrc]; exact h1, own_row h2 fun i hi => ?_, h3⟩, hrc⟩
  refine hp.2 i (own_lt h2 hi) ?_
  rintro rfl
  unfold OwL Own at h2
  cases vo <;> simp only [rowOf] at hi <;> try (cases hi; done)
  obtain ⟨_, _, _, _, cells, fl, hh, _⟩ := h2
  cases hi
  rw [hm] at hh; cases hh
end
end Go.Proofs.YthoibdfcaejgbaaDoor.Ab

/- slices.IndexFunc, ContainsFunc and DeleteFunc, by what the function handed on answers. -/
namespace Go.Proofs.YthoibdfcaejgbaaDoor.Ab
open Go
set_option maxRecDepth 100000
set_option maxHeartbeats 4000000

def idxOf {α : Type} (P : α → Bool) (L : List α) : Int := match L.findIdx? P with
  | some i => i
  | none => -1
theorem idxOf_ge {α : Type} (P : α → Bool) (L : List α) : (idxOf P L ≥ 0) = (L.any P = true) := by
  unfold idxOf
  cases h : L.findIdx? P with
  | none => rw [List.findIdx?_eq_none_iff] at h; simp; exact fun x hx => by simpa using h x hx
  | some i =>
    rw [List.findIdx?_eq_some_iff_getElem] at h
    obtain ⟨hi, hp, _⟩ := h
    simp only [ge_iff_le, Int.natCast_nonneg, eq_iff_iff, true_iff, List.any_eq_true]
    exact ⟨_, List.getElem_mem hi, hp⟩
theorem lp_IndexFuncM (f : Nat) (cap : List AV) (P : (Int × Int) → Bool) (I : AH → Prop) {v : AV} {L : List (Int × Int)} (hL : L.length < 2 ^ 40) (hS : ∀ h, I h → Slc 2 encM h v L)
    (hI : ∀ x ∈ L, ∀ h, I h → ∀ post : AV → AH → Prop, (∀ h', I h' → post (.bool (P x)) h') → S f ([.agg (encM x)] ++ cap) h post k) {R : X → Env → AH → Prop} : ∀ (rest pre : List (Int × Int)) (h : AH), L = pre ++ rest → I h →
    (∀ h', I h' → ∀ i, rest.findIdx? P = some i → R .ret [(4, .int .i64 ((pre.length + i : Nat) : Int))] h') → (∀ h', I h' → rest.findIdx? P = none → R (.exit 0) [] h') →
    Cx (.loop lp205_0) [(0, v), (1, .fn f cap), (7, .int .i64 L.length), (8, .int .i64 pre.length)] h R k k
  | [], pre, h, hpre, h0, h1, h2 => by
    subst hpre
    rw [w_loopb (c := lp205_0) (d := lb205_0) rfl]; unfold lb205_0
    simp only [List.append_nil]
    simp (maxSteps := 1000000) (disch := first | omega | rfl | (simp only [zL, two63, room] <;> omega) | fail) only [↓reduceIte, ↓zP, zW, WOp, evOp, evBin, binI, binSh, binS, evNil, keyIs, keyEq, mkv, AV.cells, AV.sc, optv, bnd, env, put, Env.get, Env.set, Env.del, Env.dels, Env.init, res1, resL, resV, fillP, splice, newRow, Nat.reduceEqDiff, Nat.reduceLT, Nat.reduceLeDiff, Nat.reduceAdd, Nat.reduceMul, Nat.reduceSub, Nat.reduceBEq, reduceCtorEq, ↓zR, zQ, Tr, StA, StT]
    exact h2 h h0 rfl
  | x :: rest, pre, h, hpre, h0, h1, h2 => by
    have ih := lp_IndexFuncM f cap P I hL hS hI (R := R) rest (pre ++ [x])
    subst hpre
    obtain ⟨c, kk, off, rfl, hr⟩ := (hS h h0).at hlM
    have hlen : (pre ++ x :: rest).length = pre.length + 1 + rest.length := by simp; omega
    rw [hlen] at ih hL ⊢
    rw [w_loopb (c := lp205_0) (d := lb205_0) rfl]; unfold lb205_0
    have hlt : (pre.length : Int) < ((pre.length + 1 + rest.length : Nat) : Int) := by omega
    simp (maxSteps := 1000000) (disch := first | omega | rfl | (simp only [zL, two63, room] <;> omega) | fail) only [↓reduceIte, ↓zP, zW, WOp, evOp, evBin, binI, binSh, binS, evNil, keyIs, keyEq, mkv, AV.cells, AV.sc, optv, bnd, env, put, Env.get, Env.set, Env.del, Env.dels, Env.init, res1, resL, resV, fillP, splice, newRow, Nat.reduceEqDiff, Nat.reduceLT, Nat.reduceLeDiff, Nat.reduceAdd, Nat.reduceMul, Nat.reduceSub, Nat.reduceBEq, reduceCtorEq, ↓zR, zQ, Tr, StA, StT, hlt, hr, List.length_append]
    refine hI x (by simp) h h0 _ ?_
    intro h' h0'
    cases e : P x
    · have hw : (pre.length : Int) + 1 = ((pre ++ [x]).length : Int) := by simp
      simp (maxSteps := 1000000) (disch := first | omega | rfl | (simp only [zL, two63, room] <;> omega) | fail) only [↓reduceIte, ↓zP, zW, WOp, evOp, evBin, binI, binSh, binS, evNil, keyIs, keyEq, mkv, AV.cells, AV.sc, optv, bnd, env, put, Env.get, Env.set, Env.del, Env.dels, Env.init, res1, resL, resV, fillP, splice, newRow, Nat.reduceEqDiff, Nat.reduceLT, Nat.reduceLeDiff, Nat.reduceAdd, Nat.reduceMul, Nat.reduceSub, Nat.reduceBEq, reduceCtorEq, ↓zR, zQ, Tr, StA, StT, hw]
      rw [w_loopn (c := lp205_0) rfl]
      simp (maxSteps := 1000000) (disch := first | omega | rfl | (simp only [zL, two63, room] <;> omega) | fail) only [↓reduceIte, ↓zP, zW, WOp, evOp, evBin, binI, binSh, binS, evNil, keyIs, keyEq, mkv, AV.cells, AV.sc, optv, bnd, env, put, Env.get, Env.set, Env.del, Env.dels, Env.init, res1, resL, resV, fillP, splice, newRow, Nat.reduceEqDiff, Nat.reduceLT, Nat.reduceLeDiff, Nat.reduceAdd, Nat.reduceMul, Nat.reduceSub, Nat.reduceBEq, reduceCtorEq, ↓zR, zQ, Tr, StA, StT]
      refine ih h' (by simp) h0' ?_ ?_
      · intro h2' h02 i hi
        have := h1 h2' h02 (i + 1) (by rw [List.findIdx?_cons, e]; simp [hi])
        simpa [Nat.add_assoc, Nat.add_comm 1 i] using this
      · intro h2' h02 hi
        exact h2 h2' h02 (by rw [List.findIdx?_cons, e]; simp [hi])
    · simp (maxSteps := 1000000) (disch := first | omega | rfl | (simp only [zL, two63, room] <;> omega) | fail) only [↓reduceIte, ↓zP, zW, WOp, evOp, evBin, binI, binSh, binS, evNil, keyIs, keyEq, mkv, AV.cells, AV.sc, optv, bnd, env, put, Env.get, Env.set, Env.del, Env.dels, Env.init, res1, resL, resV, fillP, splice, newRow, Nat.reduceEqDiff, Nat.reduceLT, Nat.reduceLeDiff, Nat.reduceAdd, Nat.reduceMul, Nat.reduceSub, Nat.reduceBEq, reduceCtorEq, ↓zR, zQ, Tr, StA, StT]
      simpa using h1 h' h0' 0 (by rw [List.findIdx?_cons, e]; simp)
theorem c_IndexFuncM (f : Nat) (cap : List AV) (P : (Int × Int) → Bool) (I : AH → Prop) {v : AV} {L : List (Int × Int)} (hL : L.length < 2 ^ 40) (hS : ∀ h, I h → Slc 2 encM h v L)
    (hI : ∀ x ∈ L, ∀ h, I h → ∀ post : AV → AH → Prop, (∀ h', I h' → post (.bool (P x)) h') → S f ([.agg (encM x)] ++ cap) h post k) {h : AH} (h0 : I h) {post : AV → AH → Prop}
    (hp : ∀ h', I h' → post (.int .i64 (idxOf P L)) h') : S 205 [v, .fn f cap] h post k := by
  refine S_of rfl T205 ?_; unfold fi205
  have hv := fun g => Slc.lenV ((hS h h0)) (g := g) (ρ := fun _ => _) (x := .t 0) rfl; simp only [evOp] at hv
  simp (maxSteps := 1000000) (disch := first | omega | rfl | (simp only [zL, two63, room] <;> omega) | fail) only [↓reduceIte, ↓zP, zW, WOp, evOp, evBin, binI, binSh, binS, evNil, keyIs, keyEq, mkv, AV.cells, AV.sc, optv, bnd, env, put, Env.get, Env.set, Env.del, Env.dels, Env.init, res1, resL, resV, fillP, splice, newRow, Nat.reduceEqDiff, Nat.reduceLT, Nat.reduceLeDiff, Nat.reduceAdd, Nat.reduceMul, Nat.reduceSub, Nat.reduceBEq, reduceCtorEq, ↓zR, zQ, Tr, StA, StT, hv]
  refine lp_IndexFuncM f cap P I hL hS hI L [] h rfl h0 ?_ ?_
  · intro h' h0' i hi
    simp (maxSteps := 1000000) (disch := first | omega | rfl | (simp only [zL, two63, room] <;> omega) | fail) only [↓reduceIte, ↓zP, zW, WOp, evOp, evBin, binI, binSh, binS, evNil, keyIs, keyEq, mkv, AV.cells, AV.sc, optv, bnd, env, put, Env.get, Env.set, Env.del, Env.dels, Env.init, res1, resL, resV, fillP, splice, newRow, Nat.reduceEqDiff, Nat.reduceLT, Nat.reduceLeDiff, Nat.reduceAdd, Nat.reduceMul, Nat.reduceSub, Nat.reduceBEq, reduceCtorEq, ↓zR, zQ, Tr, StA, StT]
    have := hp h' h0'
    unfold idxOf at this
    rw [hi] at this
    simpa using this
  · intro h' h0' hi
    simp (maxSteps := 1000000) (disch := first | omega | rfl | (simp only [zL, two63, room] <;> omega) | fail) only [↓reduceIte, ↓zP, zW, WOp, evOp, evBin, binI, binSh, binS, evNil, keyIs, keyEq, mkv, AV.cells, AV.sc, optv, bnd, env, put, Env.get, Env.set, Env.del, Env.dels, Env.init, res1, resL, resV, fillP, splice, newRow, Nat.reduceEqDiff, Nat.reduceLT, Nat.reduceLeDiff, Nat.reduceAdd, Nat.reduceMul, Nat.reduceSub, Nat.reduceBEq, reduceCtorEq, ↓zR, zQ, Tr, StA, StT]
    have := hp h' h0'
    unfold idxOf at this
    rw [hi] at this
    exact this
end Go.Proofs.YthoibdfcaejgbaaDoor.Ab

/- slices.DeleteFunc on texts. -/
namespace Go.Proofs.YthoibdfcaejgbaaDoor.Ab
open Go
set_option maxRecDepth 100000
set_option maxHeartbeats 4000000

/-- A slice of one's own that may be written, perhaps with more behind it in its row. -/
def OwW {α : Type} (esz : Nat) (enc : α → List AV) (b h : AH) (v : AV) (L : List α) : Prop := match v with
  | .nilS | .empS => L = []
  | .slice c kk off len e => e = esz ∧ len = L.length ∧ b.length ≤ c ∧ ∃ A Z fl, h[c]? = some (.row (A ++ L.flatMap enc ++ Z) kk fl false) ∧ fl ≤ kk ∧ A.length = off
  | _ => False
section
variable {α : Type} {esz : Nat} {enc : α → List AV}
theorem OwL.w {b h : AH} {v : AV} {L : List α} (ho : OwL esz enc b h v L) : OwW esz enc b h v L := by
  unfold OwL Own at ho
  unfold OwW
  cases v <;> simp only at ho ⊢ <;> first
    | exact ho
    | exact List.eq_nil_of_length_eq_zero ho.1
    | skip
  rename_i c kk off len e
  obtain ⟨h1, h2, h3, h4, cells, fl, h5, h6, h7, h8⟩ := ho
  refine ⟨h1, h2, h4, cells.take off, [], fl, ?_, h6, by simp; omega⟩
  rw [← h8, List.append_nil, List.take_append_drop]
  exact h5
theorem OwW.slc (hl : ∀ x, (enc x).length = esz) {b h : AH} {v : AV} {L : List α} (ho : OwW esz enc b h v L) : Slc esz enc h v L := by
  unfold OwW at ho
  unfold Slc Sl
  cases v <;> simp only at ho ⊢ <;> first
    | exact ho
    | (subst ho; exact ⟨rfl, rfl⟩)
    | skip
  rename_i c kk off len e
  obtain ⟨h1, h2, h3, A, Z, fl, h4, h5, h6⟩ := ho
  refine ⟨h1, h2, (flat_len hl L).symm, ?_⟩
  have hf := flat_len hl L
  rw [rd_of h4 ⟨h5, Nat.le_refl _, by simp only [List.length_append, hf]; omega⟩]
  rw [List.append_assoc, List.drop_left' h6, List.take_left' hf]
theorem OwW.pre {b h h' : AH} (hp : Pre h h') {v : AV} {L : List α} (ho : OwW esz enc b h v L) : OwW esz enc b h' v L := by
  unfold OwW at ho ⊢
  cases v <;> simp only at ho ⊢ <;> first
    | exact ho
    | (obtain ⟨h1, h2, h3, A, Z, fl, h4, h5⟩ := ho
       exact ⟨h1, h2, h3, A, Z, fl, by rw [hp.2 _ (List.getElem?_eq_some_iff.1 h4).1]; exact h4, h5⟩)
theorem OwW.base {b b' h : AH} {v : AV} {L : List α} (ho : OwW esz enc b h v L) (hb : b'.length ≤ b.length) : OwW esz enc b' h v L := by
  unfold OwW at ho ⊢
  cases v <;> simp only at ho ⊢ <;> first
    | exact ho
    | (obtain ⟨h1, h2, h3, h4⟩ := ho; exact ⟨h1, h2, Nat.le_trans hb h3, h4⟩)
end
theorem drop_mid {α : Type} (A w : List α) (x : α) (Z : List α) {n : Nat} (hn : n = A.length + w.length) : ((A ++ (w ++ x :: Z)).drop n).take 1 = [x] := by
  subst hn
  rw [← List.append_assoc, List.drop_left' (by simp)]
  rfl
theorem splice_mid {α : Type} (A w : List α) (y x : α) (Z : List α) {n : Nat} (hn : n = A.length + w.length) : splice (A ++ (w ++ y :: Z)) n [x] = A ++ (w ++ x :: Z) := by
  subst hn
  unfold splice
  rw [← List.append_assoc, List.take_left' (by simp), List.append_assoc, ← List.drop_drop, List.drop_left' (by simp)]
  simp
theorem splice_all {α : Type} (A w m Z m' : List α) {n : Nat} (hn : n = A.length + w.length) (hm : m'.length = m.length) : splice (A ++ (w ++ (m ++ Z))) n m' = A ++ (w ++ (m' ++ Z)) := by
  subst hn
  unfold splice
  rw [← List.append_assoc, List.take_left' (by simp), ← List.drop_drop, List.drop_left' (by simp), hm, List.drop_left' rfl]
  simp

theorem take_slice {α : Type} {P : α → Bool} {L : List α} {i : Nat} (h : L.findIdx? P = some i) : ∃ x rest, L = L.take i ++ x :: rest ∧ P x = true ∧ L.filter (fun x => !P x) = L.take i ++ rest.filter (fun x => !P x) ∧ i < L.length := by
  rw [List.findIdx?_eq_some_iff_getElem] at h
  obtain ⟨hi, hp, hn⟩ := h
  have e : L = L.take i ++ L[i] :: L.drop (i + 1) := by rw [← List.drop_eq_getElem_cons, List.take_append_drop]
  refine ⟨L[i], L.drop (i + 1), e, hp, ?_, hi⟩
  rw [e, List.filter_append, List.filter_cons, hp, ← e]
  simp only [Bool.not_true, Bool.false_eq_true, if_false]
  congr 1
  rw [List.filter_eq_self]
  intro x hx
  obtain ⟨j, hj, rfl⟩ := List.getElem_of_mem hx
  simp at hj
  have := hn j (by omega)
  simp at this ⊢
  exact this
/-- All old rows but the slice's own are as they were. -/
def PreV (v : AV) (h h' : AH) : Prop := h.length ≤ h'.length ∧ ∀ i, i < h.length → (∀ c kk off n e, v = .slice c kk off n e → i ≠ c) → h'[i]? = h[i]?
theorem Pre.v {h h' : AH} (hp : Pre h h') (v : AV) : PreV v h h' := ⟨hp.1, fun i hi _ => hp.2 i hi⟩
theorem PreX.v {h h' : AH} {c kk off n e : Nat} (hp : PreX c h h') : PreV (.slice c kk off n e) h h' := ⟨hp.1, fun i hi hc => hp.2 i hi (hc c kk off n e rfl)⟩
theorem flatS (L : List (List UInt8)) : L.flatMap encS = L.map AV.str := by
  induction L with
  | nil => rfl
  | cons a L ih => rw [List.flatMap_cons, ih]; rfl
end Go.Proofs.YthoibdfcaejgbaaDoor.Ab

/- MAPS that know what a function answers. -/
namespace Go.Proofs.YthoibdfcaejgbaaDoor.Ab
open Go
set_option maxRecDepth 100000
set_option maxHeartbeats 4000000

/-- All keys are texts. -/
def StrK (es : List (AV × AV)) : Prop := ∀ kv ∈ es, ∃ s, kv.1 = .str s
theorem StrK.nil : StrK [] := fun _ h => by cases h
theorem mfind_some {es : List (AV × AV)} (hk : StrK es) (x : List UInt8) : ∃ o, mfind (.str x) es = some o := by
  induction es with
  | nil => exact ⟨none, rfl⟩
  | cons kv es ih =>
    obtain ⟨a, v⟩ := kv
    obtain ⟨s, hs⟩ := hk (a, v) (by simp)
    simp only at hs
    subst hs
    obtain ⟨o, ho⟩ := ih fun kv h => hk kv (by simp [h])
    simp only [mfind, keyEq]
    cases x == s
    · exact ⟨o, ho⟩
    · exact ⟨some v, rfl⟩
theorem mfind_mput {es : List (AV × AV)} (hk : StrK es) (x y : List UInt8) (v : AV) : mfind (.str y) (mput (.str x) v es) = if y == x then some (some v) else mfind (.str y) es := by
  induction es with
  | nil =>
    simp only [mput, mfind, keyEq]
    cases y == x <;> rfl
  | cons kv es ih =>
    obtain ⟨a, u⟩ := kv
    obtain ⟨s, hs⟩ := hk (a, u) (by simp)
    simp only at hs
    subst hs
    have ih := ih fun kv h => hk kv (by simp [h])
    cases e : x == s
    · have e1 : mput (.str x) v ((.str s, u) :: es) = (.str s, u) :: mput (.str x) v es := by simp only [mput, keyEq, e]
      rw [e1]
      simp only [mfind, keyEq, ih]
      cases e2 : y == s
      · rfl
      · have : (y == x) = false := by
          rw [beq_eq_false_iff_ne] at e ⊢
          rw [beq_iff_eq] at e2
          subst e2; exact fun h => e h.symm
        simp [this]
    · have e1 : mput (.str x) v ((.str s, u) :: es) = (.str x, v) :: es := by simp only [mput, keyEq, e]
      rw [e1]
      rw [beq_iff_eq] at e
      subst e
      simp only [mfind, keyEq]
      cases y == x <;> rfl
theorem StrK.mput {es : List (AV × AV)} (hk : StrK es) (x : List UInt8) (v : AV) : StrK (mput (.str x) v es) := by
  induction es with
  | nil => intro kv h; simp only [Ab.mput, List.mem_singleton] at h; subst h; exact ⟨x, rfl⟩
  | cons kv es ih =>
    obtain ⟨a, u⟩ := kv
    have ih := ih fun kv h => hk kv (by simp [h])
    have ha := hk (a, u) (by simp)
    intro kv h
    simp only [Ab.mput] at h
    split at h
    · rcases List.mem_cons.1 h with rfl | h
      · exact ⟨x, rfl⟩
      · exact hk kv (by simp [h])
    · rcases List.mem_cons.1 h with rfl | h
      · exact ha
      · exact ih kv h

/-- The map at c knows right answers. -/
def Mh {σ : Type} (key : σ → List UInt8) (val : σ → AV) (c : Nat) (h : AH) : Prop := ∃ es, h[c]? = some (.map es) ∧ StrK es ∧ ∀ s v, mfind (.str (key s)) es = some (some v) → v = val s
section
variable {σ : Type} {key : σ → List UInt8} {val : σ → AV} {c : Nat} {h : AH}
theorem Mh.lt (hm : Mh key val c h) : c < h.length := by
  obtain ⟨es, h1, _⟩ := hm
  exact (List.getElem?_eq_some_iff.1 h1).1
theorem Mh.pre {h' : AH} (hm : Mh key val c h) (hp : Pre h h') : Mh key val c h' := by
  have := hm.lt
  obtain ⟨es, h1, h2⟩ := hm
  exact ⟨es, by rw [hp.2 c this]; exact h1, h2⟩
theorem Mh.new : Mh key val h.length (h ++ [.map []]) := ⟨[], by simp, StrK.nil, fun s v hv => by simp [mfind] at hv⟩
theorem Mh.new' {n : Nat} (hn : n = h.length) : Mh key val n (h ++ [.map []]) := hn ▸ Mh.new
/-- A new answer. -/
theorem Mh.put (hm : Mh key val c h) (hk : ∀ s s', key s = key s' → val s = val s') (s : σ) : ∃ es, h[c]? = some (.map es) ∧ (∃ o, mfind (.str (key s)) es = some o) ∧ Mh key val c (h.set c (.map (mput (.str (key s)) (val s) es))) := by
  have hlt := hm.lt
  obtain ⟨es, h1, h2, h3⟩ := hm
  refine ⟨es, h1, mfind_some h2 _, _, by rw [List.getElem?_set, if_pos rfl, if_pos hlt], h2.mput _ _, ?_⟩
  intro s' v hv
  rw [mfind_mput h2] at hv
  split at hv
  · rename_i he
    cases hv
    exact hk s s' (beq_iff_eq.1 he).symm
  · exact h3 s' v hv
end
end Go.Proofs.YthoibdfcaejgbaaDoor.Ab

/- GAMES of the program: who wins a sum. -/
namespace Go.Proofs.YthoibdfcaejgbaaDoor.Ab
open Go
set_option maxRecDepth 100000
set_option maxHeartbeats 4000000

theorem kindS_len (t : Bool) : (kindS t).length = 1 := by cases t <;> rfl
def winK (s : List UInt8 × Bool) : List UInt8 := kindS s.2 ++ s.1
def winV (s : List UInt8 × Bool) : AV := .bool (winB s.1 s.2)
theorem winK_inj (s s' : List UInt8 × Bool) (h : winK s = winK s') : winV s = winV s' := by
  obtain ⟨w, t⟩ := s
  obtain ⟨w', t'⟩ := s'
  cases t <;> cases t' <;> simp [winK, kindS] at h ⊢ <;> subst h <;> rfl

end Go.Proofs.YthoibdfcaejgbaaDoor.Ab

/- PUZZLES: clues. -/
namespace Go.Proofs.YthoibdfcaejgbaaDoor.Ab
open Go
set_option maxRecDepth 100000
set_option maxHeartbeats 4000000

theorem lp_liCount (w : List UInt8) (b : UInt8) (hw : w.length < 2 ^ 30) {h : AH} {R : X → Env → AH → Prop} : ∀ (rest pre : List UInt8) (n : Nat), w = pre ++ rest → n ≤ pre.length → R (.exit 0) [(5, .int .i64 ((n + rest.count b : Nat) : Int))] h →
    Cx (.loop lp116_0) [(0, .str w), (1, by8 b), (5, .int .i64 n), (6, .int .i64 pre.length)] h R k k
  | [], pre, n, hpre, hn, hR => by
    rw [w_loopb (c := lp116_0) (d := lb116_0) rfl]; unfold lb116_0
    have hl : w.length = pre.length := by rw [hpre]; simp
    simp (maxSteps := 1000000) (disch := first | omega | rfl | (simp only [zL, two63, room] <;> omega) | fail) only [↓reduceIte, ↓zP, zW, WOp, evOp, evBin, binI, binSh, binS, evNil, keyIs, keyEq, mkv, AV.cells, AV.sc, optv, bnd, env, put, Env.get, Env.set, Env.del, Env.dels, Env.init, res1, resL, resV, fillP, splice, newRow, Nat.reduceEqDiff, Nat.reduceLT, Nat.reduceLeDiff, Nat.reduceAdd, Nat.reduceMul, Nat.reduceSub, Nat.reduceBEq, reduceCtorEq, ↓zR, zQ, Tr, StA, StT, hl]
    simpa using hR
  | x :: rest, pre, n, hpre, hn, hR => by
    have ih := lp_liCount w b hw (h := h) (R := R) rest (pre ++ [x])
    have hl : w.length = pre.length + 1 + rest.length := by rw [hpre]; simp; omega
    have hx : w.getD pre.length 0 = x := by rw [hpre]; simp [List.getD_eq_getElem?_getD]
    rw [w_loopb (c := lp116_0) (d := lb116_0) rfl]; unfold lb116_0
    have w1 : (pre.length : Int) + 1 = ((pre ++ [x]).length : Int) := by simp
    have w2 : (n : Int) + 1 = ((n + 1 : Nat) : Int) := by omega
    cases e : (x == b)
    · simp (maxSteps := 1000000) (disch := first | omega | rfl | (simp only [zL, two63, room] <;> omega) | fail) only [↓reduceIte, ↓zP, zW, WOp, evOp, evBin, binI, binSh, binS, evNil, keyIs, keyEq, mkv, AV.cells, AV.sc, optv, bnd, env, put, Env.get, Env.set, Env.del, Env.dels, Env.init, res1, resL, resV, fillP, splice, newRow, Nat.reduceEqDiff, Nat.reduceLT, Nat.reduceLeDiff, Nat.reduceAdd, Nat.reduceMul, Nat.reduceSub, Nat.reduceBEq, reduceCtorEq, ↓zR, zQ, Tr, StA, StT, hx, e, w1]
      rw [w_loopn (c := lp116_0) rfl]
      simp (maxSteps := 1000000) (disch := first | omega | rfl | (simp only [zL, two63, room] <;> omega) | fail) only [↓reduceIte, ↓zP, zW, WOp, evOp, evBin, binI, binSh, binS, evNil, keyIs, keyEq, mkv, AV.cells, AV.sc, optv, bnd, env, put, Env.get, Env.set, Env.del, Env.dels, Env.init, res1, resL, resV, fillP, splice, newRow, Nat.reduceEqDiff, Nat.reduceLT, Nat.reduceLeDiff, Nat.reduceAdd, Nat.reduceMul, Nat.reduceSub, Nat.reduceBEq, reduceCtorEq, ↓zR, zQ, Tr, StA, StT]
      exact ih n (by rw [hpre]; simp) (by simp; omega) (by rw [List.count_cons, e] at hR; simpa using hR)
    · simp (maxSteps := 1000000) (disch := first | omega | rfl | (simp only [zL, two63, room] <;> omega) | fail) only [↓reduceIte, ↓zP, zW, WOp, evOp, evBin, binI, binSh, binS, evNil, keyIs, keyEq, mkv, AV.cells, AV.sc, optv, bnd, env, put, Env.get, Env.set, Env.del, Env.dels, Env.init, res1, resL, resV, fillP, splice, newRow, Nat.reduceEqDiff, Nat.reduceLT, Nat.reduceLeDiff, Nat.reduceAdd, Nat.reduceMul, Nat.reduceSub, Nat.reduceBEq, reduceCtorEq, ↓zR, zQ, Tr, StA, StT, hx, e, w1, w2]
      rw [w_loopn (c := lp116_0) rfl]
      simp (maxSteps := 1000000) (disch := first | omega | rfl | (simp only [zL, two63, room] <;> omega) | fail) only [↓reduceIte, ↓zP, zW, WOp, evOp, evBin, binI, binSh, binS, evNil, keyIs, keyEq, mkv, AV.cells, AV.sc, optv, bnd, env, put, Env.get, Env.set, Env.del, Env.dels, Env.init, res1, resL, resV, fillP, splice, newRow, Nat.reduceEqDiff, Nat.reduceLT, Nat.reduceLeDiff, Nat.reduceAdd, Nat.reduceMul, Nat.reduceSub, Nat.reduceBEq, reduceCtorEq, ↓zR, zQ, Tr, StA, StT]
      exact ih (n + 1) (by rw [hpre]; simp) (by simp; omega) (by rw [List.count_cons, e] at hR; simpa [Nat.add_assoc, Nat.add_comm 1] using hR)
theorem e_liCount (w : List UInt8) (b : UInt8) (hw : w.length < 1073741824) {h : AH} {post : AV → AH → Prop} : S 116 [.str w, by8 b] h post k = post (.int .i64 (w.count b : Nat)) h := by
  refine S_eq fun post hp => ?_
  refine S_of rfl T116 ?_; unfold fi116
  simp (maxSteps := 1000000) (disch := first | omega | rfl | (simp only [zL, two63, room] <;> omega) | fail) only [↓reduceIte, ↓zP, zW, WOp, evOp, evBin, binI, binSh, binS, evNil, keyIs, keyEq, mkv, AV.cells, AV.sc, optv, bnd, env, put, Env.get, Env.set, Env.del, Env.dels, Env.init, res1, resL, resV, fillP, splice, newRow, Nat.reduceEqDiff, Nat.reduceLT, Nat.reduceLeDiff, Nat.reduceAdd, Nat.reduceMul, Nat.reduceSub, Nat.reduceBEq, reduceCtorEq, ↓zR, zQ, Tr, StA, StT]
  refine lp_liCount w b hw w [] 0 rfl (by simp) ?_
  simp (maxSteps := 1000000) (disch := first | omega | rfl | (simp only [zL, two63, room] <;> omega) | fail) only [↓reduceIte, ↓zP, zW, WOp, evOp, evBin, binI, binSh, binS, evNil, keyIs, keyEq, mkv, AV.cells, AV.sc, optv, bnd, env, put, Env.get, Env.set, Env.del, Env.dels, Env.init, res1, resL, resV, fillP, splice, newRow, Nat.reduceEqDiff, Nat.reduceLT, Nat.reduceLeDiff, Nat.reduceAdd, Nat.reduceMul, Nat.reduceSub, Nat.reduceBEq, reduceCtorEq, ↓zR, zQ, Tr, StA, StT]
  simpa using hp
theorem e_liCountT (w : List UInt8) (hw : w.length < 1073741824) {h : AH} {post : AV → AH → Prop} : S 116 [.str w, .int .u8 84] h post k = post (.int .i64 (w.count 84 : Nat)) h := e_liCount w 84 hw
theorem e_liCountF (w : List UInt8) (hw : w.length < 1073741824) {h : AH} {post : AV → AH → Prop} : S 116 [.str w, .int .u8 70] h post k = post (.int .i64 (w.count 70 : Nat)) h := e_liCount w 70 hw
theorem e_liCountD (w : List UInt8) (hw : w.length < 1073741824) {h : AH} {post : AV → AH → Prop} : S 116 [.str w, .int .u8 46] h post k = post (.int .i64 (w.count 46 : Nat)) h := e_liCount w 46 hw
theorem e_count (w : List UInt8) {h : AH} {post : AV → AH → Prop} : S 189 [.str w] h post k = post (.tup [.int .i64 (w.count 84 : Nat), .int .i64 (w.count 46 : Nat), .int .i64 (w.count 70 : Nat)]) h := S_eq fun _ => c_count w
def clueOk (n : Int) (c : Int × Int × Int) : Bool :=
  if c.1 = 0 then decide (0 ≤ c.2.1 ∧ c.2.1 ≤ n - 1) && decide (0 ≤ c.2.2 ∧ c.2.2 ≤ 2) else
  decide (c.2.2 = 0) && (if c.1 = 1 ∨ c.1 = 2 then decide (0 ≤ c.2.1 ∧ c.2.1 ≤ n) else if c.1 = 3 then decide (0 ≤ c.2.1 ∧ c.2.1 ≤ 2 * n) else if c.1 = 4 then decide (0 ≤ c.2.1 ∧ c.2.1 ≤ 10) else if c.1 = 5 then decide (0 ≤ c.2.1 ∧ c.2.1 ≤ 3) else false)
def clueB (kd cell : Int) (w : List UInt8) : Int × Int × Int :=
  if kd = 0 then (0, cell, Go.Lib.indexByte [46, 70, 84] (w.getD cell.toNat 0)) else if kd = 1 then (1, w.count 84, 0) else if kd = 2 then (2, w.count 70, 0) else if kd = 3 then (3, (movesB w [84, 70]).length, 0) else if kd = 4 then (4, pairsB w, 0) else
  (5, Go.Lib.indexByte [49, 50, 70, 84] ((outcS (winB w true) (winB w false)).getD 0 0), 0)
theorem outcS_one (a b : Bool) : outcS a b = [(outcS a b).getD 0 0] := by cases a <;> cases b <;> rfl
end Go.Proofs.YthoibdfcaejgbaaDoor.Ab

/- PUZZLES: which lines fit a clue. -/
namespace Go.Proofs.YthoibdfcaejgbaaDoor.Ab
open Go
set_option maxRecDepth 100000
set_option maxHeartbeats 4000000

theorem idx_cons (x : UInt8) (l : List UInt8) (b : UInt8) : Go.Lib.indexByte (x :: l) b = if x == b then 0 else if Go.Lib.indexByte l b == -1 then -1 else Go.Lib.indexByte l b + 1 := rfl
def pzI (s : List UInt8) (b : UInt8) : Int := if Go.Lib.indexByte s b = -1 then 0 else Go.Lib.indexByte s b
def valB (kd at' : Int) (w : List UInt8) : Int :=
  if kd = 0 then pzI [46, 70, 84] (w.getD at'.toNat 0) else if kd = 1 then w.count 84 else if kd = 2 then w.count 70 else if kd = 3 then (movesB w [84, 70]).length else if kd = 4 then pairsB w else
  pzI [49, 50, 70, 84] ((outcS (winB w true) (winB w false)).getD 0 0)
def fitB (c : Int × Int × Int) (w : List UInt8) : Bool := if c.1 = 0 then valB 0 c.2.1 w == c.2.2 else valB c.1 0 w == c.2.1
theorem pzI_sign {b : UInt8} (hb : isSign b = true) : pzI [46, 70, 84] b = Go.Lib.indexByte [46, 70, 84] b := by
  simp only [isSign, Bool.or_eq_true, beq_iff_eq] at hb
  rcases hb with (rfl | rfl) | rfl <;> decide
theorem pzI_out (a b : Bool) : pzI [49, 50, 70, 84] ((outcS a b).getD 0 0) = Go.Lib.indexByte [49, 50, 70, 84] ((outcS a b).getD 0 0) := by cases a <;> cases b <;> decide
theorem fit_eq {n : Int} {kd a b cell : Int} {w : List UInt8} (hs : w.all isSign = true) (hn : n = w.length) (hc : clueOk n (kd, a, b) = true) (hcell : kd = 0 → cell = a) : seqL [0, 0, 0] (encC (clueB kd cell w)) (encC (kd, a, b)) = some (fitB (kd, a, b) w) := by
  have key : ∀ x y z : Int, seqL [0, 0, 0] (encC (x, y, z)) (encC (kd, a, b)) = some ((x == kd) && ((y == a) && (z == b))) := by
    intro x y z
    simp [seqL, keyIs, keyEq]
  unfold fitB clueB valB
  by_cases k0 : kd = 0
  · subst k0
    have := hcell rfl
    subst this
    simp only [if_true]
    simp only [clueOk, if_true, Bool.and_eq_true, decide_eq_true_eq] at hc
    rw [key, pzI_sign (sign_at hs (by omega))]
    simp
  have hb : b = 0 := by
    simp only [clueOk, if_neg k0, Bool.and_eq_true, decide_eq_true_eq] at hc
    exact hc.1
  subst hb
  simp only [if_neg k0]
  by_cases k1 : kd = 1
  · subst k1; rw [if_pos rfl, if_pos rfl, key]; simp
  rw [if_neg k1, if_neg k1]
  by_cases k2 : kd = 2
  · subst k2; rw [if_pos rfl, if_pos rfl, key]; simp
  rw [if_neg k2, if_neg k2]
  by_cases k3 : kd = 3
  · subst k3; rw [if_pos rfl, if_pos rfl, key]; simp
  rw [if_neg k3, if_neg k3]
  by_cases k4 : kd = 4
  · subst k4; rw [if_pos rfl, if_pos rfl, key]; simp
  rw [if_neg k4, if_neg k4]
  have k5 : kd = 5 := by
    simp [clueOk, k0, k1, k2, k3, k4] at hc
    exact hc.1
  subst k5
  rw [key, pzI_out]
  simp
end Go.Proofs.YthoibdfcaejgbaaDoor.Ab

/- PLAIN: all lines of so many cells, in order. -/
namespace Go.Proofs.YthoibdfcaejgbaaDoor.Ab

def ext3 (w : List UInt8) : List (List UInt8) := [w ++ [46], w ++ [70], w ++ [84]]
def allL : Nat → List (List UInt8)
  | 0 => [[]]
  | n + 1 => (allL n).flatMap ext3
/-- All that go on so many cells. -/
def goOn : Nat → List UInt8 → List (List UInt8)
  | 0, w => [w]
  | n + 1, w => goOn n (w ++ [46]) ++ goOn n (w ++ [70]) ++ goOn n (w ++ [84])
theorem goOn_succ : ∀ (n : Nat) (w : List UInt8), goOn (n + 1) w = (goOn n w).flatMap ext3
  | 0, w => by simp [goOn, ext3]
  | n + 1, w => by
    rw [goOn, goOn_succ n, goOn_succ n, goOn_succ n]
    conv => rhs; rw [goOn]
    simp only [List.flatMap_append]
theorem goOn_all : ∀ n : Nat, goOn n [] = allL n
  | 0 => rfl
  | n + 1 => by rw [goOn_succ, goOn_all n]; rfl
theorem allL_good : ∀ (n : Nat) (w : List UInt8), w ∈ allL n → w.length = n ∧ w.all isSign = true
  | 0, w, h => by simp [allL] at h; subst h; exact ⟨rfl, rfl⟩
  | n + 1, w, h => by
    simp only [allL, List.mem_flatMap] at h
    obtain ⟨v, hv, h⟩ := h
    obtain ⟨h1, h2⟩ := allL_good n v hv
    simp only [ext3, List.mem_cons, List.not_mem_nil, or_false] at h
    rcases h with rfl | rfl | rfl <;> simp [h1, h2, isSign, List.all_append]
theorem allL_length : ∀ n : Nat, (allL n).length = 3 ^ n
  | 0 => rfl
  | n + 1 => by
    have key : ∀ l : List (List UInt8), (l.flatMap ext3).length = l.length * 3 := by
      intro l
      induction l with
      | nil => rfl
      | cons a l ih => rw [List.flatMap_cons, List.length_append, ih]; simp [ext3]; omega
    rw [allL, key, allL_length n, Nat.pow_succ]
end Go.Proofs.YthoibdfcaejgbaaDoor.Ab

/- PUZZLES: all lines, and those that fit. -/
namespace Go.Proofs.YthoibdfcaejgbaaDoor.Ab
open Go
set_option maxRecDepth 100000
set_option maxHeartbeats 4000000

theorem dec3 (i : Nat) (h : i < 3) : dec [46, 70, 84] i = (((([46, 70, 84] : List UInt8).getD i 0).toNat : Int), 1) := dec_low h (by
  have : ∀ i, i < 3 → (([46, 70, 84] : List UInt8).getD i 0).toNat < 128 := by decide
  exact this i h)
theorem enc3 : ∀ b : UInt8, b = 46 ∨ b = 70 ∨ b = 84 → (Utf8.encode (b.toNat : Int)).data.toList = [b] := by
  rintro b (rfl | rfl | rfl) <;> decide +kernel
theorem own_ne_iter {esz : Nat} {b h : AH} {v : AV} {n : Nat} {cs : List AV} (ho : Own esz b h v n cs) {c : Nat} {s : List UInt8} {p : Nat} (hc : h[c]? = some (.iter s p)) : rowOf v ≠ some c := by
  unfold Own at ho
  intro hr
  cases v <;> simp only [rowOf] at ho hr <;> first
    | (cases hr; done)
    | (cases hr
       obtain ⟨_, _, _, _, cells, fl, h5, _⟩ := ho
       rw [hc] at h5; cases h5)
abbrev Clu := Int × Int × Int
/-- All lines that fit. -/
def fitL (n : Nat) (cs : List Clu) : List (List UInt8) := (allL n).filter fun w => cs.all fun c => fitB c w
theorem goOn_length : ∀ (d : Nat) (w : List UInt8), (goOn d w).length = 3 ^ d
  | 0, _ => rfl
  | d + 1, w => by simp only [goOn, List.length_append, goOn_length d]; rw [Nat.pow_succ]; omega
abbrev S3 : List (List UInt8) := [[46], [70], [84]]
end Go.Proofs.YthoibdfcaejgbaaDoor.Ab

/- PUZZLES: which there are, their solutions; the law's helpers. -/
namespace Go.Proofs.YthoibdfcaejgbaaDoor.Ab
open Go
set_option maxRecDepth 100000
set_option maxHeartbeats 4000000

def goodP (n : Int) (cs : List Clu) : Bool := decide (1 ≤ n ∧ n ≤ 5) && (decide (cs.length ≤ 6) && cs.all fun c => clueOk n c)
theorem goodP_iff {n : Int} {cs : List Clu} (h : goodP n cs = true) : ∃ m : Nat, n = m ∧ 1 ≤ m ∧ m ≤ 5 ∧ cs.length ≤ 6 ∧ ∀ c ∈ cs, clueOk n c = true := by
  simp only [goodP, Bool.and_eq_true, decide_eq_true_eq, List.all_eq_true] at h
  obtain ⟨⟨h1, h2⟩, h3, h4⟩ := h
  exact ⟨n.toNat, by omega, by omega, by omega, h3, h4⟩
abbrev pzV (n : Int) (v : AV) : AV := .agg [.int .i64 n, v]
theorem sl_cells {α : Type} {esz : Nat} {enc : α → List AV} {h : AH} {v : AV} {L : List α} (hs : Slc esz enc h v L) : v.cells = [v] ∧ v.sc = true := by
  unfold Slc Sl at hs
  cases v <;> simp only at hs <;> first
    | exact ⟨rfl, rfl⟩
    | (exact hs.elim)
def solN (n : Int) (cs : List Clu) : List (List UInt8) := fitL n.toNat cs
def countP (n : Int) (cs : List Clu) : Int := if goodP n cs then (solN n cs).length else 0
theorem rep_flat (n : Nat) : (List.replicate n [AV.int .i64 0, AV.int .i64 0, AV.int .i64 0]).flatten = (List.replicate n ((0, 0, 0) : Clu)).flatMap encC := by
  induction n with
  | zero => rfl
  | succ n ih => rw [List.replicate_succ, List.replicate_succ, List.flatten_cons, List.flatMap_cons, ih]
theorem beq_cc {α : Type} [BEq α] (x y : α) (l l' : List α) : (x :: l == y :: l') = (x == y && l == l') := rfl
end Go.Proofs.YthoibdfcaejgbaaDoor.Ab

/- PUZZLES: the first solution, whether one alone is left; their laws. -/
namespace Go.Proofs.YthoibdfcaejgbaaDoor.Ab
open Go
set_option maxRecDepth 100000
set_option maxHeartbeats 4000000

def solP (n : Int) (cs : List Clu) : List (List UInt8) := if goodP n cs then solN n cs else []

end Go.Proofs.YthoibdfcaejgbaaDoor.Ab

/- MARKS: what the laws' helpers write into a slice and find there again; slices of numbers compared. -/
namespace Go.Proofs.YthoibdfcaejgbaaDoor.Ab
open Go
set_option maxRecDepth 100000
set_option maxHeartbeats 4000000

theorem splice_in {X vs : List AV} {o : Nat} (h : o + vs.length ≤ X.length) (A Z : List AV) {n : Nat} (hn : n = A.length + o) : splice (A ++ (X ++ Z)) n vs = A ++ (splice X o vs ++ Z) := by
  subst hn
  unfold splice
  rw [List.take_append, List.take_of_length_le (by omega), show A.length + o - A.length = o by omega, List.take_append_of_le_length (by omega),
    List.drop_append, List.drop_of_length_le (by omega), show A.length + o + vs.length - A.length = o + vs.length by omega, List.drop_append_of_le_length (by omega)]
  simp
theorem OwW.store {α : Type} {esz : Nat} {enc : α → List AV} (hl : ∀ x, (enc x).length = esz) {b h : AH} {v : AV} {pre : List α} {x : α} {rest : List α} (ho : OwW esz enc b h v (pre ++ x :: rest)) (y : α) (o : Nat) (vs : List AV) (hvs : o + vs.length ≤ esz) (hsc : vs.all AV.sc = true) (hy : splice (enc x) o vs = enc y) :
    ∃ c kk off h', v = .slice c kk off (pre ++ x :: rest).length esz ∧ wrRow h c kk (off + pre.length * esz + o) vs = some h' ∧ OwW esz enc b h' v (pre ++ y :: rest) ∧ PreV v h h' := by
  unfold OwW at ho
  cases v <;> simp only at ho <;> first
    | (exact ho.elim)
    | (simp at ho; done)
    | skip
  rename_i c kk off len e
  obtain ⟨rfl, rfl, h3, A, Z, fl, h4, h5, h6⟩ := ho
  have hlt := (List.getElem?_eq_some_iff.1 h4).1
  have hpl := flat_len hl pre
  have hrow : A ++ (pre ++ x :: rest).flatMap enc ++ Z = (A ++ pre.flatMap enc) ++ (enc x ++ (rest.flatMap enc ++ Z)) := by simp
  have hsp := splice_in (X := enc x) (vs := vs) (o := o) (by rw [hl]; exact hvs) (A ++ pre.flatMap enc) (rest.flatMap enc ++ Z) (n := off + pre.length * e + o) (by rw [List.length_append, hpl, h6])
  rw [hrow] at h4
  refine ⟨c, kk, off, h.set c (.row (splice ((A ++ pre.flatMap enc) ++ (enc x ++ (rest.flatMap enc ++ Z))) (off + pre.length * e + o) vs) kk kk false), rfl, ?_, ?_, ?_⟩
  · unfold wrRow
    rw [h4]
    simp only
    rw [if_pos ⟨trivial, h5, by simp only [List.length_append, hpl, hl, h6]; omega, hsc⟩]
  · unfold OwW
    simp only
    refine ⟨trivial, by simp, h3, A, Z, kk, ?_, Nat.le_refl _, h6⟩
    rw [List.getElem?_set, if_pos rfl, if_pos hlt, hsp, hy]
    simp
  · exact ⟨by simp, fun i _ hc => by rw [List.getElem?_set, if_neg (hc c kk off _ e rfl ·.symm)]⟩
theorem PreV.trans {v : AV} {a b c : AH} (x : PreV v a b) (y : PreV v b c) : PreV v a c := ⟨Nat.le_trans x.1 y.1, fun i hi hc => by rw [y.2 i (Nat.lt_of_lt_of_le hi x.1) hc, x.2 i hi hc]⟩
theorem PreV.refl (v : AV) (a : AH) : PreV v a a := ⟨Nat.le_refl _, fun _ _ _ => rfl⟩

def cntL : Int → Nat → List Int
  | _, 0 => []
  | q, n + 1 => q :: cntL (q + 1) n
theorem cntL_len : ∀ (n : Nat) (q : Int), (cntL q n).length = n
  | 0, _ => rfl
  | n + 1, q => by simp [cntL, cntL_len n]
def cntC : Int → Nat → List Clu
  | _, 0 => []
  | q, n + 1 => (q, q + 1, q + 2) :: cntC (q + 3) n
theorem cntC_len : ∀ (n : Nat) (q : Int), (cntC q n).length = n
  | 0, _ => rfl
  | n + 1, q => by simp [cntC, cntC_len n]
theorem PreV.keep {α : Type} {esz : Nat} {enc : α → List AV} {a b h h' : AH} {v : AV} {L : List α} (hp : PreV v h h') (ho : OwW esz enc b h v L) (ha : Pre a h) (hab : a.length ≤ b.length) : Pre a h' :=
  ⟨Nat.le_trans ha.1 hp.1, fun i hi => by
    rw [hp.2 i (Nat.lt_of_lt_of_le hi ha.1) (fun c kk off n e hv => by
      subst hv
      unfold OwW at ho
      have := ho.2.2.1
      omega), ha.2 i hi]⟩
theorem Slc.row_lt {α : Type} {esz : Nat} {enc : α → List AV} {h : AH} {v : AV} {L : List α} (hs : Slc esz enc h v L) : ∀ c kk off n e, v = .slice c kk off n e → c < h.length := by
  rintro c kk off n e rfl
  exact rd_lt hs.all.2.2
theorem OwW.keep {α : Type} {esz : Nat} {enc : α → List AV} {b h h' : AH} {v u : AV} {L : List α} (ho : OwW esz enc b h v L) (hp : PreV u h h') (hu : ∀ c kk off n e, u = .slice c kk off n e → c < b.length) : OwW esz enc b h' v L := by
  unfold OwW at ho ⊢
  cases v <;> simp only at ho ⊢ <;> first
    | exact ho
    | (obtain ⟨h1, h2, h3, A, Z, fl, h4, h5⟩ := ho
       exact ⟨h1, h2, h3, A, Z, fl, by rw [hp.2 _ (List.getElem?_eq_some_iff.1 h4).1 (fun c kk off n e hv => by have := hu c kk off n e hv; omega)]; exact h4, h5⟩)
end Go.Proofs.YthoibdfcaejgbaaDoor.Ab

/- CLUES without one of them; copies of clues; marks found again. -/
namespace Go.Proofs.YthoibdfcaejgbaaDoor.Ab
open Go
set_option maxRecDepth 100000
set_option maxHeartbeats 4000000

section
variable {α : Type} {esz : Nat} {enc : α → List AV}
theorem apM (hl : ∀ x, (enc x).length = esz) (hsc : ∀ x, (enc x).all AV.sc = true) {h0 h : AH} {v : AV} {L : List α} (ho : OwL esz enc h0 h v L) (hp : Pre h0 h) (M : List α) (hr : L.length + M.length ≤ 1099511627776) :
    ∃ v' h', apRow h esz v M.length (M.flatMap enc) = some (v', h') ∧ OwL esz enc h0 h' v' (L ++ M) ∧ Pre h0 h' := by
  have hs : (M.flatMap enc).all AV.sc = true := by
    rw [List.all_eq_true]
    intro x hx
    obtain ⟨a, _, ha⟩ := List.mem_flatMap.1 hx
    exact List.all_eq_true.1 (hsc a) x ha
  obtain ⟨v', h', h1, h2, h3⟩ := ap_own ho hp (q := M.length) (vs := M.flatMap enc) (by rw [flat_len hl]) hs hr
  refine ⟨v', h', h1, ?_, h3⟩
  unfold OwL
  rw [List.length_append, List.flatMap_append]
  exact h2
theorem Slc.ahead (hl : ∀ x, (enc x).length = esz) {h : AH} {c kk off n e : Nat} {pre rest : List α} (hs : Slc esz enc h (.slice c kk off n e) (pre ++ rest)) : rdRow h c kk off (pre.length * esz) = some (pre.flatMap enc) := by
  obtain ⟨h1, rfl, h3⟩ := hs.all
  have hm := Nat.mul_le_mul_right e (show pre.length ≤ n by rw [h1]; simp)
  have := rd_part h3 (o := 0) (m := pre.length * e) (by omega)
  rw [Nat.add_zero, List.drop_zero, List.flatMap_append, List.take_left' (flat_len hl pre)] at this
  exact this
theorem Slc.behind (hl : ∀ x, (enc x).length = esz) {h : AH} {c kk off n e : Nat} {pre rest : List α} (hs : Slc esz enc h (.slice c kk off n e) (pre ++ rest)) : rdRow h c kk (off + pre.length * esz) (rest.length * esz) = some (rest.flatMap enc) := by
  obtain ⟨h1, rfl, h3⟩ := hs.all
  have hn : n * e = pre.length * e + rest.length * e := by rw [h1, List.length_append, Nat.add_mul]
  have := rd_part h3 (o := pre.length * e) (m := rest.length * e) (by omega)
  rw [List.flatMap_append, List.drop_left' (flat_len hl pre), List.take_of_length_le (by rw [flat_len hl]; exact Nat.le_refl _)] at this
  exact this
end
end Go.Proofs.YthoibdfcaejgbaaDoor.Ab

/- PLAIN LAWS of reaching: lines in order, layer by layer, and plays counted. -/
namespace Go.Proofs.YthoibdfcaejgbaaDoor.Ab
open Go

abbrev Ln := List UInt8
theorem bl_eq : ∀ (x y : Ln), Op.bytesLess x y = decide (x < y)
  | _, [] => by simp [Op.bytesLess]
  | [], _ :: _ => by simp [Op.bytesLess]
  | a :: x, b :: y => by
    simp only [Op.bytesLess, bl_eq x y, List.cons_lt_cons_iff]
    by_cases h : a < b
    · simp [h]
    · by_cases e : a = b
      · subst e; simp
      · simp [h, e]
theorem ln_irrefl (x : Ln) : ¬ x < x := List.lt_irrefl x
theorem ln_trans {x y z : Ln} (h : x < y) (h' : y < z) : x < z := List.lt_trans h h'
theorem ln_tri {x y : Ln} (h : ¬ x < y) (hn : x ≠ y) : y < x := by
  rcases List.le_total x y with h1 | h1
  · rcases (List.le_iff_lt_or_eq).1 h1 with h2 | h2
    · exact absurd h2 h
    · exact absurd h2 hn
  · rcases (List.le_iff_lt_or_eq).1 h1 with h2 | h2
    · exact h2
    · exact absurd h2.symm hn
abbrev Srt (l : List Ln) : Prop := l.Pairwise (· < ·)
theorem Srt.nodup {l : List Ln} (h : Srt l) : l.Nodup := h.imp fun hlt e => by subst e; exact ln_irrefl _ hlt
/-- Sorted lists of the same members are one. -/
theorem Srt.ext : ∀ {l l' : List Ln}, Srt l → Srt l' → (∀ x, x ∈ l ↔ x ∈ l') → l = l'
  | [], [], _, _, _ => rfl
  | [], b :: t, _, _, h => by have := (h b).2 (by simp); simp at this
  | a :: s, [], _, _, h => by have := (h a).1 (by simp); simp at this
  | a :: s, b :: t, h1, h2, h => by
    unfold Srt at h1 h2
    rw [List.pairwise_cons] at h1 h2
    obtain rfl : a = b := by
      have ha := (h a).1 (by simp)
      have hb := (h b).2 (by simp)
      rw [List.mem_cons] at ha hb
      rcases ha with rfl | ha
      · rfl
      · rcases hb with rfl | hb
        · rfl
        · exact absurd (ln_trans (h1.1 _ hb) (h2.1 _ ha)) (ln_irrefl _)
    congr 1
    refine Srt.ext h1.2 h2.2 fun x => ?_
    have hx := h x
    rw [List.mem_cons, List.mem_cons] at hx
    constructor
    · intro hm
      rcases hx.1 (.inr hm) with rfl | h3
      · exact absurd (h1.1 _ hm) (ln_irrefl _)
      · exact h3
    · intro hm
      rcases hx.2 (.inr hm) with rfl | h3
      · exact absurd (h2.1 _ hm) (ln_irrefl _)
      · exact h3
def lowB (x : Ln) : List Ln → Nat
  | [] => 0
  | a :: t => if a < x then lowB x t + 1 else 0
theorem lowB_le (x : Ln) : ∀ l : List Ln, lowB x l ≤ l.length
  | [] => Nat.le_refl _
  | a :: t => by
    unfold lowB
    split
    · have := lowB_le x t; simp; omega
    · simp
theorem low_iff (x : Ln) : ∀ {l : List Ln}, Srt l → ∀ (i : Nat) (y : Ln), l[i]? = some y → (y < x ↔ i < lowB x l)
  | [], _, i, y, h => by simp at h
  | a :: t, hs, i, y, h => by
    unfold Srt at hs
    rw [List.pairwise_cons] at hs
    unfold lowB
    cases i with
    | zero =>
      simp at h; subst h
      split <;> simp [*]
    | succ i =>
      rw [List.getElem?_cons_succ] at h
      split
      · rw [low_iff x hs.2 i y h]; omega
      · rename_i hn
        constructor
        · intro hy
          exact absurd (ln_trans (hs.1 y (List.mem_of_getElem? h)) hy) hn
        · intro hy; omega
def insS (x : Ln) : List Ln → List Ln
  | [] => [x]
  | a :: t => if a < x then a :: insS x t else if a = x then a :: t else x :: a :: t
theorem insS_low (x : Ln) : ∀ l : List Ln, insS x l = if l[lowB x l]? = some x then l else l.take (lowB x l) ++ x :: l.drop (lowB x l)
  | [] => by simp [insS, lowB]
  | a :: t => by
    unfold insS lowB
    by_cases h : a < x
    · simp only [if_pos h, insS_low x t, List.getElem?_cons_succ, List.take_succ_cons, List.drop_succ_cons]
      split <;> simp
    · simp only [if_neg h]
      by_cases e : a = x
      · simp [e]
      · simp [e]
theorem insS_mem (x y : Ln) : ∀ l : List Ln, y ∈ insS x l ↔ y = x ∨ y ∈ l
  | [] => by simp [insS]
  | a :: t => by
    unfold insS
    split
    · rw [List.mem_cons, insS_mem x y t, List.mem_cons]
      constructor
      · rintro (h | h | h) <;> simp [h]
      · rintro (h | h | h) <;> simp [h]
    · split
      · rename_i e; subst e
        simp
      · simp
theorem insS_srt (x : Ln) : ∀ {l : List Ln}, Srt l → Srt (insS x l)
  | [], _ => by simp [insS]
  | a :: t, hs => by
    have hs0 := hs
    unfold Srt at hs
    rw [List.pairwise_cons] at hs
    unfold insS
    split
    · rename_i h
      rw [Srt, List.pairwise_cons]
      refine ⟨fun y hy => ?_, insS_srt x hs.2⟩
      rcases (insS_mem x y t).1 hy with rfl | hy
      · exact h
      · exact hs.1 y hy
    · split
      · exact hs0
      · rename_i h e
        have hx := ln_tri h e
        rw [Srt, List.pairwise_cons]
        refine ⟨fun y hy => ?_, hs0⟩
        rcases List.mem_cons.1 hy with rfl | hy
        · exact hx
        · exact ln_trans hx (hs.1 y hy)
theorem insS_len (x : Ln) : ∀ l : List Ln, (insS x l).length ≤ l.length + 1
  | [] => by simp [insS]
  | a :: t => by
    unfold insS
    split
    · have := insS_len x t; simp; omega
    · split <;> simp
def addS (l acc : List Ln) : List Ln := l.foldl (fun a x => insS x a) acc
theorem addS_mem (y : Ln) : ∀ (l acc : List Ln), y ∈ addS l acc ↔ y ∈ l ∨ y ∈ acc
  | [], acc => by simp [addS]
  | x :: l, acc => by
    show y ∈ addS l (insS x acc) ↔ _
    rw [addS_mem y l, insS_mem, List.mem_cons]
    constructor
    · rintro (h | h | h) <;> simp [h]
    · rintro ((h | h) | h) <;> simp [h]
theorem addS_srt : ∀ (l : List Ln) {acc : List Ln}, Srt acc → Srt (addS l acc)
  | [], _, h => h
  | x :: l, acc, h => addS_srt l (insS_srt x h)
theorem addS_app (l l' acc : List Ln) : addS (l ++ l') acc = addS l' (addS l acc) := List.foldl_append

/-- Lines behind one move. -/
def nx (w : Ln) : List Ln := nextB w [84, 70]
def stepL (l : List Ln) : List Ln := addS (l.flatMap nx) []
theorem stepL_mem (l : List Ln) (y : Ln) : y ∈ stepL l ↔ ∃ u ∈ l, y ∈ nx u := by
  unfold stepL
  rw [addS_mem, List.mem_flatMap]
  simp
theorem stepL_srt (l : List Ln) : Srt (stepL l) := addS_srt _ List.Pairwise.nil
def lay (w : Ln) : Nat → List Ln
  | 0 => [w]
  | j + 1 => stepL (lay w j)
theorem lay_srt (w : Ln) : ∀ j, Srt (lay w j)
  | 0 => by simp [lay]
  | _ + 1 => stepL_srt _
theorem lay_mu (w : Ln) : ∀ (j : Nat) (v : Ln), v ∈ lay w j → mu v + j ≤ mu w
  | 0, v, h => by
    simp only [lay, List.mem_singleton] at h
    subst h; omega
  | j + 1, v, h => by
    obtain ⟨u, hu, hv⟩ := (stepL_mem _ _).1 h
    have h1 := lay_mu w j u hu
    have h2 := nextB_mu hv
    omega
theorem lay_empty (w : Ln) {j : Nat} (h : lay w j = []) : ∀ d, lay w (j + d) = []
  | 0 => h
  | d + 1 => by
    show stepL (lay w (j + d)) = []
    rw [lay_empty w h d]; rfl
theorem lay_end (w : Ln) : lay w (mu w + 1) = [] := by
  rw [List.eq_nil_iff_forall_not_mem]
  intro v hv
  have := lay_mu w _ v hv
  omega

/-! ### Plays counted -/
def cntP : Nat → Ln → Nat
  | 0, _ => 1
  | j + 1, w => ((nx w).map (cntP j)).sum
def pcs (L : List Ln) (p : Ln → Nat) (v : Ln) : Nat := (L.map fun u => (nx u).count v * p u).sum
def pc (w : Ln) : Nat → Ln → Nat
  | 0, _ => 1
  | j + 1, v => pcs (lay w j) (pc w j) v
theorem sum_zero {α : Type} (l : List α) : (l.map fun _ => 0).sum = 0 := by
  induction l with
  | nil => rfl
  | cons a l ih => simp [ih]
theorem sum_congr {α : Type} {f g : α → Nat} : ∀ {l : List α}, (∀ x ∈ l, f x = g x) → (l.map f).sum = (l.map g).sum
  | [], _ => rfl
  | a :: l, h => by
    rw [List.map_cons, List.map_cons, List.sum_cons, List.sum_cons, h a (by simp), sum_congr fun x hx => h x (by simp [hx])]
theorem sum_add' {α : Type} (f g : α → Nat) : ∀ l : List α, (l.map fun x => f x + g x).sum = (l.map f).sum + (l.map g).sum
  | [] => rfl
  | a :: l => by simp only [List.map_cons, List.sum_cons, sum_add' f g l]; omega
theorem sum_mul' {α : Type} (f : α → Nat) (c : Nat) : ∀ l : List α, (l.map fun x => c * f x).sum = c * (l.map f).sum
  | [] => by simp
  | a :: l => by simp only [List.map_cons, List.sum_cons, sum_mul' f c l, Nat.mul_add]
theorem count_sum (f : Ln → Nat) {S : List Ln} (hn : S.Nodup) : ∀ l : List Ln, (∀ x ∈ l, x ∈ S) → (S.map fun v => l.count v * f v).sum = (l.map f).sum
  | [], _ => by simp [sum_zero]
  | x :: l, h => by
    have ih := count_sum f hn l fun y hy => h y (by simp [hy])
    have one : ∀ {S : List Ln}, S.Nodup → x ∈ S → (S.map fun v => (if x == v then 1 else 0) * f v).sum = f x := by
      intro S
      induction S with
      | nil => intro _ hx; simp at hx
      | cons a S ih2 =>
        intro hn hx
        rw [List.nodup_cons] at hn
        rw [List.map_cons, List.sum_cons]
        by_cases e : x = a
        · subst e
          have : (S.map fun v => (if x == v then 1 else 0) * f v).sum = (S.map fun _ => 0).sum := sum_congr fun v hv => by
            have : x ≠ v := by rintro rfl; exact hn.1 hv
            simp [this]
          rw [this, sum_zero]; simp
        · rw [ih2 hn.2 (by rcases List.mem_cons.1 hx with h | h; exact absurd h e; exact h)]
          simp [e]
    rw [List.map_cons, List.sum_cons, ← ih, ← one hn (h x (by simp)), ← sum_add']
    refine sum_congr fun v _ => ?_
    rw [List.count_cons, Nat.add_mul, Nat.add_comm]
theorem pcs_sum (f p : Ln → Nat) (S : List Ln) (hn : S.Nodup) : ∀ L : List Ln, (∀ u ∈ L, ∀ x ∈ nx u, x ∈ S) → (S.map fun v => pcs L p v * f v).sum = (L.map fun u => p u * ((nx u).map f).sum).sum
  | [], _ => by simp [pcs, sum_zero]
  | u :: L, h => by
    have ih := pcs_sum f p S hn L fun y hy => h y (by simp [hy])
    rw [List.map_cons, List.sum_cons, ← ih, ← count_sum f hn (nx u) (h u (by simp)), ← sum_mul', ← sum_add']
    refine sum_congr fun v _ => ?_
    simp only [pcs, List.map_cons, List.sum_cons]
    rw [Nat.add_mul, Nat.mul_right_comm, Nat.mul_comm _ (p u)]
theorem pc_sum (w : Ln) : ∀ (j d : Nat), ((lay w j).map fun v => pc w j v * cntP d v).sum = cntP (j + d) w
  | 0, d => by simp [lay, pc]
  | j + 1, d => by
    have := pc_sum w j (d + 1)
    rw [show j + 1 + d = j + (d + 1) by omega, ← this]
    exact pcs_sum (cntP d) (pc w j) (lay w (j + 1)) (lay_srt w (j + 1)).nodup (lay w j) fun u hu x hx => (stepL_mem _ _).2 ⟨u, hu, hx⟩
theorem sum_le_of_mem {α : Type} (f : α → Nat) : ∀ {l : List α} {x : α}, x ∈ l → f x ≤ (l.map f).sum
  | a :: l, x, h => by
    rw [List.map_cons, List.sum_cons]
    rcases List.mem_cons.1 h with rfl | h
    · omega
    · have := sum_le_of_mem f h; omega
theorem pc_sum0 (w : Ln) (j : Nat) : ((lay w j).map (pc w j)).sum = cntP j w := by
  have := pc_sum w j 0
  simpa [cntP] using this
theorem pc_le (w : Ln) (j : Nat) {v : Ln} (h : v ∈ lay w j) : pc w j v ≤ cntP j w := by
  rw [← pc_sum0]; exact sum_le_of_mem _ h

/-! ### Lines with one gap -/
def oneGap (w : Ln) : Prop := w.all isSign = true ∧ w.count 46 = 1
theorem flat_one {β : Type} {f : Nat → List β} : ∀ {l : List Nat}, l.Nodup → (∀ i ∈ l, (f i).length ≤ 1) → (∀ i ∈ l, ∀ j ∈ l, f i ≠ [] → f j ≠ [] → i = j) → (l.flatMap f).length ≤ 1
  | [], _, _, _ => by simp
  | a :: l, hn, h1, h2 => by
    rw [List.nodup_cons] at hn
    rw [List.flatMap_cons, List.length_append]
    by_cases e : f a = []
    · rw [e]
      have := flat_one hn.2 (fun i hi => h1 i (by simp [hi])) (fun i hi j hj => h2 i (by simp [hi]) j (by simp [hj]))
      simpa using this
    · have : l.flatMap f = [] := by
        rw [List.flatMap_eq_nil_iff]
        intro j hj
        apply Classical.byContradiction
        intro hne
        have := h2 a (by simp) j (by simp [hj]) e hne
        subst this; exact hn.1 hj
      rw [this]
      have := h1 a (by simp)
      simpa using this
end Go.Proofs.YthoibdfcaejgbaaDoor.Ab

/- PLAIN LAWS of words: in a line with one gap a toad has one move at most, and so a frog. -/
namespace Go.Proofs.YthoibdfcaejgbaaDoor.Ab
open Go

theorem flatMap_sum {α β : Type} (g : β → Nat) (f : α → List β) : ∀ l : List α, ((l.flatMap f).map g).sum = (l.map fun i => ((f i).map g).sum).sum
  | [] => rfl
  | a :: l => by rw [List.flatMap_cons, List.map_append, List.sum_append, flatMap_sum g f l, List.map_cons, List.sum_cons]
theorem has2 (b : UInt8) : hasB [84, 70] b = ((b == 84) || (b == 70)) := by have := hasB_kinds true true b; simpa [kindsS] using this
theorem has84 (b : UInt8) : hasB [84] b = (b == 84) := by have := hasB_kinds true false b; simpa [kindsS] using this
theorem has70 (b : UInt8) : hasB [70] b = (b == 70) := by have := hasB_kinds false true b; simpa [kindsS] using this
theorem moveB_parts (g : Int × Int → Nat) (w : Ln) (i : Nat) : ((moveB w [84, 70] i).map g).sum = ((moveB w [70] i).map g).sum + ((moveB w [84] i).map g).sum := by
  unfold moveB
  rw [has2, has84, has70]
  cases goalB w i with
  | none => rfl
  | some t =>
    simp only
    generalize w.getD i 0 = b
    by_cases h1 : b = 84
    · subst h1; simp
    · by_cases h2 : b = 70
      · subst h2; simp
      · simp [h1, h2]
theorem nx_parts (f : Ln → Nat) (w : Ln) : ((nx w).map f).sum = ((nextB w [70]).map f).sum + ((nextB w [84]).map f).sum := by
  unfold nx nextB movesB
  simp only [List.map_map]
  rw [flatMap_sum, flatMap_sum, flatMap_sum, ← sum_add']
  exact sum_congr fun i _ => moveB_parts _ w i
theorem count_set {b x : UInt8} : ∀ {l : Ln} {i : Nat}, i < l.length → (l.set i b).count x + (if l.getD i 0 = x then 1 else 0) = l.count x + (if b = x then 1 else 0)
  | [], i, h => by simp at h
  | a :: l, 0, _ => by
    simp only [List.set_cons_zero, List.count_cons, List.getD_cons_zero, beq_iff_eq]
    omega
  | a :: l, i + 1, h => by
    have := count_set (b := b) (x := x) (l := l) (i := i) (by simpa using h)
    simp only [List.set_cons_succ, List.count_cons, List.getD_cons_succ]
    omega
theorem Mv.ne {w : Ln} {i t : Nat} (h : Mv w i t) : i ≠ t := by
  obtain ⟨_, _, h3, h4⟩ := h
  rintro rfl
  rcases h4 with ⟨h5, _⟩ | ⟨h5, _⟩ <;> rw [h5] at h3 <;> cases h3
theorem Mv.sign {w : Ln} {i t : Nat} (h : Mv w i t) : w.getD i 0 = 84 ∨ w.getD i 0 = 70 := by
  obtain ⟨_, _, _, h4⟩ := h
  rcases h4 with ⟨h5, _⟩ | ⟨h5, _⟩
  · exact .inl h5
  · exact .inr h5
theorem getD_setL {l : Ln} {i j : Nat} {b : UInt8} (h : i < l.length) : (l.set i b).getD j 0 = if i = j then b else l.getD j 0 := by
  simp only [List.getD_eq_getElem?_getD, List.getElem?_set]
  by_cases e : i = j
  · subst e; simp [h]
  · simp [e]
theorem count_made {w : Ln} {i t : Nat} (h : Mv w i t) : (madeB w i t).count 46 = w.count 46 := by
  have hne := h.ne
  have hs := h.sign
  obtain ⟨h1, h2, h3, h4⟩ := h
  have e1 := count_set (b := w.getD i 0) (x := 46) (l := w) (i := t) h2
  have e2 := count_set (b := 46) (x := 46) (l := w.set t (w.getD i 0)) (i := i) (by simpa using h1)
  rw [getD_setL h2, if_neg (Ne.symm hne)] at e2
  unfold madeB
  have hb : w.getD i 0 ≠ 46 := by rcases hs with h | h <;> rw [h] <;> decide
  rw [h3] at e1
  simp only [if_true, if_neg hb] at e1 e2
  omega
theorem signs_made {w : Ln} {i t : Nat} (h : Mv w i t) (hs : w.all isSign = true) : (madeB w i t).all isSign = true := by
  rw [List.all_eq_true] at hs ⊢
  unfold madeB
  intro x hx
  rcases List.mem_or_eq_of_mem_set hx with hx | rfl
  · rcases List.mem_or_eq_of_mem_set hx with hx | rfl
    · exact hs x hx
    · rcases h.sign with h | h <;> rw [h] <;> rfl
  · rfl
theorem nextB_mv {w kinds v : Ln} (h : v ∈ nextB w kinds) : ∃ i t : Nat, ((i : Int), (t : Int)) ∈ movesB w kinds ∧ Mv w i t ∧ v = madeB w i t := by
  obtain ⟨m, hm, rfl⟩ := List.mem_map.1 h
  obtain ⟨i, t, rfl, hv⟩ := movesB_mv hm
  exact ⟨i, t, hm, hv, by simp⟩
theorem oneGap.next {w kinds v : Ln} (h : oneGap w) (hv : v ∈ nextB w kinds) : oneGap v := by
  obtain ⟨i, t, _, hm, rfl⟩ := nextB_mv hv
  exact ⟨signs_made hm h.1, (count_made hm).trans h.2⟩
theorem count_two {x : UInt8} : ∀ {l : Ln} {i j : Nat}, i < j → l.getD i 0 = x → l.getD j 0 = x → j < l.length → 2 ≤ l.count x
  | [], _, _, _, _, _, h => by simp at h
  | a :: l, 0, j + 1, _, h1, h2, h3 => by
    simp only [List.getD_cons_zero, List.getD_cons_succ] at h1 h2
    subst h1
    have : a ∈ l := by
      have hj : j < l.length := by simpa using h3
      rw [← h2, List.getD_eq_getElem?_getD, List.getElem?_eq_getElem hj]
      simp
    have := List.count_pos_iff.2 this
    simp only [List.count_cons, beq_self_eq_true, if_true]
    omega
  | a :: l, i + 1, j + 1, h, h1, h2, h3 => by
    have := count_two (l := l) (i := i) (j := j) (by omega) (by simpa using h1) (by simpa using h2) (by simpa using h3)
    rw [List.count_cons]; omega
theorem gap_one {w : Ln} (h : w.count 46 = 1) {t t' : Nat} (ht : t < w.length) (ht' : t' < w.length) (h1 : w.getD t 0 = 46) (h2 : w.getD t' 0 = 46) : t = t' := by
  rcases Nat.lt_trichotomy t t' with hl | hl | hl
  · have := count_two hl h1 h2 ht'; omega
  · exact hl
  · have := count_two hl h2 h1 ht; omega
theorem moveB_some {w kinds : Ln} {i : Nat} (hi : i < w.length) (h : moveB w kinds i ≠ []) : ∃ t : Nat, Mv w i t ∧ hasB kinds (w.getD i 0) = true := by
  unfold moveB at h
  cases hg : goalB w i with
  | none => rw [hg] at h; exact absurd rfl h
  | some t =>
    rw [hg] at h
    simp only at h
    obtain ⟨t', rfl, hm⟩ := goalB_mv hi hg
    refine ⟨t', hm, ?_⟩
    cases hk : hasB kinds (w.getD i 0)
    · rw [hk] at h; simp at h
    · rfl
theorem kind_one {w : Ln} (h : oneGap w) {s : UInt8} (hs : s = 84 ∨ s = 70) : (nextB w [s]).length ≤ 1 := by
  unfold nextB movesB
  rw [List.length_map]
  refine flat_one List.nodup_range (fun i _ => moveB_len w [s] i) ?_
  intro i hi j hj h1 h2
  rw [List.mem_range] at hi hj
  obtain ⟨t, ⟨_, a2, a3, a4⟩, ak⟩ := moveB_some hi h1
  obtain ⟨t', ⟨_, b2, b3, b4⟩, bk⟩ := moveB_some hj h2
  obtain rfl := gap_one h.2 a2 b2 a3 b3
  rcases hs with rfl | rfl
  · rw [has84] at ak bk
    have ea := beq_iff_eq.1 ak
    have eb := beq_iff_eq.1 bk
    rcases a4 with ⟨_, a5⟩ | ⟨a6, _⟩
    · rcases b4 with ⟨_, b5⟩ | ⟨b6, _⟩
      · rcases a5 with a5 | ⟨a5, a7⟩ <;> rcases b5 with b5 | ⟨b5, b7⟩
        · omega
        · have : j + 1 = i := by omega
          rw [this, ea] at b7; cases b7
        · have : i + 1 = j := by omega
          rw [this, eb] at a7; cases a7
        · omega
      · rw [eb] at b6; cases b6
    · rw [ea] at a6; cases a6
  · rw [has70] at ak bk
    have ea := beq_iff_eq.1 ak
    have eb := beq_iff_eq.1 bk
    rcases a4 with ⟨a6, _⟩ | ⟨_, a5⟩
    · rw [ea] at a6; cases a6
    · rcases b4 with ⟨b6, _⟩ | ⟨_, b5⟩
      · rw [eb] at b6; cases b6
      · rcases a5 with a5 | ⟨a5, a7⟩ <;> rcases b5 with b5 | ⟨b5, b7⟩
        · omega
        · have : j - 1 = i := by omega
          rw [this, ea] at b7; cases b7
        · have : i - 1 = j := by omega
          rw [this, eb] at a7; cases a7
        · omega
theorem cntP_le : ∀ (j : Nat) {w : Ln}, oneGap w → cntP j w ≤ 2 ^ j
  | 0, _, _ => Nat.le_refl _
  | j + 1, w, h => by
    have part : ∀ {s : UInt8}, s = 84 ∨ s = 70 → ((nextB w [s]).map (cntP j)).sum ≤ 2 ^ j := by
      intro s hs
      have hl := kind_one h hs
      match hn : nextB w [s], hl with
      | [], _ => simp
      | [v], _ =>
        have := cntP_le j (h.next (kinds := [s]) (v := v) (by rw [hn]; simp))
        simpa using this
    unfold cntP
    rw [nx_parts]
    have h1 := part (s := 84) (.inl rfl)
    have h2 := part (s := 70) (.inr rfl)
    rw [Nat.pow_succ]; omega

/-! ### Words -/
def words : Nat → Ln → List Ln
  | 0, _ => [[]]
  | j + 1, w => ((nextB w [70]).flatMap fun v => (words j v).map (70 :: ·)) ++ ((nextB w [84]).flatMap fun v => (words j v).map (84 :: ·))
theorem words_len : ∀ (j : Nat) (w : Ln), (words j w).length = cntP j w
  | 0, _ => rfl
  | j + 1, w => by
    have part : ∀ (s : UInt8) (l : List Ln), (l.flatMap fun v => (words j v).map (s :: ·)).length = (l.map (cntP j)).sum := by
      intro s l
      induction l with
      | nil => rfl
      | cons v l ih => rw [List.flatMap_cons, List.length_append, ih, List.length_map, words_len j v, List.map_cons, List.sum_cons]
    unfold words cntP
    rw [List.length_append, part, part, nx_parts]
theorem cntP_next {j : Nat} {w v s : Ln} (h : v ∈ nextB w s) (hs : s = [84] ∨ s = [70]) : cntP j v ≤ cntP (j + 1) w := by
  show cntP j v ≤ ((nx w).map (cntP j)).sum
  rw [nx_parts]
  rcases hs with rfl | rfl
  · have := sum_le_of_mem (cntP j) h; omega
  · have := sum_le_of_mem (cntP j) h; omega
end Go.Proofs.YthoibdfcaejgbaaDoor.Ab

/- REACHING, the reference's side: texts in order with one more, layers of lines. -/
namespace Go.Proofs.YthoibdfcaejgbaaDoor.Ab
open Go
set_option maxRecDepth 100000
set_option maxHeartbeats 4000000

theorem two_ne : ((2 : Int) = 0) = False := by simp
def fewB (s : Ln) : Bool := goodLine s && decide ((s.length : Int) ≤ 10)
theorem e_reFew (s : Ln) (hs : s.length < 2 ^ 60) {h : AH} {post : AV → AH → Prop} : S 58 [.str s] h post k = post (.bool (fewB s)) h := by
  refine S_eq fun post hp => ?_
  unfold fewB at hp
  refine S_of rfl T58 ?_; unfold fi58
  simp (maxSteps := 1000000) (disch := first | omega | rfl | (simp only [zL, two63, room] <;> omega) | fail) only [↓reduceIte, ↓zP, zW, WOp, evOp, evBin, binI, binSh, binS, evNil, keyIs, keyEq, mkv, AV.cells, AV.sc, optv, bnd, env, put, Env.get, Env.set, Env.del, Env.dels, Env.init, res1, resL, resV, fillP, splice, newRow, Nat.reduceEqDiff, Nat.reduceLT, Nat.reduceLeDiff, Nat.reduceAdd, Nat.reduceMul, Nat.reduceSub, Nat.reduceBEq, reduceCtorEq, ↓zR, zQ, Tr, StA, StT]
  refine c_liGood s hs ?_
  cases e : goodLine s
  · rw [e] at hp
    simp (maxSteps := 1000000) (disch := first | omega | rfl | (simp only [zL, two63, room] <;> omega) | fail) only [↓reduceIte, ↓zP, zW, WOp, evOp, evBin, binI, binSh, binS, evNil, keyIs, keyEq, mkv, AV.cells, AV.sc, optv, bnd, env, put, Env.get, Env.set, Env.del, Env.dels, Env.init, res1, resL, resV, fillP, splice, newRow, Nat.reduceEqDiff, Nat.reduceLT, Nat.reduceLeDiff, Nat.reduceAdd, Nat.reduceMul, Nat.reduceSub, Nat.reduceBEq, reduceCtorEq, ↓zR, zQ, Tr, StA, StT]
    exact hp
  · rw [e] at hp
    simp (maxSteps := 1000000) (disch := first | omega | rfl | (simp only [zL, two63, room] <;> omega) | fail) only [↓reduceIte, ↓zP, zW, WOp, evOp, evBin, binI, binSh, binS, evNil, keyIs, keyEq, mkv, AV.cells, AV.sc, optv, bnd, env, put, Env.get, Env.set, Env.del, Env.dels, Env.init, res1, resL, resV, fillP, splice, newRow, Nat.reduceEqDiff, Nat.reduceLT, Nat.reduceLeDiff, Nat.reduceAdd, Nat.reduceMul, Nat.reduceSub, Nat.reduceBEq, reduceCtorEq, ↓zR, zQ, Tr, StA, StT]
    simpa using hp
theorem lp_reAdd {x : Ln} {v : AV} {L : List Ln} {h : AH} (hs : Slc 1 encS h v L) (ho : Srt L) (hL : L.length < 2 ^ 30) {R : X → Env → AH → Prop} : ∀ (d lo hi : Nat), hi - lo ≤ d → lo ≤ lowB x L → lowB x L ≤ hi → hi ≤ L.length →
    R (.exit 0) [(0, v), (1, .str x), (5, .int .i64 (lowB x L))] h → Cx (.loop lp129_0) [(0, v), (1, .str x), (5, .int .i64 lo), (6, .int .i64 hi)] h R k k
  | 0, lo, hi, hd, h1, h2, h3, hR => by
    obtain rfl : lo = hi := by omega
    obtain rfl : lo = lowB x L := by omega
    rw [w_loopb (c := lp129_0) (d := lb129_0) rfl]; unfold lb129_0
    simp (maxSteps := 1000000) (disch := first | omega | rfl | (simp only [zL, two63, room] <;> omega) | fail) only [↓reduceIte, ↓zP, zW, WOp, evOp, evBin, binI, binSh, binS, evNil, keyIs, keyEq, mkv, AV.cells, AV.sc, optv, bnd, env, put, Env.get, Env.set, Env.del, Env.dels, Env.init, res1, resL, resV, fillP, splice, newRow, Nat.reduceEqDiff, Nat.reduceLT, Nat.reduceLeDiff, Nat.reduceAdd, Nat.reduceMul, Nat.reduceSub, Nat.reduceBEq, reduceCtorEq, ↓zR, zQ, Tr, StA, StT]
    exact hR
  | d + 1, lo, hi, hd, h1, h2, h3, hR => by
    by_cases hlt : lo < hi
    case neg =>
      obtain rfl : lo = hi := by omega
      obtain rfl : lo = lowB x L := by omega
      rw [w_loopb (c := lp129_0) (d := lb129_0) rfl]; unfold lb129_0
      simp (maxSteps := 1000000) (disch := first | omega | rfl | (simp only [zL, two63, room] <;> omega) | fail) only [↓reduceIte, ↓zP, zW, WOp, evOp, evBin, binI, binSh, binS, evNil, keyIs, keyEq, mkv, AV.cells, AV.sc, optv, bnd, env, put, Env.get, Env.set, Env.del, Env.dels, Env.init, res1, resL, resV, fillP, splice, newRow, Nat.reduceEqDiff, Nat.reduceLT, Nat.reduceLeDiff, Nat.reduceAdd, Nat.reduceMul, Nat.reduceSub, Nat.reduceBEq, reduceCtorEq, ↓zR, zQ, Tr, StA, StT]
      exact hR
    have ih := lp_reAdd (x := x) hs ho hL (R := R) d
    have hltI : (lo : Int) < (hi : Int) := by omega
    have hm : (lo + hi) / 2 < L.length := by omega
    have hq : ((lo : Int) + (hi : Int)).tdiv 2 = (((lo + hi) / 2 : Nat) : Int) := by
      rw [Int.tdiv_eq_ediv_of_nonneg (by omega)]; omega
    have hsp : L = L.take ((lo + hi) / 2) ++ L[(lo + hi) / 2] :: L.drop ((lo + hi) / 2 + 1) := by rw [← List.drop_eq_getElem_cons, List.take_append_drop]
    have hpl : (L.take ((lo + hi) / 2)).length = (lo + hi) / 2 := by rw [List.length_take]; omega
    have hs' := hs
    rw [hsp] at hs'
    obtain ⟨c, kk, off, hv, hr⟩ := hs'.at hlS
    rw [hpl] at hr
    rw [← hsp] at hv
    have hlow := low_iff x ho ((lo + hi) / 2) (L[(lo + hi) / 2]) (by simp)
    have hbl := bl_eq (L[(lo + hi) / 2]) x
    generalize hM : (lo + hi) / 2 = M at *
    have hMlt : (M : Int) < (L.length : Int) := by omega
    have hw1 : (M : Int) + 1 = ((M + 1 : Nat) : Int) := by omega
    subst hv
    rw [w_loopb (c := lp129_0) (d := lb129_0) rfl]; unfold lb129_0
    by_cases hb : L[M] < x
    · have hbt : Op.bytesLess (L[M]) x = true := by rw [hbl]; simpa using hb
      have := hlow.1 hb
      simp (maxSteps := 1000000) (disch := first | omega | rfl | (simp only [zL, two63, room] <;> omega) | fail) only [↓reduceIte, ↓zP, zW, WOp, evOp, evBin, binI, binSh, binS, evNil, keyIs, keyEq, mkv, AV.cells, AV.sc, optv, bnd, env, put, Env.get, Env.set, Env.del, Env.dels, Env.init, res1, resL, resV, fillP, splice, newRow, Nat.reduceEqDiff, Nat.reduceLT, Nat.reduceLeDiff, Nat.reduceAdd, Nat.reduceMul, Nat.reduceSub, Nat.reduceBEq, reduceCtorEq, ↓zR, zQ, Tr, StA, StT, two_ne, hltI, hq, hr, hMlt, hbt]
      simp (maxSteps := 1000000) (disch := first | omega | rfl | (simp only [zL, two63, room] <;> omega) | fail) only [↓reduceIte, ↓zP, zW, WOp, evOp, evBin, binI, binSh, binS, evNil, keyIs, keyEq, mkv, AV.cells, AV.sc, optv, bnd, env, put, Env.get, Env.set, Env.del, Env.dels, Env.init, res1, resL, resV, fillP, splice, newRow, Nat.reduceEqDiff, Nat.reduceLT, Nat.reduceLeDiff, Nat.reduceAdd, Nat.reduceMul, Nat.reduceSub, Nat.reduceBEq, reduceCtorEq, ↓zR, zQ, Tr, StA, StT, hw1]
      rw [w_loopn (c := lp129_0) rfl]
      simp (maxSteps := 1000000) (disch := first | omega | rfl | (simp only [zL, two63, room] <;> omega) | fail) only [↓reduceIte, ↓zP, zW, WOp, evOp, evBin, binI, binSh, binS, evNil, keyIs, keyEq, mkv, AV.cells, AV.sc, optv, bnd, env, put, Env.get, Env.set, Env.del, Env.dels, Env.init, res1, resL, resV, fillP, splice, newRow, Nat.reduceEqDiff, Nat.reduceLT, Nat.reduceLeDiff, Nat.reduceAdd, Nat.reduceMul, Nat.reduceSub, Nat.reduceBEq, reduceCtorEq, ↓zR, zQ, Tr, StA, StT]
      exact ih (M + 1) hi (by omega) (by omega) h2 h3 hR
    · have hbt : Op.bytesLess (L[M]) x = false := by rw [hbl]; simpa using hb
      have : ¬ M < lowB x L := fun hh => hb (hlow.2 hh)
      simp (maxSteps := 1000000) (disch := first | omega | rfl | (simp only [zL, two63, room] <;> omega) | fail) only [↓reduceIte, ↓zP, zW, WOp, evOp, evBin, binI, binSh, binS, evNil, keyIs, keyEq, mkv, AV.cells, AV.sc, optv, bnd, env, put, Env.get, Env.set, Env.del, Env.dels, Env.init, res1, resL, resV, fillP, splice, newRow, Nat.reduceEqDiff, Nat.reduceLT, Nat.reduceLeDiff, Nat.reduceAdd, Nat.reduceMul, Nat.reduceSub, Nat.reduceBEq, reduceCtorEq, ↓zR, zQ, Tr, StA, StT, two_ne, hltI, hq, hr, hMlt, hbt]
      rw [w_loopn (c := lp129_0) rfl]
      simp (maxSteps := 1000000) (disch := first | omega | rfl | (simp only [zL, two63, room] <;> omega) | fail) only [↓reduceIte, ↓zP, zW, WOp, evOp, evBin, binI, binSh, binS, evNil, keyIs, keyEq, mkv, AV.cells, AV.sc, optv, bnd, env, put, Env.get, Env.set, Env.del, Env.dels, Env.init, res1, resL, resV, fillP, splice, newRow, Nat.reduceEqDiff, Nat.reduceLT, Nat.reduceLeDiff, Nat.reduceAdd, Nat.reduceMul, Nat.reduceSub, Nat.reduceBEq, reduceCtorEq, ↓zR, zQ, Tr, StA, StT]
      exact ih lo M (by omega) h1 (by omega) (by omega) hR
theorem c_reAdd (x : Ln) {v : AV} {L : List Ln} {h : AH} (hs : Slc 1 encS h v L) (ho : Srt L) (hL : L.length < 2 ^ 30) {post : AV → AH → Prop} (hp : ∀ v' h', Slc 1 encS h' v' (insS x L) → (∀ i, rowOf v' = some i → rowOf v = some i ∨ h.length ≤ i) → Pre h h' → post v' h') : S 129 [v, .str x] h post k := by
  have hlow := lowB_le x L
  have hv := fun g => Slc.lenV (hs) (g := g) (ρ := fun _ => _) (x := .t 0) rfl; simp only [evOp] at hv
  refine S_of rfl T129 ?_; unfold fi129
  simp (maxSteps := 1000000) (disch := first | omega | rfl | (simp only [zL, two63, room] <;> omega) | fail) only [↓reduceIte, ↓zP, zW, WOp, evOp, evBin, binI, binSh, binS, evNil, keyIs, keyEq, mkv, AV.cells, AV.sc, optv, bnd, env, put, Env.get, Env.set, Env.del, Env.dels, Env.init, res1, resL, resV, fillP, splice, newRow, Nat.reduceEqDiff, Nat.reduceLT, Nat.reduceLeDiff, Nat.reduceAdd, Nat.reduceMul, Nat.reduceSub, Nat.reduceBEq, reduceCtorEq, ↓zR, zQ, Tr, StA, StT, hv]
  refine lp_reAdd (x := x) hs ho hL L.length 0 L.length (by omega) (Nat.zero_le _) hlow (Nat.le_refl _) ?_
  rw [insS_low] at hp
  have fin : L[lowB x L]? ≠ some x → ∀ v' h', OwL 1 encS h h' v' (L.take (lowB x L) ++ [x] ++ L.drop (lowB x L)) → Pre h h' → post v' h' := by
    intro hne v' h' h1 h2
    rw [if_neg hne] at hp
    exact hp v' h' (by simpa using h1.slc) (fun i hi => .inr (own_ge h1 hi)) h2
  obtain ⟨v1, h1, ha1, ho1, hp1⟩ := apM hlS scS (OwL.emp (h0 := h) (h := h)) (Pre.refl h) (L.take (lowB x L)) (by simp; omega)
  rw [List.nil_append] at ho1
  have hpx := Pre.push h1 (AO.row [.str x] 0 0 false)
  have hx := hp1.trans hpx
  obtain ⟨v2, h2, ha2, ho2, hp2⟩ := apL hlS scS (ho1.pre hpx) hx x (by simp; omega)
  obtain ⟨v3, h3, ha3, ho3, hp3⟩ := apM hlS scS ho2 hp2 (L.drop (lowB x L)) (by simp; omega)
  have hln1 : (L.take (lowB x L)).length = lowB x L := by rw [List.length_take]; omega
  have hln3 : (L.drop (lowB x L)).length = L.length - lowB x L := by rw [List.length_drop]
  rw [hln1] at ha1
  rw [hln3] at ha3
  rcases hs.cases with ⟨rfl, rfl⟩ | ⟨rfl, rfl⟩ | ⟨c, kk, off, rfl⟩
  · simp only [lowB] at *
    simp only [List.take_nil, List.flatMap_nil, List.drop_nil, List.length_nil, Nat.sub_zero] at ha1 ha3
    simp (maxSteps := 1000000) (disch := first | omega | rfl | (simp only [zL, two63, room] <;> omega) | fail) only [↓reduceIte, ↓zP, zW, WOp, evOp, evBin, binI, binSh, binS, evNil, keyIs, keyEq, mkv, AV.cells, AV.sc, optv, bnd, env, put, Env.get, Env.set, Env.del, Env.dels, Env.init, res1, resL, resV, fillP, splice, newRow, Nat.reduceEqDiff, Nat.reduceLT, Nat.reduceLeDiff, Nat.reduceAdd, Nat.reduceMul, Nat.reduceSub, Nat.reduceBEq, reduceCtorEq, ↓zR, zQ, Tr, StA, StT, hv, ha1, ha2, ha3]
    exact fin (by simp) _ _ ho3 hp3
  · simp only [lowB] at *
    simp only [List.take_nil, List.flatMap_nil, List.drop_nil, List.length_nil, Nat.sub_zero] at ha1 ha3
    simp (maxSteps := 1000000) (disch := first | omega | rfl | (simp only [zL, two63, room] <;> omega) | fail) only [↓reduceIte, ↓zP, zW, WOp, evOp, evBin, binI, binSh, binS, evNil, keyIs, keyEq, mkv, AV.cells, AV.sc, optv, bnd, env, put, Env.get, Env.set, Env.del, Env.dels, Env.init, res1, resL, resV, fillP, splice, newRow, Nat.reduceEqDiff, Nat.reduceLT, Nat.reduceLeDiff, Nat.reduceAdd, Nat.reduceMul, Nat.reduceSub, Nat.reduceBEq, reduceCtorEq, ↓zR, zQ, Tr, StA, StT, hv, ha1, ha2, ha3]
    exact fin (by simp) _ _ ho3 hp3
  · have hs2 : Slc 1 encS h (.slice c kk off L.length 1) (L.take (lowB x L) ++ L.drop (lowB x L)) := by rw [List.take_append_drop]; exact hs
    have hr1 := hs2.ahead hlS
    have hr3 := rdRow_pre hp2 (hs2.behind hlS)
    rw [hln1] at hr1 hr3
    rw [hln3] at hr3
    have hb1 : (lowB x L : Int) ≤ (L.length : Int) := by omega
    by_cases hlt : lowB x L < L.length
    · have hltI : (lowB x L : Int) < (L.length : Int) := by omega
      have hsp : L = L.take (lowB x L) ++ L[lowB x L] :: L.drop (lowB x L + 1) := by rw [← List.drop_eq_getElem_cons, List.take_append_drop]
      have hs' : Slc 1 encS h (.slice c kk off L.length 1) (L.take (lowB x L) ++ L[lowB x L] :: L.drop (lowB x L + 1)) := by rw [← hsp]; exact hs
      have hr := hs'.rd hlS
      rw [hln1] at hr
      cases e : (L[lowB x L] == x)
      · simp (maxSteps := 1000000) (disch := first | omega | rfl | (simp only [zL, two63, room] <;> omega) | fail) only [↓reduceIte, ↓zP, zW, WOp, evOp, evBin, binI, binSh, binS, evNil, keyIs, keyEq, mkv, AV.cells, AV.sc, optv, bnd, env, put, Env.get, Env.set, Env.del, Env.dels, Env.init, res1, resL, resV, fillP, splice, newRow, Nat.reduceEqDiff, Nat.reduceLT, Nat.reduceLeDiff, Nat.reduceAdd, Nat.reduceMul, Nat.reduceSub, Nat.reduceBEq, reduceCtorEq, ↓zR, zQ, Tr, StA, StT, hv, hltI, hr, e, hb1, hr1, hr3, ha1, ha2, ha3, Nat.add_zero, Nat.sub_zero, Nat.zero_mul]
        refine fin ?_ _ _ ho3 hp3
        rw [List.getElem?_eq_getElem hlt]
        simpa using e
      · simp (maxSteps := 1000000) (disch := first | omega | rfl | (simp only [zL, two63, room] <;> omega) | fail) only [↓reduceIte, ↓zP, zW, WOp, evOp, evBin, binI, binSh, binS, evNil, keyIs, keyEq, mkv, AV.cells, AV.sc, optv, bnd, env, put, Env.get, Env.set, Env.del, Env.dels, Env.init, res1, resL, resV, fillP, splice, newRow, Nat.reduceEqDiff, Nat.reduceLT, Nat.reduceLeDiff, Nat.reduceAdd, Nat.reduceMul, Nat.reduceSub, Nat.reduceBEq, reduceCtorEq, ↓zR, zQ, Tr, StA, StT, hv, hltI, hr, e]
        rw [if_pos (by rw [List.getElem?_eq_getElem hlt]; simpa using e)] at hp
        exact hp _ _ hs (fun i hi => .inl hi) (Pre.refl _)
    · have hltI : ¬ (lowB x L : Int) < (L.length : Int) := by omega
      have htk : L.take (lowB x L) = L := List.take_of_length_le (by omega)
      rw [htk] at ha1 hr1
      simp (maxSteps := 1000000) (disch := first | omega | rfl | (simp only [zL, two63, room] <;> omega) | fail) only [↓reduceIte, ↓zP, zW, WOp, evOp, evBin, binI, binSh, binS, evNil, keyIs, keyEq, mkv, AV.cells, AV.sc, optv, bnd, env, put, Env.get, Env.set, Env.del, Env.dels, Env.init, res1, resL, resV, fillP, splice, newRow, Nat.reduceEqDiff, Nat.reduceLT, Nat.reduceLeDiff, Nat.reduceAdd, Nat.reduceMul, Nat.reduceSub, Nat.reduceBEq, reduceCtorEq, ↓zR, zQ, Tr, StA, StT, hv, hltI, hb1, hr1, hr3, ha1, ha2, ha3, Nat.add_zero, Nat.sub_zero, Nat.zero_mul]
      exact fin (by rw [List.getElem?_eq_none (by omega)]; simp) _ _ ho3 hp3
end Go.Proofs.YthoibdfcaejgbaaDoor.Ab

/- REACHING, the reference's side: layers of lines. -/
namespace Go.Proofs.YthoibdfcaejgbaaDoor.Ab
open Go
set_option maxRecDepth 100000
set_option maxHeartbeats 4000000

def GoodL (n : Nat) (A : List Ln) : Prop := Srt A ∧ ∀ x ∈ A, x.length = n ∧ x.all isSign = true
theorem GoodL.len {n : Nat} {A : List Ln} (h : GoodL n A) (hn : n ≤ 10) : A.length ≤ 59049 := by
  have := nodup_bound (A := [46, 70, 84]) (n := n) h.1.nodup (fun x hx => ⟨(h.2 x hx).1, fun b hb => by
    have := List.all_eq_true.1 (h.2 x hx).2 b hb
    unfold isSign at this
    simp at this ⊢
    rcases this with h | h
    · rcases h with h | h <;> simp [h]
    · simp [h]⟩)
  exact Nat.le_trans this (Nat.le_trans (Nat.pow_le_pow_right (by simp) hn) (by decide))
theorem GoodL.nil {n : Nat} : GoodL n [] := ⟨List.Pairwise.nil, fun x hx => by simp at hx⟩
theorem GoodL.ins {n : Nat} {A : List Ln} (h : GoodL n A) {x : Ln} (hx : x.length = n ∧ x.all isSign = true) : GoodL n (insS x A) :=
  ⟨insS_srt x h.1, fun y hy => by
    rcases (insS_mem x y A).1 hy with rfl | hy
    · exact hx
    · exact h.2 y hy⟩
theorem GoodL.add {n : Nat} : ∀ {l A : List Ln}, GoodL n A → (∀ x ∈ l, x.length = n ∧ x.all isSign = true) → GoodL n (addS l A)
  | [], _, h, _ => h
  | x :: l, A, h, hx => GoodL.add (l := l) (h.ins (hx x (by simp))) fun y hy => hx y (by simp [hy])
theorem nx_good {w v : Ln} (hg : w.all isSign = true) (h : v ∈ nx w) : v.length = w.length ∧ v.all isSign = true := by
  obtain ⟨i, t, _, hm, rfl⟩ := nextB_mv h
  exact ⟨madeB_length w i t, signs_made hm hg⟩
theorem lay_good {w : Ln} (hg : w.all isSign = true) : ∀ j, GoodL w.length (lay w j)
  | 0 => ⟨lay_srt w 0, fun x hx => by
    simp only [lay, List.mem_singleton] at hx
    subst hx; exact ⟨rfl, hg⟩⟩
  | j + 1 => ⟨lay_srt w _, fun x hx => by
    obtain ⟨u, hu, hv⟩ := (stepL_mem _ _).1 hx
    obtain ⟨h1, h2⟩ := (lay_good hg j).2 u hu
    obtain ⟨h3, h4⟩ := nx_good h2 hv
    exact ⟨h3.trans h1, h4⟩⟩
theorem muF_le (n : Nat) : ∀ (l : Ln) (i : Nat), i + l.length ≤ n → muF n i l ≤ n * l.length
  | [], _, _ => by simp [muF]
  | b :: l, i, h => by
    have := muF_le n l (i + 1) (by simp at h; omega)
    have hb : fmu n i b ≤ n := by
      unfold fmu
      simp at h
      split
      · omega
      · split <;> omega
    simp only [muF, List.length_cons, Nat.mul_add, Nat.mul_one]
    omega
theorem mu_le (w : Ln) (hw : w.length ≤ 10) : mu w ≤ 100 := by
  have := muF_le w.length w 0 (by omega)
  unfold mu
  exact Nat.le_trans this (Nat.mul_le_mul hw hw)
def mkM (w : Ln) (m : Int × Int) : Ln := madeB w m.1.toNat m.2.toNat
theorem nx_eq (w : Ln) : nx w = (movesB w [84, 70]).map (mkM w) := rfl
theorem liM_eq (w : Ln) : liMovesB w true true = movesB w [84, 70] := liMovesB_eq w true true

theorem lp_reL2 {w : Ln} (hg : w.all isSign = true) (hw : w.length ≤ 10) {t3 t17 t18 t19 vm : AV} {b0 : Nat} {h0 : AH} (hsm : Slc 2 encM h0 vm (movesB w [84, 70])) {R : X → Env → AH → Prop} :
    ∀ (mr mp : List (Int × Int)) (A : List Ln) (v : AV) (h : AH), movesB w [84, 70] = mp ++ mr → GoodL w.length A → Slc 1 encS h v A → (∀ i, rowOf v = some i → b0 ≤ i) → b0 ≤ h.length → Pre h0 h →
    (∀ v' h', Slc 1 encS h' v' (addS (mr.map (mkM w)) A) → (∀ i, rowOf v' = some i → b0 ≤ i) → Pre h0 h' → R (.exit 4) [(3, t3), (4, v'), (17, t17), (18, t18), (19, t19)] h') →
    Cx (.loop lp118_2) [(3, t3), (4, v), (6, .str w), (17, t17), (18, t18), (19, t19), (24, vm), (25, .int .i64 (movesB w [84, 70]).length), (26, .int .i64 mp.length)] h R k k
  | [], mp, A, v, h, hmp, hA, hs, hb, hbh, hp, hR => by
    have hl : (movesB w [84, 70]).length = mp.length := by rw [hmp]; simp
    rw [w_loopb (c := lp118_2) (d := lb118_2) rfl]; unfold lb118_2
    rw [hl]
    simp (maxSteps := 1000000) (disch := first | omega | rfl | (simp only [zL, two63, room] <;> omega) | fail) only [↓reduceIte, ↓zP, zW, WOp, evOp, evBin, binI, binSh, binS, evNil, keyIs, keyEq, mkv, AV.cells, AV.sc, optv, bnd, env, put, Env.get, Env.set, Env.del, Env.dels, Env.init, res1, resL, resV, fillP, splice, newRow, Nat.reduceEqDiff, Nat.reduceLT, Nat.reduceLeDiff, Nat.reduceAdd, Nat.reduceMul, Nat.reduceSub, Nat.reduceBEq, reduceCtorEq, ↓zR, zQ, Tr, StA, StT]
    exact hR v h hs hb hp
  | m :: mr, mp, A, v, h, hmp, hA, hs, hb, hbh, hp, hR => by
    have ih := lp_reL2 hg hw hsm (t3 := t3) (t17 := t17) (t18 := t18) (t19 := t19) (b0 := b0) (R := R) mr (mp ++ [m])
    have hmm : m ∈ movesB w [84, 70] := by rw [hmp]; simp
    have hml : (movesB w [84, 70]).length = mp.length + 1 + mr.length := by rw [hmp]; simp; omega
    have hsm' := hsm.pre hp
    rw [hmp] at hsm'
    obtain ⟨r1, k1, o1, hv1, hr⟩ := hsm'.at hlM
    rw [← hmp, hml] at hv1
    obtain ⟨i, t', rfl, hmv⟩ := movesB_mv hmm
    subst hv1
    rw [hml] at ih ⊢
    have hbd := movesB_len w [84, 70]
    have hlt : (mp.length : Int) < ((mp.length + 1 + mr.length : Nat) : Int) := by omega
    have hw1 : (mp.length : Int) + 1 = ((mp ++ [((i : Int), (t' : Int))]).length : Int) := by simp
    have hmk : mkM w ((i : Int), (t' : Int)) = madeB w i t' := rfl
    rw [w_loopb (c := lp118_2) (d := lb118_2) rfl]; unfold lb118_2
    simp (maxSteps := 1000000) (disch := first | omega | rfl | (simp only [zL, two63, room] <;> omega) | fail) only [↓reduceIte, ↓zP, zW, WOp, evOp, evBin, binI, binSh, binS, evNil, keyIs, keyEq, mkv, AV.cells, AV.sc, optv, bnd, env, put, Env.get, Env.set, Env.del, Env.dels, Env.init, res1, resL, resV, fillP, splice, newRow, Nat.reduceEqDiff, Nat.reduceLT, Nat.reduceLeDiff, Nat.reduceAdd, Nat.reduceMul, Nat.reduceSub, Nat.reduceBEq, reduceCtorEq, ↓zR, zQ, Tr, StA, StT, hlt, hr]
    refine c_liMake w i t' hmv.fst hmv.snd hmv.ne (by omega) ?_
    intro h2 hp2
    have hp1 := (Pre.push h (AO.row (encM ((i : Int), (t' : Int))) 0 0 false)).trans hp2
    simp (maxSteps := 1000000) (disch := first | omega | rfl | (simp only [zL, two63, room] <;> omega) | fail) only [↓reduceIte, ↓zP, zW, WOp, evOp, evBin, binI, binSh, binS, evNil, keyIs, keyEq, mkv, AV.cells, AV.sc, optv, bnd, env, put, Env.get, Env.set, Env.del, Env.dels, Env.init, res1, resL, resV, fillP, splice, newRow, Nat.reduceEqDiff, Nat.reduceLT, Nat.reduceLeDiff, Nat.reduceAdd, Nat.reduceMul, Nat.reduceSub, Nat.reduceBEq, reduceCtorEq, ↓zR, zQ, Tr, StA, StT]
    refine c_reAdd (madeB w i t') (hs.pre hp1) hA.1 (by have := hA.len hw; omega) ?_
    intro v3 h3 hs3 hr3 hp3
    simp (maxSteps := 1000000) (disch := first | omega | rfl | (simp only [zL, two63, room] <;> omega) | fail) only [↓reduceIte, ↓zP, zW, WOp, evOp, evBin, binI, binSh, binS, evNil, keyIs, keyEq, mkv, AV.cells, AV.sc, optv, bnd, env, put, Env.get, Env.set, Env.del, Env.dels, Env.init, res1, resL, resV, fillP, splice, newRow, Nat.reduceEqDiff, Nat.reduceLT, Nat.reduceLeDiff, Nat.reduceAdd, Nat.reduceMul, Nat.reduceSub, Nat.reduceBEq, reduceCtorEq, ↓zR, zQ, Tr, StA, StT, hw1]
    rw [w_loopn (c := lp118_2) rfl]
    simp (maxSteps := 1000000) (disch := first | omega | rfl | (simp only [zL, two63, room] <;> omega) | fail) only [↓reduceIte, ↓zP, zW, WOp, evOp, evBin, binI, binSh, binS, evNil, keyIs, keyEq, mkv, AV.cells, AV.sc, optv, bnd, env, put, Env.get, Env.set, Env.del, Env.dels, Env.init, res1, resL, resV, fillP, splice, newRow, Nat.reduceEqDiff, Nat.reduceLT, Nat.reduceLeDiff, Nat.reduceAdd, Nat.reduceMul, Nat.reduceSub, Nat.reduceBEq, reduceCtorEq, ↓zR, zQ, Tr, StA, StT]
    refine ih (insS (madeB w i t') A) v3 h3 (by rw [hmp]; simp) (hA.ins ⟨madeB_length w i t', signs_made hmv hg⟩) hs3 (fun i hi => ?_) (Nat.le_trans hbh (hp1.trans hp3).1) ((hp.trans hp1).trans hp3) ?_
    · rcases hr3 i hi with h | h
      · exact hb i h
      · exact Nat.le_trans hbh (Nat.le_trans hp1.1 h)
    exact hR
theorem lp_reL1 {n : Nat} (hn : n ≤ 10) {t3 tl : AV} {b0 : Nat} {L : List Ln} (hL : GoodL n L) {h0 : AH} (hsl : Slc 1 encS h0 tl L) {R : X → Env → AH → Prop} :
    ∀ (rest pre : List Ln) (A : List Ln) (v : AV) (h : AH), L = pre ++ rest → GoodL n A → Slc 1 encS h v A → (∀ i, rowOf v = some i → b0 ≤ i) → b0 ≤ h.length → Pre h0 h →
    (∀ v' h', Slc 1 encS h' v' (addS (rest.flatMap nx) A) → (∀ i, rowOf v' = some i → b0 ≤ i) → Pre h0 h' → R (.exit 2) [(3, t3), (4, v')] h') →
    Cx (.loop lp118_1) [(3, t3), (4, v), (17, tl), (18, .int .i64 L.length), (19, .int .i64 pre.length)] h R k k
  | [], pre, A, v, h, hpre, hA, hs, hb, hbh, hp, hR => by
    have hl : L.length = pre.length := by rw [hpre]; simp
    rw [w_loopb (c := lp118_1) (d := lb118_1) rfl]; unfold lb118_1
    rw [hl]
    simp (maxSteps := 1000000) (disch := first | omega | rfl | (simp only [zL, two63, room] <;> omega) | fail) only [↓reduceIte, ↓zP, zW, WOp, evOp, evBin, binI, binSh, binS, evNil, keyIs, keyEq, mkv, AV.cells, AV.sc, optv, bnd, env, put, Env.get, Env.set, Env.del, Env.dels, Env.init, res1, resL, resV, fillP, splice, newRow, Nat.reduceEqDiff, Nat.reduceLT, Nat.reduceLeDiff, Nat.reduceAdd, Nat.reduceMul, Nat.reduceSub, Nat.reduceBEq, reduceCtorEq, ↓zR, zQ, Tr, StA, StT]
    exact hR v h hs hb hp
  | w :: rest, pre, A, v, h, hpre, hA, hs, hb, hbh, hp, hR => by
    have ih := lp_reL1 hn hL hsl (t3 := t3) (b0 := b0) (R := R) rest (pre ++ [w])
    have hml : L.length = pre.length + 1 + rest.length := by rw [hpre]; simp; omega
    obtain ⟨hwl, hwg⟩ := hL.2 w (by rw [hpre]; simp)
    subst hwl
    have hsl' := hsl.pre hp
    rw [hpre] at hsl'
    obtain ⟨r1, k1, o1, hv1, hr⟩ := hsl'.at hlS
    rw [← hpre, hml] at hv1
    subst hv1
    rw [hml] at ih ⊢
    have hbd := hL.len hn
    have hlt : (pre.length : Int) < ((pre.length + 1 + rest.length : Nat) : Int) := by omega
    have hw1 : (pre.length : Int) + 1 = ((pre ++ [w]).length : Int) := by simp
    rw [w_loopb (c := lp118_1) (d := lb118_1) rfl]; unfold lb118_1
    simp (maxSteps := 1000000) (disch := first | omega | rfl | (simp only [zL, two63, room] <;> omega) | fail) only [↓reduceIte, ↓zP, zW, WOp, evOp, evBin, binI, binSh, binS, evNil, keyIs, keyEq, mkv, AV.cells, AV.sc, optv, bnd, env, put, Env.get, Env.set, Env.del, Env.dels, Env.init, res1, resL, resV, fillP, splice, newRow, Nat.reduceEqDiff, Nat.reduceLT, Nat.reduceLeDiff, Nat.reduceAdd, Nat.reduceMul, Nat.reduceSub, Nat.reduceBEq, reduceCtorEq, ↓zR, zQ, Tr, StA, StT, hlt, hr]
    refine c_liMoves w hwg (by omega) true true ?_
    intro vm h2 ho2 hp2
    rw [liM_eq] at ho2
    have hvm := fun g => Slc.lenV (ho2.slc) (g := g) (ρ := fun _ => _) (x := .t 0) rfl; simp only [evOp] at hvm
    simp (maxSteps := 1000000) (disch := first | omega | rfl | (simp only [zL, two63, room] <;> omega) | fail) only [↓reduceIte, ↓zP, zW, WOp, evOp, evBin, binI, binSh, binS, evNil, keyIs, keyEq, mkv, AV.cells, AV.sc, optv, bnd, env, put, Env.get, Env.set, Env.del, Env.dels, Env.init, res1, resL, resV, fillP, splice, newRow, Nat.reduceEqDiff, Nat.reduceLT, Nat.reduceLeDiff, Nat.reduceAdd, Nat.reduceMul, Nat.reduceSub, Nat.reduceBEq, reduceCtorEq, ↓zR, zQ, Tr, StA, StT, hvm]
    refine lp_reL2 hwg hn ho2.slc (movesB w [84, 70]) [] A v h2 rfl hA (hs.pre hp2) hb (Nat.le_trans hbh hp2.1) (Pre.refl _) ?_
    intro v3 h3 hs3 hb3 hp3
    simp (maxSteps := 1000000) (disch := first | omega | rfl | (simp only [zL, two63, room] <;> omega) | fail) only [↓reduceIte, ↓zP, zW, WOp, evOp, evBin, binI, binSh, binS, evNil, keyIs, keyEq, mkv, AV.cells, AV.sc, optv, bnd, env, put, Env.get, Env.set, Env.del, Env.dels, Env.init, res1, resL, resV, fillP, splice, newRow, Nat.reduceEqDiff, Nat.reduceLT, Nat.reduceLeDiff, Nat.reduceAdd, Nat.reduceMul, Nat.reduceSub, Nat.reduceBEq, reduceCtorEq, ↓zR, zQ, Tr, StA, StT, hw1]
    rw [w_loopn (c := lp118_1) rfl]
    simp (maxSteps := 1000000) (disch := first | omega | rfl | (simp only [zL, two63, room] <;> omega) | fail) only [↓reduceIte, ↓zP, zW, WOp, evOp, evBin, binI, binSh, binS, evNil, keyIs, keyEq, mkv, AV.cells, AV.sc, optv, bnd, env, put, Env.get, Env.set, Env.del, Env.dels, Env.init, res1, resL, resV, fillP, splice, newRow, Nat.reduceEqDiff, Nat.reduceLT, Nat.reduceLeDiff, Nat.reduceAdd, Nat.reduceMul, Nat.reduceSub, Nat.reduceBEq, reduceCtorEq, ↓zR, zQ, Tr, StA, StT]
    refine ih (addS (nx w) A) v3 h3 (by rw [hpre]; simp) (hA.add fun x hx => ?_) hs3 hb3 (Nat.le_trans hbh (hp2.trans hp3).1) ((hp.trans hp2).trans hp3) ?_
    · exact nx_good hwg hx
    · intro v' h' hs' hb' hp'
      refine hR v' h' ?_ hb' hp'
      rw [List.flatMap_cons, addS_app]
      exact hs'
/-- A value that fills one cell. -/
abbrev SV := {v : AV // v.sc = true}
def encV (x : SV) : List AV := [x.1]
theorem hlV (x : SV) : (encV x).length = 1 := rfl
theorem scV (x : SV) : (encV x).all AV.sc = true := by simp [encV, x.2]
def LL (h : AH) (o : AV) (vs : List SV) (Ls : List (List Ln)) : Prop := vs.length = Ls.length ∧ ∀ (i : Nat) (v : SV) (L : List Ln), vs[i]? = some v → Ls[i]? = some L → Slc 1 encS h v.1 L ∧ ∀ r, rowOf v.1 = some r → rowOf o ≠ some r
theorem Slc.lt {α : Type} {esz : Nat} {enc : α → List AV} {h : AH} {v : AV} {L : List α} (hs : Slc esz enc h v L) {r : Nat} (hr : rowOf v = some r) : r < h.length := by
  cases v <;> simp only [rowOf] at hr <;> try (cases hr; done)
  cases hr
  exact hs.row_lt _ _ _ _ _ rfl
theorem Slc.stay {α : Type} {esz : Nat} {enc : α → List AV} {h h' : AH} {v : AV} {L : List α} (hs : Slc esz enc h v L) (hr : ∀ r, rowOf v = some r → h'[r]? = h[r]?) : Slc esz enc h' v L := by
  unfold Slc Sl at *
  cases v <;> simp only [rowOf] at * <;> first
    | exact hs
    | (obtain ⟨k1, k2, k3, k4⟩ := hs
       refine ⟨k1, k2, k3, ?_⟩
       unfold rdRow at k4 ⊢
       rw [hr _ rfl]; exact k4)
theorem LL.pre {h h' : AH} {o : AV} {vs : List SV} {Ls : List (List Ln)} (hl : LL h o vs Ls) (hp : Pre h h') : LL h' o vs Ls := ⟨hl.1, fun i v L h1 h2 => ⟨(hl.2 i v L h1 h2).1.pre hp, (hl.2 i v L h1 h2).2⟩⟩
/-- Behind an append to the outer slice. -/
theorem LL.app {h h3 : AH} {o o3 : AV} {vs : List SV} {Ls : List (List Ln)} (hl : LL h o vs Ls) {w : SV} {M : List Ln} (hw : Slc 1 encS h w.1 M) (hn : ∀ r, rowOf w.1 = some r → rowOf o ≠ some r)
    (f1 : ∀ i, i < h.length → rowOf o ≠ some i → h3[i]? = h[i]?) (f3 : ∀ r, rowOf o3 = some r → rowOf o = some r ∨ h.length ≤ r) : LL h3 o3 (vs ++ [w]) (Ls ++ [M]) := by
  have one : ∀ {v : SV} {L : List Ln}, Slc 1 encS h v.1 L → (∀ r, rowOf v.1 = some r → rowOf o ≠ some r) → Slc 1 encS h3 v.1 L ∧ ∀ r, rowOf v.1 = some r → rowOf o3 ≠ some r := by
    intro v L hs hd
    refine ⟨hs.stay fun r hr => f1 r (hs.lt hr) (hd r hr), fun r hr e => ?_⟩
    rcases f3 r e with h1 | h1
    · exact hd r hr h1
    · have := hs.lt hr; omega
  refine ⟨by simp [hl.1], fun i u N h1 h2 => ?_⟩
  have h0 := hl.1
  rcases Nat.lt_trichotomy i vs.length with hi | hi | hi
  · rw [List.getElem?_append_left hi] at h1
    rw [List.getElem?_append_left (by omega)] at h2
    obtain ⟨g1, g2⟩ := hl.2 i u N h1 h2
    exact one g1 g2
  · subst hi
    rw [List.getElem?_append_right (Nat.le_refl _)] at h1
    rw [List.getElem?_append_right (by omega), ← h0] at h2
    simp at h1 h2
    subst h1; subst h2; exact one hw hn
  · rw [List.getElem?_eq_none (by simp; omega)] at h1; cases h1
def lays (w : Ln) (n : Nat) : List (List Ln) := (List.range n).map (lay w)
theorem lays_succ (w : Ln) (n : Nat) : lays w (n + 1) = lays w n ++ [lay w n] := by unfold lays; rw [List.range_succ, List.map_append]; rfl
theorem reL0_step {w : Ln} (hg : w.all isSign = true) (hw : w.length ≤ 10) {h0 : AH} {R : X → Env → AH → Prop} (j : Nat) (hj : j ≤ 200) {o : AV} {vs : List SV} {u : SV} {h : AH} (ho : OwL 1 encV h0 h o (vs ++ [u])) (hll : LL h o (vs ++ [u]) (lays w (j + 1))) (hp : Pre h0 h)
    (hE : lay w (j + 1) = [] → ∀ h', Pre h h' → R .ret [(2, o)] h')
    (hN : lay w (j + 1) ≠ [] → ∀ o' h' u', OwL 1 encV h0 h' o' (vs ++ [u] ++ [u']) → LL h' o' (vs ++ [u] ++ [u']) (lays w (j + 2)) → Pre h0 h' → Cx (.loop lp118_0) [(3, o')] h' R k k) :
    Cx (.loop lp118_0) [(3, o)] h R k k := by
  have hlen : vs.length = j := by have := hll.1; simp [lays] at this; exact this
  have hsu : Slc 1 encS h u.1 (lay w j) := (hll.2 j u (lay w j) (by rw [← hlen]; simp) (by simp [lays])).1
  obtain ⟨c, kk, off, hv, hr⟩ := ho.slc.at hlV (pre := vs) (rest := [])
  subst hv
  have hN1 : ((vs ++ [u]).length : Int) - 1 = (vs.length : Int) := by simp
  have hlt : (vs.length : Int) < ((vs ++ [u]).length : Int) := by simp; omega
  have hvl := fun g => Slc.lenV (hsu) (g := g) (ρ := fun _ => _) (x := .t 0) rfl; simp only [evOp] at hvl
  have hr' : rdRow h c kk (off + vs.length * 1) 1 = some [u.1] := hr
  have z0 : (0 : Int) = (([] : List Ln).length : Int) := rfl
  have hgl := lay_good hg j
  rw [w_loopb (c := lp118_0) (d := lb118_0) rfl]; unfold lb118_0
  simp (maxSteps := 1000000) (disch := first | omega | rfl | (simp only [zL, two63, room] <;> omega) | fail) only [↓reduceIte, ↓zP, zW, WOp, evOp, evBin, binI, binSh, binS, evNil, keyIs, keyEq, mkv, AV.cells, AV.sc, optv, bnd, env, put, Env.get, Env.set, Env.del, Env.dels, Env.init, res1, resL, resV, fillP, splice, newRow, Nat.reduceEqDiff, Nat.reduceLT, Nat.reduceLeDiff, Nat.reduceAdd, Nat.reduceMul, Nat.reduceSub, Nat.reduceBEq, reduceCtorEq, ↓zR, zQ, Tr, StA, StT, hN1, hlt, hr', hvl]
  refine lp_reL1 hw hgl hsu (b0 := h.length) (lay w j) [] [] .nilS h rfl GoodL.nil (OwL.nil (h0 := h)).slc (fun i hi => by cases hi) (Nat.le_refl _) (Pre.refl _) ?_
  intro v2 h2 hs2 hb2 hp2
  rw [show addS ((lay w j).flatMap nx) [] = lay w (j + 1) from rfl] at hs2
  have hv2 := fun g => Slc.lenV (hs2) (g := g) (ρ := fun _ => _) (x := .t 0) rfl; simp only [evOp] at hv2
  have hgl2 := (lay_good hg (j + 1)).len hw
  by_cases e : lay w (j + 1) = []
  · rw [e] at hv2
    have z : (([] : List Ln).length : Int) == 0 := rfl
    simp (maxSteps := 1000000) (disch := first | omega | rfl | (simp only [zL, two63, room] <;> omega) | fail) only [↓reduceIte, ↓zP, zW, WOp, evOp, evBin, binI, binSh, binS, evNil, keyIs, keyEq, mkv, AV.cells, AV.sc, optv, bnd, env, put, Env.get, Env.set, Env.del, Env.dels, Env.init, res1, resL, resV, fillP, splice, newRow, Nat.reduceEqDiff, Nat.reduceLT, Nat.reduceLeDiff, Nat.reduceAdd, Nat.reduceMul, Nat.reduceSub, Nat.reduceBEq, reduceCtorEq, ↓zR, zQ, Tr, StA, StT, hv2, z]
    exact hE e h2 hp2
  · have hne : (((lay w (j + 1)).length : Int) == 0) = false := by
      rw [beq_eq_false_iff_ne]
      intro h0
      exact e (List.eq_nil_of_length_eq_zero (by omega))
    have hsc := (sl_cells hs2).2
    have hce := (sl_cells hs2).1
    have hpx := Pre.push h2 (AO.row [v2] 0 0 false)
    obtain ⟨o3, h3, ha, ho3, hp3⟩ := apL hlV scV ((ho.pre hp2).pre hpx) ((hp.trans hp2).trans hpx) ⟨v2, hsc⟩ (by simp; omega)
    obtain ⟨f1, f2, f3⟩ := apRow_fr ha
    simp only [encV] at ha
    simp only [AV.cells] at hce
    have hsc' := hsc
    unfold AV.sc at hsc'
    have hoc : ∀ r, rowOf (AV.slice c kk off (vs ++ [u]).length 1) = some r → r < h.length := fun r hr => own_lt ho hr
    have hll3 : LL h3 o3 (vs ++ [u] ++ [(⟨v2, hsc⟩ : SV)]) (lays w (j + 1) ++ [lay w (j + 1)]) := by
      refine ((hll.pre hp2).pre hpx).app (hs2.pre hpx) (fun r hr hro => ?_) f1 (fun r hr => (f3 r hr).imp id fun e => by omega)
      have h1 := hb2 r hr
      have h2q := hoc r hro
      omega
    simp (maxSteps := 1000000) (disch := first | omega | rfl | (simp only [zL, two63, room] <;> omega) | fail) only [↓reduceIte, ↓zP, zW, WOp, evOp, evBin, binI, binSh, binS, evNil, keyIs, keyEq, mkv, AV.cells, AV.sc, optv, bnd, env, put, Env.get, Env.set, Env.del, Env.dels, Env.init, res1, resL, resV, fillP, splice, newRow, Nat.reduceEqDiff, Nat.reduceLT, Nat.reduceLeDiff, Nat.reduceAdd, Nat.reduceMul, Nat.reduceSub, Nat.reduceBEq, reduceCtorEq, ↓zR, zQ, Tr, StA, StT, hv2, hne, hsc', hce, ha]
    rw [w_loopn (c := lp118_0) rfl]
    simp (maxSteps := 1000000) (disch := first | omega | rfl | (simp only [zL, two63, room] <;> omega) | fail) only [↓reduceIte, ↓zP, zW, WOp, evOp, evBin, binI, binSh, binS, evNil, keyIs, keyEq, mkv, AV.cells, AV.sc, optv, bnd, env, put, Env.get, Env.set, Env.del, Env.dels, Env.init, res1, resL, resV, fillP, splice, newRow, Nat.reduceEqDiff, Nat.reduceLT, Nat.reduceLeDiff, Nat.reduceAdd, Nat.reduceMul, Nat.reduceSub, Nat.reduceBEq, reduceCtorEq, ↓zR, zQ, Tr, StA, StT]
    refine hN e o3 h3 ⟨v2, hsc⟩ ho3 ?_ hp3
    rw [lays_succ w (j + 1)]
    exact hll3
theorem lp_reL0 {w : Ln} (hg : w.all isSign = true) (hw : w.length ≤ 10) {h0 : AH} {R : X → Env → AH → Prop} :
    ∀ (d j : Nat) (o : AV) (vs : List SV) (u : SV) (h : AH), j + d = mu w → OwL 1 encV h0 h o (vs ++ [u]) → LL h o (vs ++ [u]) (lays w (j + 1)) → Pre h0 h →
    (∀ o' h' vs' N, lay w (N + 1) = [] → N ≤ mu w → OwL 1 encV h0 h' o' vs' → LL h' o' vs' (lays w (N + 1)) → Pre h0 h' → R .ret [(2, o')] h') →
    Cx (.loop lp118_0) [(3, o)] h R k k := by
  have hmu := mu_le w hw
  intro d
  induction d with
  | zero =>
    intro j o vs u h hj ho hll hp hR
    have hend : lay w (j + 1) = [] := by
      have := lay_end w
      rwa [← hj, Nat.add_zero] at this
    exact reL0_step hg hw j (by omega) ho hll hp (fun _ h' hp' => hR o h' (vs ++ [u]) j hend (by omega) (ho.pre hp') (hll.pre hp') (hp.trans hp')) fun hne => absurd hend hne
  | succ d ih =>
    intro j o vs u h hj ho hll hp hR
    exact reL0_step hg hw j (by omega) ho hll hp (fun hend h' hp' => hR o h' (vs ++ [u]) j hend (by omega) (ho.pre hp') (hll.pre hp') (hp.trans hp'))
      fun _ o' h' u' h1 h2 h3 => ih (j + 1) o' (vs ++ [u]) u' h' (by omega) h1 h2 h3 hR
theorem c_reLayers (w : Ln) (hg : w.all isSign = true) (hw : w.length ≤ 10) {h : AH} {post : AV → AH → Prop} (hp : ∀ o' h' vs' N, lay w (N + 1) = [] → N ≤ 100 → OwL 1 encV h h' o' vs' → LL h' o' vs' (lays w (N + 1)) → Pre h h' → post o' h') : S 118 [.str w] h post k := by
  have hmu := mu_le w hw
  have p1 := Pre.push h (AO.row [.str w] 0 0 false)
  have p2 := Pre.push (h ++ [AO.row [.str w] 0 0 false]) (AO.row [.slice h.length 0 0 1 1] 0 0 false)
  refine S_of rfl T118 ?_; unfold fi118
  simp (maxSteps := 1000000) (disch := first | omega | rfl | (simp only [zL, two63, room] <;> omega) | fail) only [↓reduceIte, ↓zP, zW, WOp, evOp, evBin, binI, binSh, binS, evNil, keyIs, keyEq, mkv, AV.cells, AV.sc, optv, bnd, env, put, Env.get, Env.set, Env.del, Env.dels, Env.init, res1, resL, resV, fillP, splice, newRow, Nat.reduceEqDiff, Nat.reduceLT, Nat.reduceLeDiff, Nat.reduceAdd, Nat.reduceMul, Nat.reduceSub, Nat.reduceBEq, reduceCtorEq, ↓zR, zQ, Tr, StA, StT]
  refine lp_reL0 hg hw (h0 := h) (mu w) 0 _ [] ⟨.slice h.length 0 0 1 1, rfl⟩ _ (by omega) ?_ ?_ (p1.trans p2) ?_
  · unfold OwL Own
    exact ⟨rfl, rfl, rfl, by simp, [.slice h.length 0 0 1 1], 0, by simp, Nat.le_refl _, rfl, rfl⟩
  · refine ⟨rfl, fun i v L h1 h2 => ?_⟩
    cases i with
    | zero =>
      simp [lays, lay] at h1 h2
      subst h1; subst h2
      refine ⟨?_, fun r hr => ?_⟩
      · unfold Slc Sl
        refine ⟨rfl, rfl, rfl, ?_⟩
        exact rdRow_pre p2 (by rw [rd_last, if_pos (by simp)]; rfl)
      · simp only [rowOf, Option.some.injEq] at hr ⊢
        simp; omega
    | succ i => simp at h1
  intro o' h' vs' N h1 h2 h3 h4 h5
  simp (maxSteps := 1000000) (disch := first | omega | rfl | (simp only [zL, two63, room] <;> omega) | fail) only [↓reduceIte, ↓zP, zW, WOp, evOp, evBin, binI, binSh, binS, evNil, keyIs, keyEq, mkv, AV.cells, AV.sc, optv, bnd, env, put, Env.get, Env.set, Env.del, Env.dels, Env.init, res1, resL, resV, fillP, splice, newRow, Nat.reduceEqDiff, Nat.reduceLT, Nat.reduceLeDiff, Nat.reduceAdd, Nat.reduceMul, Nat.reduceSub, Nat.reduceBEq, reduceCtorEq, ↓zR, zQ, Tr, StA, StT]
  exact hp o' h' vs' N h1 (by omega) h3 h4 h5
end Go.Proofs.YthoibdfcaejgbaaDoor.Ab

/- WORDS counted by layers: the reference's side. -/
namespace Go.Proofs.YthoibdfcaejgbaaDoor.Ab
open Go
set_option maxRecDepth 100000
set_option maxHeartbeats 4000000

theorem Slc.get {α : Type} {esz : Nat} {enc : α → List AV} (hl : ∀ x, (enc x).length = esz) {h : AH} {v : AV} {L : List α} (hs : Slc esz enc h v L) {i : Nat} (hi : i < L.length) : ∃ c kk off, v = .slice c kk off L.length esz ∧ rdRow h c kk (off + i * esz) esz = some (enc L[i]) := by
  have hsp : L = L.take i ++ L[i] :: L.drop (i + 1) := by rw [← List.drop_eq_getElem_cons, List.take_append_drop]
  have hpl : (L.take i).length = i := by rw [List.length_take]; omega
  have hs' : Slc esz enc h v (L.take i ++ L[i] :: L.drop (i + 1)) := by rw [← hsp]; exact hs
  obtain ⟨c, kk, off, hv, hr⟩ := hs'.at hl
  rw [← hsp] at hv
  rw [hpl] at hr
  exact ⟨c, kk, off, hv, hr⟩
def SlcX {α : Type} (esz : Nat) (enc : α → List AV) (c : Nat) (h : AH) (v : AV) (L : List α) : Prop := Slc esz enc h v L ∧ ∀ r, rowOf v = some r → r ≠ c
theorem SlcX.fr {α : Type} {esz : Nat} {enc : α → List AV} {c : Nat} {h h' : AH} {v : AV} {L : List α} (hs : SlcX esz enc c h v L) (hp : PreX c h h') : SlcX esz enc c h' v L :=
  ⟨hs.1.stay fun r hr => hp.2 r (hs.1.lt hr) (hs.2 r hr), hs.2⟩
theorem Slc.x {α : Type} {esz : Nat} {enc : α → List AV} {c : Nat} {h : AH} {v : AV} {L : List α} (hs : Slc esz enc h v L) (hc : h.length ≤ c) : SlcX esz enc c h v L := ⟨hs, fun r hr => by have := hs.lt hr; omega⟩

theorem lp_rc2 {c : Nat} {nt : Ln} {ci : Nat} {cp cr : List Int} {layer : List Ln} (hL : layer.length ≤ 59049) {b h0 : AH} {vc vl vb vm : AV} {i l9 l19 l20 l27 l28 : AV} (hi : i = .int .i64 cp.length) (hc0 : SlcX 1 encI c h0 vc (cp ++ (ci : Int) :: cr)) (hl0 : SlcX 1 encS c h0 vl layer) (f : Ln → Nat) (hB : ∀ x ∈ layer, x = nt → f x + ci < 2 ^ 62) {R : X → Env → AH → Prop} :
    ∀ (rest pre : List Ln) (h : AH), layer = pre ++ rest → OwL 1 encI b h (.slice c 0 0 layer.length 1) ((pre.map fun x => (f x : Int) + if x = nt then (ci : Int) else 0) ++ rest.map fun x => (f x : Int)) → PreX c h0 h →
    (∀ h', OwL 1 encI b h' (.slice c 0 0 layer.length 1) (layer.map fun x => (f x : Int) + if x = nt then (ci : Int) else 0) → PreX c h0 h' → R (.exit 4) [(1, vc), (2, vl), (7, .slice c 0 0 layer.length 1), (8, i), (9, l9), (18, vb), (19, l19), (20, l20), (26, vm), (27, l27), (28, l28)] h') →
    Cx (.loop lp117_2) [(1, vc), (2, vl), (7, .slice c 0 0 layer.length 1), (8, i), (9, l9), (12, .str nt), (18, vb), (19, l19), (20, l20), (26, vm), (27, l27), (28, l28), (35, vl), (36, .int .i64 layer.length), (37, .int .i64 pre.length)] h R k k
  | [], pre, h, hpre, ho, hp, hR => by
    have hl : layer.length = pre.length := by rw [hpre]; simp
    rw [w_loopb (c := lp117_2) (d := lb117_2) rfl]; unfold lb117_2
    have hR' := hR h (by rw [hpre] at ho ⊢; simpa using ho) hp
    rw [hl] at hR' ⊢
    simp (maxSteps := 1000000) (disch := first | omega | rfl | (simp only [zL, two63, room] <;> omega) | fail) only [↓reduceIte, ↓zP, zW, WOp, evOp, evBin, binI, binSh, binS, evNil, keyIs, keyEq, mkv, AV.cells, AV.sc, optv, bnd, env, put, Env.get, Env.set, Env.del, Env.dels, Env.init, res1, resL, resV, fillP, splice, newRow, Nat.reduceEqDiff, Nat.reduceLT, Nat.reduceLeDiff, Nat.reduceAdd, Nat.reduceMul, Nat.reduceSub, Nat.reduceBEq, reduceCtorEq, ↓zR, zQ, Tr, StA, StT]
    exact hR'
  | x :: rest, pre, h, hpre, ho, hp, hR => by
    have ih := lp_rc2 hL hi hc0 hl0 f hB (b := b) (nt := nt) (vb := vb) (vm := vm) (l9 := l9) (l19 := l19) (l20 := l20) (l27 := l27) (l28 := l28) (R := R) rest (pre ++ [x])
    have hml : layer.length = pre.length + 1 + rest.length := by rw [hpre]; simp; omega
    have hlx := (hl0.fr hp).1
    rw [hpre] at hlx
    obtain ⟨r1, k1, o1, hv1, hr⟩ := hlx.at hlS
    rw [← hpre] at hv1
    have hcx := (hc0.fr hp).1
    obtain ⟨r2, k2, o2, hv2, hrc⟩ := hcx.at hlI
    have hlt : (pre.length : Int) < (layer.length : Int) := by omega
    have hlt2 : (cp.length : Int) < ((cp ++ (ci : Int) :: cr).length : Int) := by simp; omega
    have hw1 : (pre.length : Int) + 1 = ((pre ++ [x]).length : Int) := by simp
    subst hi
    subst hv1
    subst hv2
    rw [w_loopb (c := lp117_2) (d := lb117_2) rfl]; unfold lb117_2
    cases e : (x == nt)
    · have hne : ¬ x = nt := by simpa using e
      simp (maxSteps := 1000000) (disch := first | omega | rfl | (simp only [zL, two63, room] <;> omega) | fail) only [↓reduceIte, ↓zP, zW, WOp, evOp, evBin, binI, binSh, binS, evNil, keyIs, keyEq, mkv, AV.cells, AV.sc, optv, bnd, env, put, Env.get, Env.set, Env.del, Env.dels, Env.init, res1, resL, resV, fillP, splice, newRow, Nat.reduceEqDiff, Nat.reduceLT, Nat.reduceLeDiff, Nat.reduceAdd, Nat.reduceMul, Nat.reduceSub, Nat.reduceBEq, reduceCtorEq, ↓zR, zQ, Tr, StA, StT, hlt, hr, e]
      simp (maxSteps := 1000000) (disch := first | omega | rfl | (simp only [zL, two63, room] <;> omega) | fail) only [↓reduceIte, ↓zP, zW, WOp, evOp, evBin, binI, binSh, binS, evNil, keyIs, keyEq, mkv, AV.cells, AV.sc, optv, bnd, env, put, Env.get, Env.set, Env.del, Env.dels, Env.init, res1, resL, resV, fillP, splice, newRow, Nat.reduceEqDiff, Nat.reduceLT, Nat.reduceLeDiff, Nat.reduceAdd, Nat.reduceMul, Nat.reduceSub, Nat.reduceBEq, reduceCtorEq, ↓zR, zQ, Tr, StA, StT, hw1]
      rw [w_loopn (c := lp117_2) rfl]
      simp (maxSteps := 1000000) (disch := first | omega | rfl | (simp only [zL, two63, room] <;> omega) | fail) only [↓reduceIte, ↓zP, zW, WOp, evOp, evBin, binI, binSh, binS, evNil, keyIs, keyEq, mkv, AV.cells, AV.sc, optv, bnd, env, put, Env.get, Env.set, Env.del, Env.dels, Env.init, res1, resL, resV, fillP, splice, newRow, Nat.reduceEqDiff, Nat.reduceLT, Nat.reduceLeDiff, Nat.reduceAdd, Nat.reduceMul, Nat.reduceSub, Nat.reduceBEq, reduceCtorEq, ↓zR, zQ, Tr, StA, StT]
      refine ih h (by rw [hpre]; simp) ?_ hp hR
      simpa [hne] using ho
    · have heq : x = nt := by simpa using e
      have hbx := hB x (by rw [hpre]; simp) heq
      subst heq
      have ho' := ho
      rw [List.map_cons] at ho'
      have hro := ho'.slc.rd hlI
      obtain ⟨r3, k3, o3, h3, hv3, hw, ho3, hb, hl3, hag⟩ := ho'.store hlI scI ((f x : Int) + (ci : Int))
      simp only [AV.slice.injEq] at hv3
      obtain ⟨e1, e2, e3, _, _⟩ := hv3
      subst e1; subst e2; subst e3
      simp only [List.length_map, Nat.zero_add] at hro hw
      have hrd : rdRow h c 0 (pre.length * 1) 1 = some [.int .i64 (f x : Int)] := hro
      have hrc' : rdRow h r2 k2 (o2 + cp.length * 1) 1 = some [.int .i64 (ci : Int)] := hrc
      have hw' : wrRow h c 0 (pre.length * 1) [.int .i64 ((f x : Int) + (ci : Int))] = some h3 := hw
      simp (maxSteps := 1000000) (disch := first | omega | rfl | (simp only [zL, two63, room] <;> omega) | fail) only [↓reduceIte, ↓zP, zW, WOp, evOp, evBin, binI, binSh, binS, evNil, keyIs, keyEq, mkv, AV.cells, AV.sc, optv, bnd, env, put, Env.get, Env.set, Env.del, Env.dels, Env.init, res1, resL, resV, fillP, splice, newRow, Nat.reduceEqDiff, Nat.reduceLT, Nat.reduceLeDiff, Nat.reduceAdd, Nat.reduceMul, Nat.reduceSub, Nat.reduceBEq, reduceCtorEq, ↓zR, zQ, Tr, StA, StT, hlt, hr, e, hlt2, hrd, hrc', hw']
      simp (maxSteps := 1000000) (disch := first | omega | rfl | (simp only [zL, two63, room] <;> omega) | fail) only [↓reduceIte, ↓zP, zW, WOp, evOp, evBin, binI, binSh, binS, evNil, keyIs, keyEq, mkv, AV.cells, AV.sc, optv, bnd, env, put, Env.get, Env.set, Env.del, Env.dels, Env.init, res1, resL, resV, fillP, splice, newRow, Nat.reduceEqDiff, Nat.reduceLT, Nat.reduceLeDiff, Nat.reduceAdd, Nat.reduceMul, Nat.reduceSub, Nat.reduceBEq, reduceCtorEq, ↓zR, zQ, Tr, StA, StT, hw1]
      rw [w_loopn (c := lp117_2) rfl]
      simp (maxSteps := 1000000) (disch := first | omega | rfl | (simp only [zL, two63, room] <;> omega) | fail) only [↓reduceIte, ↓zP, zW, WOp, evOp, evBin, binI, binSh, binS, evNil, keyIs, keyEq, mkv, AV.cells, AV.sc, optv, bnd, env, put, Env.get, Env.set, Env.del, Env.dels, Env.init, res1, resL, resV, fillP, splice, newRow, Nat.reduceEqDiff, Nat.reduceLT, Nat.reduceLeDiff, Nat.reduceAdd, Nat.reduceMul, Nat.reduceSub, Nat.reduceBEq, reduceCtorEq, ↓zR, zQ, Tr, StA, StT]
      refine ih h3 (by rw [hpre]; simp) ?_ ⟨by rw [hl3]; exact hp.1, fun j hj hc => by rw [hag j hc, hp.2 j hj hc]⟩ hR
      simpa using ho3
theorem lp_rc1 {c : Nat} {w : Ln} (hg : w.all isSign = true) (hw : w.length ≤ 10) {ci : Nat} {cp cr : List Int} {layer : List Ln} (hL : layer.length ≤ 59049) {b h0 : AH} {vc vl vb vm : AV} {i l19 l20 : AV} (hi : i = .int .i64 cp.length) (hc0 : SlcX 1 encI c h0 vc (cp ++ (ci : Int) :: cr)) (hl0 : SlcX 1 encS c h0 vl layer) (hm0 : SlcX 2 encM c h0 vm (movesB w [84, 70])) (f : Ln → Nat) (hB : ∀ x ∈ layer, f x + (nx w).count x * ci < 2 ^ 62) {R : X → Env → AH → Prop} :
    ∀ (mr mp : List (Int × Int)) (h : AH), movesB w [84, 70] = mp ++ mr → OwL 1 encI b h (.slice c 0 0 layer.length 1) (layer.map fun x => ((f x + (mp.map (mkM w)).count x * ci : Nat) : Int)) → PreX c h0 h →
    (∀ h', OwL 1 encI b h' (.slice c 0 0 layer.length 1) (layer.map fun x => ((f x + (nx w).count x * ci : Nat) : Int)) → PreX c h0 h' → R (.exit 2) [(1, vc), (2, vl), (7, .slice c 0 0 layer.length 1), (18, vb), (19, l19), (20, l20)] h') →
    Cx (.loop lp117_1) [(1, vc), (2, vl), (7, .slice c 0 0 layer.length 1), (8, i), (9, .str w), (18, vb), (19, l19), (20, l20), (26, vm), (27, .int .i64 (movesB w [84, 70]).length), (28, .int .i64 mp.length)] h R k k
  | [], mp, h, hmp, ho, hp, hR => by
    have hl : (movesB w [84, 70]).length = mp.length := by rw [hmp]; simp
    have hn : nx w = mp.map (mkM w) := by rw [nx_eq, hmp]; simp
    rw [hn] at hR
    rw [w_loopb (c := lp117_1) (d := lb117_1) rfl]; unfold lb117_1
    rw [hl]
    simp (maxSteps := 1000000) (disch := first | omega | rfl | (simp only [zL, two63, room] <;> omega) | fail) only [↓reduceIte, ↓zP, zW, WOp, evOp, evBin, binI, binSh, binS, evNil, keyIs, keyEq, mkv, AV.cells, AV.sc, optv, bnd, env, put, Env.get, Env.set, Env.del, Env.dels, Env.init, res1, resL, resV, fillP, splice, newRow, Nat.reduceEqDiff, Nat.reduceLT, Nat.reduceLeDiff, Nat.reduceAdd, Nat.reduceMul, Nat.reduceSub, Nat.reduceBEq, reduceCtorEq, ↓zR, zQ, Tr, StA, StT]
    exact hR h ho hp
  | m :: mr, mp, h, hmp, ho, hp, hR => by
    have ih := lp_rc1 hg hw hL hi hc0 hl0 hm0 f hB (b := b) (vb := vb) (l19 := l19) (l20 := l20) (R := R) mr (mp ++ [m])
    have hmm : m ∈ movesB w [84, 70] := by rw [hmp]; simp
    have hml : (movesB w [84, 70]).length = mp.length + 1 + mr.length := by rw [hmp]; simp; omega
    have hbd := movesB_len w [84, 70]
    have hm' := (hm0.fr hp).1
    rw [hmp] at hm'
    obtain ⟨r1, k1, o1, hv1, hr⟩ := hm'.at hlM
    rw [← hmp, hml] at hv1
    obtain ⟨i', t', rfl, hmv⟩ := movesB_mv hmm
    subst hv1
    rw [hml] at ih ⊢
    have hlt : (mp.length : Int) < ((mp.length + 1 + mr.length : Nat) : Int) := by omega
    have hw1 : (mp.length : Int) + 1 = ((mp ++ [((i' : Int), (t' : Int))]).length : Int) := by simp
    have hcs : ∀ x, ((mp ++ [((i' : Int), (t' : Int))]).map (mkM w)).count x = (mp.map (mkM w)).count x + if madeB w i' t' = x then 1 else 0 := by
      intro x
      rw [List.map_append, List.count_append]
      show _ + List.count x [madeB w i' t'] = _
      rw [List.count_singleton]
      simp
    have hle : ∀ x, ((mp ++ [((i' : Int), (t' : Int))]).map (mkM w)).count x ≤ (nx w).count x := by
      intro x
      rw [nx_eq, hmp, show mp ++ ((i' : Int), (t' : Int)) :: mr = (mp ++ [((i' : Int), (t' : Int))]) ++ mr by simp, List.map_append (l₂ := mr), List.count_append]
      exact Nat.le_add_right _ _
    have hB' : ∀ x ∈ layer, (f x + (mp.map (mkM w)).count x * ci) + ci < 2 ^ 62 ∨ ¬ x = madeB w i' t' := by
      intro x hx
      by_cases e : x = madeB w i' t'
      · left
        have h1 := hB x hx
        have h2 := hle x
        rw [hcs x, if_pos e.symm] at h2
        have h3 := Nat.mul_le_mul_right ci h2
        rw [Nat.add_mul] at h3
        omega
      · exact .inr e
    rw [w_loopb (c := lp117_1) (d := lb117_1) rfl]; unfold lb117_1
    simp (maxSteps := 1000000) (disch := first | omega | rfl | (simp only [zL, two63, room] <;> omega) | fail) only [↓reduceIte, ↓zP, zW, WOp, evOp, evBin, binI, binSh, binS, evNil, keyIs, keyEq, mkv, AV.cells, AV.sc, optv, bnd, env, put, Env.get, Env.set, Env.del, Env.dels, Env.init, res1, resL, resV, fillP, splice, newRow, Nat.reduceEqDiff, Nat.reduceLT, Nat.reduceLeDiff, Nat.reduceAdd, Nat.reduceMul, Nat.reduceSub, Nat.reduceBEq, reduceCtorEq, ↓zR, zQ, Tr, StA, StT, hlt, hr]
    refine c_liMake w i' t' hmv.fst hmv.snd hmv.ne (by omega) ?_
    intro h2 hp2
    have hp1 := (Pre.push h (AO.row (encM ((i' : Int), (t' : Int))) 0 0 false)).trans hp2
    have hpx := hp.trans (hp1.x c)
    have hvl := fun g => Slc.lenV ((hl0.fr hpx).1) (g := g) (ρ := fun _ => _) (x := .t 0) rfl; simp only [evOp] at hvl
    simp (maxSteps := 1000000) (disch := first | omega | rfl | (simp only [zL, two63, room] <;> omega) | fail) only [↓reduceIte, ↓zP, zW, WOp, evOp, evBin, binI, binSh, binS, evNil, keyIs, keyEq, mkv, AV.cells, AV.sc, optv, bnd, env, put, Env.get, Env.set, Env.del, Env.dels, Env.init, res1, resL, resV, fillP, splice, newRow, Nat.reduceEqDiff, Nat.reduceLT, Nat.reduceLeDiff, Nat.reduceAdd, Nat.reduceMul, Nat.reduceSub, Nat.reduceBEq, reduceCtorEq, ↓zR, zQ, Tr, StA, StT, hvl]
    refine lp_rc2 (c := c) (nt := madeB w i' t') (cp := cp) (cr := cr) (ci := ci) hL hi (hc0.fr hpx) (hl0.fr hpx) (fun x => f x + (mp.map (mkM w)).count x * ci) (fun x hx e => ?_) layer [] h2 rfl (by simpa using ho.pre hp1) (PreX.refl _ _) ?_
    · rcases hB' x hx with h | h
      · exact h
      · exact absurd e h
    intro h3 ho3 hp3
    simp (maxSteps := 1000000) (disch := first | omega | rfl | (simp only [zL, two63, room] <;> omega) | fail) only [↓reduceIte, ↓zP, zW, WOp, evOp, evBin, binI, binSh, binS, evNil, keyIs, keyEq, mkv, AV.cells, AV.sc, optv, bnd, env, put, Env.get, Env.set, Env.del, Env.dels, Env.init, res1, resL, resV, fillP, splice, newRow, Nat.reduceEqDiff, Nat.reduceLT, Nat.reduceLeDiff, Nat.reduceAdd, Nat.reduceMul, Nat.reduceSub, Nat.reduceBEq, reduceCtorEq, ↓zR, zQ, Tr, StA, StT, hw1]
    rw [w_loopn (c := lp117_1) rfl]
    simp (maxSteps := 1000000) (disch := first | omega | rfl | (simp only [zL, two63, room] <;> omega) | fail) only [↓reduceIte, ↓zP, zW, WOp, evOp, evBin, binI, binSh, binS, evNil, keyIs, keyEq, mkv, AV.cells, AV.sc, optv, bnd, env, put, Env.get, Env.set, Env.del, Env.dels, Env.init, res1, resL, resV, fillP, splice, newRow, Nat.reduceEqDiff, Nat.reduceLT, Nat.reduceLeDiff, Nat.reduceAdd, Nat.reduceMul, Nat.reduceSub, Nat.reduceBEq, reduceCtorEq, ↓zR, zQ, Tr, StA, StT]
    refine ih h3 (by rw [hmp]; simp) ?_ (hpx.trans hp3) hR
    have : (layer.map fun x => ((f x + ((mp ++ [((i' : Int), (t' : Int))]).map (mkM w)).count x * ci : Nat) : Int)) = layer.map fun x => (((f x + (mp.map (mkM w)).count x * ci : Nat) : Int) + if x = madeB w i' t' then (ci : Int) else 0) := by
      refine List.map_congr_left fun x _ => ?_
      rw [hcs x, Nat.add_mul]
      by_cases e : x = madeB w i' t'
      · rw [if_pos e, if_pos e.symm]; omega
      · rw [if_neg e, if_neg (Ne.symm e)]; omega
    rw [this]
    exact ho3
theorem pcs_snoc (L : List Ln) (w : Ln) (p : Ln → Nat) (x : Ln) : pcs (L ++ [w]) p x = pcs L p x + (nx w).count x * p w := by simp [pcs]
theorem pcs_mono {L L' : List Ln} (w : Ln) (p : Ln → Nat) (x : Ln) : pcs (L ++ [w]) p x ≤ pcs (L ++ w :: L') p x := by simp [pcs]
theorem lp_rc0 {c : Nat} {n : Nat} (hn : n ≤ 10) {before : List Ln} (hb : GoodL n before) {p : Ln → Nat} {layer : List Ln} (hL : layer.length ≤ 59049) {b h0 : AH} {vc vl vb : AV} (hc0 : SlcX 1 encI c h0 vc (before.map fun u => (p u : Int))) (hl0 : SlcX 1 encS c h0 vl layer) (hb0 : SlcX 1 encS c h0 vb before) (hch : c < h0.length) (hB : ∀ x ∈ layer, pcs before p x < 2 ^ 62) {R : X → Env → AH → Prop} :
    ∀ (rest pre : List Ln) (h : AH), before = pre ++ rest → OwL 1 encI b h (.slice c 0 0 layer.length 1) (layer.map fun x => ((pcs pre p x : Nat) : Int)) → PreX c h0 h →
    (∀ h', OwL 1 encI b h' (.slice c 0 0 layer.length 1) (layer.map fun x => ((pcs before p x : Nat) : Int)) → PreX c h0 h' → R (.exit 0) [(7, .slice c 0 0 layer.length 1)] h') →
    Cx (.loop lp117_0) [(1, vc), (2, vl), (7, .slice c 0 0 layer.length 1), (18, vb), (19, .int .i64 before.length), (20, .int .i64 pre.length)] h R k k
  | [], pre, h, hpre, ho, hp, hR => by
    have hl : before.length = pre.length := by rw [hpre]; simp
    rw [w_loopb (c := lp117_0) (d := lb117_0) rfl]; unfold lb117_0
    rw [hl]
    simp (maxSteps := 1000000) (disch := first | omega | rfl | (simp only [zL, two63, room] <;> omega) | fail) only [↓reduceIte, ↓zP, zW, WOp, evOp, evBin, binI, binSh, binS, evNil, keyIs, keyEq, mkv, AV.cells, AV.sc, optv, bnd, env, put, Env.get, Env.set, Env.del, Env.dels, Env.init, res1, resL, resV, fillP, splice, newRow, Nat.reduceEqDiff, Nat.reduceLT, Nat.reduceLeDiff, Nat.reduceAdd, Nat.reduceMul, Nat.reduceSub, Nat.reduceBEq, reduceCtorEq, ↓zR, zQ, Tr, StA, StT]
    exact hR h (by rw [hpre]; simpa using ho) hp
  | w :: rest, pre, h, hpre, ho, hp, hR => by
    have ih := lp_rc0 hn hb hL hc0 hl0 hb0 hch hB (b := b) (R := R) rest (pre ++ [w])
    have hml : before.length = pre.length + 1 + rest.length := by rw [hpre]; simp; omega
    have hbd := hb.len hn
    obtain ⟨hwl, hwg⟩ := hb.2 w (by rw [hpre]; simp)
    subst hwl
    have hb' := (hb0.fr hp).1
    rw [hpre] at hb'
    obtain ⟨r1, k1, o1, hv1, hr⟩ := hb'.at hlS
    rw [← hpre, hml] at hv1
    subst hv1
    have hlt : (pre.length : Int) < ((pre.length + 1 + rest.length : Nat) : Int) := by omega
    have hw1 : (pre.length : Int) + 1 = ((pre ++ [w]).length : Int) := by simp
    have hcm : SlcX 1 encI c h0 vc ((pre.map fun u => (p u : Int)) ++ (p w : Int) :: rest.map fun u => (p u : Int)) := by rw [hpre] at hc0; simpa using hc0
    have hi : (AV.int .i64 (pre.length : Int)) = .int .i64 ((pre.map fun u => (p u : Int)).length : Int) := by simp
    rw [hml] at ih ⊢
    rw [w_loopb (c := lp117_0) (d := lb117_0) rfl]; unfold lb117_0
    simp (maxSteps := 1000000) (disch := first | omega | rfl | (simp only [zL, two63, room] <;> omega) | fail) only [↓reduceIte, ↓zP, zW, WOp, evOp, evBin, binI, binSh, binS, evNil, keyIs, keyEq, mkv, AV.cells, AV.sc, optv, bnd, env, put, Env.get, Env.set, Env.del, Env.dels, Env.init, res1, resL, resV, fillP, splice, newRow, Nat.reduceEqDiff, Nat.reduceLT, Nat.reduceLeDiff, Nat.reduceAdd, Nat.reduceMul, Nat.reduceSub, Nat.reduceBEq, reduceCtorEq, ↓zR, zQ, Tr, StA, StT, hlt, hr]
    refine c_liMoves w hwg (by omega) true true ?_
    intro vm h2 ho2 hp2
    rw [liM_eq] at ho2
    have hvm := fun g => Slc.lenV (ho2.slc) (g := g) (ρ := fun _ => _) (x := .t 0) rfl; simp only [evOp] at hvm
    have hpx := hp.trans (hp2.x c)
    have hmx : SlcX 2 encM c h2 vm (movesB w [84, 70]) := ⟨ho2.slc, fun r hr => by have := own_ge ho2 hr; have := hp.1; omega⟩
    simp (maxSteps := 1000000) (disch := first | omega | rfl | (simp only [zL, two63, room] <;> omega) | fail) only [↓reduceIte, ↓zP, zW, WOp, evOp, evBin, binI, binSh, binS, evNil, keyIs, keyEq, mkv, AV.cells, AV.sc, optv, bnd, env, put, Env.get, Env.set, Env.del, Env.dels, Env.init, res1, resL, resV, fillP, splice, newRow, Nat.reduceEqDiff, Nat.reduceLT, Nat.reduceLeDiff, Nat.reduceAdd, Nat.reduceMul, Nat.reduceSub, Nat.reduceBEq, reduceCtorEq, ↓zR, zQ, Tr, StA, StT, hvm]
    refine lp_rc1 (c := c) hwg hn hL hi (hcm.fr hpx) (hl0.fr hpx) hmx (pcs pre p) (fun x hx => ?_) (movesB w [84, 70]) [] h2 rfl (by simpa using ho.pre hp2) (PreX.refl _ _) ?_
    · have h1 := hB x hx
      have h2 := pcs_mono (L := pre) (L' := rest) w p x
      rw [← hpre, pcs_snoc] at h2
      omega
    intro h3 ho3 hp3
    simp (maxSteps := 1000000) (disch := first | omega | rfl | (simp only [zL, two63, room] <;> omega) | fail) only [↓reduceIte, ↓zP, zW, WOp, evOp, evBin, binI, binSh, binS, evNil, keyIs, keyEq, mkv, AV.cells, AV.sc, optv, bnd, env, put, Env.get, Env.set, Env.del, Env.dels, Env.init, res1, resL, resV, fillP, splice, newRow, Nat.reduceEqDiff, Nat.reduceLT, Nat.reduceLeDiff, Nat.reduceAdd, Nat.reduceMul, Nat.reduceSub, Nat.reduceBEq, reduceCtorEq, ↓zR, zQ, Tr, StA, StT, hw1]
    rw [w_loopn (c := lp117_0) rfl]
    simp (maxSteps := 1000000) (disch := first | omega | rfl | (simp only [zL, two63, room] <;> omega) | fail) only [↓reduceIte, ↓zP, zW, WOp, evOp, evBin, binI, binSh, binS, evNil, keyIs, keyEq, mkv, AV.cells, AV.sc, optv, bnd, env, put, Env.get, Env.set, Env.del, Env.dels, Env.init, res1, resL, resV, fillP, splice, newRow, Nat.reduceEqDiff, Nat.reduceLT, Nat.reduceLeDiff, Nat.reduceAdd, Nat.reduceMul, Nat.reduceSub, Nat.reduceBEq, reduceCtorEq, ↓zR, zQ, Tr, StA, StT]
    refine ih h3 (by rw [hpre]; simp) ?_ (hpx.trans hp3) hR
    have : (layer.map fun x => ((pcs (pre ++ [w]) p x : Nat) : Int)) = layer.map fun x => ((pcs pre p x + (nx w).count x * p w : Nat) : Int) := List.map_congr_left fun x _ => by rw [pcs_snoc]
    rw [this]
    exact ho3
theorem rep0_flat (n : Nat) : (List.replicate n [AV.int .i64 0]).flatten = (List.replicate n (0 : Int)).flatMap encI := by
  induction n with
  | zero => rfl
  | succ n ih => rw [List.replicate_succ, List.replicate_succ, List.flatten_cons, List.flatMap_cons, ih]
theorem c_reCounts {n : Nat} (hn : n ≤ 10) {before : List Ln} (hb : GoodL n before) {p : Ln → Nat} {layer : List Ln} (hL : layer.length ≤ 59049) {h : AH} {vc vl vb : AV} (hsc : Slc 1 encI h vc (before.map fun u => (p u : Int))) (hsl : Slc 1 encS h vl layer) (hsb : Slc 1 encS h vb before) (hB : ∀ x ∈ layer, pcs before p x < 2 ^ 62)
    {post : AV → AH → Prop} (hp : ∀ v' h', OwL 1 encI h h' v' (layer.map fun x => ((pcs before p x : Nat) : Int)) → Pre h h' → post v' h') : S 117 [vb, vc, vl] h post k := by
  have hvl := fun g => Slc.lenV (hsl) (g := g) (ρ := fun _ => _) (x := .t 0) rfl; simp only [evOp] at hvl
  have hvb := fun g => Slc.lenV (hsb) (g := g) (ρ := fun _ => _) (x := .t 0) rfl; simp only [evOp] at hvb
  have hall : ((List.replicate layer.length (0 : Int)).flatMap encI).all AV.sc = true := by
    rw [List.all_eq_true]
    intro x hx
    obtain ⟨c, _, hc⟩ := List.mem_flatMap.1 hx
    exact List.all_eq_true.1 (scI c) x hc
  have hroom : ((room : Nat) : Int) = 1099511627776 := rfl
  have hpush := Pre.push h (AO.row ((List.replicate layer.length (0 : Int)).flatMap encI) 0 0 false)
  refine S_of rfl T117 ?_; unfold fi117
  simp (maxSteps := 1000000) (disch := first | omega | rfl | (simp only [zL, two63, room] <;> omega) | fail) only [↓reduceIte, ↓zP, zW, WOp, evOp, evBin, binI, binSh, binS, evNil, keyIs, keyEq, mkv, AV.cells, AV.sc, optv, bnd, env, put, Env.get, Env.set, Env.del, Env.dels, Env.init, res1, resL, resV, fillP, splice, newRow, Nat.reduceEqDiff, Nat.reduceLT, Nat.reduceLeDiff, Nat.reduceAdd, Nat.reduceMul, Nat.reduceSub, Nat.reduceBEq, reduceCtorEq, ↓zR, zQ, Tr, StA, StT, hvl, hvb, hroom, rep0_flat, hall]
  refine lp_rc0 (c := h.length) hn hb hL (hsc.x (Nat.le_refl _) |>.fr (hpush.x _)) (hsl.x (Nat.le_refl _) |>.fr (hpush.x _)) (hsb.x (Nat.le_refl _) |>.fr (hpush.x _)) (by simp) hB (b := h) before [] _ rfl ?_ (PreX.refl _ _) ?_
  · unfold OwL Own
    refine ⟨rfl, by simp, (by (rw [flat_len hlI]; try simp)), Nat.le_refl _, (List.replicate layer.length (0 : Int)).flatMap encI, 0, by simp, Nat.le_refl _, by rw [flat_len hlI]; simp, ?_⟩
    rw [List.drop_zero]
    congr 1
    simp only [pcs, List.map_nil, List.sum_nil]
    exact List.map_const'.symm
  intro h2 ho2 hp2
  simp (maxSteps := 1000000) (disch := first | omega | rfl | (simp only [zL, two63, room] <;> omega) | fail) only [↓reduceIte, ↓zP, zW, WOp, evOp, evBin, binI, binSh, binS, evNil, keyIs, keyEq, mkv, AV.cells, AV.sc, optv, bnd, env, put, Env.get, Env.set, Env.del, Env.dels, Env.init, res1, resL, resV, fillP, splice, newRow, Nat.reduceEqDiff, Nat.reduceLT, Nat.reduceLeDiff, Nat.reduceAdd, Nat.reduceMul, Nat.reduceSub, Nat.reduceBEq, reduceCtorEq, ↓zR, zQ, Tr, StA, StT]
  refine hp _ _ ho2 ⟨Nat.le_trans hpush.1 hp2.1, fun i hi => ?_⟩
  rw [hp2.2 i (by simp; omega) (by omega)]
  exact hpush.2 i hi

theorem lays_get {w : Ln} {j n : Nat} (h : j < n) : (lays w n)[j]? = some (lay w j) := by
  unfold lays; rw [List.getElem?_map, List.getElem?_range h]; rfl
theorem lp_wcK {w : Ln} (hg : w.all isSign = true) (hw : w.length ≤ 10) {M N : Nat} (hMN : M ≤ N) (hN : N ≤ 100) (hC : ∀ j, j ≤ M → cntP j w < 2 ^ 62) {h0 : AH} {o : AV} {vs : List SV} (ho : Slc 1 encV h0 o vs) (hll : LL h0 o vs (lays w (N + 1))) {R : X → Env → AH → Prop} :
    ∀ (d j : Nat) (vc : AV) (h : AH), j + d = M → Slc 1 encI h vc ((lay w j).map fun u => (pc w j u : Int)) → Pre h0 h →
    (∀ v' h', Slc 1 encI h' v' ((lay w M).map fun u => (pc w M u : Int)) → Pre h0 h' → R (.exit 0) [(6, v')] h') →
    Cx (.loop lp95_0) [(1, .int .i64 M), (5, o), (6, vc), (7, .int .i64 ((j : Int) + 1))] h R k k
  | 0, j, vc, h, hj, hs, hp, hR => by
    obtain rfl : j = M := by omega
    have hgt : ¬ (j : Int) + 1 ≤ (j : Int) := by omega
    rw [w_loopb (c := lp95_0) (d := lb95_0) rfl]; unfold lb95_0
    simp (maxSteps := 1000000) (disch := first | omega | rfl | (simp only [zL, two63, room] <;> omega) | fail) only [↓reduceIte, ↓zP, zW, WOp, evOp, evBin, binI, binSh, binS, evNil, keyIs, keyEq, mkv, AV.cells, AV.sc, optv, bnd, env, put, Env.get, Env.set, Env.del, Env.dels, Env.init, res1, resL, resV, fillP, splice, newRow, Nat.reduceEqDiff, Nat.reduceLT, Nat.reduceLeDiff, Nat.reduceAdd, Nat.reduceMul, Nat.reduceSub, Nat.reduceBEq, reduceCtorEq, ↓zR, zQ, Tr, StA, StT, hgt]
    exact hR vc h hs hp
  | d + 1, j, vc, h, hj, hs, hp, hR => by
    have ih := lp_wcK hg hw hMN hN hC ho hll (R := R) d (j + 1)
    have hle : (j : Int) + 1 ≤ (M : Int) := by omega
    have hvl : vs.length = N + 1 := by have := hll.1; simpa [lays] using this
    have ho' := ho.pre hp
    obtain ⟨c, kk, off, hov, hr1⟩ := ho'.get hlV (i := j) (by omega)
    obtain ⟨c', kk', off', hov', hr2⟩ := ho'.get hlV (i := j + 1) (by omega)
    rw [hov] at hov'
    simp only [AV.slice.injEq] at hov'
    obtain ⟨e1, e2, e3, _, _⟩ := hov'
    subst e1; subst e2; subst e3
    have hr1' : rdRow h c kk (off + j * 1) 1 = some [vs[j].1] := hr1
    have hr2' : rdRow h c kk (off + (j + 1) * 1) 1 = some [vs[j + 1].1] := hr2
    have hs1 := ((hll.2 j (vs[j]) (lay w j) (by simp) (lays_get (by omega))).1).pre hp
    have hs2 := ((hll.2 (j + 1) (vs[j + 1]) (lay w (j + 1)) (by simp) (lays_get (by omega))).1).pre hp
    have hgl := lay_good hg j
    have hgl2 := (lay_good hg (j + 1)).len hw
    have hsub : (j : Int) + 1 - 1 = (j : Int) := by omega
    have hlt1 : (j : Int) < (vs.length : Int) := by omega
    have hlt2 : (j : Int) + 1 < (vs.length : Int) := by omega
    have ht2 : ((j : Int) + 1).toNat = j + 1 := by omega
    have hw1 : (j : Int) + 1 + 1 = ((j + 1 : Nat) : Int) + 1 := by omega
    subst hov
    rw [w_loopb (c := lp95_0) (d := lb95_0) rfl]; unfold lb95_0
    simp (maxSteps := 1000000) (disch := first | omega | rfl | (simp only [zL, two63, room] <;> omega) | fail) only [↓reduceIte, ↓zP, zW, WOp, evOp, evBin, binI, binSh, binS, evNil, keyIs, keyEq, mkv, AV.cells, AV.sc, optv, bnd, env, put, Env.get, Env.set, Env.del, Env.dels, Env.init, res1, resL, resV, fillP, splice, newRow, Nat.reduceEqDiff, Nat.reduceLT, Nat.reduceLeDiff, Nat.reduceAdd, Nat.reduceMul, Nat.reduceSub, Nat.reduceBEq, reduceCtorEq, ↓zR, zQ, Tr, StA, StT, hle, hsub, hlt1, hlt2, ht2, hr1', hr2']
    refine c_reCounts hw hgl (p := pc w j) (layer := lay w (j + 1)) hgl2 hs hs2 hs1 (fun x hx => ?_) ?_
    · have h1 := pc_le w (j + 1) hx
      have h2 := hC (j + 1) (by omega)
      exact Nat.lt_of_le_of_lt h1 h2
    intro v' h' ho2 hp2
    simp (maxSteps := 1000000) (disch := first | omega | rfl | (simp only [zL, two63, room] <;> omega) | fail) only [↓reduceIte, ↓zP, zW, WOp, evOp, evBin, binI, binSh, binS, evNil, keyIs, keyEq, mkv, AV.cells, AV.sc, optv, bnd, env, put, Env.get, Env.set, Env.del, Env.dels, Env.init, res1, resL, resV, fillP, splice, newRow, Nat.reduceEqDiff, Nat.reduceLT, Nat.reduceLeDiff, Nat.reduceAdd, Nat.reduceMul, Nat.reduceSub, Nat.reduceBEq, reduceCtorEq, ↓zR, zQ, Tr, StA, StT, hw1]
    rw [w_loopn (c := lp95_0) rfl]
    simp (maxSteps := 1000000) (disch := first | omega | rfl | (simp only [zL, two63, room] <;> omega) | fail) only [↓reduceIte, ↓zP, zW, WOp, evOp, evBin, binI, binSh, binS, evNil, keyIs, keyEq, mkv, AV.cells, AV.sc, optv, bnd, env, put, Env.get, Env.set, Env.del, Env.dels, Env.init, res1, resL, resV, fillP, splice, newRow, Nat.reduceEqDiff, Nat.reduceLT, Nat.reduceLeDiff, Nat.reduceAdd, Nat.reduceMul, Nat.reduceSub, Nat.reduceBEq, reduceCtorEq, ↓zR, zQ, Tr, StA, StT]
    exact ih v' h' (by omega) ho2.slc (hp.trans hp2) hR
theorem lp_wcS {vc : AV} {L : List Nat} (hL : L.length ≤ 59049) {h : AH} (hs : Slc 1 encI h vc (L.map fun (n : Nat) => (n : Int))) (hB : L.sum < 2 ^ 62) {R : X → Env → AH → Prop} : ∀ (rest pre : List Nat), L = pre ++ rest →
    R (.exit 2) [(8, .int .i64 (L.sum : Nat))] h → Cx (.loop lp95_1) [(8, .int .i64 (pre.sum : Nat)), (34, vc), (35, .int .i64 L.length), (36, .int .i64 pre.length)] h R k k
  | [], pre, hpre, hR => by
    have hl : L.length = pre.length := by rw [hpre]; simp
    have hsum : L.sum = pre.sum := by rw [hpre]; simp
    rw [hsum] at hR
    rw [w_loopb (c := lp95_1) (d := lb95_1) rfl]; unfold lb95_1
    rw [hl]
    simp (maxSteps := 1000000) (disch := first | omega | rfl | (simp only [zL, two63, room] <;> omega) | fail) only [↓reduceIte, ↓zP, zW, WOp, evOp, evBin, binI, binSh, binS, evNil, keyIs, keyEq, mkv, AV.cells, AV.sc, optv, bnd, env, put, Env.get, Env.set, Env.del, Env.dels, Env.init, res1, resL, resV, fillP, splice, newRow, Nat.reduceEqDiff, Nat.reduceLT, Nat.reduceLeDiff, Nat.reduceAdd, Nat.reduceMul, Nat.reduceSub, Nat.reduceBEq, reduceCtorEq, ↓zR, zQ, Tr, StA, StT]
    exact hR
  | n :: rest, pre, hpre, hR => by
    have ih := lp_wcS hL hs hB (R := R) rest (pre ++ [n])
    have hml : L.length = pre.length + 1 + rest.length := by rw [hpre]; simp; omega
    have hsm : L.sum = pre.sum + n + rest.sum := by rw [hpre]; simp; omega
    have hs' := hs
    rw [hpre, List.map_append, List.map_cons] at hs'
    obtain ⟨r1, k1, o1, hv1, hr⟩ := hs'.at hlI
    have hlen : ((pre.map fun (n : Nat) => (n : Int)) ++ (n : Int) :: rest.map fun (n : Nat) => (n : Int)).length = L.length := by rw [hml]; simp; omega
    rw [hlen] at hv1
    simp only [List.length_map] at hr
    have hr' : rdRow h r1 k1 (o1 + pre.length * 1) 1 = some [.int .i64 (n : Int)] := hr
    have hlt : (pre.length : Int) < (L.length : Int) := by omega
    have hw1 : (pre.length : Int) + 1 = ((pre ++ [n]).length : Int) := by simp
    have hs1 : ((pre.sum : Nat) : Int) + (n : Int) = (((pre ++ [n]).sum : Nat) : Int) := by simp
    subst hv1
    rw [w_loopb (c := lp95_1) (d := lb95_1) rfl]; unfold lb95_1
    simp (maxSteps := 1000000) (disch := first | omega | rfl | (simp only [zL, two63, room] <;> omega) | fail) only [↓reduceIte, ↓zP, zW, WOp, evOp, evBin, binI, binSh, binS, evNil, keyIs, keyEq, mkv, AV.cells, AV.sc, optv, bnd, env, put, Env.get, Env.set, Env.del, Env.dels, Env.init, res1, resL, resV, fillP, splice, newRow, Nat.reduceEqDiff, Nat.reduceLT, Nat.reduceLeDiff, Nat.reduceAdd, Nat.reduceMul, Nat.reduceSub, Nat.reduceBEq, reduceCtorEq, ↓zR, zQ, Tr, StA, StT, hlt, hr']
    simp (maxSteps := 1000000) (disch := first | omega | rfl | (simp only [zL, two63, room] <;> omega) | fail) only [↓reduceIte, ↓zP, zW, WOp, evOp, evBin, binI, binSh, binS, evNil, keyIs, keyEq, mkv, AV.cells, AV.sc, optv, bnd, env, put, Env.get, Env.set, Env.del, Env.dels, Env.init, res1, resL, resV, fillP, splice, newRow, Nat.reduceEqDiff, Nat.reduceLT, Nat.reduceLeDiff, Nat.reduceAdd, Nat.reduceMul, Nat.reduceSub, Nat.reduceBEq, reduceCtorEq, ↓zR, zQ, Tr, StA, StT, hw1, hs1]
    rw [w_loopn (c := lp95_1) rfl]
    simp (maxSteps := 1000000) (disch := first | omega | rfl | (simp only [zL, two63, room] <;> omega) | fail) only [↓reduceIte, ↓zP, zW, WOp, evOp, evBin, binI, binSh, binS, evNil, keyIs, keyEq, mkv, AV.cells, AV.sc, optv, bnd, env, put, Env.get, Env.set, Env.del, Env.dels, Env.init, res1, resL, resV, fillP, splice, newRow, Nat.reduceEqDiff, Nat.reduceLT, Nat.reduceLeDiff, Nat.reduceAdd, Nat.reduceMul, Nat.reduceSub, Nat.reduceBEq, reduceCtorEq, ↓zR, zQ, Tr, StA, StT]
    exact ih (by rw [hpre]; simp) hR
theorem c_woCount (w : Ln) (hg : w.all isSign = true) (hw : w.length ≤ 10) (M : Nat) (hM : M ≤ 100) (hC : ∀ j, j ≤ M → cntP j w < 2 ^ 62) {h : AH} {post : AV → AH → Prop} (hp : ∀ h', Pre h h' → post (.int .i64 (cntP M w : Nat)) h') : S 95 [.str w, .int .i64 M] h post k := by
  refine S_of rfl T95 ?_; unfold fi95
  simp (maxSteps := 1000000) (disch := first | omega | rfl | (simp only [zL, two63, room] <;> omega) | fail) only [↓reduceIte, ↓zP, zW, WOp, evOp, evBin, binI, binSh, binS, evNil, keyIs, keyEq, mkv, AV.cells, AV.sc, optv, bnd, env, put, Env.get, Env.set, Env.del, Env.dels, Env.init, res1, resL, resV, fillP, splice, newRow, Nat.reduceEqDiff, Nat.reduceLT, Nat.reduceLeDiff, Nat.reduceAdd, Nat.reduceMul, Nat.reduceSub, Nat.reduceBEq, reduceCtorEq, ↓zR, zQ, Tr, StA, StT]
  refine c_reLayers w hg hw ?_
  intro o h2 vs N hend hN ho hll hp2
  have hvl : vs.length = N + 1 := by have := hll.1; simpa [lays] using this
  have hv := fun g => Slc.lenV (ho.slc) (g := g) (ρ := fun _ => _) (x := .t 0) rfl; simp only [evOp] at hv
  by_cases hge : N + 1 ≤ M
  · have hge' : (vs.length : Int) ≤ (M : Int) := by omega
    have h0 : cntP M w = 0 := by
      rw [← pc_sum0, show M = N + 1 + (M - (N + 1)) by omega, lay_empty w hend]; rfl
    rw [h0] at hp
    simp (maxSteps := 1000000) (disch := first | omega | rfl | (simp only [zL, two63, room] <;> omega) | fail) only [↓reduceIte, ↓zP, zW, WOp, evOp, evBin, binI, binSh, binS, evNil, keyIs, keyEq, mkv, AV.cells, AV.sc, optv, bnd, env, put, Env.get, Env.set, Env.del, Env.dels, Env.init, res1, resL, resV, fillP, splice, newRow, Nat.reduceEqDiff, Nat.reduceLT, Nat.reduceLeDiff, Nat.reduceAdd, Nat.reduceMul, Nat.reduceSub, Nat.reduceBEq, reduceCtorEq, ↓zR, zQ, Tr, StA, StT, hv, hge']
    exact hp h2 hp2
  · have hge' : ¬ (vs.length : Int) ≤ (M : Int) := by omega
    have hpx := Pre.push h2 (AO.row [.int .i64 1] 0 0 false)
    have h01 : (1 : Int) = ((0 : Nat) : Int) + 1 := rfl
    have hz : (0 : Int) = (([] : List Nat).sum : Nat) := rfl
    simp (maxSteps := 1000000) (disch := first | omega | rfl | (simp only [zL, two63, room] <;> omega) | fail) only [↓reduceIte, ↓zP, zW, WOp, evOp, evBin, binI, binSh, binS, evNil, keyIs, keyEq, mkv, AV.cells, AV.sc, optv, bnd, env, put, Env.get, Env.set, Env.del, Env.dels, Env.init, res1, resL, resV, fillP, splice, newRow, Nat.reduceEqDiff, Nat.reduceLT, Nat.reduceLeDiff, Nat.reduceAdd, Nat.reduceMul, Nat.reduceSub, Nat.reduceBEq, reduceCtorEq, ↓zR, zQ, Tr, StA, StT, hv, hge']
    refine lp_wcK hg hw (M := M) (N := N) (by omega) hN hC (ho.slc.pre hpx) (hll.pre hpx) M 0 _ _ (by omega) ?_ (Pre.refl _) ?_
    · unfold Slc Sl
      exact ⟨rfl, rfl, rfl, by rw [rd_last, if_pos (by simp [lay])]; rfl⟩
    intro vc h3 hs3 hp3
    have hlc := (lay_good hg M).len hw
    have hs3' : Slc 1 encI h3 vc (((lay w M).map (pc w M)).map fun (n : Nat) => (n : Int)) := by rw [List.map_map]; exact hs3
    have hv3 := fun g => Slc.lenV (hs3') (g := g) (ρ := fun _ => _) (x := .t 0) rfl; simp only [evOp] at hv3
    have hl3 : ((((lay w M).map (pc w M)).map fun (n : Nat) => (n : Int)).length : Int) = (((lay w M).map (pc w M)).length : Int) := by simp
    simp (maxSteps := 1000000) (disch := first | omega | rfl | (simp only [zL, two63, room] <;> omega) | fail) only [↓reduceIte, ↓zP, zW, WOp, evOp, evBin, binI, binSh, binS, evNil, keyIs, keyEq, mkv, AV.cells, AV.sc, optv, bnd, env, put, Env.get, Env.set, Env.del, Env.dels, Env.init, res1, resL, resV, fillP, splice, newRow, Nat.reduceEqDiff, Nat.reduceLT, Nat.reduceLeDiff, Nat.reduceAdd, Nat.reduceMul, Nat.reduceSub, Nat.reduceBEq, reduceCtorEq, ↓zR, zQ, Tr, StA, StT, hv3, hl3]
    refine lp_wcS (L := (lay w M).map (pc w M)) (by simpa using hlc) hs3' (by rw [pc_sum0]; exact hC M (Nat.le_refl _)) _ [] rfl ?_
    rw [pc_sum0]
    simp (maxSteps := 1000000) (disch := first | omega | rfl | (simp only [zL, two63, room] <;> omega) | fail) only [↓reduceIte, ↓zP, zW, WOp, evOp, evBin, binI, binSh, binS, evNil, keyIs, keyEq, mkv, AV.cells, AV.sc, optv, bnd, env, put, Env.get, Env.set, Env.del, Env.dels, Env.init, res1, resL, resV, fillP, splice, newRow, Nat.reduceEqDiff, Nat.reduceLT, Nat.reduceLeDiff, Nat.reduceAdd, Nat.reduceMul, Nat.reduceSub, Nat.reduceBEq, reduceCtorEq, ↓zR, zQ, Tr, StA, StT]
    exact hp h3 ((hp2.trans hpx).trans hp3)
/-! ### All words -/
theorem lp_woA1 {s : UInt8} {t0 t1 t14 t15 t16 vw : AV} {W : List Ln} (hW : W.length ≤ 300) (hwl : ∀ x ∈ W, x.length ≤ 100) {h0 : AH} (hsw : Slc 1 encS h0 vw W) {b : AH} {R : X → Env → AH → Prop} :
    ∀ (rest pre : List Ln) (o : AV) (acc : List Ln) (h : AH), W = pre ++ rest → acc.length + rest.length ≤ 300 → OwL 1 encS b h o acc → Pre b h → (∀ r, rowOf vw = some r → r < b.length ∨ rowOf o ≠ some r) → Slc 1 encS h vw W →
    (∀ o' h', OwL 1 encS b h' o' (acc ++ rest.map (s :: ·)) → Pre b h' → R (.exit 2) [(0, t0), (1, t1), (5, o'), (14, t14), (15, t15), (16, t16)] h') →
    Cx (.loop lp93_1) [(0, t0), (1, t1), (5, o), (7, .str [s]), (14, t14), (15, t15), (16, t16), (36, vw), (37, .int .i64 W.length), (38, .int .i64 pre.length)] h R k k
  | [], pre, o, acc, h, hpre, hal, ho, hp, hd, hs, hR => by
    have hl : W.length = pre.length := by rw [hpre]; simp
    rw [w_loopb (c := lp93_1) (d := lb93_1) rfl]; unfold lb93_1
    rw [hl]
    simp (maxSteps := 1000000) (disch := first | omega | rfl | (simp only [zL, two63, room] <;> omega) | fail) only [↓reduceIte, ↓zP, zW, WOp, evOp, evBin, binI, binSh, binS, evNil, keyIs, keyEq, mkv, AV.cells, AV.sc, optv, bnd, env, put, Env.get, Env.set, Env.del, Env.dels, Env.init, res1, resL, resV, fillP, splice, newRow, Nat.reduceEqDiff, Nat.reduceLT, Nat.reduceLeDiff, Nat.reduceAdd, Nat.reduceMul, Nat.reduceSub, Nat.reduceBEq, reduceCtorEq, ↓zR, zQ, Tr, StA, StT]
    exact hR o h (by simpa using ho) hp
  | x :: rest, pre, o, acc, h, hpre, hal, ho, hp, hd, hs, hR => by
    have ih := lp_woA1 hW hwl hsw (s := s) (t0 := t0) (t1 := t1) (t14 := t14) (t15 := t15) (t16 := t16) (b := b) (R := R) rest (pre ++ [x])
    have hml : W.length = pre.length + 1 + rest.length := by rw [hpre]; simp; omega
    have hxl := hwl x (by rw [hpre]; simp)
    have hs' := hs
    rw [hpre] at hs'
    obtain ⟨r1, k1, o1, hv1, hr⟩ := hs'.at hlS
    rw [← hpre, hml] at hv1
    subst hv1
    rw [hml] at ih ⊢
    have hlt : (pre.length : Int) < ((pre.length + 1 + rest.length : Nat) : Int) := by omega
    have hw1 : (pre.length : Int) + 1 = ((pre ++ [x]).length : Int) := by simp
    have hpx := Pre.push h (AO.row [.str (s :: x)] 0 0 false)
    simp only [List.length_cons] at hal
    obtain ⟨o3, h3, ha, ho3, hp3⟩ := apL hlS scS (ho.pre hpx) (hp.trans hpx) (s :: x) (by omega)
    obtain ⟨f1, f2, f3⟩ := apRow_fr ha
    have hr1b := hd r1 rfl
    have hr1l := hs.lt (r := r1) rfl
    rw [w_loopb (c := lp93_1) (d := lb93_1) rfl]; unfold lb93_1
    simp (maxSteps := 1000000) (disch := first | omega | rfl | (simp only [zL, two63, room] <;> omega) | fail) only [↓reduceIte, ↓zP, zW, WOp, evOp, evBin, binI, binSh, binS, evNil, keyIs, keyEq, mkv, AV.cells, AV.sc, optv, bnd, env, put, Env.get, Env.set, Env.del, Env.dels, Env.init, res1, resL, resV, fillP, splice, newRow, Nat.reduceEqDiff, Nat.reduceLT, Nat.reduceLeDiff, Nat.reduceAdd, Nat.reduceMul, Nat.reduceSub, Nat.reduceBEq, reduceCtorEq, ↓zR, zQ, Tr, StA, StT, hlt, hr, ha]
    simp (maxSteps := 1000000) (disch := first | omega | rfl | (simp only [zL, two63, room] <;> omega) | fail) only [↓reduceIte, ↓zP, zW, WOp, evOp, evBin, binI, binSh, binS, evNil, keyIs, keyEq, mkv, AV.cells, AV.sc, optv, bnd, env, put, Env.get, Env.set, Env.del, Env.dels, Env.init, res1, resL, resV, fillP, splice, newRow, Nat.reduceEqDiff, Nat.reduceLT, Nat.reduceLeDiff, Nat.reduceAdd, Nat.reduceMul, Nat.reduceSub, Nat.reduceBEq, reduceCtorEq, ↓zR, zQ, Tr, StA, StT, hw1]
    rw [w_loopn (c := lp93_1) rfl]
    simp (maxSteps := 1000000) (disch := first | omega | rfl | (simp only [zL, two63, room] <;> omega) | fail) only [↓reduceIte, ↓zP, zW, WOp, evOp, evBin, binI, binSh, binS, evNil, keyIs, keyEq, mkv, AV.cells, AV.sc, optv, bnd, env, put, Env.get, Env.set, Env.del, Env.dels, Env.init, res1, resL, resV, fillP, splice, newRow, Nat.reduceEqDiff, Nat.reduceLT, Nat.reduceLeDiff, Nat.reduceAdd, Nat.reduceMul, Nat.reduceSub, Nat.reduceBEq, reduceCtorEq, ↓zR, zQ, Tr, StA, StT]
    refine ih o3 (acc ++ [s :: x]) h3 (by rw [hpre]; simp) (by simp; omega) ho3 hp3 (fun r hr => ?_) ?_ ?_
    · cases hr
      by_cases hb : r1 < b.length
      · exact .inl hb
      · right
        intro e
        rcases f3 r1 e with h1 | h1
        · exact (hr1b.resolve_left hb) h1
        · simp at h1; omega
    · refine (hs.pre hpx).stay fun r hr => ?_
      cases hr
      by_cases hb : r1 < b.length
      · rw [hp3.2 r1 hb, (hp.trans hpx).2 r1 hb]
      · exact f1 r1 (by simp; omega) (hr1b.resolve_left hb)
    · intro o' h' ho' hp'
      exact hR o' h' (by simpa using ho') hp'
def WoAt (j : Nat) : Prop := ∀ (w : Ln) (h : AH), oneGap w → w.length ≤ 10 → j ≤ 40 → cntP j w ≤ 300 → ∀ post : AV → AH → Prop, (∀ v' h', OwL 1 encS h h' v' (words j w) → Pre h h' → post v' h') → S 93 [.str w, .int .i64 j] h post k
theorem words_mem_len : ∀ (j : Nat) (w x : Ln), x ∈ words j w → x.length = j
  | 0, w, x, h => by simp [words] at h; subst h; rfl
  | j + 1, w, x, h => by
    unfold words at h
    rw [List.mem_append] at h
    rcases h with h | h
    all_goals
      obtain ⟨v, _, hv⟩ := List.mem_flatMap.1 h
      obtain ⟨y, hy, rfl⟩ := List.mem_map.1 hv
      rw [List.length_cons, words_mem_len j v y hy]
theorem liB_eq (w : Ln) (tf ff : Bool) : liMovesB w tf ff = movesB w (kindsS tf ff) := liMovesB_eq w tf ff
/-- One kind's part of the words. -/
def part (s : UInt8) (j : Nat) (w : Ln) : List Ln := (nextB w [s]).flatMap fun v => (words j v).map (s :: ·)
theorem words_succ (j : Nat) (w : Ln) : words (j + 1) w = part 70 j w ++ part 84 j w := rfl
theorem c_woAll : ∀ j : Nat, WoAt j
  | 0 => by
    intro w h hg hw hj hc post hp
    refine S_of rfl T93 ?_; unfold fi93
    simp (maxSteps := 1000000) (disch := first | omega | rfl | (simp only [zL, two63, room] <;> omega) | fail) only [↓reduceIte, ↓zP, zW, WOp, evOp, evBin, binI, binSh, binS, evNil, keyIs, keyEq, mkv, AV.cells, AV.sc, optv, bnd, env, put, Env.get, Env.set, Env.del, Env.dels, Env.init, res1, resL, resV, fillP, splice, newRow, Nat.reduceEqDiff, Nat.reduceLT, Nat.reduceLeDiff, Nat.reduceAdd, Nat.reduceMul, Nat.reduceSub, Nat.reduceBEq, reduceCtorEq, ↓zR, zQ, Tr, StA, StT]
    refine hp _ _ ?_ (Pre.push _ _)
    unfold OwL Own
    exact ⟨rfl, rfl, rfl, Nat.le_refl _, [.str []], 0, by simp, Nat.le_refl _, rfl, rfl⟩
  | j + 1 => by
    intro w h hg hw hj hc post hp
    have ih := c_woAll j
    have hne : (((j + 1 : Nat) : Int) == 0) = false := by rw [beq_eq_false_iff_ne]; omega
    have hsub : ((j + 1 : Nat) : Int) - 1 = (j : Int) := by omega
    have hlen : (words (j + 1) w).length ≤ 300 := by rw [words_len]; exact hc
    rw [words_succ, List.length_append] at hlen
    have p1 := Pre.push h (AO.row [.str [70], .str [84]] 0 0 false)
    have rd0 : rdRow (h ++ [AO.row [.str [70], .str [84]] 0 0 false]) h.length 0 0 1 = some [.str [70]] := by rw [rd_last, if_pos (by simp)]; simp
    have rd1 : rdRow (h ++ [AO.row [.str [70], .str [84]] 0 0 false]) h.length 0 1 1 = some [.str [84]] := by rw [rd_last, if_pos (by simp)]; simp
    -- one round
    have round : ∀ (s : UInt8) (tf ff : Bool), (s = 84 ∨ s = 70) → kindsS tf ff = [s] → (([s] : Ln) == [84]) = tf → (([s] : Ln) == [70]) = ff → ∀ (i : Nat) (h1 : AH) (o : AV) (acc : List Ln), i < 2 → rdRow h1 h.length 0 i 1 = some [.str [s]] → acc.length + (part s j w).length ≤ 300 →
        OwL 1 encS (h ++ [AO.row [.str [70], .str [84]] 0 0 false]) h1 o acc → Pre (h ++ [AO.row [.str [70], .str [84]] 0 0 false]) h1 → ∀ R : X → Env → AH → Prop,
        (∀ o' h', OwL 1 encS (h ++ [AO.row [.str [70], .str [84]] 0 0 false]) h' o' (acc ++ part s j w) → Pre (h ++ [AO.row [.str [70], .str [84]] 0 0 false]) h' → Cx (.loop lp93_0) [(0, .str w), (1, .int .i64 ((j + 1 : Nat) : Int)), (5, o'), (14, .slice h.length 0 0 2 1), (15, .int .i64 2), (16, .int .i64 ((i : Int) + 1))] h' R k k) →
        Cx (.loop lp93_0) [(0, .str w), (1, .int .i64 ((j + 1 : Nat) : Int)), (5, o), (14, .slice h.length 0 0 2 1), (15, .int .i64 2), (16, .int .i64 (i : Int))] h1 R k k := by
      intro s tf ff hs hk ht hf i h1 o acc hi hr hal ho hp1 R hR
      have hlt : (i : Int) < 2 := by omega
      have hr' : rdRow h1 h.length 0 (i * 1) 1 = some [.str [s]] := by rw [Nat.mul_one]; exact hr
      rw [w_loopb (c := lp93_0) (d := lb93_0) rfl]; unfold lb93_0
      simp (maxSteps := 1000000) (disch := first | omega | rfl | (simp only [zL, two63, room] <;> omega) | fail) only [↓reduceIte, ↓zP, zW, WOp, evOp, evBin, binI, binSh, binS, evNil, keyIs, keyEq, mkv, AV.cells, AV.sc, optv, bnd, env, put, Env.get, Env.set, Env.del, Env.dels, Env.init, res1, resL, resV, fillP, splice, newRow, Nat.reduceEqDiff, Nat.reduceLT, Nat.reduceLeDiff, Nat.reduceAdd, Nat.reduceMul, Nat.reduceSub, Nat.reduceBEq, reduceCtorEq, ↓zR, zQ, Tr, StA, StT, hlt, hr', ht, hf]
      refine c_liMoves w hg.1 (by omega) tf ff ?_
      intro vm h2 ho2 hp2
      rw [liB_eq, hk] at ho2
      have hvm := fun g => Slc.lenV (ho2.slc) (g := g) (ρ := fun _ => _) (x := .t 0) rfl; simp only [evOp] at hvm
      have hone := kind_one hg hs
      cases hmv : movesB w [s] with
      | nil =>
        rw [hmv] at hvm
        have hpn : part s j w = [] := by unfold part nextB; rw [hmv]; rfl
        rw [hpn, List.append_nil] at hR
        have z : ((([] : List (Int × Int)).length : Int) == 0) = true := rfl
        simp (maxSteps := 1000000) (disch := first | omega | rfl | (simp only [zL, two63, room] <;> omega) | fail) only [↓reduceIte, ↓zP, zW, WOp, evOp, evBin, binI, binSh, binS, evNil, keyIs, keyEq, mkv, AV.cells, AV.sc, optv, bnd, env, put, Env.get, Env.set, Env.del, Env.dels, Env.init, res1, resL, resV, fillP, splice, newRow, Nat.reduceEqDiff, Nat.reduceLT, Nat.reduceLeDiff, Nat.reduceAdd, Nat.reduceMul, Nat.reduceSub, Nat.reduceBEq, reduceCtorEq, ↓zR, zQ, Tr, StA, StT, hvm, z]
        rw [w_loopn (c := lp93_0) rfl]
        simp (maxSteps := 1000000) (disch := first | omega | rfl | (simp only [zL, two63, room] <;> omega) | fail) only [↓reduceIte, ↓zP, zW, WOp, evOp, evBin, binI, binSh, binS, evNil, keyIs, keyEq, mkv, AV.cells, AV.sc, optv, bnd, env, put, Env.get, Env.set, Env.del, Env.dels, Env.init, res1, resL, resV, fillP, splice, newRow, Nat.reduceEqDiff, Nat.reduceLT, Nat.reduceLeDiff, Nat.reduceAdd, Nat.reduceMul, Nat.reduceSub, Nat.reduceBEq, reduceCtorEq, ↓zR, zQ, Tr, StA, StT]
        exact hR o h2 (ho.pre hp2) (hp1.trans hp2)
      | cons m ms =>
        have hms : ms = [] := by
          have : (nextB w [s]).length = ms.length + 1 := by unfold nextB; rw [hmv]; simp
          exact List.eq_nil_of_length_eq_zero (by omega)
        subst hms
        obtain ⟨i', t', rfl, hmv'⟩ := movesB_mv (show m ∈ movesB w [s] by rw [hmv]; simp)
        have hnx : nextB w [s] = [madeB w i' t'] := by unfold nextB; rw [hmv]; rfl
        have hpn : part s j w = (words j (madeB w i' t')).map (s :: ·) := by unfold part; rw [hnx]; simp
        rw [hmv] at hvm ho2
        have z : ((([((i' : Int), (t' : Int))] : List (Int × Int)).length : Int) == 0) = false := rfl
        obtain ⟨c, kk, off, rfl, hr0⟩ := ho2.slc.at hlM (pre := []) (rest := [])
        have hr0' : rdRow h2 c kk (off + Int.toNat 0 * 2) 2 = some (encM ((i' : Int), (t' : Int))) := hr0
        simp (maxSteps := 1000000) (disch := first | omega | rfl | (simp only [zL, two63, room] <;> omega) | fail) only [↓reduceIte, ↓zP, zW, WOp, evOp, evBin, binI, binSh, binS, evNil, keyIs, keyEq, mkv, AV.cells, AV.sc, optv, bnd, env, put, Env.get, Env.set, Env.del, Env.dels, Env.init, res1, resL, resV, fillP, splice, newRow, Nat.reduceEqDiff, Nat.reduceLT, Nat.reduceLeDiff, Nat.reduceAdd, Nat.reduceMul, Nat.reduceSub, Nat.reduceBEq, reduceCtorEq, ↓zR, zQ, Tr, StA, StT, hvm, z, hr0']
        refine c_liMake w i' t' hmv'.fst hmv'.snd hmv'.ne (by omega) ?_
        intro h3 hp3
        simp (maxSteps := 1000000) (disch := first | omega | rfl | (simp only [zL, two63, room] <;> omega) | fail) only [↓reduceIte, ↓zP, zW, WOp, evOp, evBin, binI, binSh, binS, evNil, keyIs, keyEq, mkv, AV.cells, AV.sc, optv, bnd, env, put, Env.get, Env.set, Env.del, Env.dels, Env.init, res1, resL, resV, fillP, splice, newRow, Nat.reduceEqDiff, Nat.reduceLT, Nat.reduceLeDiff, Nat.reduceAdd, Nat.reduceMul, Nat.reduceSub, Nat.reduceBEq, reduceCtorEq, ↓zR, zQ, Tr, StA, StT, hsub]
        have hcn : cntP j (madeB w i' t') ≤ 300 := Nat.le_trans (cntP_next (s := [s]) (by rw [hnx]; simp) (by rcases hs with rfl | rfl <;> simp)) hc
        have hgn : oneGap (madeB w i' t') := hg.next (kinds := [s]) (by rw [hnx]; simp)
        refine ih (madeB w i' t') h3 hgn (by rw [madeB_length]; exact hw) (by omega) hcn _ ?_
        intro vw h4 ho4 hp4
        have hvw := fun g => Slc.lenV (ho4.slc) (g := g) (ρ := fun _ => _) (x := .t 0) rfl; simp only [evOp] at hvw
        have hwl := words_len j (madeB w i' t')
        simp (maxSteps := 1000000) (disch := first | omega | rfl | (simp only [zL, two63, room] <;> omega) | fail) only [↓reduceIte, ↓zP, zW, WOp, evOp, evBin, binI, binSh, binS, evNil, keyIs, keyEq, mkv, AV.cells, AV.sc, optv, bnd, env, put, Env.get, Env.set, Env.del, Env.dels, Env.init, res1, resL, resV, fillP, splice, newRow, Nat.reduceEqDiff, Nat.reduceLT, Nat.reduceLeDiff, Nat.reduceAdd, Nat.reduceMul, Nat.reduceSub, Nat.reduceBEq, reduceCtorEq, ↓zR, zQ, Tr, StA, StT, hvw]
        have hp14 := hp1.trans (hp2.trans (hp3.trans hp4))
        refine lp_woA1 (s := s) (W := words j (madeB w i' t')) (by omega) (fun x hx => by rw [words_mem_len j _ x hx]; omega) ho4.slc (words j (madeB w i' t')) [] o acc h4 rfl (by rw [hpn, List.length_map] at hal; omega) (ho.pre (hp2.trans (hp3.trans hp4))) hp14 (fun r hr => .inr fun e => ?_) ho4.slc ?_
        · have h1 := own_ge ho4 hr
          have h2 := own_lt ho e
          have := (hp2.trans hp3).1
          omega
        intro o' h' ho' hp'
        simp (maxSteps := 1000000) (disch := first | omega | rfl | (simp only [zL, two63, room] <;> omega) | fail) only [↓reduceIte, ↓zP, zW, WOp, evOp, evBin, binI, binSh, binS, evNil, keyIs, keyEq, mkv, AV.cells, AV.sc, optv, bnd, env, put, Env.get, Env.set, Env.del, Env.dels, Env.init, res1, resL, resV, fillP, splice, newRow, Nat.reduceEqDiff, Nat.reduceLT, Nat.reduceLeDiff, Nat.reduceAdd, Nat.reduceMul, Nat.reduceSub, Nat.reduceBEq, reduceCtorEq, ↓zR, zQ, Tr, StA, StT]
        rw [w_loopn (c := lp93_0) rfl]
        simp (maxSteps := 1000000) (disch := first | omega | rfl | (simp only [zL, two63, room] <;> omega) | fail) only [↓reduceIte, ↓zP, zW, WOp, evOp, evBin, binI, binSh, binS, evNil, keyIs, keyEq, mkv, AV.cells, AV.sc, optv, bnd, env, put, Env.get, Env.set, Env.del, Env.dels, Env.init, res1, resL, resV, fillP, splice, newRow, Nat.reduceEqDiff, Nat.reduceLT, Nat.reduceLeDiff, Nat.reduceAdd, Nat.reduceMul, Nat.reduceSub, Nat.reduceBEq, reduceCtorEq, ↓zR, zQ, Tr, StA, StT]
        exact hR o' h' (by rw [hpn]; exact ho') hp'
    refine S_of rfl T93 ?_; unfold fi93
    simp (maxSteps := 1000000) (disch := first | omega | rfl | (simp only [zL, two63, room] <;> omega) | fail) only [↓reduceIte, ↓zP, zW, WOp, evOp, evBin, binI, binSh, binS, evNil, keyIs, keyEq, mkv, AV.cells, AV.sc, optv, bnd, env, put, Env.get, Env.set, Env.del, Env.dels, Env.init, res1, resL, resV, fillP, splice, newRow, Nat.reduceEqDiff, Nat.reduceLT, Nat.reduceLeDiff, Nat.reduceAdd, Nat.reduceMul, Nat.reduceSub, Nat.reduceBEq, reduceCtorEq, ↓zR, zQ, Tr, StA, StT, hne]
    refine round 70 false true (.inr rfl) rfl rfl rfl 0 _ .nilS [] (by omega) rd0 (by simp; omega) OwL.nil (Pre.refl _) _ ?_
    intro o1 h1 ho1 hp1
    refine round 84 true false (.inl rfl) rfl rfl rfl 1 h1 o1 _ (by omega) (rdRow_pre hp1 rd1) (by simp; omega) ho1 hp1 _ ?_
    intro o2 h2 ho2 hp2
    rw [w_loopb (c := lp93_0) (d := lb93_0) rfl]; unfold lb93_0
    simp (maxSteps := 1000000) (disch := first | omega | rfl | (simp only [zL, two63, room] <;> omega) | fail) only [↓reduceIte, ↓zP, zW, WOp, evOp, evBin, binI, binSh, binS, evNil, keyIs, keyEq, mkv, AV.cells, AV.sc, optv, bnd, env, put, Env.get, Env.set, Env.del, Env.dels, Env.init, res1, resL, resV, fillP, splice, newRow, Nat.reduceEqDiff, Nat.reduceLT, Nat.reduceLeDiff, Nat.reduceAdd, Nat.reduceMul, Nat.reduceSub, Nat.reduceBEq, reduceCtorEq, ↓zR, zQ, Tr, StA, StT]
    refine hp o2 h2 ?_ (p1.trans hp2)
    rw [words_succ]
    exact ho2.old (by simp)
end Go.Proofs.YthoibdfcaejgbaaDoor.Ab

/- WORDS counted by the program. -/
namespace Go.Proofs.YthoibdfcaejgbaaDoor.Ab
open Go
set_option maxRecDepth 100000
set_option maxHeartbeats 4000000

def oneB (w : Ln) : Bool := fewB w && ((w.count 46 : Nat) : Int) == 1
theorem fewB_iff {w : Ln} (h : fewB w = true) : w.all isSign = true ∧ 1 ≤ w.length ∧ w.length ≤ 10 := by
  simp only [fewB, goodLine, Bool.and_eq_true, decide_eq_true_eq] at h
  exact ⟨h.1.2, by omega, by omega⟩
theorem oneB_iff {w : Ln} (h : oneB w = true) : oneGap w ∧ w.length ≤ 10 := by
  simp only [oneB, Bool.and_eq_true, beq_iff_eq] at h
  obtain ⟨h1, h2⟩ := h
  obtain ⟨h3, h4, h5⟩ := fewB_iff h1
  exact ⟨⟨h3, by omega⟩, h5⟩
theorem few_eq (s : Ln) : (decide (1 ≤ (s.length : Int) ∧ (s.length : Int) ≤ 10) && s.all isSign) = fewB s := by
  unfold fewB goodLine
  rw [Bool.eq_iff_iff]
  simp only [Bool.and_eq_true, decide_eq_true_eq]
  constructor
  · rintro ⟨h1, h2⟩; exact ⟨⟨by omega, h2⟩, by omega⟩
  · rintro ⟨⟨h1, h2⟩, h3⟩; exact ⟨by omega, h2⟩
theorem e_woOne (s : Ln) (hs : s.length < 2 ^ 60) {h : AH} {post : AV → AH → Prop} : S 94 [.str s] h post k = post (.bool (oneB s)) h := by
  refine S_eq fun post hp => ?_
  unfold oneB at hp
  refine S_of rfl T94 ?_; unfold fi94
  simp (maxSteps := 1000000) (disch := first | omega | rfl | (simp only [zL, two63, room] <;> omega) | fail) only [↓reduceIte, ↓zP, zW, WOp, evOp, evBin, binI, binSh, binS, evNil, keyIs, keyEq, mkv, AV.cells, AV.sc, optv, bnd, env, put, Env.get, Env.set, Env.del, Env.dels, Env.init, res1, resL, resV, fillP, splice, newRow, Nat.reduceEqDiff, Nat.reduceLT, Nat.reduceLeDiff, Nat.reduceAdd, Nat.reduceMul, Nat.reduceSub, Nat.reduceBEq, reduceCtorEq, ↓zR, zQ, Tr, StA, StT, e_reFew s hs]
  cases e : fewB s
  · rw [e] at hp
    simp (maxSteps := 1000000) (disch := first | omega | rfl | (simp only [zL, two63, room] <;> omega) | fail) only [↓reduceIte, ↓zP, zW, WOp, evOp, evBin, binI, binSh, binS, evNil, keyIs, keyEq, mkv, AV.cells, AV.sc, optv, bnd, env, put, Env.get, Env.set, Env.del, Env.dels, Env.init, res1, resL, resV, fillP, splice, newRow, Nat.reduceEqDiff, Nat.reduceLT, Nat.reduceLeDiff, Nat.reduceAdd, Nat.reduceMul, Nat.reduceSub, Nat.reduceBEq, reduceCtorEq, ↓zR, zQ, Tr, StA, StT]
    exact hp
  · rw [e] at hp
    have hl := fewB_iff e
    simp (maxSteps := 1000000) (disch := first | omega | rfl | (simp only [zL, two63, room] <;> omega) | fail) only [↓reduceIte, ↓zP, zW, WOp, evOp, evBin, binI, binSh, binS, evNil, keyIs, keyEq, mkv, AV.cells, AV.sc, optv, bnd, env, put, Env.get, Env.set, Env.del, Env.dels, Env.init, res1, resL, resV, fillP, splice, newRow, Nat.reduceEqDiff, Nat.reduceLT, Nat.reduceLeDiff, Nat.reduceAdd, Nat.reduceMul, Nat.reduceSub, Nat.reduceBEq, reduceCtorEq, ↓zR, zQ, Tr, StA, StT, e_liCountD s (by omega)]
    simpa using hp
theorem e_isReachLine (s : Ln) (hs : s.length < 2 ^ 60) {h : AH} {post : AV → AH → Prop} : S 56 [.str s] h post k = post (.bool (fewB s)) h := by
  refine S_eq fun post hp => ?_
  refine S_of rfl T56 ?_; unfold fi56
  simp (maxSteps := 1000000) (disch := first | omega | rfl | (simp only [zL, two63, room] <;> omega) | fail) only [↓reduceIte, ↓zP, zW, WOp, evOp, evBin, binI, binSh, binS, evNil, keyIs, keyEq, mkv, AV.cells, AV.sc, optv, bnd, env, put, Env.get, Env.set, Env.del, Env.dels, Env.init, res1, resL, resV, fillP, splice, newRow, Nat.reduceEqDiff, Nat.reduceLT, Nat.reduceLeDiff, Nat.reduceAdd, Nat.reduceMul, Nat.reduceSub, Nat.reduceBEq, reduceCtorEq, ↓zR, zQ, Tr, StA, StT]
  refine c_isLineOf s 10 (by omega) hs ?_
  rw [few_eq]
  simp (maxSteps := 1000000) (disch := first | omega | rfl | (simp only [zL, two63, room] <;> omega) | fail) only [↓reduceIte, ↓zP, zW, WOp, evOp, evBin, binI, binSh, binS, evNil, keyIs, keyEq, mkv, AV.cells, AV.sc, optv, bnd, env, put, Env.get, Env.set, Env.del, Env.dels, Env.init, res1, resL, resV, fillP, splice, newRow, Nat.reduceEqDiff, Nat.reduceLT, Nat.reduceLeDiff, Nat.reduceAdd, Nat.reduceMul, Nat.reduceSub, Nat.reduceBEq, reduceCtorEq, ↓zR, zQ, Tr, StA, StT]
  exact hp
theorem cntb (c : UInt8) (s : Ln) : Go.Lib.countByte s c = s.count c := rfl
theorem e_hasOneGap (s : Ln) (hs : s.length < 2 ^ 60) {h : AH} {post : AV → AH → Prop} : S 121 [.str s] h post k = post (.bool (oneB s)) h := by
  refine S_eq fun post hp => ?_
  unfold oneB at hp
  refine S_of rfl T121 ?_; unfold fi121
  simp (maxSteps := 1000000) (disch := first | omega | rfl | (simp only [zL, two63, room] <;> omega) | fail) only [↓reduceIte, ↓zP, zW, WOp, evOp, evBin, binI, binSh, binS, evNil, keyIs, keyEq, mkv, AV.cells, AV.sc, optv, bnd, env, put, Env.get, Env.set, Env.del, Env.dels, Env.init, res1, resL, resV, fillP, splice, newRow, Nat.reduceEqDiff, Nat.reduceLT, Nat.reduceLeDiff, Nat.reduceAdd, Nat.reduceMul, Nat.reduceSub, Nat.reduceBEq, reduceCtorEq, ↓zR, zQ, Tr, StA, StT, e_isReachLine s hs]
  cases e : fewB s
  · rw [e] at hp
    simp (maxSteps := 1000000) (disch := first | omega | rfl | (simp only [zL, two63, room] <;> omega) | fail) only [↓reduceIte, ↓zP, zW, WOp, evOp, evBin, binI, binSh, binS, evNil, keyIs, keyEq, mkv, AV.cells, AV.sc, optv, bnd, env, put, Env.get, Env.set, Env.del, Env.dels, Env.init, res1, resL, resV, fillP, splice, newRow, Nat.reduceEqDiff, Nat.reduceLT, Nat.reduceLeDiff, Nat.reduceAdd, Nat.reduceMul, Nat.reduceSub, Nat.reduceBEq, reduceCtorEq, ↓zR, zQ, Tr, StA, StT]
    exact hp
  · rw [e] at hp
    simp (maxSteps := 1000000) (disch := first | omega | rfl | (simp only [zL, two63, room] <;> omega) | fail) only [↓reduceIte, ↓zP, zW, WOp, evOp, evBin, binI, binSh, binS, evNil, keyIs, keyEq, mkv, AV.cells, AV.sc, optv, bnd, env, put, Env.get, Env.set, Env.del, Env.dels, Env.init, res1, resL, resV, fillP, splice, newRow, Nat.reduceEqDiff, Nat.reduceLT, Nat.reduceLeDiff, Nat.reduceAdd, Nat.reduceMul, Nat.reduceSub, Nat.reduceBEq, reduceCtorEq, ↓zR, zQ, Tr, StA, StT]
    refine S_ext (r := .int .i64 ((s.count 46 : Nat) : Int)) rfl ?_ ?_
    · simp only [xCount, cntb]
    simp (maxSteps := 1000000) (disch := first | omega | rfl | (simp only [zL, two63, room] <;> omega) | fail) only [↓reduceIte, ↓zP, zW, WOp, evOp, evBin, binI, binSh, binS, evNil, keyIs, keyEq, mkv, AV.cells, AV.sc, optv, bnd, env, put, Env.get, Env.set, Env.del, Env.dels, Env.init, res1, resL, resV, fillP, splice, newRow, Nat.reduceEqDiff, Nat.reduceLT, Nat.reduceLeDiff, Nat.reduceAdd, Nat.reduceMul, Nat.reduceSub, Nat.reduceBEq, reduceCtorEq, ↓zR, zQ, Tr, StA, StT]
    simpa using hp

/-! ### Words counted, and known -/
abbrev OfS := {p : Ln × Nat // p.1.all isSign = true}
def ofK (s : OfS) : Ln := s.1.1 ++ List.replicate s.1.2 33
def ofV (s : OfS) : AV := .int .i64 (cntP s.1.2 s.1.1 : Nat)
theorem ofK_inj (s s' : OfS) (h : ofK s = ofK s') : ofV s = ofV s' := by
  obtain ⟨⟨w, n⟩, hw⟩ := s
  obtain ⟨⟨w', n'⟩, hw'⟩ := s'
  unfold ofK at h
  simp only at h hw hw'
  have key : ∀ {w w' : Ln} {n n' : Nat}, w.all isSign = true → w'.all isSign = true → w ++ List.replicate n 33 = w' ++ List.replicate n' 33 → w = w' ∧ n = n' := by
    intro w
    induction w with
    | nil =>
      intro w' n n' _ h2 h
      cases w' with
      | nil => simpa using h
      | cons b w' =>
        simp only [List.all_cons, Bool.and_eq_true] at h2
        cases n with
        | zero => simp at h
        | succ n =>
          rw [List.replicate_succ] at h
          simp at h
          rw [← h.1] at h2
          exact absurd h2.1 (by decide)
    | cons a w ih =>
      intro w' n n' h1 h2 h
      simp only [List.all_cons, Bool.and_eq_true] at h1
      cases w' with
      | nil =>
        cases n' with
        | zero => simp at h
        | succ n' =>
          rw [List.replicate_succ] at h
          simp at h
          rw [h.1] at h1
          exact absurd h1.1 (by decide)
      | cons b w' =>
        simp only [List.all_cons, Bool.and_eq_true] at h2
        simp only [List.cons_append, List.cons.injEq] at h
        obtain ⟨e1, e2⟩ := ih h1.2 h2.2 h.2
        exact ⟨by rw [h.1, e1], e2⟩
  obtain ⟨rfl, rfl⟩ := key hw hw' h
  rfl
theorem rep33 : ∀ n : Nat, Go.Lib.repeatL [33] n = List.replicate n 33
  | 0 => rfl
  | n + 1 => by rw [Go.Lib.repeatL, rep33 n, List.replicate_succ]; rfl
theorem c_Rep33 (m : Nat) (hm : m ≤ 100) {h : AH} {post : AV → AH → Prop} (hp : post (.str (List.replicate m 33)) h) : S 123 [.str [33], .int .i64 m] h post k := by
  refine S_ext (r := .str (List.replicate m 33)) rfl ?_ hp
  simp only [xRepeat]
  rw [if_pos ⟨by omega, by omega, by simp; omega⟩, Int.toNat_natCast, rep33]

def OfAt (j : Nat) : Prop := ∀ (w : Ln) (c : Nat) (h : AH), oneGap w → w.length ≤ 10 → j ≤ 40 → Mh ofK ofV c h → ∀ post : AV → AH → Prop, (∀ h', PreX c h h' → Mh ofK ofV c h' → post (.int .i64 (cntP j w : Nat)) h') → S 120 [.map c, .str w, .int .i64 j] h post k
theorem pow40 {j : Nat} (h : j ≤ 40) : 2 ^ j ≤ 1099511627776 := Nat.le_trans (Nat.pow_le_pow_right (by omega) h) (by decide)
theorem lp_of {j : Nat} (ih : OfAt j) {w : Ln} (hg : oneGap w) (hw : w.length ≤ 10) (hj : j + 1 ≤ 40) {c : Nat} {t7 vm : AV} {h0 : AH} (hm0 : SlcX 2 encM c h0 vm (movesB w [84, 70])) {R : X → Env → AH → Prop} :
    ∀ (mr mp : List (Int × Int)) (h : AH), movesB w [84, 70] = mp ++ mr → PreX c h0 h → Mh ofK ofV c h →
    (∀ h', PreX c h0 h' → Mh ofK ofV c h' → R (.exit 0) [(0, .map c), (7, t7), (10, .int .i64 (cntP (j + 1) w : Nat))] h') →
    Cx (.loop lp120_0) [(0, .map c), (1, .str w), (2, .int .i64 ((j + 1 : Nat) : Int)), (7, t7), (10, .int .i64 (((mp.map (mkM w)).map (cntP j)).sum : Nat)), (28, vm), (29, .int .i64 (movesB w [84, 70]).length), (30, .int .i64 mp.length)] h R k k
  | [], mp, h, hmp, hp, hm, hR => by
    have hl : (movesB w [84, 70]).length = mp.length := by rw [hmp]; simp
    have hn : ((mp.map (mkM w)).map (cntP j)).sum = cntP (j + 1) w := by
      show _ = ((nx w).map (cntP j)).sum
      rw [nx_eq, hmp, List.append_nil]
    rw [w_loopb (c := lp120_0) (d := lb120_0) rfl]; unfold lb120_0
    rw [hl, hn]
    simp (maxSteps := 1000000) (disch := first | omega | rfl | (simp only [zL, two63, room] <;> omega) | fail) only [↓reduceIte, ↓zP, zW, WOp, evOp, evBin, binI, binSh, binS, evNil, keyIs, keyEq, mkv, AV.cells, AV.sc, optv, bnd, env, put, Env.get, Env.set, Env.del, Env.dels, Env.init, res1, resL, resV, fillP, splice, newRow, Nat.reduceEqDiff, Nat.reduceLT, Nat.reduceLeDiff, Nat.reduceAdd, Nat.reduceMul, Nat.reduceSub, Nat.reduceBEq, reduceCtorEq, ↓zR, zQ, Tr, StA, StT]
    exact hR h hp hm
  | m :: mr, mp, h, hmp, hp, hm, hR => by
    have ihl := lp_of ih hg hw hj (t7 := t7) hm0 (R := R) mr (mp ++ [m])
    have hmm : m ∈ movesB w [84, 70] := by rw [hmp]; simp
    have hml : (movesB w [84, 70]).length = mp.length + 1 + mr.length := by rw [hmp]; simp; omega
    have hbd := movesB_len w [84, 70]
    have hm' := (hm0.fr hp).1
    rw [hmp] at hm'
    obtain ⟨r1, k1, o1, hv1, hr⟩ := hm'.at hlM
    rw [← hmp, hml] at hv1
    obtain ⟨i', t', rfl, hmv⟩ := movesB_mv hmm
    subst hv1
    rw [hml] at ihl ⊢
    have hlt : (mp.length : Int) < ((mp.length + 1 + mr.length : Nat) : Int) := by omega
    have hw1 : (mp.length : Int) + 1 = ((mp ++ [((i' : Int), (t' : Int))]).length : Int) := by simp
    have hsub : ((j + 1 : Nat) : Int) - 1 = (j : Int) := by omega
    have hgn : oneGap (madeB w i' t') := ⟨signs_made hmv hg.1, (count_made hmv).trans hg.2⟩
    have hle := cntP_le (j + 1) hg
    have hpw := pow40 hj
    have hsum : ((mp.map (mkM w)).map (cntP j)).sum + cntP j (madeB w i' t') ≤ cntP (j + 1) w := by
      show _ ≤ ((nx w).map (cntP j)).sum
      rw [nx_eq, hmp, List.map_append, List.map_append, List.sum_append, List.map_cons, List.map_cons, List.sum_cons]
      show _ + cntP j (madeB w i' t') ≤ _ + (cntP j (madeB w i' t') + _)
      omega
    have hs1 : ((((mp.map (mkM w)).map (cntP j)).sum : Nat) : Int) + ((cntP j (madeB w i' t') : Nat) : Int) = (((((mp ++ [((i' : Int), (t' : Int))]).map (mkM w)).map (cntP j)).sum : Nat) : Int) := by
      rw [List.map_append, List.map_append, List.sum_append]
      show _ = (((_ + [cntP j (madeB w i' t')].sum : Nat)) : Int)
      simp
    rw [w_loopb (c := lp120_0) (d := lb120_0) rfl]; unfold lb120_0
    simp (maxSteps := 1000000) (disch := first | omega | rfl | (simp only [zL, two63, room] <;> omega) | fail) only [↓reduceIte, ↓zP, zW, WOp, evOp, evBin, binI, binSh, binS, evNil, keyIs, keyEq, mkv, AV.cells, AV.sc, optv, bnd, env, put, Env.get, Env.set, Env.del, Env.dels, Env.init, res1, resL, resV, fillP, splice, newRow, Nat.reduceEqDiff, Nat.reduceLT, Nat.reduceLeDiff, Nat.reduceAdd, Nat.reduceMul, Nat.reduceSub, Nat.reduceBEq, reduceCtorEq, ↓zR, zQ, Tr, StA, StT, hlt, hr]
    refine c_made w i' t' hmv.fst hmv.snd (by omega) ?_
    intro h2 hp2
    have hp1 := (Pre.push h (AO.row (encM ((i' : Int), (t' : Int))) 0 0 false)).trans hp2
    simp (maxSteps := 1000000) (disch := first | omega | rfl | (simp only [zL, two63, room] <;> omega) | fail) only [↓reduceIte, ↓zP, zW, WOp, evOp, evBin, binI, binSh, binS, evNil, keyIs, keyEq, mkv, AV.cells, AV.sc, optv, bnd, env, put, Env.get, Env.set, Env.del, Env.dels, Env.init, res1, resL, resV, fillP, splice, newRow, Nat.reduceEqDiff, Nat.reduceLT, Nat.reduceLeDiff, Nat.reduceAdd, Nat.reduceMul, Nat.reduceSub, Nat.reduceBEq, reduceCtorEq, ↓zR, zQ, Tr, StA, StT, hsub]
    refine ih (madeB w i' t') c h2 hgn (by rw [madeB_length]; exact hw) (by omega) (hm.pre hp1) _ ?_
    intro h3 hp3 hm3
    simp (maxSteps := 1000000) (disch := first | omega | rfl | (simp only [zL, two63, room] <;> omega) | fail) only [↓reduceIte, ↓zP, zW, WOp, evOp, evBin, binI, binSh, binS, evNil, keyIs, keyEq, mkv, AV.cells, AV.sc, optv, bnd, env, put, Env.get, Env.set, Env.del, Env.dels, Env.init, res1, resL, resV, fillP, splice, newRow, Nat.reduceEqDiff, Nat.reduceLT, Nat.reduceLeDiff, Nat.reduceAdd, Nat.reduceMul, Nat.reduceSub, Nat.reduceBEq, reduceCtorEq, ↓zR, zQ, Tr, StA, StT, hw1, hs1]
    rw [w_loopn (c := lp120_0) rfl]
    simp (maxSteps := 1000000) (disch := first | omega | rfl | (simp only [zL, two63, room] <;> omega) | fail) only [↓reduceIte, ↓zP, zW, WOp, evOp, evBin, binI, binSh, binS, evNil, keyIs, keyEq, mkv, AV.cells, AV.sc, optv, bnd, env, put, Env.get, Env.set, Env.del, Env.dels, Env.init, res1, resL, resV, fillP, splice, newRow, Nat.reduceEqDiff, Nat.reduceLT, Nat.reduceLeDiff, Nat.reduceAdd, Nat.reduceMul, Nat.reduceSub, Nat.reduceBEq, reduceCtorEq, ↓zR, zQ, Tr, StA, StT]
    exact ihl h3 (by rw [hmp]; simp) ((hp.trans (hp1.x c)).trans hp3) hm3 hR
theorem c_of : ∀ j : Nat, OfAt j
  | 0 => by
    intro w c h hg hw hj hm post hp
    refine S_of rfl T120 ?_; unfold fi120
    simp (maxSteps := 1000000) (disch := first | omega | rfl | (simp only [zL, two63, room] <;> omega) | fail) only [↓reduceIte, ↓zP, zW, WOp, evOp, evBin, binI, binSh, binS, evNil, keyIs, keyEq, mkv, AV.cells, AV.sc, optv, bnd, env, put, Env.get, Env.set, Env.del, Env.dels, Env.init, res1, resL, resV, fillP, splice, newRow, Nat.reduceEqDiff, Nat.reduceLT, Nat.reduceLeDiff, Nat.reduceAdd, Nat.reduceMul, Nat.reduceSub, Nat.reduceBEq, reduceCtorEq, ↓zR, zQ, Tr, StA, StT]
    exact hp h (PreX.refl _ _) hm
  | j + 1 => by
    intro w c h hg hw hj hm post hp
    have ih := c_of j
    have hne : (((j + 1 : Nat) : Int) == 0) = false := by rw [beq_eq_false_iff_ne]; omega
    have hlt := hm.lt
    have hm0 := hm
    have h63 : w.length + (List.replicate (j + 1) (33 : UInt8)).length ≤ two63 := by simp only [List.length_replicate, two63]; omega
    obtain ⟨es, he, hks, hgood⟩ := hm
    refine S_of rfl T120 ?_; unfold fi120
    simp (maxSteps := 1000000) (disch := first | omega | rfl | (simp only [zL, two63, room] <;> omega) | fail) only [↓reduceIte, ↓zP, zW, WOp, evOp, evBin, binI, binSh, binS, evNil, keyIs, keyEq, mkv, AV.cells, AV.sc, optv, bnd, env, put, Env.get, Env.set, Env.del, Env.dels, Env.init, res1, resL, resV, fillP, splice, newRow, Nat.reduceEqDiff, Nat.reduceLT, Nat.reduceLeDiff, Nat.reduceAdd, Nat.reduceMul, Nat.reduceSub, Nat.reduceBEq, reduceCtorEq, ↓zR, zQ, Tr, StA, StT, hne]
    refine c_Rep33 (j + 1) (by omega) ?_
    obtain ⟨o, ho⟩ := mfind_some hks (w ++ List.replicate (j + 1) 33)
    cases o with
    | some v =>
      obtain rfl : v = .int .i64 (cntP (j + 1) w : Nat) := hgood ⟨(w, j + 1), hg.1⟩ v ho
      simp (maxSteps := 1000000) (disch := first | omega | rfl | (simp only [zL, two63, room] <;> omega) | fail) only [↓reduceIte, ↓zP, zW, WOp, evOp, evBin, binI, binSh, binS, evNil, keyIs, keyEq, mkv, AV.cells, AV.sc, optv, bnd, env, put, Env.get, Env.set, Env.del, Env.dels, Env.init, res1, resL, resV, fillP, splice, newRow, Nat.reduceEqDiff, Nat.reduceLT, Nat.reduceLeDiff, Nat.reduceAdd, Nat.reduceMul, Nat.reduceSub, Nat.reduceBEq, reduceCtorEq, ↓zR, zQ, Tr, StA, StT, he, ho, h63]
      exact hp h (PreX.refl _ _) hm0
    | none =>
      simp (maxSteps := 1000000) (disch := first | omega | rfl | (simp only [zL, two63, room] <;> omega) | fail) only [↓reduceIte, ↓zP, zW, WOp, evOp, evBin, binI, binSh, binS, evNil, keyIs, keyEq, mkv, AV.cells, AV.sc, optv, bnd, env, put, Env.get, Env.set, Env.del, Env.dels, Env.init, res1, resL, resV, fillP, splice, newRow, Nat.reduceEqDiff, Nat.reduceLT, Nat.reduceLeDiff, Nat.reduceAdd, Nat.reduceMul, Nat.reduceSub, Nat.reduceBEq, reduceCtorEq, ↓zR, zQ, Tr, StA, StT, he, ho, h63]
      refine c_moves w [84, 70] (by omega) ?_
      intro vm h2 ho2 hp2
      have hsm : Slc 2 encM h2 vm (movesB w [84, 70]) := ho2.sl
      have hmx : SlcX 2 encM c h2 vm (movesB w [84, 70]) := ⟨hsm, fun r hr => by have := own_ge ho2 hr; omega⟩
      have hvm := fun g => Slc.lenV (hsm) (g := g) (ρ := fun _ => _) (x := .t 0) rfl; simp only [evOp] at hvm
      have z : (0 : Int) = (((([] : List (Int × Int)).map (mkM w)).map (cntP j)).sum : Nat) := rfl
      simp (maxSteps := 1000000) (disch := first | omega | rfl | (simp only [zL, two63, room] <;> omega) | fail) only [↓reduceIte, ↓zP, zW, WOp, evOp, evBin, binI, binSh, binS, evNil, keyIs, keyEq, mkv, AV.cells, AV.sc, optv, bnd, env, put, Env.get, Env.set, Env.del, Env.dels, Env.init, res1, resL, resV, fillP, splice, newRow, Nat.reduceEqDiff, Nat.reduceLT, Nat.reduceLeDiff, Nat.reduceAdd, Nat.reduceMul, Nat.reduceSub, Nat.reduceBEq, reduceCtorEq, ↓zR, zQ, Tr, StA, StT, hvm]
      refine lp_of ih hg hw hj hmx (movesB w [84, 70]) [] h2 rfl (PreX.refl _ _) (hm0.pre hp2) ?_
      intro h3 hp3 hm3
      obtain ⟨es3, e1, ⟨o3, e2⟩, hm4⟩ := hm3.put ofK_inj ⟨(w, j + 1), hg.1⟩
      unfold ofK at e2
      simp only at e2
      simp (maxSteps := 1000000) (disch := first | omega | rfl | (simp only [zL, two63, room] <;> omega) | fail) only [↓reduceIte, ↓zP, zW, WOp, evOp, evBin, binI, binSh, binS, evNil, keyIs, keyEq, mkv, AV.cells, AV.sc, optv, bnd, env, put, Env.get, Env.set, Env.del, Env.dels, Env.init, res1, resL, resV, fillP, splice, newRow, Nat.reduceEqDiff, Nat.reduceLT, Nat.reduceLeDiff, Nat.reduceAdd, Nat.reduceMul, Nat.reduceSub, Nat.reduceBEq, reduceCtorEq, ↓zR, zQ, Tr, StA, StT, e1, e2]
      exact hp _ ((hp2.x c).trans (hp3.trans (PreX.refl c h3).set)) hm4
end Go.Proofs.YthoibdfcaejgbaaDoor.Ab
