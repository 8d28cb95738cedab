/- Part 4 of the proof of a law of the given program: the rules that it leans on, and what the functions that it reaches answer; the conditions stand with each theorem. -/
import Derived.Laws.RangeString
import Derived.Test.YtnkkgghpfgihfabDoorQ2
set_option linter.unusedSimpArgs false
set_option linter.unusedVariables false
/- MOVES of a line: what the reference lists. -/
namespace Go.Proofs.YtnkkgghpfgihfabDoor.Ab
open Go
set_option maxRecDepth 100000
set_option maxHeartbeats 4000000

theorem dec_low {s : List UInt8} {pos : Nat} (h : pos < s.length) (ha : (s.getD pos 0).toNat < 128) : dec s pos = (((s.getD pos 0).toNat : Int), 1) := by
  have e : s.getD pos 0 = s[pos] := by simp [List.getD_eq_getElem?_getD, h]
  rw [e] at ha ⊢
  unfold dec
  have hg : (⟨s.toArray⟩ : ByteArray)[pos]'h = s[pos] := rfl
  have := decode_ascii ⟨s.toArray⟩ pos h (by rw [hg]; exact ha)
  rw [this, hg]
theorem sign_low {b : UInt8} (h : isSign b = true) : b.toNat < 128 := by
  simp only [isSign, Bool.or_eq_true, beq_iff_eq] at h
  rcases h with (rfl | rfl) | rfl <;> decide
theorem sign_at {w : List UInt8} (h : w.all isSign = true) {i : Nat} (hi : i < w.length) : isSign (w.getD i 0) = true := by
  have e : w.getD i 0 = w[i] := by simp [List.getD_eq_getElem?_getD, hi]
  rw [e]; exact List.all_eq_true.1 h _ (List.getElem_mem hi)

def innerB (w : List UInt8) (i : Nat) : Int → Nat → List (Int × Int)
  | _, 0 => []
  | to, d + 1 => (if canB w ((i : Int), to) then [((i : Int), to)] else []) ++ innerB w i (to + 1) d
theorem innerB_eq (w : List UInt8) (i : Nat) : innerB w i ((i : Int) - 2) 5 = ([(i : Int) - 2, i - 1, i, i + 1, i + 2].filter fun t => canB w ((i : Int), t)).map fun t => ((i : Int), t) := by
  simp only [innerB]
  rw [show (i : Int) - 2 + 1 = i - 1 by omega, show (i : Int) - 1 + 1 = i by omega, show (i : Int) + 1 + 1 = i + 2 by omega]
  simp only [List.filter_cons, List.filter_nil]
  cases canB w ((i : Int), (i : Int) - 2) <;> cases canB w ((i : Int), (i : Int) - 1) <;> cases canB w ((i : Int), (i : Int)) <;> cases canB w ((i : Int), (i : Int) + 1) <;> cases canB w ((i : Int), (i : Int) + 2) <;> rfl

theorem lp_liMoves1 (w : List UInt8) (i : Nat) (hi : i < w.length) (hw : w.length < 2 ^ 30) (tf ff : Bool) (b : AH) (c : Nat) {R : X → Env → AH → Prop} : ∀ (d : Nat) (to : Int) (o : AV) (l : List (Int × Int)) (h : AH), to + d = i + 3 → OwL 2 encM b h o l → b.length ≤ h.length → l.length + d ≤ 2 ^ 33 →
    (∀ o' h', OwL 2 encM b h' o' (l ++ innerB w i to d) → Ag b.length h h' → R (.exit 2) [(0, .str w), (1, .bool tf), (2, .bool ff), (7, o'), (12, .iter c)] h') →
    d ≤ 5 → Cx (.loop lp119_1) [(0, .str w), (1, .bool tf), (2, .bool ff), (7, o), (8, .int .i64 i), (9, .int .i64 to), (12, .iter c)] h R k k
  | 0, to, o, l, h, hd, ho, hb, hl, hR, _ => by
    rw [w_loopb (c := lp119_1) (d := lb119_1) rfl]; unfold lb119_1
    simp (maxSteps := 1000000) (disch := first | omega | rfl | (simp only [zL, two63, room] <;> omega) | fail) only [↓reduceIte, ↓zP, zW, WOp, evOp, evBin, binI, binSh, binS, evNil, keyIs, keyEq, mkv, AV.cells, AV.sc, optv, bnd, env, put, Env.get, Env.set, Env.del, Env.dels, Env.init, res1, resL, resV, fillP, splice, newRow, Nat.reduceEqDiff, Nat.reduceLT, Nat.reduceLeDiff, Nat.reduceAdd, Nat.reduceMul, Nat.reduceSub, Nat.reduceBEq, reduceCtorEq, ↓zR, zQ, Tr, StA, StT]
    exact hR o h (by simpa [innerB] using ho) (Ag.refl _ _)
  | d + 1, to, o, l, h, hd, ho, hb, hl, hR, h5 => by
    have ih := lp_liMoves1 w i hi hw tf ff b c (R := R) d (to + 1)
    rw [w_loopb (c := lp119_1) (d := lb119_1) rfl]; unfold lb119_1
    simp (maxSteps := 1000000) (disch := first | omega | rfl | (simp only [zL, two63, room] <;> omega) | fail) only [↓reduceIte, ↓zP, zW, WOp, evOp, evBin, binI, binSh, binS, evNil, keyIs, keyEq, mkv, AV.cells, AV.sc, optv, bnd, env, put, Env.get, Env.set, Env.del, Env.dels, Env.init, res1, resL, resV, fillP, splice, newRow, Nat.reduceEqDiff, Nat.reduceLT, Nat.reduceLeDiff, Nat.reduceAdd, Nat.reduceMul, Nat.reduceSub, Nat.reduceBEq, reduceCtorEq, ↓zR, zQ, Tr, StA, StT]
    refine c_liCan w i to hw ?_
    intro h2 hp2
    have hp1 := (Pre.push h (AO.row [.int .i64 i, .int .i64 to] 0 0 false)).trans hp2
    have q := rdRow_pre hp2 (show rdRow (h ++ [AO.row [.int .i64 i, .int .i64 to] 0 0 false]) h.length 0 0 2 = some [.int .i64 i, .int .i64 to] by simp (maxSteps := 1000000) (disch := first | omega | rfl | (simp only [zL, two63, room] <;> omega) | fail) only [↓reduceIte, ↓zP, zW, WOp, evOp, evBin, binI, binSh, binS, evNil, keyIs, keyEq, mkv, AV.cells, AV.sc, optv, bnd, env, put, Env.get, Env.set, Env.del, Env.dels, Env.init, res1, resL, resV, fillP, splice, newRow, Nat.reduceEqDiff, Nat.reduceLT, Nat.reduceLeDiff, Nat.reduceAdd, Nat.reduceMul, Nat.reduceSub, Nat.reduceBEq, reduceCtorEq, ↓zR, zQ, Tr, StA, StT])
    have q' := rd_lt q
    have e1 : (i : Int) + -2 = i - 2 := by omega
    cases e : canB w ((i : Int), to)
    · simp (maxSteps := 1000000) (disch := first | omega | rfl | (simp only [zL, two63, room] <;> omega) | fail) only [↓reduceIte, ↓zP, zW, WOp, evOp, evBin, binI, binSh, binS, evNil, keyIs, keyEq, mkv, AV.cells, AV.sc, optv, bnd, env, put, Env.get, Env.set, Env.del, Env.dels, Env.init, res1, resL, resV, fillP, splice, newRow, Nat.reduceEqDiff, Nat.reduceLT, Nat.reduceLeDiff, Nat.reduceAdd, Nat.reduceMul, Nat.reduceSub, Nat.reduceBEq, reduceCtorEq, ↓zR, zQ, Tr, StA, StT, e]
      rw [w_loopn (c := lp119_1) rfl]
      simp (maxSteps := 1000000) (disch := first | omega | rfl | (simp only [zL, two63, room] <;> omega) | fail) only [↓reduceIte, ↓zP, zW, WOp, evOp, evBin, binI, binSh, binS, evNil, keyIs, keyEq, mkv, AV.cells, AV.sc, optv, bnd, env, put, Env.get, Env.set, Env.del, Env.dels, Env.init, res1, resL, resV, fillP, splice, newRow, Nat.reduceEqDiff, Nat.reduceLT, Nat.reduceLeDiff, Nat.reduceAdd, Nat.reduceMul, Nat.reduceSub, Nat.reduceBEq, reduceCtorEq, ↓zR, zQ, Tr, StA, StT]
      refine ih o l h2 (by omega) (ho.pre hp1) (Nat.le_trans hb hp1.1) (by omega) ?_ (by omega)
      intro o' h' ho' ha
      exact hR o' h' (by simpa [innerB, e] using ho') ((hp1.ag hb).trans ha)
    · obtain ⟨o2, h3, ha, ho3, hag⟩ := apA hlM scM ((ho.pre hp1).pre (Pre.push h2 (AO.row [.int .i64 i, .int .i64 to] 0 0 false))) (Nat.le_trans hb (Nat.le_trans hp1.1 (Pre.push h2 _).1)) ((i : Int), to) (by omega)
      simp (maxSteps := 1000000) (disch := first | omega | rfl | (simp only [zL, two63, room] <;> omega) | fail) only [↓reduceIte, ↓zP, zW, WOp, evOp, evBin, binI, binSh, binS, evNil, keyIs, keyEq, mkv, AV.cells, AV.sc, optv, bnd, env, put, Env.get, Env.set, Env.del, Env.dels, Env.init, res1, resL, resV, fillP, splice, newRow, Nat.reduceEqDiff, Nat.reduceLT, Nat.reduceLeDiff, Nat.reduceAdd, Nat.reduceMul, Nat.reduceSub, Nat.reduceBEq, reduceCtorEq, ↓zR, zQ, Tr, StA, StT, e, q, ha]
      rw [w_loopn (c := lp119_1) rfl]
      simp (maxSteps := 1000000) (disch := first | omega | rfl | (simp only [zL, two63, room] <;> omega) | fail) only [↓reduceIte, ↓zP, zW, WOp, evOp, evBin, binI, binSh, binS, evNil, keyIs, keyEq, mkv, AV.cells, AV.sc, optv, bnd, env, put, Env.get, Env.set, Env.del, Env.dels, Env.init, res1, resL, resV, fillP, splice, newRow, Nat.reduceEqDiff, Nat.reduceLT, Nat.reduceLeDiff, Nat.reduceAdd, Nat.reduceMul, Nat.reduceSub, Nat.reduceBEq, reduceCtorEq, ↓zR, zQ, Tr, StA, StT]
      have hag2 : Ag b.length h h3 := (hp1.ag hb).trans (((Pre.push h2 (AO.row [.int .i64 i, .int .i64 to] 0 0 false)).ag (Nat.le_trans hb hp1.1)).trans hag)
      refine ih o2 _ h3 (by omega) ho3 (Nat.le_trans hb hag2.1) (by simp; omega) ?_ (by omega)
      intro o' h' ho' ha'
      exact hR o' h' (by simpa [innerB, e] using ho') (hag2.trans ha')

theorem lp_liMoves (w : List UInt8) (hg : w.all isSign = true) (hw : w.length < 2 ^ 30) (tf ff : Bool) (b : AH) (c : Nat) (hcb : c < b.length) {R : X → Env → AH → Prop} : ∀ (d i : Nat) (o : AV) (l : List (Int × Int)) (h : AH), i + d = w.length → OwL 2 encM b h o l → b.length ≤ h.length → h[c]? = some (.iter w i) → l.length ≤ 5 * i →
    (∀ o' h', OwL 2 encM b h' o' (l ++ (List.range' i d).flatMap (liMoveB w tf ff)) → Ag c h h' → b.length ≤ h'.length → R (.exit 0) [(7, o')] h') →
    Cx (.loop lp119_0) [(0, .str w), (1, .bool tf), (2, .bool ff), (7, o), (12, .iter c)] h R k k
  | 0, i, o, l, h, hd, ho, hb, hc, hl, hR => by
    rw [w_loopb (c := lp119_0) (d := lb119_0) rfl]; unfold lb119_0
    have hlt : ¬ i < w.length := by omega
    simp (maxSteps := 1000000) (disch := first | omega | rfl | (simp only [zL, two63, room] <;> omega) | fail) only [↓reduceIte, ↓zP, zW, WOp, evOp, evBin, binI, binSh, binS, evNil, keyIs, keyEq, mkv, AV.cells, AV.sc, optv, bnd, env, put, Env.get, Env.set, Env.del, Env.dels, Env.init, res1, resL, resV, fillP, splice, newRow, Nat.reduceEqDiff, Nat.reduceLT, Nat.reduceLeDiff, Nat.reduceAdd, Nat.reduceMul, Nat.reduceSub, Nat.reduceBEq, reduceCtorEq, ↓zR, zQ, Tr, StA, StT, hc, hlt]
    exact hR o h (by simpa using ho) (Ag.refl _ _) hb
  | d + 1, i, o, l, h, hd, ho, hb, hc, hl, hR => by
    have ih := lp_liMoves w hg hw tf ff b c hcb (R := R) d (i + 1)
    have hlt : i < w.length := by omega
    have hdec := dec_low hlt (sign_low (sign_at hg hlt))
    have hd1 : (dec w i).1 = ((w.getD i 0).toNat : Int) := by rw [hdec]
    have hd2 : (dec w i).2 = 1 := by rw [hdec]
    have hlen : (liMoveB w tf ff i).length ≤ 5 := by
      unfold liMoveB
      split
      · simp
      · rw [List.length_map]; exact Nat.le_trans (List.length_filter_le _ _) (by simp)
    have hc' : (h.set c (.iter w (i + 1)))[c]? = some (.iter w (i + 1)) := by rw [List.getElem?_set, if_pos rfl, if_pos (by omega)]
    have hb' : b.length ≤ (h.set c (.iter w (i + 1))).length := by simpa using hb
    rw [w_loopb (c := lp119_0) (d := lb119_0) rfl]; unfold lb119_0
    have hR' : ∀ o2 h2, OwL 2 encM b h2 o2 (l ++ liMoveB w tf ff i) → Ag b.length (h.set c (.iter w (i + 1))) h2 → Cx (.loop lp119_0) [(0, .str w), (1, .bool tf), (2, .bool ff), (7, o2), (12, .iter c)] h2 R k k := by
      intro o2 h2 ho2 hag
      refine ih o2 _ h2 (by omega) ho2 (Nat.le_trans hb' hag.1) (by rw [hag.2 c hcb, hc']) (by simp; omega) ?_
      intro o' h' ho' hag' hb2
      refine hR o' h' ?_ ?_ hb2
      · rw [List.range'_succ, List.flatMap_cons, ← List.append_assoc]; exact ho'
      · exact ((Ag.refl c h).set (Nat.le_refl _)).trans ((hag.mono (by omega)).trans hag')
    have key : Cx (.loop lp119_1) [(0, .str w), (1, .bool tf), (2, .bool ff), (7, o), (8, .int .i64 i), (9, .int .i64 ((i : Int) - 2)), (12, .iter c)] (h.set c (.iter w (i + 1))) (fun x e' h' => x = .exit 2 ∧ ∃ o', e' = [(0, .str w), (1, .bool tf), (2, .bool ff), (7, o'), (12, .iter c)] ∧ OwL 2 encM b h' o' (l ++ innerB w i ((i : Int) - 2) 5) ∧ Ag b.length (h.set c (.iter w (i + 1))) h') k k := by
      refine lp_liMoves1 w i hlt hw tf ff b c 5 ((i : Int) - 2) o l _ (by omega) (own_set ho hcb) hb' (by omega) ?_ (by omega)
      intro o' h' ho' hag
      exact ⟨rfl, o', rfl, ho', hag⟩
    have skip : (((w.getD i 0 == 84) && !tf) || ((w.getD i 0 == 70) && !ff)) = true → Cx (.loop lp119_0) [(0, .str w), (1, .bool tf), (2, .bool ff), (7, o), (12, .iter c)] (h.set c (.iter w (i + 1))) R k k := by
      intro hs
      refine hR' o _ ?_ (Ag.refl _ _)
      unfold liMoveB
      rw [if_pos hs, List.append_nil]
      exact own_set ho hcb
    have go : (((w.getD i 0 == 84) && !tf) || ((w.getD i 0 == 70) && !ff)) = false → ∀ R2 : X → Env → AH → Prop, (∀ o2 h2, OwL 2 encM b h2 o2 (l ++ liMoveB w tf ff i) → Ag b.length (h.set c (.iter w (i + 1))) h2 → R2 (.exit 2) [(0, .str w), (1, .bool tf), (2, .bool ff), (7, o2), (12, .iter c)] h2) →
        Cx (.loop lp119_1) [(0, .str w), (1, .bool tf), (2, .bool ff), (7, o), (8, .int .i64 i), (9, .int .i64 ((i : Int) - 2)), (12, .iter c)] (h.set c (.iter w (i + 1))) R2 k k := by
      intro hs R2 h2
      refine Cx_mono key ?_
      rintro x e' h' ⟨rfl, o', rfl, ho', hag⟩
      refine h2 o' h' ?_ hag
      unfold liMoveB
      rw [if_neg (by rw [hs]; simp), ← innerB_eq]
      exact ho'
    cases e1 : (w.getD i 0 == 84) <;> cases e2 : (w.getD i 0 == 70) <;> cases tf <;> cases ff <;> simp only [e1, e2] at skip go <;> simp (maxSteps := 1000000) (disch := first | omega | rfl | (simp only [zL, two63, room] <;> omega) | fail) only [↓reduceIte, ↓zP, zW, WOp, evOp, evBin, binI, binSh, binS, evNil, keyIs, keyEq, mkv, AV.cells, AV.sc, optv, bnd, env, put, Env.get, Env.set, Env.del, Env.dels, Env.init, res1, resL, resV, fillP, splice, newRow, Nat.reduceEqDiff, Nat.reduceLT, Nat.reduceLeDiff, Nat.reduceAdd, Nat.reduceMul, Nat.reduceSub, Nat.reduceBEq, reduceCtorEq, ↓zR, zQ, Tr, StA, StT, hc, hlt, hd1, hd2, e1, e2]
    all_goals first
      | exact skip rfl
      | (refine go rfl _ ?_
         intro o2 h2 ho2 hag
         simp (maxSteps := 1000000) (disch := first | omega | rfl | (simp only [zL, two63, room] <;> omega) | fail) only [↓reduceIte, ↓zP, zW, WOp, evOp, evBin, binI, binSh, binS, evNil, keyIs, keyEq, mkv, AV.cells, AV.sc, optv, bnd, env, put, Env.get, Env.set, Env.del, Env.dels, Env.init, res1, resL, resV, fillP, splice, newRow, Nat.reduceEqDiff, Nat.reduceLT, Nat.reduceLeDiff, Nat.reduceAdd, Nat.reduceMul, Nat.reduceSub, Nat.reduceBEq, reduceCtorEq, ↓zR, zQ, Tr, StA, StT]
         exact hR' o2 h2 ho2 hag)
theorem c_liMoves (w : List UInt8) (hg : w.all isSign = true) (hw : w.length < 2 ^ 30) (tf ff : Bool) {h : AH} {post : AV → AH → Prop} (hp : ∀ v h', OwL 2 encM h h' v (liMovesB w tf ff) → Pre h h' → post v h') : S 119 [.str w, .bool tf, .bool ff] h post k := by
  refine S_of rfl T119 ?_; unfold fi119
  simp (maxSteps := 1000000) (disch := first | omega | rfl | (simp only [zL, two63, room] <;> omega) | fail) only [↓reduceIte, ↓zP, zW, WOp, evOp, evBin, binI, binSh, binS, evNil, keyIs, keyEq, mkv, AV.cells, AV.sc, optv, bnd, env, put, Env.get, Env.set, Env.del, Env.dels, Env.init, res1, resL, resV, fillP, splice, newRow, Nat.reduceEqDiff, Nat.reduceLT, Nat.reduceLeDiff, Nat.reduceAdd, Nat.reduceMul, Nat.reduceSub, Nat.reduceBEq, reduceCtorEq, ↓zR, zQ, Tr, StA, StT]
  refine lp_liMoves w hg hw tf ff (h ++ [.iter w 0]) h.length (by simp) w.length 0 .nilS [] _ (by omega) OwL.nil (Nat.le_refl _) (by simp) (by simp) ?_
  intro o' h' ho' hag hb
  simp (maxSteps := 1000000) (disch := first | omega | rfl | (simp only [zL, two63, room] <;> omega) | fail) only [↓reduceIte, ↓zP, zW, WOp, evOp, evBin, binI, binSh, binS, evNil, keyIs, keyEq, mkv, AV.cells, AV.sc, optv, bnd, env, put, Env.get, Env.set, Env.del, Env.dels, Env.init, res1, resL, resV, fillP, splice, newRow, Nat.reduceEqDiff, Nat.reduceLT, Nat.reduceLeDiff, Nat.reduceAdd, Nat.reduceMul, Nat.reduceSub, Nat.reduceBEq, reduceCtorEq, ↓zR, zQ, Tr, StA, StT]
  refine hp o' h' ?_ ?_
  · rw [List.nil_append, ← List.range_eq_range'] at ho'
    exact own_base ho' (by simp)
  · exact (Pre.push h (.iter w 0)).trans' hag
end Go.Proofs.YtnkkgghpfgihfabDoor.Ab

/- PLAIN: sums of lines, who wins them. -/
namespace Go.Proofs.YtnkkgghpfgihfabDoor.Ab

/-- All sums behind a move in one of the lines of rest. -/
def nextZ (kd : List UInt8) : List (List UInt8) → List (List UInt8) → List (List (List UInt8))
  | _, [] => []
  | pre, w :: rest => (nextB w kd).map (fun v => pre ++ v :: rest) ++ nextZ kd (pre ++ [w]) rest
def muL (ls : List (List UInt8)) : Nat := (ls.map mu).sum
theorem nextZ_mu {kd : List UInt8} : ∀ {rest pre x : List (List UInt8)}, x ∈ nextZ kd pre rest → muL x < muL (pre ++ rest)
  | [], _, _, h => by simp [nextZ] at h
  | w :: rest, pre, x, h => by
    simp only [nextZ, List.mem_append, List.mem_map] at h
    rcases h with ⟨v, hv, rfl⟩ | h
    · have := nextB_mu hv
      simp only [muL, List.map_append, List.map_cons, List.sum_append, List.sum_cons]
      omega
    · have := nextZ_mu h
      simpa using this
def lsNx (s : List (List UInt8) × Bool) : List (List (List UInt8) × Bool) := (nextZ (kindS s.2) [] s.1).map fun ls => (ls, !s.2)
def lsSt (_ : List (List UInt8) × Bool) (l : List Bool) : Bool := l.any fun b => !b
def winL (ls : List (List UInt8)) (t : Bool) : Bool := rc lsNx lsSt (fun s => muL s.1) (ls, t)
theorem winL_eq (ls : List (List UInt8)) (t : Bool) : winL ls t = (nextZ (kindS t) [] ls).any fun x => !winL x (!t) := by
  unfold winL
  have hm : ∀ s : List (List UInt8) × Bool, ∀ s' ∈ lsNx s, muL s'.1 < muL s.1 := by
    intro s s' hs
    simp only [lsNx, List.mem_map] at hs
    obtain ⟨v, hv, rfl⟩ := hs
    simpa using nextZ_mu hv
  rw [rc_eq lsNx lsSt (mu := fun s => muL s.1) hm (ls, t)]
  simp only [lsSt, lsNx, List.map_map, List.any_map, Function.comp_def]
theorem muL_one (w : List UInt8) : muL [w] = mu w := by simp [muL]
theorem any_congr' {α : Type} {p q : α → Bool} {l : List α} (h : ∀ x ∈ l, p x = q x) : l.any p = l.any q := by
  induction l with
  | nil => rfl
  | cons a l ih => rw [List.any_cons, List.any_cons, h a (by simp), ih fun x hx => h x (by simp [hx])]
theorem winL_one : ∀ (n : Nat) (w : List UInt8) (t : Bool), mu w < n → winL [w] t = winB w t
  | 0, _, _, h => by omega
  | n + 1, w, t, h => by
    rw [winL_eq, winB_eq]
    simp only [nextZ, List.append_nil, List.nil_append, List.any_map, nextB, Function.comp_def]
    apply any_congr'
    intro m hm
    obtain ⟨i, t', rfl, hmv⟩ := movesB_mv hm
    have := mu_made hmv
    rw [winL_one n _ _ (by simp; omega)]

/-! ### Keys of sums -/
def gaTail (ls : List (List UInt8)) : List UInt8 := ls.flatMap fun w => 47 :: w
def gaK (s : List (List UInt8) × Bool) : List UInt8 := (if s.2 then 116 else 102) :: gaTail s.1
def signs (w : List UInt8) : Prop := w.all isSign = true
theorem sign_ne {b : UInt8} (h : isSign b = true) : b ≠ 47 := by rintro rfl; cases h
theorem split_eq : ∀ {w w' r r' : List UInt8}, signs w → signs w' → (r = [] ∨ ∃ x, r = 47 :: x) → (r' = [] ∨ ∃ x, r' = 47 :: x) → w ++ r = w' ++ r' → w = w' ∧ r = r'
  | [], [], _, _, _, _, _, _, h => ⟨rfl, h⟩
  | [], b :: w', r, r', _, h2, h3, _, h => by
    simp only [signs, List.all_cons, Bool.and_eq_true] at h2
    rcases h3 with rfl | ⟨x, rfl⟩
    · simp at h
    · simp at h; exact absurd h.1.symm (sign_ne h2.1)
  | b :: w, [], r, r', h1, _, _, h4, h => by
    simp only [signs, List.all_cons, Bool.and_eq_true] at h1
    rcases h4 with rfl | ⟨x, rfl⟩
    · simp at h
    · simp at h; exact absurd h.1 (sign_ne h1.1)
  | b :: w, b' :: w', r, r', h1, h2, h3, h4, h => by
    simp only [signs, List.all_cons, Bool.and_eq_true] at h1 h2
    simp only [List.cons_append, List.cons.injEq] at h
    obtain ⟨h5, h6⟩ := split_eq (w := w) (w' := w') h1.2 h2.2 h3 h4 h.2
    exact ⟨by rw [h.1, h5], h6⟩
theorem gaTail_hd : ∀ ls : List (List UInt8), gaTail ls = [] ∨ ∃ x, gaTail ls = 47 :: x
  | [] => .inl rfl
  | w :: ls => .inr ⟨w ++ gaTail ls, by simp [gaTail]⟩
theorem gaTail_inj : ∀ {a b : List (List UInt8)}, (∀ w ∈ a, signs w) → (∀ w ∈ b, signs w) → gaTail a = gaTail b → a = b
  | [], [], _, _, _ => rfl
  | [], w :: b, _, _, h => by simp [gaTail] at h
  | w :: a, [], _, _, h => by simp [gaTail] at h
  | w :: a, w' :: b, h1, h2, h => by
    have e : ∀ (w : List UInt8) (l : List (List UInt8)), gaTail (w :: l) = 47 :: (w ++ gaTail l) := fun w l => by simp [gaTail]
    rw [e, e, List.cons.injEq] at h
    obtain ⟨h3, h4⟩ := split_eq (h1 w (by simp)) (h2 w' (by simp)) (gaTail_hd a) (gaTail_hd b) h.2
    rw [h3, gaTail_inj (fun x hx => h1 x (by simp [hx])) (fun x hx => h2 x (by simp [hx])) h4]
theorem gaK_inj {s s' : List (List UInt8) × Bool} (h1 : ∀ w ∈ s.1, signs w) (h2 : ∀ w ∈ s'.1, signs w) (h : gaK s = gaK s') : s = s' := by
  obtain ⟨a, t⟩ := s
  obtain ⟨b, u⟩ := s'
  simp only [gaK, List.cons.injEq] at h
  have := gaTail_inj h1 h2 h.2
  subst this
  cases t <;> cases u <;> simp at h ⊢

/-! ### How many texts there are -/
def allStr (A : List UInt8) : Nat → List (List UInt8)
  | 0 => [[]]
  | n + 1 => A.flatMap fun b => (allStr A n).map (b :: ·)
theorem allStr_length (A : List UInt8) : ∀ n, (allStr A n).length = A.length ^ n
  | 0 => rfl
  | n + 1 => by
    simp only [allStr]
    rw [List.length_flatMap]
    simp only [List.length_map, allStr_length A n]
    rw [List.map_const', List.sum_replicate_nat, Nat.pow_succ, Nat.mul_comm]
theorem allStr_mem {A : List UInt8} : ∀ {x : List UInt8}, (∀ b ∈ x, b ∈ A) → x ∈ allStr A x.length
  | [], _ => by simp [allStr]
  | b :: x, h => by
    simp only [allStr, List.length_cons, List.mem_flatMap, List.mem_map]
    exact ⟨b, h b (by simp), x, allStr_mem fun c hc => h c (by simp [hc]), rfl⟩
theorem nodup_bound {A : List UInt8} {n : Nat} {K : List (List UInt8)} (hn : K.Nodup) (h : ∀ x ∈ K, x.length = n ∧ ∀ b ∈ x, b ∈ A) : K.length ≤ A.length ^ n := by
  rw [← allStr_length A n]
  apply List.Nodup.length_le_of_subset hn
  intro x hx
  obtain ⟨h1, h2⟩ := h x hx
  rw [← h1]
  exact allStr_mem h2
end Go.Proofs.YtnkkgghpfgihfabDoor.Ab

/- GAMES of the reference: small functions. -/
namespace Go.Proofs.YtnkkgghpfgihfabDoor.Ab
open Go
set_option maxRecDepth 100000
set_option maxHeartbeats 4000000

theorem put_put (w : List UInt8) (i t : Nat) (hi : i < w.length) (ht : t < w.length) (hne : i ≠ t) : (w.take i ++ [46] ++ w.drop (i + 1)).take t ++ [w.getD i 0] ++ (w.take i ++ [46] ++ w.drop (i + 1)).drop (t + 1) = madeB w i t := by
  have e1 : w.take i ++ [46] ++ w.drop (i + 1) = w.set i 46 := by
    rw [List.set_eq_take_append_cons_drop, if_pos hi]; simp
  rw [e1]
  have e2 : ∀ (l : List UInt8) (x : UInt8), t < l.length → l.take t ++ [x] ++ l.drop (t + 1) = l.set t x := by
    intro l x hl
    rw [List.set_eq_take_append_cons_drop, if_pos hl]; simp
  rw [e2 _ _ (by simpa using ht)]
  unfold madeB
  exact List.set_comm _ _ hne
theorem c_liMake (w : List UInt8) (i t : Nat) (hi : i < w.length) (ht : t < w.length) (hne : i ≠ t) (hw : w.length < 2 ^ 30) {h : AH} {post : AV → AH → Prop} (hp : ∀ h', Pre h h' → post (.str (madeB w i t)) h') : S 66 [.str w, mvV i t] h post k := by
  refine S_of rfl T66 ?_; unfold fi66
  have e1 : ((i : Int) + 1).toNat = i + 1 := by omega
  have e2 : (w.drop i).take (i + 1 - i) = [w.getD i 0] := sub_one w i hi
  simp (maxSteps := 1000000) (disch := first | omega | rfl | (simp only [zL, two63, room] <;> omega) | fail) only [↓reduceIte, ↓zP, zW, WOp, evOp, evBin, binI, binSh, binS, evNil, keyIs, keyEq, mkv, AV.cells, AV.sc, optv, bnd, env, put, Env.get, Env.set, Env.del, Env.dels, Env.init, res1, resL, resV, fillP, splice, newRow, Nat.reduceEqDiff, Nat.reduceLT, Nat.reduceLeDiff, Nat.reduceAdd, Nat.reduceMul, Nat.reduceSub, Nat.reduceBEq, reduceCtorEq, ↓zR, zQ, Tr, StA, StT, e1, e2]
  refine w_drw ?_
  have l1 : (w.take i ++ [46] ++ w.drop (i + 1)).length = w.length := by simp; omega
  simp (maxSteps := 1000000) (disch := first | omega | rfl | (simp only [zL, two63, room] <;> omega) | fail) only [↓reduceIte, ↓zP, zW, WOp, evOp, evBin, binI, binSh, binS, evNil, keyIs, keyEq, mkv, AV.cells, AV.sc, optv, bnd, env, put, Env.get, Env.set, Env.del, Env.dels, Env.init, res1, resL, resV, fillP, splice, newRow, Nat.reduceEqDiff, Nat.reduceLT, Nat.reduceLeDiff, Nat.reduceAdd, Nat.reduceMul, Nat.reduceSub, Nat.reduceBEq, reduceCtorEq, ↓zR, zQ, Tr, StA, StT, e1, e2]
  refine c_liPut w i [46] hi hw (by simp) ?_
  simp (maxSteps := 1000000) (disch := first | omega | rfl | (simp only [zL, two63, room] <;> omega) | fail) only [↓reduceIte, ↓zP, zW, WOp, evOp, evBin, binI, binSh, binS, evNil, keyIs, keyEq, mkv, AV.cells, AV.sc, optv, bnd, env, put, Env.get, Env.set, Env.del, Env.dels, Env.init, res1, resL, resV, fillP, splice, newRow, Nat.reduceEqDiff, Nat.reduceLT, Nat.reduceLeDiff, Nat.reduceAdd, Nat.reduceMul, Nat.reduceSub, Nat.reduceBEq, reduceCtorEq, ↓zR, zQ, Tr, StA, StT]
  refine c_liPut _ t _ (by rw [l1]; exact ht) (by rw [l1]; exact hw) (by simp) ?_
  rw [put_put w i t hi ht hne]
  simp (maxSteps := 1000000) (disch := first | omega | rfl | (simp only [zL, two63, room] <;> omega) | fail) only [↓reduceIte, ↓zP, zW, WOp, evOp, evBin, binI, binSh, binS, evNil, keyIs, keyEq, mkv, AV.cells, AV.sc, optv, bnd, env, put, Env.get, Env.set, Env.del, Env.dels, Env.init, res1, resL, resV, fillP, splice, newRow, Nat.reduceEqDiff, Nat.reduceLT, Nat.reduceLeDiff, Nat.reduceAdd, Nat.reduceMul, Nat.reduceSub, Nat.reduceBEq, reduceCtorEq, ↓zR, zQ, Tr, StA, StT]
  exact hp _ (Pre.push _ _)

theorem lp_gaKey {R : X → Env → AH → Prop} {v : AV} {L : List (List UInt8)} {h : AH} (hs : Slc 1 encS h v L) (hL : L.length < 2 ^ 30) : ∀ (rest pre : List (List UInt8)) (o : List UInt8), L = pre ++ rest → o.length + (gaTail rest).length < 2 ^ 50 →
    R (.exit 0) [(5, .str (o ++ gaTail rest))] h → Cx (.loop lp203_0) [(5, .str o), (9, v), (10, .int .i64 L.length), (11, .int .i64 pre.length)] h R k k
  | [], pre, o, hpre, ho, hR => by
    subst hpre
    rw [w_loopb (c := lp203_0) (d := lb203_0) rfl]; unfold lb203_0
    simp only [List.append_nil]
    simp (maxSteps := 1000000) (disch := first | omega | rfl | (simp only [zL, two63, room] <;> omega) | fail) only [↓reduceIte, ↓zP, zW, WOp, evOp, evBin, binI, binSh, binS, evNil, keyIs, keyEq, mkv, AV.cells, AV.sc, optv, bnd, env, put, Env.get, Env.set, Env.del, Env.dels, Env.init, res1, resL, resV, fillP, splice, newRow, Nat.reduceEqDiff, Nat.reduceLT, Nat.reduceLeDiff, Nat.reduceAdd, Nat.reduceMul, Nat.reduceSub, Nat.reduceBEq, reduceCtorEq, ↓zR, zQ, Tr, StA, StT]
    simpa [gaTail] using hR
  | x :: rest, pre, o, hpre, ho, hR => by
    have ih := lp_gaKey (R := R) hs hL rest (pre ++ [x])
    subst hpre
    obtain ⟨c, kk, off, rfl, hr⟩ := hs.at hlS
    have hlen : (pre ++ x :: rest).length = pre.length + 1 + rest.length := by simp; omega
    have e : gaTail (x :: rest) = 47 :: (x ++ gaTail rest) := by simp [gaTail]
    rw [e] at ho hR
    simp only [List.length_cons, List.length_append] at ho
    rw [hlen] at ih hL ⊢
    rw [w_loopb (c := lp203_0) (d := lb203_0) rfl]; unfold lb203_0
    have hlt : (pre.length : Int) < ((pre.length + 1 + rest.length : Nat) : Int) := by omega
    have hw : (pre.length : Int) + 1 = ((pre ++ [x]).length : Int) := by simp
    simp (maxSteps := 1000000) (disch := first | omega | rfl | (simp only [zL, two63, room] <;> omega) | fail) only [↓reduceIte, ↓zP, zW, WOp, evOp, evBin, binI, binSh, binS, evNil, keyIs, keyEq, mkv, AV.cells, AV.sc, optv, bnd, env, put, Env.get, Env.set, Env.del, Env.dels, Env.init, res1, resL, resV, fillP, splice, newRow, Nat.reduceEqDiff, Nat.reduceLT, Nat.reduceLeDiff, Nat.reduceAdd, Nat.reduceMul, Nat.reduceSub, Nat.reduceBEq, reduceCtorEq, ↓zR, zQ, Tr, StA, StT, hlt, hr, hw]
    rw [w_loopn (c := lp203_0) rfl]
    simp (maxSteps := 1000000) (disch := first | omega | rfl | (simp only [zL, two63, room] <;> omega) | fail) only [↓reduceIte, ↓zP, zW, WOp, evOp, evBin, binI, binSh, binS, evNil, keyIs, keyEq, mkv, AV.cells, AV.sc, optv, bnd, env, put, Env.get, Env.set, Env.del, Env.dels, Env.init, res1, resL, resV, fillP, splice, newRow, Nat.reduceEqDiff, Nat.reduceLT, Nat.reduceLeDiff, Nat.reduceAdd, Nat.reduceMul, Nat.reduceSub, Nat.reduceBEq, reduceCtorEq, ↓zR, zQ, Tr, StA, StT]
    refine ih (o ++ 47 :: x) (by simp) (by simp only [List.length_append, List.length_cons]; omega) ?_
    simpa using hR
theorem c_gaKey {v : AV} {L : List (List UInt8)} (t : Bool) {h : AH} (hs : Slc 1 encS h v L) (hL : L.length < 2 ^ 30) (ht : (gaTail L).length < 2 ^ 40) {post : AV → AH → Prop} (hp : post (.str (gaK (L, t))) h) : S 203 [v, .bool t] h post k := by
  refine S_of rfl T203 ?_; unfold fi203
  have hv := fun g => Slc.lenV (hs) (g := g) (ρ := fun _ => _) (x := .t 0) rfl; simp only [evOp] at hv
  cases t
  · simp (maxSteps := 1000000) (disch := first | omega | rfl | (simp only [zL, two63, room] <;> omega) | fail) only [↓reduceIte, ↓zP, zW, WOp, evOp, evBin, binI, binSh, binS, evNil, keyIs, keyEq, mkv, AV.cells, AV.sc, optv, bnd, env, put, Env.get, Env.set, Env.del, Env.dels, Env.init, res1, resL, resV, fillP, splice, newRow, Nat.reduceEqDiff, Nat.reduceLT, Nat.reduceLeDiff, Nat.reduceAdd, Nat.reduceMul, Nat.reduceSub, Nat.reduceBEq, reduceCtorEq, ↓zR, zQ, Tr, StA, StT, hv]
    refine lp_gaKey hs hL L [] _ rfl (by simp; omega) ?_
    simp (maxSteps := 1000000) (disch := first | omega | rfl | (simp only [zL, two63, room] <;> omega) | fail) only [↓reduceIte, ↓zP, zW, WOp, evOp, evBin, binI, binSh, binS, evNil, keyIs, keyEq, mkv, AV.cells, AV.sc, optv, bnd, env, put, Env.get, Env.set, Env.del, Env.dels, Env.init, res1, resL, resV, fillP, splice, newRow, Nat.reduceEqDiff, Nat.reduceLT, Nat.reduceLeDiff, Nat.reduceAdd, Nat.reduceMul, Nat.reduceSub, Nat.reduceBEq, reduceCtorEq, ↓zR, zQ, Tr, StA, StT]
    exact hp
  · simp (maxSteps := 1000000) (disch := first | omega | rfl | (simp only [zL, two63, room] <;> omega) | fail) only [↓reduceIte, ↓zP, zW, WOp, evOp, evBin, binI, binSh, binS, evNil, keyIs, keyEq, mkv, AV.cells, AV.sc, optv, bnd, env, put, Env.get, Env.set, Env.del, Env.dels, Env.init, res1, resL, resV, fillP, splice, newRow, Nat.reduceEqDiff, Nat.reduceLT, Nat.reduceLeDiff, Nat.reduceAdd, Nat.reduceMul, Nat.reduceSub, Nat.reduceBEq, reduceCtorEq, ↓zR, zQ, Tr, StA, StT, hv]
    refine lp_gaKey hs hL L [] _ rfl (by simp; omega) ?_
    simp (maxSteps := 1000000) (disch := first | omega | rfl | (simp only [zL, two63, room] <;> omega) | fail) only [↓reduceIte, ↓zP, zW, WOp, evOp, evBin, binI, binSh, binS, evNil, keyIs, keyEq, mkv, AV.cells, AV.sc, optv, bnd, env, put, Env.get, Env.set, Env.del, Env.dels, Env.init, res1, resL, resV, fillP, splice, newRow, Nat.reduceEqDiff, Nat.reduceLT, Nat.reduceLeDiff, Nat.reduceAdd, Nat.reduceMul, Nat.reduceSub, Nat.reduceBEq, reduceCtorEq, ↓zR, zQ, Tr, StA, StT]
    exact hp
theorem c_l1OwnS {v : AV} {L : List (List UInt8)} {h : AH} (hs : Slc 1 encS h v L) (hL : L.length < 2 ^ 30) {post : AV → AH → Prop} (hp : ∀ v' h', OwL 1 encS h h' v' L → Pre h h' → post v' h') : S 206 [v] h post k := by
  refine S_of rfl T206 ?_; unfold fi206
  rcases hs.cases with ⟨rfl, rfl⟩ | ⟨rfl, rfl⟩ | ⟨c, kk, off, rfl⟩
  · simp (maxSteps := 1000000) (disch := first | omega | rfl | (simp only [zL, two63, room] <;> omega) | fail) only [↓reduceIte, ↓zP, zW, WOp, evOp, evBin, binI, binSh, binS, evNil, keyIs, keyEq, mkv, AV.cells, AV.sc, optv, bnd, env, put, Env.get, Env.set, Env.del, Env.dels, Env.init, res1, resL, resV, fillP, splice, newRow, Nat.reduceEqDiff, Nat.reduceLT, Nat.reduceLeDiff, Nat.reduceAdd, Nat.reduceMul, Nat.reduceSub, Nat.reduceBEq, reduceCtorEq, ↓zR, zQ, Tr, StA, StT, apRow]
    exact hp _ _ OwL.emp (Pre.refl _)
  · simp (maxSteps := 1000000) (disch := first | omega | rfl | (simp only [zL, two63, room] <;> omega) | fail) only [↓reduceIte, ↓zP, zW, WOp, evOp, evBin, binI, binSh, binS, evNil, keyIs, keyEq, mkv, AV.cells, AV.sc, optv, bnd, env, put, Env.get, Env.set, Env.del, Env.dels, Env.init, res1, resL, resV, fillP, splice, newRow, Nat.reduceEqDiff, Nat.reduceLT, Nat.reduceLeDiff, Nat.reduceAdd, Nat.reduceMul, Nat.reduceSub, Nat.reduceBEq, reduceCtorEq, ↓zR, zQ, Tr, StA, StT, apRow]
    exact hp _ _ OwL.emp (Pre.refl _)
  · obtain ⟨h1, h2, hr⟩ := hs.all
    obtain ⟨v', h', ha, hown, hag⟩ := ap_ag (esz := 1) (b := h) (h := h) (v := .empS) (n := 0) (cs := []) ⟨rfl, rfl⟩ (Nat.le_refl _) (q := L.length) (vs := L.flatMap encS) (by rw [flat_len hlS]) (by simp [AV.sc]) (by unfold room; omega)
    simp (maxSteps := 1000000) (disch := first | omega | rfl | (simp only [zL, two63, room] <;> omega) | fail) only [↓reduceIte, ↓zP, zW, WOp, evOp, evBin, binI, binSh, binS, evNil, keyIs, keyEq, mkv, AV.cells, AV.sc, optv, bnd, env, put, Env.get, Env.set, Env.del, Env.dels, Env.init, res1, resL, resV, fillP, splice, newRow, Nat.reduceEqDiff, Nat.reduceLT, Nat.reduceLeDiff, Nat.reduceAdd, Nat.reduceMul, Nat.reduceSub, Nat.reduceBEq, reduceCtorEq, ↓zR, zQ, Tr, StA, StT, hr, ha]
    refine hp v' h' ?_ (hag.pre (Nat.le_refl _))
    unfold OwL
    simpa using hown
theorem c_gaWith {v : AV} {pre : List (List UInt8)} {x : List UInt8} {rest : List (List UInt8)} {h : AH} (hs : Slc 1 encS h v (pre ++ x :: rest)) (hL : (pre ++ x :: rest).length < 2 ^ 30) (w : List UInt8) {post : AV → AH → Prop} (hp : ∀ v' h', OwL 1 encS h h' v' (pre ++ w :: rest) → Pre h h' → post v' h') : S 204 [v, .int .i64 pre.length, .str w] h post k := by
  refine S_of rfl T204 ?_; unfold fi204
  simp (maxSteps := 1000000) (disch := first | omega | rfl | (simp only [zL, two63, room] <;> omega) | fail) only [↓reduceIte, ↓zP, zW, WOp, evOp, evBin, binI, binSh, binS, evNil, keyIs, keyEq, mkv, AV.cells, AV.sc, optv, bnd, env, put, Env.get, Env.set, Env.del, Env.dels, Env.init, res1, resL, resV, fillP, splice, newRow, Nat.reduceEqDiff, Nat.reduceLT, Nat.reduceLeDiff, Nat.reduceAdd, Nat.reduceMul, Nat.reduceSub, Nat.reduceBEq, reduceCtorEq, ↓zR, zQ, Tr, StA, StT]
  refine c_l1OwnS hs hL ?_
  intro v2 h2 ho hp2
  obtain ⟨c, kk, off, h3, rfl, hw, ho3, hb, hlen, hag⟩ := ho.store hlS scS w
  have hlt : (pre.length : Int) < ((pre ++ x :: rest).length : Int) := by simp; omega
  simp (maxSteps := 1000000) (disch := first | omega | rfl | (simp only [zL, two63, room] <;> omega) | fail) only [↓reduceIte, ↓zP, zW, WOp, evOp, evBin, binI, binSh, binS, evNil, keyIs, keyEq, mkv, AV.cells, AV.sc, optv, bnd, env, put, Env.get, Env.set, Env.del, Env.dels, Env.init, res1, resL, resV, fillP, splice, newRow, Nat.reduceEqDiff, Nat.reduceLT, Nat.reduceLeDiff, Nat.reduceAdd, Nat.reduceMul, Nat.reduceSub, Nat.reduceBEq, reduceCtorEq, ↓zR, zQ, Tr, StA, StT, hlt, hw]
  exact hp _ _ ho3 ⟨by rw [hlen]; exact hp2.1, fun i hi => by rw [hag i (by omega), hp2.2 i hi]⟩
end Go.Proofs.YtnkkgghpfgihfabDoor.Ab

/- GAMES of the reference: who wins a sum, by what is known already. -/
namespace Go.Proofs.YtnkkgghpfgihfabDoor.Ab
open Go
set_option maxRecDepth 100000
set_option maxHeartbeats 4000000

def rowOf : AV → Option Nat
  | .slice c _ _ _ _ => some c
  | _ => none
/-- Rows that belong to what is known. -/
def gr (c : Nat) (h : AH) (i : Nat) : Prop := i = c ∨ ∃ v1 v2, h[c]? = some (.row [v1, v2] 0 0 false) ∧ (rowOf v1 = some i ∨ rowOf v2 = some i)
def FrG (c : Nat) (h h' : AH) : Prop := h.length ≤ h'.length ∧ ∀ i, i < h.length → ¬ gr c h i → h'[i]? = h[i]? ∧ ¬ gr c h' i
theorem FrG.refl (c : Nat) (h : AH) : FrG c h h := ⟨Nat.le_refl _, fun _ _ hg => ⟨rfl, hg⟩⟩
theorem FrG.trans {c : Nat} {x y z : AH} (p : FrG c x y) (q : FrG c y z) : FrG c x z := ⟨Nat.le_trans p.1 q.1, fun i hi hg => by
  obtain ⟨h1, h2⟩ := p.2 i hi hg
  obtain ⟨h3, h4⟩ := q.2 i (Nat.lt_of_lt_of_le hi p.1) h2
  exact ⟨by rw [h3, h1], h4⟩⟩
theorem gr_pre {c : Nat} {h h' : AH} (hp : Pre h h') (hc : c < h.length) (i : Nat) : gr c h' i ↔ gr c h i := by
  unfold gr; rw [hp.2 c hc]
theorem Pre.frg {c : Nat} {h h' : AH} (hp : Pre h h') (hc : c < h.length) : FrG c h h' := ⟨hp.1, fun i hi hg => ⟨hp.2 i hi, by rw [gr_pre hp hc]; exact hg⟩⟩
def alph : List UInt8 := [116, 102, 47, 46, 70, 84]
def OkS (N : Nat) (s : List (List UInt8) × Bool) : Prop := (∀ w ∈ s.1, signs w) ∧ (gaK s).length = N
def KN (N c : Nat) (h : AH) (K : List (List UInt8)) : Prop := ∃ v1 v2 W, h[c]? = some (.row [v1, v2] 0 0 false) ∧ OwL 1 encS [] h v1 K ∧ OwL 1 encB [] h v2 W ∧ rowOf v1 ≠ some c ∧ rowOf v2 ≠ some c ∧ (∀ r, rowOf v1 = some r → rowOf v2 ≠ some r) ∧
  K.length = W.length ∧ K.Nodup ∧ (∀ x ∈ K, x.length = N ∧ ∀ b ∈ x, b ∈ alph) ∧ ∀ (i : Nat) x b, K[i]? = some x → W[i]? = some b → ∀ s, OkS N s → x = gaK s → b = winL s.1 s.2
theorem KN.lt {N c : Nat} {h : AH} {K : List (List UInt8)} (hk : KN N c h K) : c < h.length := by
  obtain ⟨_, _, _, h1, _⟩ := hk
  exact (List.getElem?_eq_some_iff.1 h1).1
theorem own_lt {esz : Nat} {b h : AH} {v : AV} {n : Nat} {cs : List AV} (ho : Own esz b h v n cs) {r : Nat} (hr : rowOf v = some r) : r < h.length := by
  unfold Own at ho
  cases v <;> simp only [rowOf] at hr ho <;> first
    | (cases hr; done)
    | (cases hr; obtain ⟨_, _, _, _, cells, fl, h5, _⟩ := ho; exact (List.getElem?_eq_some_iff.1 h5).1)
theorem own_ge {esz : Nat} {b h : AH} {v : AV} {n : Nat} {cs : List AV} (ho : Own esz b h v n cs) {r : Nat} (hr : rowOf v = some r) : b.length ≤ r := by
  unfold Own at ho
  cases v <;> simp only [rowOf] at hr ho <;> first
    | (cases hr; done)
    | (cases hr; exact ho.2.2.2.1)
theorem KN.gr_lt {N c : Nat} {h : AH} {K : List (List UInt8)} (hk : KN N c h K) {i : Nat} (hg : gr c h i) : i < h.length := by
  have hlt := hk.lt
  obtain ⟨v1, v2, W, h1, h2, h3, _⟩ := hk
  rcases hg with rfl | ⟨u1, u2, h4, h5⟩
  · exact hlt
  · rw [h1] at h4
    simp only [Option.some.injEq, AO.row.injEq, List.cons.injEq, and_true, true_and] at h4
    obtain ⟨rfl, rfl⟩ := h4
    rcases h5 with h5 | h5
    · exact own_lt h2 h5
    · exact own_lt h3 h5
theorem KN.pre {N c : Nat} {h h' : AH} {K : List (List UInt8)} (hk : KN N c h K) (hp : Pre h h') : KN N c h' K := by
  have hlt := hk.lt
  obtain ⟨v1, v2, W, h1, h2, h3, h4⟩ := hk
  exact ⟨v1, v2, W, by rw [hp.2 c hlt]; exact h1, h2.pre hp, h3.pre hp, h4⟩
theorem KN.fresh {N c : Nat} {h h' : AH} {K : List (List UInt8)} (hk : KN N c h K) (hp : Pre h h') {r : Nat} (hr : h.length ≤ r) : ¬ gr c h' r := by
  rw [gr_pre hp hk.lt]
  intro hg
  have := hk.gr_lt hg
  omega
/-- A slice that is read, and does not belong to what is known. -/
def SlcG {α : Type} (esz : Nat) (enc : α → List AV) (c : Nat) (h : AH) (v : AV) (L : List α) : Prop := Slc esz enc h v L ∧ ∀ r, rowOf v = some r → ¬ gr c h r
theorem rd_fr {c : Nat} {h h' : AH} (hf : FrG c h h') {r k o n : Nat} {cs : List AV} (hg : ¬ gr c h r) (hr : rdRow h r k o n = some cs) : rdRow h' r k o n = some cs := by
  have := rd_lt hr
  unfold rdRow at hr ⊢
  rw [(hf.2 r this hg).1]; exact hr
theorem SlcG.fr {α : Type} {esz : Nat} {enc : α → List AV} {c : Nat} {h h' : AH} {v : AV} {L : List α} (hs : SlcG esz enc c h v L) (hf : FrG c h h') : SlcG esz enc c h' v L := by
  obtain ⟨h1, h2⟩ := hs
  unfold SlcG Slc Sl at *
  cases v <;> simp only [rowOf] at * <;> first
    | (exact ⟨h1, fun r hr => by cases hr⟩)
    | (obtain ⟨k1, k2, k3, k4⟩ := h1
       exact ⟨⟨k1, k2, k3, rd_fr hf (h2 _ rfl) k4⟩, fun r hr => by cases hr; exact (hf.2 _ (rd_lt k4) (h2 _ rfl)).2⟩)
theorem OwL.slcG {α : Type} {esz : Nat} {enc : α → List AV} {N c : Nat} {h h' : AH} {v : AV} {L : List α} {K : List (List UInt8)} (ho : OwL esz enc h h' v L) (hk : KN N c h K) (hp : Pre h h') : SlcG esz enc c h' v L :=
  ⟨ho.slc, fun _ hr => hk.fresh hp (own_ge ho hr)⟩

theorem kindsS_not (t : Bool) : kindsS t (!t) = kindS t := by cases t <;> rfl
theorem gaTail_len (ls : List (List UInt8)) : (gaTail ls).length = (ls.map fun w => w.length + 1).sum := by
  induction ls with
  | nil => rfl
  | cons w ls ih => simp only [gaTail, List.flatMap_cons, List.length_append, List.length_cons, List.map_cons, List.sum_cons] at ih ⊢; rw [ih]
theorem OkS.step {N : Nat} {pre : List (List UInt8)} {w : List UInt8} {rest : List (List UInt8)} {t : Bool} (ho : OkS N (pre ++ w :: rest, t)) (i t' : Nat) (hi : i < w.length) : OkS N (pre ++ madeB w i t' :: rest, !t) := by
  obtain ⟨h1, h2⟩ := ho
  refine ⟨?_, ?_⟩
  · intro x hx
    simp only [List.mem_append, List.mem_cons] at hx
    rcases hx with hx | rfl | hx
    · exact h1 x (by simp [hx])
    · have hw := h1 w (by simp)
      have hb := sign_at hw hi
      unfold signs madeB
      rw [List.all_eq_true] at *
      intro b hb'
      rcases List.mem_or_eq_of_mem_set hb' with h3 | rfl
      · rcases List.mem_or_eq_of_mem_set h3 with h4 | rfl
        · exact (List.all_eq_true.1 hw) b h4
        · exact hb
      · rfl
    · exact h1 x (by simp [hx])
  · rw [← h2]
    simp only [gaK, List.length_cons, gaTail_len, List.map_append, List.map_cons, List.sum_append, List.sum_cons, madeB_length]
theorem OkS.bounds {N : Nat} {ls : List (List UInt8)} {t : Bool} (ho : OkS N (ls, t)) : ls.length ≤ N ∧ (gaTail ls).length < N ∧ ∀ w ∈ ls, w.length < N := by
  obtain ⟨_, h2⟩ := ho
  have h3 : (gaTail ls).length + 1 = N := by rw [← h2]; simp [gaK]
  have key : ∀ l : List (List UInt8), l.length ≤ (gaTail l).length ∧ ∀ w ∈ l, w.length < (gaTail l).length := by
    intro l
    induction l with
    | nil => simp
    | cons a l ih =>
      rw [gaTail_len] at ih ⊢
      simp only [List.map_cons, List.sum_cons, List.length_cons]
      refine ⟨by omega, ?_⟩
      intro w hw
      rcases List.mem_cons.1 hw with rfl | hw
      · omega
      · have := ih.2 w hw; omega
  have := key ls
  exact ⟨by omega, by omega, fun w hw => by have := this.2 w hw; omega⟩
theorem OkS.alph {N : Nat} {s : List (List UInt8) × Bool} (ho : OkS N s) : ∀ b ∈ gaK s, b ∈ Ab.alph := by
  obtain ⟨ls, t⟩ := s
  intro b hb
  simp only [gaK, List.mem_cons] at hb
  rcases hb with rfl | hb
  · cases t
    · exact (by decide : (102 : UInt8) ∈ Ab.alph)
    · exact (by decide : (116 : UInt8) ∈ Ab.alph)
  · simp only [gaTail, List.mem_flatMap, List.mem_cons] at hb
    obtain ⟨w, hw, hb⟩ := hb
    rcases hb with rfl | hb
    · decide
    · have := List.all_eq_true.1 (ho.1 w hw) b hb
      simp only [isSign, Bool.or_eq_true, beq_iff_eq] at this
      rcases this with (rfl | rfl) | rfl <;> decide
theorem own_row {esz : Nat} {b h h' : AH} {v : AV} {n : Nat} {cs : List AV} (ho : Own esz b h v n cs) (hh : ∀ r, rowOf v = some r → h'[r]? = h[r]?) : Own esz b h' v n cs := by
  unfold Own at ho ⊢
  cases v <;> simp only [rowOf] at ho hh ⊢ <;> first
    | exact ho
    | (obtain ⟨h1, h2, h3, h4, cells, fl, h5, h6⟩ := ho
       exact ⟨h1, h2, h3, h4, cells, fl, by rw [hh _ rfl]; exact h5, h6⟩)
theorem OwL.sc1 {α : Type} {esz : Nat} {enc : α → List AV} {b h : AH} {v : AV} {L : List α} (ho : OwL esz enc b h v L) : v.sc = true := by
  unfold OwL Own at ho
  cases v <;> simp only at ho <;> first
    | rfl
    | (exact ho.elim)
theorem OwL.cells {α : Type} {esz : Nat} {enc : α → List AV} {b h : AH} {v : AV} {L : List α} (ho : OwL esz enc b h v L) : v.cells = [v] := by
  unfold OwL Own at ho
  cases v <;> simp only at ho <;> first
    | rfl
    | (exact ho.elim)
theorem apRow_fr {h h' : AH} {esz q : Nat} {v v' : AV} {vs : List AV} (ha : apRow h esz v q vs = some (v', h')) : (∀ i, i < h.length → rowOf v ≠ some i → h'[i]? = h[i]?) ∧ h.length ≤ h'.length ∧ ∀ r, rowOf v' = some r → (rowOf v = some r ∨ r = h.length) := by
  have fresh : ∀ u, (if q = 0 then some (u, h) else if q ≤ room then (newRow h vs).map fun (c, h') => (AV.slice c 0 0 q esz, h') else none) = some (v', h') → rowOf u = none → (∀ i, i < h.length → h'[i]? = h[i]?) ∧ h.length ≤ h'.length ∧ ∀ r, rowOf v' = some r → r = h.length := by
    intro u ha hu
    split at ha
    · cases ha
      exact ⟨fun _ _ => rfl, Nat.le_refl _, fun r hr => by rw [hu] at hr; cases hr⟩
    · split at ha
      · unfold newRow at ha
        split at ha
        · simp only [Option.map_some, Option.some.injEq, Prod.mk.injEq] at ha
          obtain ⟨rfl, rfl⟩ := ha
          exact ⟨fun i hi => List.getElem?_append_left hi, by simp, fun r hr => by simp only [rowOf, Option.some.injEq] at hr; exact hr.symm⟩
        · cases ha
      · cases ha
  unfold apRow at ha
  cases v <;> simp only at ha <;> first
    | (cases ha; done)
    | (obtain ⟨h1, h2, h3⟩ := fresh _ ha rfl
       exact ⟨fun i hi _ => h1 i hi, h2, fun r hr => .inr (h3 r hr)⟩)
    | (split at ha
       · split at ha
         · cases ha
           refine ⟨fun i _ hr => ?_, by simp, fun r hr => .inl hr⟩
           rw [List.getElem?_set, if_neg (fun e => hr (by simp [rowOf, e]))]
         · cases ha
       · cases ha)
/-- Keys that came by a call. -/
def Came (N n : Nat) (K K' : List (List UInt8)) : Prop := ∀ x ∈ K', x ∈ K ∨ ∃ s, OkS N s ∧ muL s.1 < n ∧ x = gaK s
theorem Came.refl (N n : Nat) (K : List (List UInt8)) : Came N n K K := fun _ h => .inl h
theorem Came.trans {N n : Nat} {a b c : List (List UInt8)} (x : Came N n a b) (y : Came N n b c) : Came N n a c := fun k hk => by
  rcases y k hk with h | h
  · exact x k h
  · exact .inr h
theorem Came.mono {N n m : Nat} {a b : List (List UInt8)} (x : Came N n a b) (hm : n ≤ m) : Came N m a b := fun k hk => by
  rcases x k hk with h | ⟨s, h1, h2, h3⟩
  · exact .inl h
  · exact .inr ⟨s, h1, by omega, h3⟩
/-- The search among what is known. -/
theorem lp_gaWin0 {c : Nat} {h : AH} {v1 v2 : AV} {K : List (List UInt8)} {W : List Bool} (hrow : h[c]? = some (.row [v1, v2] 0 0 false)) (h1 : Slc 1 encS h v1 K) (h2 : Slc 1 encB h v2 W) (hlen : K.length = W.length) (hK : K.length < 2 ^ 39) (lv : AV) (t : Bool) (key : List UInt8) {R : X → Env → AH → Prop} :
    ∀ (rest pre : List (List UInt8)), K = pre ++ rest → (∀ (i : Nat) b, K[i]? = some key → W[i]? = some b → R .ret [(6, .bool b)] h) → (key ∉ rest → R (.exit 0) [(0, .ptr c 0 0 2), (1, lv), (2, .bool t), (7, .str key)] h) →
    Cx (.loop lp199_0) [(0, .ptr c 0 0 2), (1, lv), (2, .bool t), (7, .str key), (21, v1), (22, .int .i64 K.length), (23, .int .i64 pre.length)] h R k k
  | [], pre, hpre, hf, hR => by
    subst hpre
    rw [w_loopb (c := lp199_0) (d := lb199_0) rfl]; unfold lb199_0
    simp only [List.append_nil]
    simp (maxSteps := 1000000) (disch := first | omega | rfl | (simp only [zL, two63, room] <;> omega) | fail) only [↓reduceIte, ↓zP, zW, WOp, evOp, evBin, binI, binSh, binS, evNil, keyIs, keyEq, mkv, AV.cells, AV.sc, optv, bnd, env, put, Env.get, Env.set, Env.del, Env.dels, Env.init, res1, resL, resV, fillP, splice, newRow, Nat.reduceEqDiff, Nat.reduceLT, Nat.reduceLeDiff, Nat.reduceAdd, Nat.reduceMul, Nat.reduceSub, Nat.reduceBEq, reduceCtorEq, ↓zR, zQ, Tr, StA, StT]
    exact hR (by simp)
  | x :: rest, pre, hpre, hf, hR => by
    have ih := lp_gaWin0 hrow h1 h2 hlen hK lv t key (R := R) rest (pre ++ [x])
    have hrd : rdRow h c 0 1 1 = some [v2] := by simp [rdRow, hrow]
    subst hpre
    obtain ⟨r1, k1, o1, rfl, hr⟩ := h1.at hlS
    have hl : (pre ++ x :: rest).length = pre.length + 1 + rest.length := by simp; omega
    obtain ⟨b, hb⟩ : ∃ b, W[pre.length]? = some b := ⟨W[pre.length]'(by omega), by simp⟩
    have hW : W = W.take pre.length ++ b :: W.drop (pre.length + 1) := by
      have hlt : pre.length < W.length := by omega
      have := List.getElem_of_getElem? hb
      obtain ⟨_, e⟩ := this
      rw [← e, ← List.drop_eq_getElem_cons, List.take_append_drop]
    have hwl : (W.take pre.length).length = pre.length := by simp; omega
    rw [hW] at h2
    obtain ⟨r2, k2, o2, rfl, hr2⟩ := h2.at hlB
    rw [hwl] at hr2
    have hlW : W.length = pre.length + 1 + rest.length := by omega
    rw [← hW, hlW] at hrd
    rw [hl] at ih hK ⊢
    rw [w_loopb (c := lp199_0) (d := lb199_0) rfl]; unfold lb199_0
    have hlt : (pre.length : Int) < ((pre.length + 1 + rest.length : Nat) : Int) := by omega
    have hw : (pre.length : Int) + 1 = ((pre ++ [x]).length : Int) := by simp
    cases e : (x == key)
    · simp (maxSteps := 1000000) (disch := first | omega | rfl | (simp only [zL, two63, room] <;> omega) | fail) only [↓reduceIte, ↓zP, zW, WOp, evOp, evBin, binI, binSh, binS, evNil, keyIs, keyEq, mkv, AV.cells, AV.sc, optv, bnd, env, put, Env.get, Env.set, Env.del, Env.dels, Env.init, res1, resL, resV, fillP, splice, newRow, Nat.reduceEqDiff, Nat.reduceLT, Nat.reduceLeDiff, Nat.reduceAdd, Nat.reduceMul, Nat.reduceSub, Nat.reduceBEq, reduceCtorEq, ↓zR, zQ, Tr, StA, StT, hlt, hr, e, hw]
      rw [w_loopn (c := lp199_0) rfl]
      simp (maxSteps := 1000000) (disch := first | omega | rfl | (simp only [zL, two63, room] <;> omega) | fail) only [↓reduceIte, ↓zP, zW, WOp, evOp, evBin, binI, binSh, binS, evNil, keyIs, keyEq, mkv, AV.cells, AV.sc, optv, bnd, env, put, Env.get, Env.set, Env.del, Env.dels, Env.init, res1, resL, resV, fillP, splice, newRow, Nat.reduceEqDiff, Nat.reduceLT, Nat.reduceLeDiff, Nat.reduceAdd, Nat.reduceMul, Nat.reduceSub, Nat.reduceBEq, reduceCtorEq, ↓zR, zQ, Tr, StA, StT]
      refine ih (by simp) hf ?_
      intro hn
      refine hR ?_
      rw [List.mem_cons]
      rintro (rfl | hn')
      · simp at e
      · exact hn hn'
    · simp (maxSteps := 1000000) (disch := first | omega | rfl | (simp only [zL, two63, room] <;> omega) | fail) only [↓reduceIte, ↓zP, zW, WOp, evOp, evBin, binI, binSh, binS, evNil, keyIs, keyEq, mkv, AV.cells, AV.sc, optv, bnd, env, put, Env.get, Env.set, Env.del, Env.dels, Env.init, res1, resL, resV, fillP, splice, newRow, Nat.reduceEqDiff, Nat.reduceLT, Nat.reduceLeDiff, Nat.reduceAdd, Nat.reduceMul, Nat.reduceSub, Nat.reduceBEq, reduceCtorEq, ↓zR, zQ, Tr, StA, StT, hlt, hr, e, hrd, hr2]
      refine hf pre.length b ?_ hb
      rw [beq_iff_eq] at e
      subst e; simp

def GWin (N n : Nat) : Prop := ∀ (ls : List (List UInt8)) (t : Bool) (c : Nat) (v : AV) (h : AH) (K : List (List UInt8)), muL ls < n → OkS N (ls, t) → KN N c h K → SlcG 1 encS c h v ls → ∀ post : AV → AH → Prop,
  (∀ h' K', FrG c h h' → KN N c h' K' → Came N (muL ls + 1) K K' → post (.bool (winL ls t)) h') → S 199 [.ptr c 0 0 2, v, .bool t] h post k
/-- Over the moves of one line. -/
theorem lp_gaWin2 {N n : Nat} (ih : GWin N n) {c : Nat} {pre : List (List UInt8)} {w : List UInt8} {rest : List (List UInt8)} {t : Bool} (hn : muL (pre ++ w :: rest) < n + 1) (hN : N ≤ 15) (hok : OkS N (pre ++ w :: rest, t)) (v vm : AV) (key : AV) (L39 : AV) (n40 : AV) {h0 : AH} {K0 : List (List UInt8)} {R : X → Env → AH → Prop} :
    ∀ (mr mp : List (Int × Int)) (h : AH) (K : List (List UInt8)), movesB w (kindS t) = mp ++ mr → FrG c h0 h → KN N c h K → Came N (muL (pre ++ w :: rest)) K0 K → SlcG 1 encS c h v (pre ++ w :: rest) → SlcG 2 encM c h vm (movesB w (kindS t)) →
    (∀ h' K', FrG c h0 h' → KN N c h' K' → Came N (muL (pre ++ w :: rest)) K0 K' → SlcG 1 encS c h' v (pre ++ w :: rest) → R (.exit 4) [(0, .ptr c 0 0 2), (1, v), (2, .bool t), (7, key), (10, .bool (mr.any fun m => !winL (pre ++ madeB w m.1.toNat m.2.toNat :: rest) (!t))), (39, L39), (40, n40), (41, .int .i64 pre.length)] h') →
    Cx (.loop lp199_2) [(0, .ptr c 0 0 2), (1, v), (2, .bool t), (7, key), (10, .bool false), (11, .int .i64 pre.length), (12, .str w), (39, L39), (40, n40), (41, .int .i64 pre.length), (50, vm), (51, .int .i64 (movesB w (kindS t)).length), (52, .int .i64 mp.length)] h R k k
  | [], mp, h, K, hmp, hf, hk, hc, hs, hsm, hR => by
    rw [w_loopb (c := lp199_2) (d := lb199_2) rfl]; unfold lb199_2
    have hl : (movesB w (kindS t)).length = mp.length := by rw [hmp]; simp
    rw [hl]
    simp (maxSteps := 1000000) (disch := first | omega | rfl | (simp only [zL, two63, room] <;> omega) | fail) only [↓reduceIte, ↓zP, zW, WOp, evOp, evBin, binI, binSh, binS, evNil, keyIs, keyEq, mkv, AV.cells, AV.sc, optv, bnd, env, put, Env.get, Env.set, Env.del, Env.dels, Env.init, res1, resL, resV, fillP, splice, newRow, Nat.reduceEqDiff, Nat.reduceLT, Nat.reduceLeDiff, Nat.reduceAdd, Nat.reduceMul, Nat.reduceSub, Nat.reduceBEq, reduceCtorEq, ↓zR, zQ, Tr, StA, StT]
    have := hR h K hf hk hc hs
    simpa using this
  | m :: mr, mp, h, K, hmp, hf, hk, hc, hs, hsm, hR => by
    have ihl := lp_gaWin2 ih hn hN hok v vm key L39 n40 (c := c) (h0 := h0) (K0 := K0) (R := R) mr (mp ++ [m])
    have hmm : m ∈ movesB w (kindS t) := by rw [hmp]; simp
    obtain ⟨i, t', rfl, hmv⟩ := movesB_mv hmm
    have hwl : w.length < N := hok.bounds.2.2 w (by simp)
    have hlen := movesB_len w (kindS t)
    have hml : (movesB w (kindS t)).length = mp.length + 1 + mr.length := by rw [hmp]; simp; omega
    have hsm' := hsm
    rw [hmp] at hsm'
    obtain ⟨r1, k1, o1, hv1, hr⟩ := hsm'.1.at hlM
    rw [← hmp, hml] at hv1
    subst hv1
    rw [hml] at ihl ⊢
    have hlt : (mp.length : Int) < ((mp.length + 1 + mr.length : Nat) : Int) := by omega
    have hw1 : (mp.length : Int) + 1 = ((mp ++ [((i : Int), (t' : Int))]).length : Int) := by simp
    rw [w_loopb (c := lp199_2) (d := lb199_2) rfl]; unfold lb199_2
    simp (maxSteps := 1000000) (disch := first | omega | rfl | (simp only [zL, two63, room] <;> omega) | fail) only [↓reduceIte, ↓zP, zW, WOp, evOp, evBin, binI, binSh, binS, evNil, keyIs, keyEq, mkv, AV.cells, AV.sc, optv, bnd, env, put, Env.get, Env.set, Env.del, Env.dels, Env.init, res1, resL, resV, fillP, splice, newRow, Nat.reduceEqDiff, Nat.reduceLT, Nat.reduceLeDiff, Nat.reduceAdd, Nat.reduceMul, Nat.reduceSub, Nat.reduceBEq, reduceCtorEq, ↓zR, zQ, Tr, StA, StT, hlt, hr]
    refine c_liMake w i t' hmv.fst hmv.snd ?_ (by omega) ?_
    · rintro rfl
      have := mu_made hmv
      obtain ⟨_, _, h3, h4⟩ := hmv
      rcases h4 with ⟨h4, h5⟩ | ⟨h4, h5⟩ <;> omega
    intro h2 hp2
    have hp1 := (Pre.push h (AO.row (encM ((i : Int), (t' : Int))) 0 0 false)).trans hp2
    have hf1 : FrG c h h2 := hp1.frg hk.lt
    have hk2 := hk.pre hp1
    have hs2 := hs.fr hf1
    have hsm2 := hsm.fr hf1
    simp (maxSteps := 1000000) (disch := first | omega | rfl | (simp only [zL, two63, room] <;> omega) | fail) only [↓reduceIte, ↓zP, zW, WOp, evOp, evBin, binI, binSh, binS, evNil, keyIs, keyEq, mkv, AV.cells, AV.sc, optv, bnd, env, put, Env.get, Env.set, Env.del, Env.dels, Env.init, res1, resL, resV, fillP, splice, newRow, Nat.reduceEqDiff, Nat.reduceLT, Nat.reduceLeDiff, Nat.reduceAdd, Nat.reduceMul, Nat.reduceSub, Nat.reduceBEq, reduceCtorEq, ↓zR, zQ, Tr, StA, StT]
    refine c_gaWith hs2.1 (by have := hok.bounds.1; omega) _ ?_
    intro v3 h3 ho3 hp3
    have hok' : OkS N (pre ++ madeB w i t' :: rest, !t) := hok.step i t' hmv.fst
    have hmu : muL (pre ++ madeB w i t' :: rest) < muL (pre ++ w :: rest) := by
      have := mu_made hmv
      simp only [muL, List.map_append, List.map_cons, List.sum_append, List.sum_cons]; omega
    simp (maxSteps := 1000000) (disch := first | omega | rfl | (simp only [zL, two63, room] <;> omega) | fail) only [↓reduceIte, ↓zP, zW, WOp, evOp, evBin, binI, binSh, binS, evNil, keyIs, keyEq, mkv, AV.cells, AV.sc, optv, bnd, env, put, Env.get, Env.set, Env.del, Env.dels, Env.init, res1, resL, resV, fillP, splice, newRow, Nat.reduceEqDiff, Nat.reduceLT, Nat.reduceLeDiff, Nat.reduceAdd, Nat.reduceMul, Nat.reduceSub, Nat.reduceBEq, reduceCtorEq, ↓zR, zQ, Tr, StA, StT]
    refine ih _ _ _ _ _ _ (by omega) hok' (hk2.pre hp3) (ho3.slcG hk2 hp3) _ ?_
    intro h4 K4 hf4 hk4 hc4
    have hf03 : FrG c h h4 := (hf1.trans (hp3.frg hk2.lt)).trans hf4
    have hcc : Came N (muL (pre ++ w :: rest)) K0 K4 := hc.trans (hc4.mono (by omega))
    cases e : winL (pre ++ madeB w i t' :: rest) (!t)
    · simp (maxSteps := 1000000) (disch := first | omega | rfl | (simp only [zL, two63, room] <;> omega) | fail) only [↓reduceIte, ↓zP, zW, WOp, evOp, evBin, binI, binSh, binS, evNil, keyIs, keyEq, mkv, AV.cells, AV.sc, optv, bnd, env, put, Env.get, Env.set, Env.del, Env.dels, Env.init, res1, resL, resV, fillP, splice, newRow, Nat.reduceEqDiff, Nat.reduceLT, Nat.reduceLeDiff, Nat.reduceAdd, Nat.reduceMul, Nat.reduceSub, Nat.reduceBEq, reduceCtorEq, ↓zR, zQ, Tr, StA, StT]
      exact hR h4 K4 (hf.trans hf03) hk4 hcc (hs.fr hf03) |> fun hh => by simpa [e] using hh
    · simp (maxSteps := 1000000) (disch := first | omega | rfl | (simp only [zL, two63, room] <;> omega) | fail) only [↓reduceIte, ↓zP, zW, WOp, evOp, evBin, binI, binSh, binS, evNil, keyIs, keyEq, mkv, AV.cells, AV.sc, optv, bnd, env, put, Env.get, Env.set, Env.del, Env.dels, Env.init, res1, resL, resV, fillP, splice, newRow, Nat.reduceEqDiff, Nat.reduceLT, Nat.reduceLeDiff, Nat.reduceAdd, Nat.reduceMul, Nat.reduceSub, Nat.reduceBEq, reduceCtorEq, ↓zR, zQ, Tr, StA, StT, hw1]
      rw [w_loopn (c := lp199_2) rfl]
      simp (maxSteps := 1000000) (disch := first | omega | rfl | (simp only [zL, two63, room] <;> omega) | fail) only [↓reduceIte, ↓zP, zW, WOp, evOp, evBin, binI, binSh, binS, evNil, keyIs, keyEq, mkv, AV.cells, AV.sc, optv, bnd, env, put, Env.get, Env.set, Env.del, Env.dels, Env.init, res1, resL, resV, fillP, splice, newRow, Nat.reduceEqDiff, Nat.reduceLT, Nat.reduceLeDiff, Nat.reduceAdd, Nat.reduceMul, Nat.reduceSub, Nat.reduceBEq, reduceCtorEq, ↓zR, zQ, Tr, StA, StT]
      refine ihl h4 K4 (by rw [hmp]; simp) (hf.trans hf03) hk4 hcc (hs.fr hf03) (hsm.fr hf03) ?_
      intro h' K' q1 q2 q3 q4
      have := hR h' K' q1 q2 q3 q4
      simpa [e] using this

/-- Over the lines of a sum. -/
theorem lp_gaWin1 {N n : Nat} (ih : GWin N n) {c : Nat} {ls : List (List UInt8)} {t : Bool} (hn : muL ls < n + 1) (hN : N ≤ 15) (hok : OkS N (ls, t)) (v : AV) (key : AV) {h0 : AH} {K0 : List (List UInt8)} {R : X → Env → AH → Prop} :
    ∀ (rest pre : List (List UInt8)) (h : AH) (K : List (List UInt8)), ls = pre ++ rest → FrG c h0 h → KN N c h K → Came N (muL ls) K0 K → SlcG 1 encS c h v ls →
    (∀ h' K', FrG c h0 h' → KN N c h' K' → Came N (muL ls) K0 K' → R (.exit 2) [(0, .ptr c 0 0 2), (7, key), (10, .bool ((nextZ (kindS t) pre rest).any fun x => !winL x (!t)))] h') →
    Cx (.loop lp199_1) [(0, .ptr c 0 0 2), (1, v), (2, .bool t), (7, key), (10, .bool false), (39, v), (40, .int .i64 ls.length), (41, .int .i64 pre.length)] h R k k
  | [], pre, h, K, hls, hf, hk, hc, hs, hR => by
    rw [w_loopb (c := lp199_1) (d := lb199_1) rfl]; unfold lb199_1
    have hl : ls.length = pre.length := by rw [hls]; simp
    rw [hl]
    simp (maxSteps := 1000000) (disch := first | omega | rfl | (simp only [zL, two63, room] <;> omega) | fail) only [↓reduceIte, ↓zP, zW, WOp, evOp, evBin, binI, binSh, binS, evNil, keyIs, keyEq, mkv, AV.cells, AV.sc, optv, bnd, env, put, Env.get, Env.set, Env.del, Env.dels, Env.init, res1, resL, resV, fillP, splice, newRow, Nat.reduceEqDiff, Nat.reduceLT, Nat.reduceLeDiff, Nat.reduceAdd, Nat.reduceMul, Nat.reduceSub, Nat.reduceBEq, reduceCtorEq, ↓zR, zQ, Tr, StA, StT]
    have := hR h K hf hk hc
    simpa [nextZ] using this
  | w :: rest, pre, h, K, hls, hf, hk, hc, hs, hR => by
    have ihl := lp_gaWin1 ih hn hN hok v key (c := c) (h0 := h0) (K0 := K0) (R := R) rest (pre ++ [w])
    have hb := hok.bounds
    have hsg := hok.1 w (by rw [hls]; simp)
    have hwl := hb.2.2 w (by rw [hls]; simp)
    have hll : ls.length = pre.length + 1 + rest.length := by rw [hls]; simp; omega
    have hs' := hs
    rw [hls] at hs'
    obtain ⟨r1, k1, o1, hv1, hr⟩ := hs'.1.at hlS
    rw [← hls, hll] at hv1
    subst hv1
    rw [hll] at ihl ⊢
    have hlt : (pre.length : Int) < ((pre.length + 1 + rest.length : Nat) : Int) := by omega
    have hw1 : (pre.length : Int) + 1 = ((pre ++ [w]).length : Int) := by simp
    rw [w_loopb (c := lp199_1) (d := lb199_1) rfl]; unfold lb199_1
    simp (maxSteps := 1000000) (disch := first | omega | rfl | (simp only [zL, two63, room] <;> omega) | fail) only [↓reduceIte, ↓zP, zW, WOp, evOp, evBin, binI, binSh, binS, evNil, keyIs, keyEq, mkv, AV.cells, AV.sc, optv, bnd, env, put, Env.get, Env.set, Env.del, Env.dels, Env.init, res1, resL, resV, fillP, splice, newRow, Nat.reduceEqDiff, Nat.reduceLT, Nat.reduceLeDiff, Nat.reduceAdd, Nat.reduceMul, Nat.reduceSub, Nat.reduceBEq, reduceCtorEq, ↓zR, zQ, Tr, StA, StT, hlt, hr]
    refine c_liMoves w hsg (by omega) t (!t) ?_
    intro vm h2 ho2 hp2
    rw [liMovesB_eq, kindsS_not] at ho2
    have hsm := ho2.slcG hk hp2
    have hf2 := hp2.frg (c := c) hk.lt
    have hlen := movesB_len w (kindS t)
    have hv2 := fun g => Slc.lenV (hsm.1) (g := g) (ρ := fun _ => _) (x := .t 0) rfl; simp only [evOp] at hv2
    simp (maxSteps := 1000000) (disch := first | omega | rfl | (simp only [zL, two63, room] <;> omega) | fail) only [↓reduceIte, ↓zP, zW, WOp, evOp, evBin, binI, binSh, binS, evNil, keyIs, keyEq, mkv, AV.cells, AV.sc, optv, bnd, env, put, Env.get, Env.set, Env.del, Env.dels, Env.init, res1, resL, resV, fillP, splice, newRow, Nat.reduceEqDiff, Nat.reduceLT, Nat.reduceLeDiff, Nat.reduceAdd, Nat.reduceMul, Nat.reduceSub, Nat.reduceBEq, reduceCtorEq, ↓zR, zQ, Tr, StA, StT, hv2]
    subst hls
    refine lp_gaWin2 ih hn hN hok _ vm key _ _ (h0 := h0) (K0 := K0) (movesB w (kindS t)) [] h2 K rfl (hf.trans hf2) (hk.pre hp2) hc (hs.fr hf2) hsm ?_
    intro h3 K3 hf3 hk3 hc3 hs3
    have hz : (nextZ (kindS t) pre (w :: rest)).any (fun x => !winL x (!t)) = (((movesB w (kindS t)).any fun m => !winL (pre ++ madeB w m.1.toNat m.2.toNat :: rest) (!t)) || (nextZ (kindS t) (pre ++ [w]) rest).any (fun x => !winL x (!t))) := by
      simp only [nextZ, List.any_append, nextB, List.any_map, Function.comp_def]
    rw [hz] at hR
    cases e : (movesB w (kindS t)).any fun m => !winL (pre ++ madeB w m.1.toNat m.2.toNat :: rest) (!t)
    · simp (maxSteps := 1000000) (disch := first | omega | rfl | (simp only [zL, two63, room] <;> omega) | fail) only [↓reduceIte, ↓zP, zW, WOp, evOp, evBin, binI, binSh, binS, evNil, keyIs, keyEq, mkv, AV.cells, AV.sc, optv, bnd, env, put, Env.get, Env.set, Env.del, Env.dels, Env.init, res1, resL, resV, fillP, splice, newRow, Nat.reduceEqDiff, Nat.reduceLT, Nat.reduceLeDiff, Nat.reduceAdd, Nat.reduceMul, Nat.reduceSub, Nat.reduceBEq, reduceCtorEq, ↓zR, zQ, Tr, StA, StT, hw1]
      rw [w_loopn (c := lp199_1) rfl]
      simp (maxSteps := 1000000) (disch := first | omega | rfl | (simp only [zL, two63, room] <;> omega) | fail) only [↓reduceIte, ↓zP, zW, WOp, evOp, evBin, binI, binSh, binS, evNil, keyIs, keyEq, mkv, AV.cells, AV.sc, optv, bnd, env, put, Env.get, Env.set, Env.del, Env.dels, Env.init, res1, resL, resV, fillP, splice, newRow, Nat.reduceEqDiff, Nat.reduceLT, Nat.reduceLeDiff, Nat.reduceAdd, Nat.reduceMul, Nat.reduceSub, Nat.reduceBEq, reduceCtorEq, ↓zR, zQ, Tr, StA, StT]
      refine ihl h3 K3 (by simp) hf3 hk3 hc3 hs3 ?_
      intro h' K' q1 q2 q3
      have := hR h' K' q1 q2 q3
      simpa [e] using this
    · simp (maxSteps := 1000000) (disch := first | omega | rfl | (simp only [zL, two63, room] <;> omega) | fail) only [↓reduceIte, ↓zP, zW, WOp, evOp, evBin, binI, binSh, binS, evNil, keyIs, keyEq, mkv, AV.cells, AV.sc, optv, bnd, env, put, Env.get, Env.set, Env.del, Env.dels, Env.init, res1, resL, resV, fillP, splice, newRow, Nat.reduceEqDiff, Nat.reduceLT, Nat.reduceLeDiff, Nat.reduceAdd, Nat.reduceMul, Nat.reduceSub, Nat.reduceBEq, reduceCtorEq, ↓zR, zQ, Tr, StA, StT]
      have := hR h3 K3 hf3 hk3 hc3
      simpa [e] using this

theorem c_gaWin {N : Nat} (hN : N ≤ 14) : ∀ n : Nat, GWin N n
  | 0 => fun ls t c v h K hn _ _ _ _ _ => by omega
  | n + 1 => by
    intro ls t c v h K hn hok hk hs post hp
    have ih := c_gaWin hN n
    have hb := hok.bounds
    have hKb : ∀ h K, KN N c h K → K.length < 2 ^ 39 := by
      rintro h K ⟨_, _, _, _, _, _, _, _, _, _, hnd, hal, _⟩
      have h1 := nodup_bound hnd hal
      have h2 : (6 : Nat) ^ N ≤ 6 ^ 14 := Nat.pow_le_pow_right (by omega) hN
      have h3 : alph.length = 6 := rfl
      rw [h3] at h1
      have h4 : (6 : Nat) ^ 14 < 2 ^ 39 := by decide
      omega
    have hK := hKb h K hk
    have hk0 := hk
    obtain ⟨v1, v2, W, hrow, ho1, ho2, n1, n2, n3, hlen, hnd, hal, hgood⟩ := hk
    have hrd : rdRow h c 0 0 1 = some [v1] := by simp [rdRow, hrow]
    refine S_of rfl T199 ?_; unfold fi199
    simp (maxSteps := 1000000) (disch := first | omega | rfl | (simp only [zL, two63, room] <;> omega) | fail) only [↓reduceIte, ↓zP, zW, WOp, evOp, evBin, binI, binSh, binS, evNil, keyIs, keyEq, mkv, AV.cells, AV.sc, optv, bnd, env, put, Env.get, Env.set, Env.del, Env.dels, Env.init, res1, resL, resV, fillP, splice, newRow, Nat.reduceEqDiff, Nat.reduceLT, Nat.reduceLeDiff, Nat.reduceAdd, Nat.reduceMul, Nat.reduceSub, Nat.reduceBEq, reduceCtorEq, ↓zR, zQ, Tr, StA, StT]
    refine c_gaKey t hs.1 (by omega) (by omega) ?_
    have hv1 := fun g => Slc.lenV (ho1.slc) (g := g) (ρ := fun _ => _) (x := .t 0) rfl; simp only [evOp] at hv1
    simp (maxSteps := 1000000) (disch := first | omega | rfl | (simp only [zL, two63, room] <;> omega) | fail) only [↓reduceIte, ↓zP, zW, WOp, evOp, evBin, binI, binSh, binS, evNil, keyIs, keyEq, mkv, AV.cells, AV.sc, optv, bnd, env, put, Env.get, Env.set, Env.del, Env.dels, Env.init, res1, resL, resV, fillP, splice, newRow, Nat.reduceEqDiff, Nat.reduceLT, Nat.reduceLeDiff, Nat.reduceAdd, Nat.reduceMul, Nat.reduceSub, Nat.reduceBEq, reduceCtorEq, ↓zR, zQ, Tr, StA, StT, hrd, hv1]
    refine lp_gaWin0 hrow ho1.slc ho2.slc hlen hK v t (gaK (ls, t)) K [] rfl ?_ ?_
    · intro i b h1 h2
      obtain rfl := hgood i _ b h1 h2 (ls, t) hok rfl
      simp (maxSteps := 1000000) (disch := first | omega | rfl | (simp only [zL, two63, room] <;> omega) | fail) only [↓reduceIte, ↓zP, zW, WOp, evOp, evBin, binI, binSh, binS, evNil, keyIs, keyEq, mkv, AV.cells, AV.sc, optv, bnd, env, put, Env.get, Env.set, Env.del, Env.dels, Env.init, res1, resL, resV, fillP, splice, newRow, Nat.reduceEqDiff, Nat.reduceLT, Nat.reduceLeDiff, Nat.reduceAdd, Nat.reduceMul, Nat.reduceSub, Nat.reduceBEq, reduceCtorEq, ↓zR, zQ, Tr, StA, StT]
      exact hp h K (FrG.refl _ _) hk0 (Came.refl _ _ _)
    · intro hnot
      have hv2 := fun g => Slc.lenV (hs.1) (g := g) (ρ := fun _ => _) (x := .t 0) rfl; simp only [evOp] at hv2
      simp (maxSteps := 1000000) (disch := first | omega | rfl | (simp only [zL, two63, room] <;> omega) | fail) only [↓reduceIte, ↓zP, zW, WOp, evOp, evBin, binI, binSh, binS, evNil, keyIs, keyEq, mkv, AV.cells, AV.sc, optv, bnd, env, put, Env.get, Env.set, Env.del, Env.dels, Env.init, res1, resL, resV, fillP, splice, newRow, Nat.reduceEqDiff, Nat.reduceLT, Nat.reduceLeDiff, Nat.reduceAdd, Nat.reduceMul, Nat.reduceSub, Nat.reduceBEq, reduceCtorEq, ↓zR, zQ, Tr, StA, StT, hv2]
      refine lp_gaWin1 ih hn (by omega) hok v (.str (gaK (ls, t))) (h0 := h) (K0 := K) ls [] h K rfl (FrG.refl _ _) hk0 (Came.refl _ _ _) hs ?_
      intro h2 K2 hf2 hk2 hc2'
      rw [← winL_eq]
      have hnot2 : gaK (ls, t) ∉ K2 := by
        intro hin
        rcases hc2' _ hin with h1 | ⟨s, h1, h3, h4⟩
        · exact hnot h1
        · have := gaK_inj (s := (ls, t)) (s' := s) hok.1 h1.1 h4
          subst this
          exact Nat.lt_irrefl _ h3
      have hK2 := hKb h2 K2 hk2
      obtain ⟨u1, u2, W2, hrow2, po1, po2, m1, m2, m3, hlen2, hnd2, hal2, hgood2⟩ := hk2
      have hrd2 : rdRow h2 c 0 0 1 = some [u1] := by simp [rdRow, hrow2]
      have hrd3 : rdRow h2 c 0 1 1 = some [u2] := by simp [rdRow, hrow2]
      simp (maxSteps := 1000000) (disch := first | omega | rfl | (simp only [zL, two63, room] <;> omega) | fail) only [↓reduceIte, ↓zP, zW, WOp, evOp, evBin, binI, binSh, binS, evNil, keyIs, keyEq, mkv, AV.cells, AV.sc, optv, bnd, env, put, Env.get, Env.set, Env.del, Env.dels, Env.init, res1, resL, resV, fillP, splice, newRow, Nat.reduceEqDiff, Nat.reduceLT, Nat.reduceLeDiff, Nat.reduceAdd, Nat.reduceMul, Nat.reduceSub, Nat.reduceBEq, reduceCtorEq, ↓zR, zQ, Tr, StA, StT, hrd2]
      generalize hA : h2 ++ [AO.row [.str (gaK (ls, t))] 0 0 false] = gA
      have pA : Pre h2 gA := hA ▸ Pre.push _ _
      have lA : gA.length = h2.length + 1 := by rw [← hA]; simp
      have rA : rdRow gA h2.length 0 0 1 = some [.str (gaK (ls, t))] := by rw [← hA]; simp (maxSteps := 1000000) (disch := first | omega | rfl | (simp only [zL, two63, room] <;> omega) | fail) only [↓reduceIte, ↓zP, zW, WOp, evOp, evBin, binI, binSh, binS, evNil, keyIs, keyEq, mkv, AV.cells, AV.sc, optv, bnd, env, put, Env.get, Env.set, Env.del, Env.dels, Env.init, res1, resL, resV, fillP, splice, newRow, Nat.reduceEqDiff, Nat.reduceLT, Nat.reduceLeDiff, Nat.reduceAdd, Nat.reduceMul, Nat.reduceSub, Nat.reduceBEq, reduceCtorEq, ↓zR, zQ, Tr, StA, StT]
      obtain ⟨w1, gB, apB, owB, _⟩ := apA hlS scS (b := []) (po1.pre pA) (by simp) (gaK (ls, t)) (by omega)
      obtain ⟨fB1, fB2, fB3⟩ := apRow_fr apB
      have hc2 := (List.getElem?_eq_some_iff.1 hrow2).1
      have rcB : gB[c]? = some (.row [u1, u2] 0 0 false) := by rw [fB1 c (by omega) m1, pA.2 c hc2, hrow2]
      have qB := owB.cells
      simp only [AV.cells] at qB
      have wB : wrRow gB c 0 0 [w1] = some (gB.set c (.row [w1, u2] 0 0 false)) := by simp [wrRow, rcB, splice, owB.sc1]
      have hlc : c < gB.length := by omega
      simp (maxSteps := 1000000) (disch := first | omega | rfl | (simp only [zL, two63, room] <;> omega) | fail) only [↓reduceIte, ↓zP, zW, WOp, evOp, evBin, binI, binSh, binS, evNil, keyIs, keyEq, mkv, AV.cells, AV.sc, optv, bnd, env, put, Env.get, Env.set, Env.del, Env.dels, Env.init, res1, resL, resV, fillP, splice, newRow, Nat.reduceEqDiff, Nat.reduceLT, Nat.reduceLeDiff, Nat.reduceAdd, Nat.reduceMul, Nat.reduceSub, Nat.reduceBEq, reduceCtorEq, ↓zR, zQ, Tr, StA, StT, rA, apB, wB, qB]
      generalize hC : gB.set c (.row [w1, u2] 0 0 false) = gC
      have lC : gC.length = gB.length := by rw [← hC]; simp
      have rcC : gC[c]? = some (.row [w1, u2] 0 0 false) := by rw [← hC, List.getElem?_set, if_pos rfl, if_pos hlc]
      have oC : ∀ i, i ≠ c → gC[i]? = gB[i]? := fun i hi => by rw [← hC, List.getElem?_set, if_neg (Ne.symm hi)]
      have rdC : rdRow gC c 0 1 1 = some [u2] := by simp [rdRow, rcC]
      try (simp (maxSteps := 1000000) (disch := first | omega | rfl | (simp only [zL, two63, room] <;> omega) | fail) only [↓reduceIte, ↓zP, zW, WOp, evOp, evBin, binI, binSh, binS, evNil, keyIs, keyEq, mkv, AV.cells, AV.sc, optv, bnd, env, put, Env.get, Env.set, Env.del, Env.dels, Env.init, res1, resL, resV, fillP, splice, newRow, Nat.reduceEqDiff, Nat.reduceLT, Nat.reduceLeDiff, Nat.reduceAdd, Nat.reduceMul, Nat.reduceSub, Nat.reduceBEq, reduceCtorEq, ↓zR, zQ, Tr, StA, StT, rdC])
      generalize hD : gC ++ [AO.row [.bool (winL ls t)] 0 0 false] = gD
      have pD : Pre gC gD := hD ▸ Pre.push _ _
      have lD : gD.length = gC.length + 1 := by rw [← hD]; simp
      have rD : rdRow gD gC.length 0 0 1 = some [.bool (winL ls t)] := by rw [← hD]; simp (maxSteps := 1000000) (disch := first | omega | rfl | (simp only [zL, two63, room] <;> omega) | fail) only [↓reduceIte, ↓zP, zW, WOp, evOp, evBin, binI, binSh, binS, evNil, keyIs, keyEq, mkv, AV.cells, AV.sc, optv, bnd, env, put, Env.get, Env.set, Env.del, Env.dels, Env.init, res1, resL, resV, fillP, splice, newRow, Nat.reduceEqDiff, Nat.reduceLT, Nat.reduceLeDiff, Nat.reduceAdd, Nat.reduceMul, Nat.reduceSub, Nat.reduceBEq, reduceCtorEq, ↓zR, zQ, Tr, StA, StT]
      have l2 : ∀ r, rowOf u2 = some r → r < h2.length := fun r hr => own_lt po2 hr
      have l1 : ∀ r, rowOf u1 = some r → r < h2.length := fun r hr => own_lt po1 hr
      have po2C : OwL 1 encB [] gC u2 W2 := by
        refine own_row po2 fun r hr => ?_
        have h1 := l2 r hr
        rw [oC r (fun e => m2 (e ▸ hr)), fB1 r (by omega) (fun e => m3 r e hr), pA.2 r h1]
      obtain ⟨w2, gE, apE, owE, _⟩ := apA hlB scB (b := []) (po2C.pre pD) (by simp) (winL ls t) (by omega)
      obtain ⟨fE1, fE2, fE3⟩ := apRow_fr apE
      have rcE : gE[c]? = some (.row [w1, u2] 0 0 false) := by rw [fE1 c (by omega) m2, pD.2 c (by omega), rcC]
      have qE := owE.cells
      simp only [AV.cells] at qE
      have wE : wrRow gE c 0 1 [w2] = some (gE.set c (.row [w1, w2] 0 0 false)) := by simp [wrRow, rcE, splice, owE.sc1]
      have hlE : c < gE.length := by omega
      simp (maxSteps := 1000000) (disch := first | omega | rfl | (simp only [zL, two63, room] <;> omega) | fail) only [↓reduceIte, ↓zP, zW, WOp, evOp, evBin, binI, binSh, binS, evNil, keyIs, keyEq, mkv, AV.cells, AV.sc, optv, bnd, env, put, Env.get, Env.set, Env.del, Env.dels, Env.init, res1, resL, resV, fillP, splice, newRow, Nat.reduceEqDiff, Nat.reduceLT, Nat.reduceLeDiff, Nat.reduceAdd, Nat.reduceMul, Nat.reduceSub, Nat.reduceBEq, reduceCtorEq, ↓zR, zQ, Tr, StA, StT, rD, apE, wE, qE]
      have d1 : ∀ r, rowOf w1 = some r → (rowOf u1 = some r ∨ r = gA.length) := fB3
      have d2 : ∀ r, rowOf w2 = some r → (rowOf u2 = some r ∨ r = gD.length) := fE3
      have c1 : rowOf w1 ≠ some c := fun e => by
        rcases d1 c e with h1 | h1
        · exact m1 h1
        · omega
      have c2 : rowOf w2 ≠ some c := fun e => by
        rcases d2 c e with h1 | h1
        · exact m2 h1
        · omega
      have x1 : ∀ r, rowOf w1 = some r → gE[r]? = gB[r]? := fun r hr => by
        have h3 : r ≠ c := fun e => c1 (e ▸ hr)
        have h4 : r < gB.length := own_lt owB hr
        have h5 : rowOf u2 ≠ some r := by
          intro e
          have := l2 r e
          rcases d1 r hr with h1 | h1
          · exact m3 r h1 e
          · omega
        rw [fE1 r (by omega) h5, pD.2 r (by omega), oC r h3]
      refine hp (gE.set c (.row [w1, w2] 0 0 false)) (K2 ++ [gaK (ls, t)]) (hf2.trans ?_) ?_ ?_
      · refine ⟨by simp; omega, fun i hi hg => ?_⟩
        have g1 : i ≠ c := fun e => hg (.inl e)
        have g2 : rowOf u1 ≠ some i := fun e => hg (.inr ⟨u1, u2, hrow2, .inl e⟩)
        have g3 : rowOf u2 ≠ some i := fun e => hg (.inr ⟨u1, u2, hrow2, .inr e⟩)
        refine ⟨?_, ?_⟩
        · rw [List.getElem?_set, if_neg (Ne.symm g1), fE1 i (by omega) g3, pD.2 i (by omega), oC i g1, fB1 i (by omega) g2, pA.2 i hi]
        · rintro (e | ⟨y1, y2, e1, e2⟩)
          · exact g1 e
          · rw [List.getElem?_set, if_pos rfl, if_pos hlE] at e1
            simp only [Option.some.injEq, AO.row.injEq, List.cons.injEq, and_true, true_and] at e1
            obtain ⟨rfl, rfl⟩ := e1
            rcases e2 with e2 | e2
            · rcases d1 i e2 with h1 | h1
              · exact g2 h1
              · omega
            · rcases d2 i e2 with h1 | h1
              · exact g3 h1
              · omega
      · refine ⟨w1, w2, W2 ++ [winL ls t], by rw [List.getElem?_set, if_pos rfl, if_pos hlE], ?_, ?_, c1, c2, ?_, by simp [hlen2], ?_, ?_, ?_⟩
        · refine own_row owB fun r hr => ?_
          rw [List.getElem?_set, if_neg (by intro e; subst e; exact c1 hr), x1 r hr]
        · refine own_row owE fun r hr => ?_
          rw [List.getElem?_set, if_neg (by intro e; subst e; exact c2 hr)]
        · intro r h1 h3
          rcases d1 r h1 with h4 | h4 <;> rcases d2 r h3 with h5 | h5
          · exact m3 r h4 h5
          · have := l1 r h4; omega
          · have := l2 r h5; omega
          · omega
        · rw [List.nodup_append]
          exact ⟨hnd2, by simp, fun a ha b hb' => by simp at hb'; subst hb'; rintro rfl; exact hnot2 ha⟩
        · intro x hx
          rcases List.mem_append.1 hx with hx | hx
          · exact hal2 x hx
          · simp at hx; subst hx; exact ⟨hok.2, hok.alph⟩
        · intro i x b hx hb' s hs' hxs
          by_cases hi : i < K2.length
          · rw [List.getElem?_append_left hi] at hx
            rw [List.getElem?_append_left (by omega)] at hb'
            exact hgood2 i x b hx hb' s hs' hxs
          · have hi2 : i = K2.length := by
              have := (List.getElem?_eq_some_iff.1 hx).1
              simp at this; omega
            subst hi2
            rw [List.getElem?_append_right (Nat.le_refl _)] at hx
            rw [List.getElem?_append_right (by omega)] at hb'
            simp at hx
            rw [show K2.length - W2.length = 0 by omega] at hb'
            simp at hb'
            subst hb'
            have := gaK_inj (s := (ls, t)) (s' := s) hok.1 hs'.1 (hx.trans hxs)
            subst this; rfl
      · intro x hx
        rcases List.mem_append.1 hx with hx | hx
        · exact (hc2'.mono (by omega)) x hx
        · simp at hx; subst hx; exact .inr ⟨(ls, t), hok, by simp, rfl⟩

def outcS (a b : Bool) : List UInt8 := if a && b then [49] else if a then [84] else if b then [70] else [50]
theorem KN.new {N : Nat} {h : AH} : KN N h.length (h ++ [.row [.nilS, .nilS] 0 0 false]) [] :=
  ⟨.nilS, .nilS, [], by simp, OwL.nil, OwL.nil, by simp [rowOf], by simp [rowOf], by simp [rowOf], rfl, List.nodup_nil, fun x hx => (List.not_mem_nil hx).elim, fun i x b hx => by simp at hx⟩
theorem c_gaOutcome {ls : List (List UInt8)} {v : AV} {h : AH} (hs : Slc 1 encS h v ls) (hg : ∀ w ∈ ls, signs w) (hN : (gaTail ls).length ≤ 13) {post : AV → AH → Prop} (hp : ∀ h', h.length ≤ h'.length → (∀ i, i < h.length → h'[i]? = h[i]?) → post (.str (outcS (winL ls true) (winL ls false))) h') : S 197 [v] h post k := by
  have ok : ∀ t, OkS ((gaTail ls).length + 1) (ls, t) := fun t => ⟨hg, by simp [gaK]⟩
  have hpre := Pre.push h (AO.row [.nilS, .nilS] 0 0 false)
  have hk0 : KN ((gaTail ls).length + 1) h.length (h ++ [.row [.nilS, .nilS] 0 0 false]) [] := KN.new
  have hng : ∀ r, r < h.length → ¬ gr h.length (h ++ [.row [.nilS, .nilS] 0 0 false]) r := by
    rintro r hr (rfl | ⟨v1, v2, e1, e2⟩)
    · exact Nat.lt_irrefl _ hr
    · simp at e1
      obtain ⟨rfl, rfl⟩ := e1
      simp [rowOf] at e2
  have hs1 : SlcG 1 encS h.length (h ++ [.row [.nilS, .nilS] 0 0 false]) v ls := by
    refine ⟨hs.pre hpre, fun r hr => hng r ?_⟩
    unfold Slc Sl at hs
    cases v <;> simp only [rowOf] at hr hs <;> first
      | (cases hr; done)
      | (cases hr; exact rd_lt hs.2.2.2)
  refine S_of rfl T197 ?_; unfold fi197
  simp (maxSteps := 1000000) (disch := first | omega | rfl | (simp only [zL, two63, room] <;> omega) | fail) only [↓reduceIte, ↓zP, zW, WOp, evOp, evBin, binI, binSh, binS, evNil, keyIs, keyEq, mkv, AV.cells, AV.sc, optv, bnd, env, put, Env.get, Env.set, Env.del, Env.dels, Env.init, res1, resL, resV, fillP, splice, newRow, Nat.reduceEqDiff, Nat.reduceLT, Nat.reduceLeDiff, Nat.reduceAdd, Nat.reduceMul, Nat.reduceSub, Nat.reduceBEq, reduceCtorEq, ↓zR, zQ, Tr, StA, StT]
  refine c_gaWin (N := (gaTail ls).length + 1) (by omega) _ ls true _ _ _ _ (Nat.lt_succ_self _) (ok true) hk0 hs1 _ ?_
  intro h2 K2 hf2 hk2 _
  simp (maxSteps := 1000000) (disch := first | omega | rfl | (simp only [zL, two63, room] <;> omega) | fail) only [↓reduceIte, ↓zP, zW, WOp, evOp, evBin, binI, binSh, binS, evNil, keyIs, keyEq, mkv, AV.cells, AV.sc, optv, bnd, env, put, Env.get, Env.set, Env.del, Env.dels, Env.init, res1, resL, resV, fillP, splice, newRow, Nat.reduceEqDiff, Nat.reduceLT, Nat.reduceLeDiff, Nat.reduceAdd, Nat.reduceMul, Nat.reduceSub, Nat.reduceBEq, reduceCtorEq, ↓zR, zQ, Tr, StA, StT]
  refine c_gaWin (N := (gaTail ls).length + 1) (by omega) _ ls false _ _ _ _ (Nat.lt_succ_self _) (ok false) hk2 (hs1.fr hf2) _ ?_
  intro h3 K3 hf3 hk3 _
  have hff := hf2.trans hf3
  have hq := hp h3 (by have := hff.1; simp at this; omega) (fun i hi => by rw [(hff.2 i (by simp; omega) (hng i hi)).1, hpre.2 i hi])
  cases e1 : winL ls true <;> cases e2 : winL ls false <;> simp only [e1, e2, outcS, Bool.and_true, Bool.and_false, if_true, if_false, Bool.false_eq_true] at hq <;> simp (maxSteps := 1000000) (disch := first | omega | rfl | (simp only [zL, two63, room] <;> omega) | fail) only [↓reduceIte, ↓zP, zW, WOp, evOp, evBin, binI, binSh, binS, evNil, keyIs, keyEq, mkv, AV.cells, AV.sc, optv, bnd, env, put, Env.get, Env.set, Env.del, Env.dels, Env.init, res1, resL, resV, fillP, splice, newRow, Nat.reduceEqDiff, Nat.reduceLT, Nat.reduceLeDiff, Nat.reduceAdd, Nat.reduceMul, Nat.reduceSub, Nat.reduceBEq, reduceCtorEq, ↓zR, zQ, Tr, StA, StT] <;> exact hq
end Go.Proofs.YtnkkgghpfgihfabDoor.Ab

/- MAPS that know what a function answers. -/
namespace Go.Proofs.YtnkkgghpfgihfabDoor.Ab
open Go
set_option maxRecDepth 100000
set_option maxHeartbeats 4000000

/-- All keys are texts. -/
def StrK (es : List (AV × AV)) : Prop := ∀ kv ∈ es, ∃ s, kv.1 = .str s
theorem StrK.nil : StrK [] := fun _ h => by cases h
theorem mfind_some {es : List (AV × AV)} (hk : StrK es) (x : List UInt8) : ∃ o, mfind (.str x) es = some o := by
  induction es with
  | nil => exact ⟨none, rfl⟩
  | cons kv es ih =>
    obtain ⟨a, v⟩ := kv
    obtain ⟨s, hs⟩ := hk (a, v) (by simp)
    simp only at hs
    subst hs
    obtain ⟨o, ho⟩ := ih fun kv h => hk kv (by simp [h])
    simp only [mfind, keyEq]
    cases x == s
    · exact ⟨o, ho⟩
    · exact ⟨some v, rfl⟩
theorem mfind_mput {es : List (AV × AV)} (hk : StrK es) (x y : List UInt8) (v : AV) : mfind (.str y) (mput (.str x) v es) = if y == x then some (some v) else mfind (.str y) es := by
  induction es with
  | nil =>
    simp only [mput, mfind, keyEq]
    cases y == x <;> rfl
  | cons kv es ih =>
    obtain ⟨a, u⟩ := kv
    obtain ⟨s, hs⟩ := hk (a, u) (by simp)
    simp only at hs
    subst hs
    have ih := ih fun kv h => hk kv (by simp [h])
    cases e : x == s
    · have e1 : mput (.str x) v ((.str s, u) :: es) = (.str s, u) :: mput (.str x) v es := by simp only [mput, keyEq, e]
      rw [e1]
      simp only [mfind, keyEq, ih]
      cases e2 : y == s
      · rfl
      · have : (y == x) = false := by
          rw [beq_eq_false_iff_ne] at e ⊢
          rw [beq_iff_eq] at e2
          subst e2; exact fun h => e h.symm
        simp [this]
    · have e1 : mput (.str x) v ((.str s, u) :: es) = (.str x, v) :: es := by simp only [mput, keyEq, e]
      rw [e1]
      rw [beq_iff_eq] at e
      subst e
      simp only [mfind, keyEq]
      cases y == x <;> rfl
theorem StrK.mput {es : List (AV × AV)} (hk : StrK es) (x : List UInt8) (v : AV) : StrK (mput (.str x) v es) := by
  induction es with
  | nil => intro kv h; simp only [Ab.mput, List.mem_singleton] at h; subst h; exact ⟨x, rfl⟩
  | cons kv es ih =>
    obtain ⟨a, u⟩ := kv
    have ih := ih fun kv h => hk kv (by simp [h])
    have ha := hk (a, u) (by simp)
    intro kv h
    simp only [Ab.mput] at h
    split at h
    · rcases List.mem_cons.1 h with rfl | h
      · exact ⟨x, rfl⟩
      · exact hk kv (by simp [h])
    · rcases List.mem_cons.1 h with rfl | h
      · exact ha
      · exact ih kv h

/-- The map at c knows right answers. -/
def Mh {σ : Type} (key : σ → List UInt8) (val : σ → AV) (c : Nat) (h : AH) : Prop := ∃ es, h[c]? = some (.map es) ∧ StrK es ∧ ∀ s v, mfind (.str (key s)) es = some (some v) → v = val s
section
variable {σ : Type} {key : σ → List UInt8} {val : σ → AV} {c : Nat} {h : AH}
theorem Mh.lt (hm : Mh key val c h) : c < h.length := by
  obtain ⟨es, h1, _⟩ := hm
  exact (List.getElem?_eq_some_iff.1 h1).1
theorem Mh.pre {h' : AH} (hm : Mh key val c h) (hp : Pre h h') : Mh key val c h' := by
  have := hm.lt
  obtain ⟨es, h1, h2⟩ := hm
  exact ⟨es, by rw [hp.2 c this]; exact h1, h2⟩
theorem Mh.new : Mh key val h.length (h ++ [.map []]) := ⟨[], by simp, StrK.nil, fun s v hv => by simp [mfind] at hv⟩
theorem Mh.new' {n : Nat} (hn : n = h.length) : Mh key val n (h ++ [.map []]) := hn ▸ Mh.new
/-- A new answer. -/
theorem Mh.put (hm : Mh key val c h) (hk : ∀ s s', key s = key s' → val s = val s') (s : σ) : ∃ es, h[c]? = some (.map es) ∧ (∃ o, mfind (.str (key s)) es = some o) ∧ Mh key val c (h.set c (.map (mput (.str (key s)) (val s) es))) := by
  have hlt := hm.lt
  obtain ⟨es, h1, h2, h3⟩ := hm
  refine ⟨es, h1, mfind_some h2 _, _, by rw [List.getElem?_set, if_pos rfl, if_pos hlt], h2.mput _ _, ?_⟩
  intro s' v hv
  rw [mfind_mput h2] at hv
  split at hv
  · rename_i he
    cases hv
    exact hk s s' (beq_iff_eq.1 he).symm
  · exact h3 s' v hv
end
end Go.Proofs.YtnkkgghpfgihfabDoor.Ab

/- GAMES of the program: who wins a sum. -/
namespace Go.Proofs.YtnkkgghpfgihfabDoor.Ab
open Go
set_option maxRecDepth 100000
set_option maxHeartbeats 4000000

theorem e_kindOf (t : Bool) {h : AH} {post : AV → AH → Prop} : S 200 [.bool t] h post k = post (.str (kindS t)) h := S_eq fun _ hp => c_kindOf t hp
theorem kindS_len (t : Bool) : (kindS t).length = 1 := by cases t <;> rfl
def winK (s : List UInt8 × Bool) : List UInt8 := kindS s.2 ++ s.1
def winV (s : List UInt8 × Bool) : AV := .bool (winB s.1 s.2)
theorem winK_inj (s s' : List UInt8 × Bool) (h : winK s = winK s') : winV s = winV s' := by
  obtain ⟨w, t⟩ := s
  obtain ⟨w', t'⟩ := s'
  cases t <;> cases t' <;> simp [winK, kindS] at h ⊢ <;> subst h <;> rfl

theorem c_newGames {h : AH} {post : AV → AH → Prop} (hp : ∀ c h', Pre h h' → h.length ≤ c → Mh winK winV c h' → post (.agg [.map c]) h') : S 192 [] h post k := by
  refine S_of rfl T192 ?_; unfold fi192
  simp (maxSteps := 1000000) (disch := first | omega | rfl | (simp only [zL, two63, room] <;> omega) | fail) only [↓reduceIte, ↓zP, zW, WOp, evOp, evBin, binI, binSh, binS, evNil, keyIs, keyEq, mkv, AV.cells, AV.sc, optv, bnd, env, put, Env.get, Env.set, Env.del, Env.dels, Env.init, res1, resL, resV, fillP, splice, newRow, Nat.reduceEqDiff, Nat.reduceLT, Nat.reduceLeDiff, Nat.reduceAdd, Nat.reduceMul, Nat.reduceSub, Nat.reduceBEq, reduceCtorEq, ↓zR, zQ, Tr, StA, StT]
  exact hp _ _ (((Pre.push _ _).trans (Pre.push _ _))) (by simp) (Mh.new' (by simp))

def WinAt (n : Nat) : Prop := ∀ (w : List UInt8) (t : Bool) (c : Nat) (h : AH), mu w < n → w.length < 2 ^ 30 → Mh winK winV c h → ∀ post : AV → AH → Prop, (∀ h', PreX c h h' → Mh winK winV c h' → post (.bool (winB w t)) h') → S 198 [.agg [.map c], .str w, .bool t] h post k
theorem c_win1 {n : Nat} (ih : WinAt n) {w : List UInt8} {t : Bool} (hn : mu w < n + 1) (hw : w.length < 2 ^ 30) {c c3 c4 c5 : Nat} {h : AH} (hm : Mh winK winV c h) (r3 : rdRow h c3 0 0 1 = some [.map c]) (r4 : rdRow h c4 0 0 1 = some [.str w]) (r5 : rdRow h c5 0 0 1 = some [.bool t])
    {m : Int × Int} (hmm : m ∈ movesB w (kindS t)) {post : AV → AH → Prop} (hp : ∀ h', PreX c h h' → Mh winK winV c h' → post (.bool (!winB (madeB w m.1.toNat m.2.toNat) (!t))) h') :
    S 201 [.agg (encM m), .ptr c3 0 0 1, .ptr c4 0 0 1, .ptr c5 0 0 1] h post k := by
  obtain ⟨i, t', rfl, hmv⟩ := movesB_mv hmm
  refine S_of rfl T201 ?_; unfold fi201
  have hlt3 : c3 < h.length := rd_lt r3
  have hlt4 : c4 < h.length := rd_lt r4
  have hlt5 : c5 < h.length := rd_lt r5
  simp (maxSteps := 1000000) (disch := first | omega | rfl | (simp only [zL, two63, room] <;> omega) | fail) only [↓reduceIte, ↓zP, zW, WOp, evOp, evBin, binI, binSh, binS, evNil, keyIs, keyEq, mkv, AV.cells, AV.sc, optv, bnd, env, put, Env.get, Env.set, Env.del, Env.dels, Env.init, res1, resL, resV, fillP, splice, newRow, Nat.reduceEqDiff, Nat.reduceLT, Nat.reduceLeDiff, Nat.reduceAdd, Nat.reduceMul, Nat.reduceSub, Nat.reduceBEq, reduceCtorEq, ↓zR, zQ, Tr, StA, StT, r3, r4, r5]
  refine w_drw ?_
  simp (maxSteps := 1000000) (disch := first | omega | rfl | (simp only [zL, two63, room] <;> omega) | fail) only [↓reduceIte, ↓zP, zW, WOp, evOp, evBin, binI, binSh, binS, evNil, keyIs, keyEq, mkv, AV.cells, AV.sc, optv, bnd, env, put, Env.get, Env.set, Env.del, Env.dels, Env.init, res1, resL, resV, fillP, splice, newRow, Nat.reduceEqDiff, Nat.reduceLT, Nat.reduceLeDiff, Nat.reduceAdd, Nat.reduceMul, Nat.reduceSub, Nat.reduceBEq, reduceCtorEq, ↓zR, zQ, Tr, StA, StT, r3, r4, r5]
  refine c_made w i t' hmv.fst hmv.snd hw ?_
  intro h2 hp2
  have hp1 := (Pre.push h (AO.row (encM ((i : Int), (t' : Int))) 0 0 false)).trans hp2
  have q5 := rdRow_pre hp1 r5
  have q3 := rdRow_pre hp1 r3
  simp (maxSteps := 1000000) (disch := first | omega | rfl | (simp only [zL, two63, room] <;> omega) | fail) only [↓reduceIte, ↓zP, zW, WOp, evOp, evBin, binI, binSh, binS, evNil, keyIs, keyEq, mkv, AV.cells, AV.sc, optv, bnd, env, put, Env.get, Env.set, Env.del, Env.dels, Env.init, res1, resL, resV, fillP, splice, newRow, Nat.reduceEqDiff, Nat.reduceLT, Nat.reduceLeDiff, Nat.reduceAdd, Nat.reduceMul, Nat.reduceSub, Nat.reduceBEq, reduceCtorEq, ↓zR, zQ, Tr, StA, StT, r3, r4, r5, q3, q5]
  refine ih _ _ _ _ ?_ ?_ (hm.pre hp1) _ ?_
  · have := mu_made hmv; omega
  · rw [madeB_length]; exact hw
  intro h3 hp3 hm3
  simp (maxSteps := 1000000) (disch := first | omega | rfl | (simp only [zL, two63, room] <;> omega) | fail) only [↓reduceIte, ↓zP, zW, WOp, evOp, evBin, binI, binSh, binS, evNil, keyIs, keyEq, mkv, AV.cells, AV.sc, optv, bnd, env, put, Env.get, Env.set, Env.del, Env.dels, Env.init, res1, resL, resV, fillP, splice, newRow, Nat.reduceEqDiff, Nat.reduceLT, Nat.reduceLeDiff, Nat.reduceAdd, Nat.reduceMul, Nat.reduceSub, Nat.reduceBEq, reduceCtorEq, ↓zR, zQ, Tr, StA, StT, r3, r4, r5, q3, q5]
  exact hp _ ((hp1.x c).trans hp3) hm3

theorem c_win : ∀ n : Nat, WinAt n
  | 0 => fun w t c h hn _ _ _ _ => by omega
  | n + 1 => by
    intro w t c h hn hw hm post hp
    have ih := c_win n
    refine S_of rfl T198 ?_; unfold fi198
    have hk := kindS_len t
    have hlt := hm.lt
    have hm0 := hm
    obtain ⟨es, he, hks, hgood⟩ := hm
    have hp1 : Pre h (h ++ [AO.row [.map c] 0 0 false] ++ [AO.row [.str w] 0 0 false] ++ [AO.row [.bool t] 0 0 false]) := (Pre.push h _).trans ((Pre.push _ _).trans (Pre.push _ _))
    have hm1 : (h ++ [AO.row [.map c] 0 0 false] ++ [AO.row [.str w] 0 0 false] ++ [AO.row [.bool t] 0 0 false])[c]? = some (.map es) := by rw [hp1.2 c hlt, he]
    simp (maxSteps := 1000000) (disch := first | omega | rfl | (simp only [zL, two63, room] <;> omega) | fail) only [↓reduceIte, ↓zP, zW, WOp, evOp, evBin, binI, binSh, binS, evNil, keyIs, keyEq, mkv, AV.cells, AV.sc, optv, bnd, env, put, Env.get, Env.set, Env.del, Env.dels, Env.init, res1, resL, resV, fillP, splice, newRow, Nat.reduceEqDiff, Nat.reduceLT, Nat.reduceLeDiff, Nat.reduceAdd, Nat.reduceMul, Nat.reduceSub, Nat.reduceBEq, reduceCtorEq, ↓zR, zQ, Tr, StA, StT]
    refine w_drw ?_
    obtain ⟨o, ho⟩ := mfind_some hks (kindS t ++ w)
    cases o with
    | some v =>
      obtain rfl : v = .bool (winB w t) := hgood (w, t) v ho
      simp (maxSteps := 1000000) (disch := first | omega | rfl | (simp only [zL, two63, room] <;> omega) | fail) only [↓reduceIte, ↓zP, zW, WOp, evOp, evBin, binI, binSh, binS, evNil, keyIs, keyEq, mkv, AV.cells, AV.sc, optv, bnd, env, put, Env.get, Env.set, Env.del, Env.dels, Env.init, res1, resL, resV, fillP, splice, newRow, Nat.reduceEqDiff, Nat.reduceLT, Nat.reduceLeDiff, Nat.reduceAdd, Nat.reduceMul, Nat.reduceSub, Nat.reduceBEq, reduceCtorEq, ↓zR, zQ, Tr, StA, StT, e_kindOf, hm1, ho]
      exact hp _ (hp1.x c) (hm0.pre hp1)
    | none =>
      simp (maxSteps := 1000000) (disch := first | omega | rfl | (simp only [zL, two63, room] <;> omega) | fail) only [↓reduceIte, ↓zP, zW, WOp, evOp, evBin, binI, binSh, binS, evNil, keyIs, keyEq, mkv, AV.cells, AV.sc, optv, bnd, env, put, Env.get, Env.set, Env.del, Env.dels, Env.init, res1, resL, resV, fillP, splice, newRow, Nat.reduceEqDiff, Nat.reduceLT, Nat.reduceLeDiff, Nat.reduceAdd, Nat.reduceMul, Nat.reduceSub, Nat.reduceBEq, reduceCtorEq, ↓zR, zQ, Tr, StA, StT, e_kindOf, hm1, ho]
      refine w_drw ?_
      simp (maxSteps := 1000000) (disch := first | omega | rfl | (simp only [zL, two63, room] <;> omega) | fail) only [↓reduceIte, ↓zP, zW, WOp, evOp, evBin, binI, binSh, binS, evNil, keyIs, keyEq, mkv, AV.cells, AV.sc, optv, bnd, env, put, Env.get, Env.set, Env.del, Env.dels, Env.init, res1, resL, resV, fillP, splice, newRow, Nat.reduceEqDiff, Nat.reduceLT, Nat.reduceLeDiff, Nat.reduceAdd, Nat.reduceMul, Nat.reduceSub, Nat.reduceBEq, reduceCtorEq, ↓zR, zQ, Tr, StA, StT, e_kindOf, hm1, ho]
      have q3 : rdRow (h ++ [AO.row [.map c] 0 0 false] ++ [AO.row [.str w] 0 0 false] ++ [AO.row [.bool t] 0 0 false]) h.length 0 0 1 = some [.map c] := by simp (maxSteps := 1000000) (disch := first | omega | rfl | (simp only [zL, two63, room] <;> omega) | fail) only [↓reduceIte, ↓zP, zW, WOp, evOp, evBin, binI, binSh, binS, evNil, keyIs, keyEq, mkv, AV.cells, AV.sc, optv, bnd, env, put, Env.get, Env.set, Env.del, Env.dels, Env.init, res1, resL, resV, fillP, splice, newRow, Nat.reduceEqDiff, Nat.reduceLT, Nat.reduceLeDiff, Nat.reduceAdd, Nat.reduceMul, Nat.reduceSub, Nat.reduceBEq, reduceCtorEq, ↓zR, zQ, Tr, StA, StT]
      have q4 : rdRow (h ++ [AO.row [.map c] 0 0 false] ++ [AO.row [.str w] 0 0 false] ++ [AO.row [.bool t] 0 0 false]) (h ++ [AO.row [.map c] 0 0 false]).length 0 0 1 = some [.str w] := by simp (maxSteps := 1000000) (disch := first | omega | rfl | (simp only [zL, two63, room] <;> omega) | fail) only [↓reduceIte, ↓zP, zW, WOp, evOp, evBin, binI, binSh, binS, evNil, keyIs, keyEq, mkv, AV.cells, AV.sc, optv, bnd, env, put, Env.get, Env.set, Env.del, Env.dels, Env.init, res1, resL, resV, fillP, splice, newRow, Nat.reduceEqDiff, Nat.reduceLT, Nat.reduceLeDiff, Nat.reduceAdd, Nat.reduceMul, Nat.reduceSub, Nat.reduceBEq, reduceCtorEq, ↓zR, zQ, Tr, StA, StT]
      have q5 : rdRow (h ++ [AO.row [.map c] 0 0 false] ++ [AO.row [.str w] 0 0 false] ++ [AO.row [.bool t] 0 0 false]) (h ++ [AO.row [.map c] 0 0 false] ++ [AO.row [.str w] 0 0 false]).length 0 0 1 = some [.bool t] := by simp (maxSteps := 1000000) (disch := first | omega | rfl | (simp only [zL, two63, room] <;> omega) | fail) only [↓reduceIte, ↓zP, zW, WOp, evOp, evBin, binI, binSh, binS, evNil, keyIs, keyEq, mkv, AV.cells, AV.sc, optv, bnd, env, put, Env.get, Env.set, Env.del, Env.dels, Env.init, res1, resL, resV, fillP, splice, newRow, Nat.reduceEqDiff, Nat.reduceLT, Nat.reduceLeDiff, Nat.reduceAdd, Nat.reduceMul, Nat.reduceSub, Nat.reduceBEq, reduceCtorEq, ↓zR, zQ, Tr, StA, StT]
      generalize hg : h ++ [AO.row [.map c] 0 0 false] ++ [AO.row [.str w] 0 0 false] ++ [AO.row [.bool t] 0 0 false] = h1 at *
      generalize hc4 : (h ++ [AO.row [.map c] 0 0 false]).length = c4 at *
      generalize hc5 : (h ++ [AO.row [.map c] 0 0 false] ++ [AO.row [.str w] 0 0 false]).length = c5 at *
      refine c_moves w (kindS t) hw ?_
      intro v h2 ho2 hp2
      simp (maxSteps := 1000000) (disch := first | omega | rfl | (simp only [zL, two63, room] <;> omega) | fail) only [↓reduceIte, ↓zP, zW, WOp, evOp, evBin, binI, binSh, binS, evNil, keyIs, keyEq, mkv, AV.cells, AV.sc, optv, bnd, env, put, Env.get, Env.set, Env.del, Env.dels, Env.init, res1, resL, resV, fillP, splice, newRow, Nat.reduceEqDiff, Nat.reduceLT, Nat.reduceLeDiff, Nat.reduceAdd, Nat.reduceMul, Nat.reduceSub, Nat.reduceBEq, reduceCtorEq, ↓zR, zQ, Tr, StA, StT, q3, q4, q5]
      have hs2 : Slc 2 encM h2 v (movesB w (kindS t)) := ho2.sl
      refine c_ContainsFuncM (v := v) (L := movesB w (kindS t)) _ _ (fun m => !winB (madeB w m.1.toNat m.2.toNat) (!t)) (fun h' => PreX c h2 h' ∧ Mh winK winV c h') ?_ ?_ ?_ ⟨PreX.refl _ _, hm0.pre (hp1.trans hp2)⟩ ?_
      · have := movesB_len w (kindS t); omega
      · intro h' hh; exact OwL.slc_prex (h0 := h1) ho2 hh.1 (Nat.lt_of_lt_of_le hlt hp1.1)
      · intro m hm h' hh post hpost
        have hpx := (hp2.x c).trans hh.1
        refine c_win1 ih hn hw hh.2 (rdRow_prex hpx ?_ q3) (rdRow_prex hpx ?_ q4) (rdRow_prex hpx ?_ q5) hm ?_
        · omega
        · subst hc4; simp; omega
        · subst hc5; simp; omega
        · intro h3 hp3 hm3
          exact hpost h3 ⟨hh.1.trans hp3, hm3⟩
      · intro h3 hh3
        have k3 := rdRow_prex ((hp2.x c).trans hh3.1) (by omega) q3
        obtain ⟨es3, e1, ⟨o3, e2⟩, hm4⟩ := hh3.2.put winK_inj (w, t)
        unfold winK at e2
        simp (maxSteps := 1000000) (disch := first | omega | rfl | (simp only [zL, two63, room] <;> omega) | fail) only [↓reduceIte, ↓zP, zW, WOp, evOp, evBin, binI, binSh, binS, evNil, keyIs, keyEq, mkv, AV.cells, AV.sc, optv, bnd, env, put, Env.get, Env.set, Env.del, Env.dels, Env.init, res1, resL, resV, fillP, splice, newRow, Nat.reduceEqDiff, Nat.reduceLT, Nat.reduceLeDiff, Nat.reduceAdd, Nat.reduceMul, Nat.reduceSub, Nat.reduceBEq, reduceCtorEq, ↓zR, zQ, Tr, StA, StT, k3, e1, e2]
        have hv : ((movesB w (kindS t)).any fun m => !winB (madeB w m.fst.toNat m.snd.toNat) !t) = winB w t := (winB_eq w t).symm
        rw [hv]
        exact hp _ (((hp1.trans hp2).x c).trans (hh3.1.trans (PreX.refl c h3).set)) hm4
end Go.Proofs.YtnkkgghpfgihfabDoor.Ab

/- PUZZLES: clues. -/
namespace Go.Proofs.YtnkkgghpfgihfabDoor.Ab
open Go
set_option maxRecDepth 100000
set_option maxHeartbeats 4000000

theorem c_outcome (w : List UInt8) (hw : w.length < 2 ^ 30) {c : Nat} {h : AH} (hm : Mh winK winV c h) {post : AV → AH → Prop} (hp : ∀ h', PreX c h h' → post (.str (outcS (winB w true) (winB w false))) h') : S 193 [.agg [.map c], .str w] h post k := by
  refine S_of rfl T193 ?_; unfold fi193
  simp (maxSteps := 1000000) (disch := first | omega | rfl | (simp only [zL, two63, room] <;> omega) | fail) only [↓reduceIte, ↓zP, zW, WOp, evOp, evBin, binI, binSh, binS, evNil, keyIs, keyEq, mkv, AV.cells, AV.sc, optv, bnd, env, put, Env.get, Env.set, Env.del, Env.dels, Env.init, res1, resL, resV, fillP, splice, newRow, Nat.reduceEqDiff, Nat.reduceLT, Nat.reduceLeDiff, Nat.reduceAdd, Nat.reduceMul, Nat.reduceSub, Nat.reduceBEq, reduceCtorEq, ↓zR, zQ, Tr, StA, StT]
  refine w_drw ?_
  have hlt := hm.lt
  have r0 : rdRow (h ++ [AO.row [.map c] 0 0 false]) h.length 0 0 1 = some [.map c] := by simp (maxSteps := 1000000) (disch := first | omega | rfl | (simp only [zL, two63, room] <;> omega) | fail) only [↓reduceIte, ↓zP, zW, WOp, evOp, evBin, binI, binSh, binS, evNil, keyIs, keyEq, mkv, AV.cells, AV.sc, optv, bnd, env, put, Env.get, Env.set, Env.del, Env.dels, Env.init, res1, resL, resV, fillP, splice, newRow, Nat.reduceEqDiff, Nat.reduceLT, Nat.reduceLeDiff, Nat.reduceAdd, Nat.reduceMul, Nat.reduceSub, Nat.reduceBEq, reduceCtorEq, ↓zR, zQ, Tr, StA, StT]
  simp (maxSteps := 1000000) (disch := first | omega | rfl | (simp only [zL, two63, room] <;> omega) | fail) only [↓reduceIte, ↓zP, zW, WOp, evOp, evBin, binI, binSh, binS, evNil, keyIs, keyEq, mkv, AV.cells, AV.sc, optv, bnd, env, put, Env.get, Env.set, Env.del, Env.dels, Env.init, res1, resL, resV, fillP, splice, newRow, Nat.reduceEqDiff, Nat.reduceLT, Nat.reduceLeDiff, Nat.reduceAdd, Nat.reduceMul, Nat.reduceSub, Nat.reduceBEq, reduceCtorEq, ↓zR, zQ, Tr, StA, StT]
  refine c_win (mu w + 1) w true c _ (by omega) hw (hm.pre (Pre.push _ _)) _ ?_
  intro h2 hp2 hm2
  have r2 := rdRow_prex hp2 (by omega) r0
  simp (maxSteps := 1000000) (disch := first | omega | rfl | (simp only [zL, two63, room] <;> omega) | fail) only [↓reduceIte, ↓zP, zW, WOp, evOp, evBin, binI, binSh, binS, evNil, keyIs, keyEq, mkv, AV.cells, AV.sc, optv, bnd, env, put, Env.get, Env.set, Env.del, Env.dels, Env.init, res1, resL, resV, fillP, splice, newRow, Nat.reduceEqDiff, Nat.reduceLT, Nat.reduceLeDiff, Nat.reduceAdd, Nat.reduceMul, Nat.reduceSub, Nat.reduceBEq, reduceCtorEq, ↓zR, zQ, Tr, StA, StT, r0, r2]
  refine c_win (mu w + 1) w false c _ (by omega) hw hm2 _ ?_
  intro h3 hp3 hm3
  have hq := hp h3 (((Pre.push h (AO.row [.map c] 0 0 false)).x c).trans (hp2.trans hp3))
  cases e1 : winB w true <;> cases e2 : winB w false <;> simp only [e1, e2, outcS, Bool.and_true, Bool.and_false, if_true, if_false, Bool.false_eq_true] at hq <;> simp (maxSteps := 1000000) (disch := first | omega | rfl | (simp only [zL, two63, room] <;> omega) | fail) only [↓reduceIte, ↓zP, zW, WOp, evOp, evBin, binI, binSh, binS, evNil, keyIs, keyEq, mkv, AV.cells, AV.sc, optv, bnd, env, put, Env.get, Env.set, Env.del, Env.dels, Env.init, res1, resL, resV, fillP, splice, newRow, Nat.reduceEqDiff, Nat.reduceLT, Nat.reduceLeDiff, Nat.reduceAdd, Nat.reduceMul, Nat.reduceSub, Nat.reduceBEq, reduceCtorEq, ↓zR, zQ, Tr, StA, StT, r0, r2] <;> exact hq

theorem lp_liCount (w : List UInt8) (b : UInt8) (hw : w.length < 2 ^ 30) {h : AH} {R : X → Env → AH → Prop} : ∀ (rest pre : List UInt8) (n : Nat), w = pre ++ rest → n ≤ pre.length → R (.exit 0) [(5, .int .i64 ((n + rest.count b : Nat) : Int))] h →
    Cx (.loop lp116_0) [(0, .str w), (1, by8 b), (5, .int .i64 n), (6, .int .i64 pre.length)] h R k k
  | [], pre, n, hpre, hn, hR => by
    rw [w_loopb (c := lp116_0) (d := lb116_0) rfl]; unfold lb116_0
    have hl : w.length = pre.length := by rw [hpre]; simp
    simp (maxSteps := 1000000) (disch := first | omega | rfl | (simp only [zL, two63, room] <;> omega) | fail) only [↓reduceIte, ↓zP, zW, WOp, evOp, evBin, binI, binSh, binS, evNil, keyIs, keyEq, mkv, AV.cells, AV.sc, optv, bnd, env, put, Env.get, Env.set, Env.del, Env.dels, Env.init, res1, resL, resV, fillP, splice, newRow, Nat.reduceEqDiff, Nat.reduceLT, Nat.reduceLeDiff, Nat.reduceAdd, Nat.reduceMul, Nat.reduceSub, Nat.reduceBEq, reduceCtorEq, ↓zR, zQ, Tr, StA, StT, hl]
    simpa using hR
  | x :: rest, pre, n, hpre, hn, hR => by
    have ih := lp_liCount w b hw (h := h) (R := R) rest (pre ++ [x])
    have hl : w.length = pre.length + 1 + rest.length := by rw [hpre]; simp; omega
    have hx : w.getD pre.length 0 = x := by rw [hpre]; simp [List.getD_eq_getElem?_getD]
    rw [w_loopb (c := lp116_0) (d := lb116_0) rfl]; unfold lb116_0
    have w1 : (pre.length : Int) + 1 = ((pre ++ [x]).length : Int) := by simp
    have w2 : (n : Int) + 1 = ((n + 1 : Nat) : Int) := by omega
    cases e : (x == b)
    · simp (maxSteps := 1000000) (disch := first | omega | rfl | (simp only [zL, two63, room] <;> omega) | fail) only [↓reduceIte, ↓zP, zW, WOp, evOp, evBin, binI, binSh, binS, evNil, keyIs, keyEq, mkv, AV.cells, AV.sc, optv, bnd, env, put, Env.get, Env.set, Env.del, Env.dels, Env.init, res1, resL, resV, fillP, splice, newRow, Nat.reduceEqDiff, Nat.reduceLT, Nat.reduceLeDiff, Nat.reduceAdd, Nat.reduceMul, Nat.reduceSub, Nat.reduceBEq, reduceCtorEq, ↓zR, zQ, Tr, StA, StT, hx, e, w1]
      rw [w_loopn (c := lp116_0) rfl]
      simp (maxSteps := 1000000) (disch := first | omega | rfl | (simp only [zL, two63, room] <;> omega) | fail) only [↓reduceIte, ↓zP, zW, WOp, evOp, evBin, binI, binSh, binS, evNil, keyIs, keyEq, mkv, AV.cells, AV.sc, optv, bnd, env, put, Env.get, Env.set, Env.del, Env.dels, Env.init, res1, resL, resV, fillP, splice, newRow, Nat.reduceEqDiff, Nat.reduceLT, Nat.reduceLeDiff, Nat.reduceAdd, Nat.reduceMul, Nat.reduceSub, Nat.reduceBEq, reduceCtorEq, ↓zR, zQ, Tr, StA, StT]
      exact ih n (by rw [hpre]; simp) (by simp; omega) (by rw [List.count_cons, e] at hR; simpa using hR)
    · simp (maxSteps := 1000000) (disch := first | omega | rfl | (simp only [zL, two63, room] <;> omega) | fail) only [↓reduceIte, ↓zP, zW, WOp, evOp, evBin, binI, binSh, binS, evNil, keyIs, keyEq, mkv, AV.cells, AV.sc, optv, bnd, env, put, Env.get, Env.set, Env.del, Env.dels, Env.init, res1, resL, resV, fillP, splice, newRow, Nat.reduceEqDiff, Nat.reduceLT, Nat.reduceLeDiff, Nat.reduceAdd, Nat.reduceMul, Nat.reduceSub, Nat.reduceBEq, reduceCtorEq, ↓zR, zQ, Tr, StA, StT, hx, e, w1, w2]
      rw [w_loopn (c := lp116_0) rfl]
      simp (maxSteps := 1000000) (disch := first | omega | rfl | (simp only [zL, two63, room] <;> omega) | fail) only [↓reduceIte, ↓zP, zW, WOp, evOp, evBin, binI, binSh, binS, evNil, keyIs, keyEq, mkv, AV.cells, AV.sc, optv, bnd, env, put, Env.get, Env.set, Env.del, Env.dels, Env.init, res1, resL, resV, fillP, splice, newRow, Nat.reduceEqDiff, Nat.reduceLT, Nat.reduceLeDiff, Nat.reduceAdd, Nat.reduceMul, Nat.reduceSub, Nat.reduceBEq, reduceCtorEq, ↓zR, zQ, Tr, StA, StT]
      exact ih (n + 1) (by rw [hpre]; simp) (by simp; omega) (by rw [List.count_cons, e] at hR; simpa [Nat.add_assoc, Nat.add_comm 1] using hR)
theorem e_liCount (w : List UInt8) (b : UInt8) (hw : w.length < 1073741824) {h : AH} {post : AV → AH → Prop} : S 116 [.str w, by8 b] h post k = post (.int .i64 (w.count b : Nat)) h := by
  refine S_eq fun post hp => ?_
  refine S_of rfl T116 ?_; unfold fi116
  simp (maxSteps := 1000000) (disch := first | omega | rfl | (simp only [zL, two63, room] <;> omega) | fail) only [↓reduceIte, ↓zP, zW, WOp, evOp, evBin, binI, binSh, binS, evNil, keyIs, keyEq, mkv, AV.cells, AV.sc, optv, bnd, env, put, Env.get, Env.set, Env.del, Env.dels, Env.init, res1, resL, resV, fillP, splice, newRow, Nat.reduceEqDiff, Nat.reduceLT, Nat.reduceLeDiff, Nat.reduceAdd, Nat.reduceMul, Nat.reduceSub, Nat.reduceBEq, reduceCtorEq, ↓zR, zQ, Tr, StA, StT]
  refine lp_liCount w b hw w [] 0 rfl (by simp) ?_
  simp (maxSteps := 1000000) (disch := first | omega | rfl | (simp only [zL, two63, room] <;> omega) | fail) only [↓reduceIte, ↓zP, zW, WOp, evOp, evBin, binI, binSh, binS, evNil, keyIs, keyEq, mkv, AV.cells, AV.sc, optv, bnd, env, put, Env.get, Env.set, Env.del, Env.dels, Env.init, res1, resL, resV, fillP, splice, newRow, Nat.reduceEqDiff, Nat.reduceLT, Nat.reduceLeDiff, Nat.reduceAdd, Nat.reduceMul, Nat.reduceSub, Nat.reduceBEq, reduceCtorEq, ↓zR, zQ, Tr, StA, StT]
  simpa using hp
theorem e_liCountT (w : List UInt8) (hw : w.length < 1073741824) {h : AH} {post : AV → AH → Prop} : S 116 [.str w, .int .u8 84] h post k = post (.int .i64 (w.count 84 : Nat)) h := e_liCount w 84 hw
theorem e_liCountF (w : List UInt8) (hw : w.length < 1073741824) {h : AH} {post : AV → AH → Prop} : S 116 [.str w, .int .u8 70] h post k = post (.int .i64 (w.count 70 : Nat)) h := e_liCount w 70 hw
theorem e_liCountD (w : List UInt8) (hw : w.length < 1073741824) {h : AH} {post : AV → AH → Prop} : S 116 [.str w, .int .u8 46] h post k = post (.int .i64 (w.count 46 : Nat)) h := e_liCount w 46 hw
theorem e_count (w : List UInt8) {h : AH} {post : AV → AH → Prop} : S 189 [.str w] h post k = post (.tup [.int .i64 (w.count 84 : Nat), .int .i64 (w.count 46 : Nat), .int .i64 (w.count 70 : Nat)]) h := S_eq fun _ => c_count w
theorem e_pairs (w : List UInt8) (hw : w.length < 1073741824) {h : AH} {post : AV → AH → Prop} : S 191 [.str w] h post k = post (.int .i64 (pairsB w)) h := S_eq fun _ => c_pairs w hw

theorem lp_liPairs (w : List UInt8) (hw : w.length < 1073741824) {h : AH} {R : X → Env → AH → Prop} : ∀ (rest pre : List UInt8) (t sum : Nat), w = pre ++ rest → t ≤ pre.length → sum ≤ pre.length * 1073741824 →
    R (.exit 0) [(3, .int .i64 (pairsL rest t sum))] h → Cx (.loop lp196_0) [(0, .str w), (3, .int .i64 sum), (4, .int .i64 t), (5, .int .i64 pre.length)] h R k k
  | [], pre, t, sum, hpre, ht, hsum, hR => by
    rw [w_loopb (c := lp196_0) (d := lb196_0) rfl]; unfold lb196_0
    have hl : w.length = pre.length := by rw [hpre]; simp
    simp (maxSteps := 1000000) (disch := first | omega | rfl | (simp only [zL, two63, room] <;> omega) | fail) only [↓reduceIte, ↓zP, zW, WOp, evOp, evBin, binI, binSh, binS, evNil, keyIs, keyEq, mkv, AV.cells, AV.sc, optv, bnd, env, put, Env.get, Env.set, Env.del, Env.dels, Env.init, res1, resL, resV, fillP, splice, newRow, Nat.reduceEqDiff, Nat.reduceLT, Nat.reduceLeDiff, Nat.reduceAdd, Nat.reduceMul, Nat.reduceSub, Nat.reduceBEq, reduceCtorEq, ↓zR, zQ, Tr, StA, StT, hl]
    simpa [pairsL] using hR
  | x :: rest, pre, t, sum, hpre, ht, hsum, hR => by
    have ih := lp_liPairs w hw (h := h) (R := R) rest (pre ++ [x])
    have hl : w.length = pre.length + 1 + rest.length := by rw [hpre]; simp; omega
    have hx : w.getD pre.length 0 = x := by rw [hpre]; simp [List.getD_eq_getElem?_getD]
    rw [w_loopb (c := lp196_0) (d := lb196_0) rfl]; unfold lb196_0
    have w1 : (pre.length : Int) + 1 = ((pre ++ [x]).length : Int) := by simp
    have w2 : (t : Int) + 1 = ((t + 1 : Nat) : Int) := by omega
    have w3 : (sum : Int) + (t : Int) = ((sum + t : Nat) : Int) := by omega
    have hs1 : sum ≤ (pre ++ [x]).length * 1073741824 := Nat.le_trans hsum (Nat.mul_le_mul_right _ (by simp))
    have hs2 : sum + t ≤ (pre ++ [x]).length * 1073741824 := by
      rw [List.length_append, List.length_singleton, Nat.succ_mul]
      exact Nat.add_le_add hsum (by omega)
    have hpre' : w = (pre ++ [x]) ++ rest := by rw [hpre]; simp
    cases e1 : (x == 84)
    · cases e2 : (x == 70)
      · simp (maxSteps := 1000000) (disch := first | omega | rfl | (simp only [zL, two63, room] <;> omega) | fail) only [↓reduceIte, ↓zP, zW, WOp, evOp, evBin, binI, binSh, binS, evNil, keyIs, keyEq, mkv, AV.cells, AV.sc, optv, bnd, env, put, Env.get, Env.set, Env.del, Env.dels, Env.init, res1, resL, resV, fillP, splice, newRow, Nat.reduceEqDiff, Nat.reduceLT, Nat.reduceLeDiff, Nat.reduceAdd, Nat.reduceMul, Nat.reduceSub, Nat.reduceBEq, reduceCtorEq, ↓zR, zQ, Tr, StA, StT, hx, e1, e2, w1]
        rw [w_loopn (c := lp196_0) rfl]
        simp (maxSteps := 1000000) (disch := first | omega | rfl | (simp only [zL, two63, room] <;> omega) | fail) only [↓reduceIte, ↓zP, zW, WOp, evOp, evBin, binI, binSh, binS, evNil, keyIs, keyEq, mkv, AV.cells, AV.sc, optv, bnd, env, put, Env.get, Env.set, Env.del, Env.dels, Env.init, res1, resL, resV, fillP, splice, newRow, Nat.reduceEqDiff, Nat.reduceLT, Nat.reduceLeDiff, Nat.reduceAdd, Nat.reduceMul, Nat.reduceSub, Nat.reduceBEq, reduceCtorEq, ↓zR, zQ, Tr, StA, StT]
        simp only [pairsL, e1, e2, if_true, if_false, Bool.false_eq_true] at hR
        exact ih t sum hpre' (by simp; omega) hs1 hR
      · simp (maxSteps := 1000000) (disch := first | omega | rfl | (simp only [zL, two63, room] <;> omega) | fail) only [↓reduceIte, ↓zP, zW, WOp, evOp, evBin, binI, binSh, binS, evNil, keyIs, keyEq, mkv, AV.cells, AV.sc, optv, bnd, env, put, Env.get, Env.set, Env.del, Env.dels, Env.init, res1, resL, resV, fillP, splice, newRow, Nat.reduceEqDiff, Nat.reduceLT, Nat.reduceLeDiff, Nat.reduceAdd, Nat.reduceMul, Nat.reduceSub, Nat.reduceBEq, reduceCtorEq, ↓zR, zQ, Tr, StA, StT, hx, e1, e2, w1, w3]
        rw [w_loopn (c := lp196_0) rfl]
        simp (maxSteps := 1000000) (disch := first | omega | rfl | (simp only [zL, two63, room] <;> omega) | fail) only [↓reduceIte, ↓zP, zW, WOp, evOp, evBin, binI, binSh, binS, evNil, keyIs, keyEq, mkv, AV.cells, AV.sc, optv, bnd, env, put, Env.get, Env.set, Env.del, Env.dels, Env.init, res1, resL, resV, fillP, splice, newRow, Nat.reduceEqDiff, Nat.reduceLT, Nat.reduceLeDiff, Nat.reduceAdd, Nat.reduceMul, Nat.reduceSub, Nat.reduceBEq, reduceCtorEq, ↓zR, zQ, Tr, StA, StT]
        simp only [pairsL, e1, e2, if_true, if_false, Bool.false_eq_true] at hR
        exact ih t (sum + t) hpre' (by simp; omega) hs2 hR
    · simp (maxSteps := 1000000) (disch := first | omega | rfl | (simp only [zL, two63, room] <;> omega) | fail) only [↓reduceIte, ↓zP, zW, WOp, evOp, evBin, binI, binSh, binS, evNil, keyIs, keyEq, mkv, AV.cells, AV.sc, optv, bnd, env, put, Env.get, Env.set, Env.del, Env.dels, Env.init, res1, resL, resV, fillP, splice, newRow, Nat.reduceEqDiff, Nat.reduceLT, Nat.reduceLeDiff, Nat.reduceAdd, Nat.reduceMul, Nat.reduceSub, Nat.reduceBEq, reduceCtorEq, ↓zR, zQ, Tr, StA, StT, hx, e1, w1, w2]
      rw [w_loopn (c := lp196_0) rfl]
      simp (maxSteps := 1000000) (disch := first | omega | rfl | (simp only [zL, two63, room] <;> omega) | fail) only [↓reduceIte, ↓zP, zW, WOp, evOp, evBin, binI, binSh, binS, evNil, keyIs, keyEq, mkv, AV.cells, AV.sc, optv, bnd, env, put, Env.get, Env.set, Env.del, Env.dels, Env.init, res1, resL, resV, fillP, splice, newRow, Nat.reduceEqDiff, Nat.reduceLT, Nat.reduceLeDiff, Nat.reduceAdd, Nat.reduceMul, Nat.reduceSub, Nat.reduceBEq, reduceCtorEq, ↓zR, zQ, Tr, StA, StT]
      simp only [pairsL, e1, if_true] at hR
      exact ih (t + 1) sum hpre' (by simp; omega) hs1 hR
theorem e_liPairs (w : List UInt8) (hw : w.length < 1073741824) {h : AH} {post : AV → AH → Prop} : S 196 [.str w] h post k = post (.int .i64 (pairsB w)) h := by
  refine S_eq fun post hp => ?_
  refine S_of rfl T196 ?_; unfold fi196
  simp (maxSteps := 1000000) (disch := first | omega | rfl | (simp only [zL, two63, room] <;> omega) | fail) only [↓reduceIte, ↓zP, zW, WOp, evOp, evBin, binI, binSh, binS, evNil, keyIs, keyEq, mkv, AV.cells, AV.sc, optv, bnd, env, put, Env.get, Env.set, Env.del, Env.dels, Env.init, res1, resL, resV, fillP, splice, newRow, Nat.reduceEqDiff, Nat.reduceLT, Nat.reduceLeDiff, Nat.reduceAdd, Nat.reduceMul, Nat.reduceSub, Nat.reduceBEq, reduceCtorEq, ↓zR, zQ, Tr, StA, StT]
  refine lp_liPairs w hw w [] 0 0 rfl (by simp) (by simp) ?_
  simp (maxSteps := 1000000) (disch := first | omega | rfl | (simp only [zL, two63, room] <;> omega) | fail) only [↓reduceIte, ↓zP, zW, WOp, evOp, evBin, binI, binSh, binS, evNil, keyIs, keyEq, mkv, AV.cells, AV.sc, optv, bnd, env, put, Env.get, Env.set, Env.del, Env.dels, Env.init, res1, resL, resV, fillP, splice, newRow, Nat.reduceEqDiff, Nat.reduceLT, Nat.reduceLeDiff, Nat.reduceAdd, Nat.reduceMul, Nat.reduceSub, Nat.reduceBEq, reduceCtorEq, ↓zR, zQ, Tr, StA, StT]
  exact hp

/-! ### Which clues there are -/
def clueOk (n : Int) (c : Int × Int × Int) : Bool :=
  if c.1 = 0 then decide (0 ≤ c.2.1 ∧ c.2.1 ≤ n - 1) && decide (0 ≤ c.2.2 ∧ c.2.2 ≤ 2) else
  decide (c.2.2 = 0) && (if c.1 = 1 ∨ c.1 = 2 then decide (0 ≤ c.2.1 ∧ c.2.1 ≤ n) else if c.1 = 3 then decide (0 ≤ c.2.1 ∧ c.2.1 ≤ 2 * n) else if c.1 = 4 then decide (0 ≤ c.2.1 ∧ c.2.1 ≤ 10) else if c.1 = 5 then decide (0 ≤ c.2.1 ∧ c.2.1 ≤ 3) else false)
theorem c_IsClue (n kd a b : Int) (hn : 0 ≤ n ∧ n ≤ 1000) {h : AH} {post : AV → AH → Prop} (hp : ∀ h', Pre h h' → post (.bool (decide (1 ≤ n ∧ n ≤ 5) && clueOk n (kd, a, b))) h') : S 183 [.int .i64 n, .agg (encC (kd, a, b))] h post k := by
  have hq := hp _ (Pre.push h (AO.row [.int .i64 kd, .int .i64 a, .int .i64 b] 0 0 false))
  clear hp
  refine S_of rfl T183 ?_; unfold fi183
  by_cases h5 : 1 ≤ n ∧ n ≤ 5
  case neg =>
    simp (maxSteps := 1000000) (disch := first | omega | rfl | (simp only [zL, two63, room] <;> omega) | fail) only [↓reduceIte, ↓zP, zW, WOp, evOp, evBin, binI, binSh, binS, evNil, keyIs, keyEq, mkv, AV.cells, AV.sc, optv, bnd, env, put, Env.get, Env.set, Env.del, Env.dels, Env.init, res1, resL, resV, fillP, splice, newRow, Nat.reduceEqDiff, Nat.reduceLT, Nat.reduceLeDiff, Nat.reduceAdd, Nat.reduceMul, Nat.reduceSub, Nat.reduceBEq, reduceCtorEq, ↓zR, zQ, Tr, StA, StT, e_within, h5]
    simpa [h5] using hq
  by_cases k0 : kd = 0
  · by_cases ha : 0 ≤ a ∧ a ≤ n - 1 <;> by_cases hb : 0 ≤ b ∧ b ≤ 2 <;> simp (maxSteps := 1000000) (disch := first | omega | rfl | (simp only [zL, two63, room] <;> omega) | fail) only [↓reduceIte, ↓zP, zW, WOp, evOp, evBin, binI, binSh, binS, evNil, keyIs, keyEq, mkv, AV.cells, AV.sc, optv, bnd, env, put, Env.get, Env.set, Env.del, Env.dels, Env.init, res1, resL, resV, fillP, splice, newRow, Nat.reduceEqDiff, Nat.reduceLT, Nat.reduceLeDiff, Nat.reduceAdd, Nat.reduceMul, Nat.reduceSub, Nat.reduceBEq, reduceCtorEq, ↓zR, zQ, Tr, StA, StT, e_within, h5, k0, ha, hb] <;> simpa [h5, clueOk, k0, ha, hb] using hq
  by_cases k1 : kd = 1 ∨ kd = 2
  · by_cases ha : 0 ≤ a ∧ a ≤ n <;> by_cases hb : b = 0 <;> rcases k1 with k1 | k1 <;> simp (maxSteps := 1000000) (disch := first | omega | rfl | (simp only [zL, two63, room] <;> omega) | fail) only [↓reduceIte, ↓zP, zW, WOp, evOp, evBin, binI, binSh, binS, evNil, keyIs, keyEq, mkv, AV.cells, AV.sc, optv, bnd, env, put, Env.get, Env.set, Env.del, Env.dels, Env.init, res1, resL, resV, fillP, splice, newRow, Nat.reduceEqDiff, Nat.reduceLT, Nat.reduceLeDiff, Nat.reduceAdd, Nat.reduceMul, Nat.reduceSub, Nat.reduceBEq, reduceCtorEq, ↓zR, zQ, Tr, StA, StT, e_within, h5, k1, ha, hb] <;> simpa [h5, clueOk, k1, ha, hb] using hq
  by_cases k3 : kd = 3
  · by_cases ha : 0 ≤ a ∧ a ≤ 2 * n <;> by_cases hb : b = 0 <;> simp (maxSteps := 1000000) (disch := first | omega | rfl | (simp only [zL, two63, room] <;> omega) | fail) only [↓reduceIte, ↓zP, zW, WOp, evOp, evBin, binI, binSh, binS, evNil, keyIs, keyEq, mkv, AV.cells, AV.sc, optv, bnd, env, put, Env.get, Env.set, Env.del, Env.dels, Env.init, res1, resL, resV, fillP, splice, newRow, Nat.reduceEqDiff, Nat.reduceLT, Nat.reduceLeDiff, Nat.reduceAdd, Nat.reduceMul, Nat.reduceSub, Nat.reduceBEq, reduceCtorEq, ↓zR, zQ, Tr, StA, StT, e_within, h5, k3, ha, hb] <;> simpa [h5, clueOk, k3, ha, hb] using hq
  by_cases k4 : kd = 4
  · by_cases ha : 0 ≤ a ∧ a ≤ 10 <;> by_cases hb : b = 0 <;> simp (maxSteps := 1000000) (disch := first | omega | rfl | (simp only [zL, two63, room] <;> omega) | fail) only [↓reduceIte, ↓zP, zW, WOp, evOp, evBin, binI, binSh, binS, evNil, keyIs, keyEq, mkv, AV.cells, AV.sc, optv, bnd, env, put, Env.get, Env.set, Env.del, Env.dels, Env.init, res1, resL, resV, fillP, splice, newRow, Nat.reduceEqDiff, Nat.reduceLT, Nat.reduceLeDiff, Nat.reduceAdd, Nat.reduceMul, Nat.reduceSub, Nat.reduceBEq, reduceCtorEq, ↓zR, zQ, Tr, StA, StT, e_within, h5, k4, ha, hb] <;> simpa [h5, clueOk, k4, ha, hb] using hq
  by_cases k5 : kd = 5
  · by_cases ha : 0 ≤ a ∧ a ≤ 3 <;> by_cases hb : b = 0 <;> simp (maxSteps := 1000000) (disch := first | omega | rfl | (simp only [zL, two63, room] <;> omega) | fail) only [↓reduceIte, ↓zP, zW, WOp, evOp, evBin, binI, binSh, binS, evNil, keyIs, keyEq, mkv, AV.cells, AV.sc, optv, bnd, env, put, Env.get, Env.set, Env.del, Env.dels, Env.init, res1, resL, resV, fillP, splice, newRow, Nat.reduceEqDiff, Nat.reduceLT, Nat.reduceLeDiff, Nat.reduceAdd, Nat.reduceMul, Nat.reduceSub, Nat.reduceBEq, reduceCtorEq, ↓zR, zQ, Tr, StA, StT, e_within, h5, k5, ha, hb] <;> simpa [h5, clueOk, k5, ha, hb] using hq
  · simp (maxSteps := 1000000) (disch := first | omega | rfl | (simp only [zL, two63, room] <;> omega) | fail) only [↓reduceIte, ↓zP, zW, WOp, evOp, evBin, binI, binSh, binS, evNil, keyIs, keyEq, mkv, AV.cells, AV.sc, optv, bnd, env, put, Env.get, Env.set, Env.del, Env.dels, Env.init, res1, resL, resV, fillP, splice, newRow, Nat.reduceEqDiff, Nat.reduceLT, Nat.reduceLeDiff, Nat.reduceAdd, Nat.reduceMul, Nat.reduceSub, Nat.reduceBEq, reduceCtorEq, ↓zR, zQ, Tr, StA, StT, e_within, h5]
    have e1 : ¬ (kd = 1) := fun e => k1 (.inl e)
    have e2 : ¬ (kd = 2) := fun e => k1 (.inr e)
    simpa [h5, clueOk, k0, e1, e2, k3, k4, k5] using hq
theorem c_pzClue (n kd a b : Int) (hn : 0 ≤ n ∧ n ≤ 1000) {h : AH} {post : AV → AH → Prop} (hp : ∀ h', Pre h h' → post (.bool (clueOk n (kd, a, b))) h') : S 172 [.int .i64 n, .agg (encC (kd, a, b))] h post k := by
  have hq := hp _ (Pre.push h (AO.row [.int .i64 kd, .int .i64 a, .int .i64 b] 0 0 false))
  clear hp
  refine S_of rfl T172 ?_; unfold fi172
  by_cases k0 : kd = 0
  · by_cases ha : 0 ≤ a ∧ a ≤ n - 1 <;> by_cases hb : 0 ≤ b ∧ b ≤ 2 <;> simp (maxSteps := 1000000) (disch := first | omega | rfl | (simp only [zL, two63, room] <;> omega) | fail) only [↓reduceIte, ↓zP, zW, WOp, evOp, evBin, binI, binSh, binS, evNil, keyIs, keyEq, mkv, AV.cells, AV.sc, optv, bnd, env, put, Env.get, Env.set, Env.del, Env.dels, Env.init, res1, resL, resV, fillP, splice, newRow, Nat.reduceEqDiff, Nat.reduceLT, Nat.reduceLeDiff, Nat.reduceAdd, Nat.reduceMul, Nat.reduceSub, Nat.reduceBEq, reduceCtorEq, ↓zR, zQ, Tr, StA, StT, e_l1In, k0, ha, hb] <;> simpa [clueOk, k0, ha, hb] using hq
  by_cases hb : b = 0
  case neg =>
    simp (maxSteps := 1000000) (disch := first | omega | rfl | (simp only [zL, two63, room] <;> omega) | fail) only [↓reduceIte, ↓zP, zW, WOp, evOp, evBin, binI, binSh, binS, evNil, keyIs, keyEq, mkv, AV.cells, AV.sc, optv, bnd, env, put, Env.get, Env.set, Env.del, Env.dels, Env.init, res1, resL, resV, fillP, splice, newRow, Nat.reduceEqDiff, Nat.reduceLT, Nat.reduceLeDiff, Nat.reduceAdd, Nat.reduceMul, Nat.reduceSub, Nat.reduceBEq, reduceCtorEq, ↓zR, zQ, Tr, StA, StT, e_l1In, hb]
    simpa [clueOk, k0, hb] using hq
  by_cases k1 : kd = 1 ∨ kd = 2
  · rcases k1 with k1 | k1 <;> simp (maxSteps := 1000000) (disch := first | omega | rfl | (simp only [zL, two63, room] <;> omega) | fail) only [↓reduceIte, ↓zP, zW, WOp, evOp, evBin, binI, binSh, binS, evNil, keyIs, keyEq, mkv, AV.cells, AV.sc, optv, bnd, env, put, Env.get, Env.set, Env.del, Env.dels, Env.init, res1, resL, resV, fillP, splice, newRow, Nat.reduceEqDiff, Nat.reduceLT, Nat.reduceLeDiff, Nat.reduceAdd, Nat.reduceMul, Nat.reduceSub, Nat.reduceBEq, reduceCtorEq, ↓zR, zQ, Tr, StA, StT, e_l1In, hb, k1] <;> simpa [clueOk, hb, k1] using hq
  by_cases k3 : kd = 3
  · simp (maxSteps := 1000000) (disch := first | omega | rfl | (simp only [zL, two63, room] <;> omega) | fail) only [↓reduceIte, ↓zP, zW, WOp, evOp, evBin, binI, binSh, binS, evNil, keyIs, keyEq, mkv, AV.cells, AV.sc, optv, bnd, env, put, Env.get, Env.set, Env.del, Env.dels, Env.init, res1, resL, resV, fillP, splice, newRow, Nat.reduceEqDiff, Nat.reduceLT, Nat.reduceLeDiff, Nat.reduceAdd, Nat.reduceMul, Nat.reduceSub, Nat.reduceBEq, reduceCtorEq, ↓zR, zQ, Tr, StA, StT, e_l1In, hb, k3]
    simpa [clueOk, hb, k3] using hq
  by_cases k4 : kd = 4
  · simp (maxSteps := 1000000) (disch := first | omega | rfl | (simp only [zL, two63, room] <;> omega) | fail) only [↓reduceIte, ↓zP, zW, WOp, evOp, evBin, binI, binSh, binS, evNil, keyIs, keyEq, mkv, AV.cells, AV.sc, optv, bnd, env, put, Env.get, Env.set, Env.del, Env.dels, Env.init, res1, resL, resV, fillP, splice, newRow, Nat.reduceEqDiff, Nat.reduceLT, Nat.reduceLeDiff, Nat.reduceAdd, Nat.reduceMul, Nat.reduceSub, Nat.reduceBEq, reduceCtorEq, ↓zR, zQ, Tr, StA, StT, e_l1In, hb, k4]
    simpa [clueOk, hb, k4] using hq
  by_cases k5 : kd = 5
  · simp (maxSteps := 1000000) (disch := first | omega | rfl | (simp only [zL, two63, room] <;> omega) | fail) only [↓reduceIte, ↓zP, zW, WOp, evOp, evBin, binI, binSh, binS, evNil, keyIs, keyEq, mkv, AV.cells, AV.sc, optv, bnd, env, put, Env.get, Env.set, Env.del, Env.dels, Env.init, res1, resL, resV, fillP, splice, newRow, Nat.reduceEqDiff, Nat.reduceLT, Nat.reduceLeDiff, Nat.reduceAdd, Nat.reduceMul, Nat.reduceSub, Nat.reduceBEq, reduceCtorEq, ↓zR, zQ, Tr, StA, StT, e_l1In, hb, k5]
    simpa [clueOk, hb, k5] using hq
  · simp (maxSteps := 1000000) (disch := first | omega | rfl | (simp only [zL, two63, room] <;> omega) | fail) only [↓reduceIte, ↓zP, zW, WOp, evOp, evBin, binI, binSh, binS, evNil, keyIs, keyEq, mkv, AV.cells, AV.sc, optv, bnd, env, put, Env.get, Env.set, Env.del, Env.dels, Env.init, res1, resL, resV, fillP, splice, newRow, Nat.reduceEqDiff, Nat.reduceLT, Nat.reduceLeDiff, Nat.reduceAdd, Nat.reduceMul, Nat.reduceSub, Nat.reduceBEq, reduceCtorEq, ↓zR, zQ, Tr, StA, StT, e_l1In, hb]
    have e1 : ¬ (kd = 1) := fun e => k1 (.inl e)
    have e2 : ¬ (kd = 2) := fun e => k1 (.inr e)
    simpa [clueOk, k0, e1, e2, k3, k4, k5, encC, hb] using hq
theorem e_pzCells (n : Int) {h : AH} {post : AV → AH → Prop} : S 171 [.int .i64 n] h post k = post (.bool (decide (1 ≤ n ∧ n ≤ 5))) h := by
  refine S_eq fun post hp => ?_
  refine S_of rfl T171 ?_; unfold fi171
  simp (maxSteps := 1000000) (disch := first | omega | rfl | (simp only [zL, two63, room] <;> omega) | fail) only [↓reduceIte, ↓zP, zW, WOp, evOp, evBin, binI, binSh, binS, evNil, keyIs, keyEq, mkv, AV.cells, AV.sc, optv, bnd, env, put, Env.get, Env.set, Env.del, Env.dels, Env.init, res1, resL, resV, fillP, splice, newRow, Nat.reduceEqDiff, Nat.reduceLT, Nat.reduceLeDiff, Nat.reduceAdd, Nat.reduceMul, Nat.reduceSub, Nat.reduceBEq, reduceCtorEq, ↓zR, zQ, Tr, StA, StT, e_l1In]
  exact hp

/-! ### What a clue tells -/
def clueB (kd cell : Int) (w : List UInt8) : Int × Int × Int :=
  if kd = 0 then (0, cell, Go.Lib.indexByte [46, 70, 84] (w.getD cell.toNat 0)) else if kd = 1 then (1, w.count 84, 0) else if kd = 2 then (2, w.count 70, 0) else if kd = 3 then (3, (movesB w [84, 70]).length, 0) else if kd = 4 then (4, pairsB w, 0) else
  (5, Go.Lib.indexByte [49, 50, 70, 84] ((outcS (winB w true) (winB w false)).getD 0 0), 0)
theorem outcS_one (a b : Bool) : outcS a b = [(outcS a b).getD 0 0] := by cases a <;> cases b <;> rfl
theorem c_clueOf (kd cell : Int) (w : List UInt8) (hw : w.length < 1073741824) (hc : kd = 0 → 0 ≤ cell ∧ cell < w.length) {h : AH} {post : AV → AH → Prop} (hp : ∀ h', Pre h h' → post (.agg (encC (clueB kd cell w))) h') : S 187 [.int .i64 kd, .int .i64 cell, .str w] h post k := by
  have hpre := Pre.push h (AO.row [.int .i64 0, .int .i64 0, .int .i64 0] 0 0 false)
  refine S_of rfl T187 ?_; unfold fi187
  unfold clueB at hp
  by_cases k0 : kd = 0
  · have hc0 := hc k0
    have e1 : S 190 [.str [46, 70, 84], by8 (w.getD cell.toNat 0)] = S 190 [.str [46, 70, 84], by8 (w.getD cell.toNat 0)] := rfl
    simp (maxSteps := 1000000) (disch := first | omega | rfl | (simp only [zL, two63, room] <;> omega) | fail) only [↓reduceIte, ↓zP, zW, WOp, evOp, evBin, binI, binSh, binS, evNil, keyIs, keyEq, mkv, AV.cells, AV.sc, optv, bnd, env, put, Env.get, Env.set, Env.del, Env.dels, Env.init, res1, resL, resV, fillP, splice, newRow, Nat.reduceEqDiff, Nat.reduceLT, Nat.reduceLeDiff, Nat.reduceAdd, Nat.reduceMul, Nat.reduceSub, Nat.reduceBEq, reduceCtorEq, ↓zR, zQ, Tr, StA, StT, e_count, k0]
    refine S_ext rfl rfl ?_
    simp (maxSteps := 1000000) (disch := first | omega | rfl | (simp only [zL, two63, room] <;> omega) | fail) only [↓reduceIte, ↓zP, zW, WOp, evOp, evBin, binI, binSh, binS, evNil, keyIs, keyEq, mkv, AV.cells, AV.sc, optv, bnd, env, put, Env.get, Env.set, Env.del, Env.dels, Env.init, res1, resL, resV, fillP, splice, newRow, Nat.reduceEqDiff, Nat.reduceLT, Nat.reduceLeDiff, Nat.reduceAdd, Nat.reduceMul, Nat.reduceSub, Nat.reduceBEq, reduceCtorEq, ↓zR, zQ, Tr, StA, StT]
    rw [if_pos k0] at hp
    simpa using hp _ (Pre.push h _)
  rw [if_neg k0] at hp
  by_cases k1 : kd = 1
  · rw [if_pos k1] at hp
    simp (maxSteps := 1000000) (disch := first | omega | rfl | (simp only [zL, two63, room] <;> omega) | fail) only [↓reduceIte, ↓zP, zW, WOp, evOp, evBin, binI, binSh, binS, evNil, keyIs, keyEq, mkv, AV.cells, AV.sc, optv, bnd, env, put, Env.get, Env.set, Env.del, Env.dels, Env.init, res1, resL, resV, fillP, splice, newRow, Nat.reduceEqDiff, Nat.reduceLT, Nat.reduceLeDiff, Nat.reduceAdd, Nat.reduceMul, Nat.reduceSub, Nat.reduceBEq, reduceCtorEq, ↓zR, zQ, Tr, StA, StT, e_count, k1]
    exact hp _ (Pre.push h _)
  rw [if_neg k1] at hp
  by_cases k2 : kd = 2
  · rw [if_pos k2] at hp
    simp (maxSteps := 1000000) (disch := first | omega | rfl | (simp only [zL, two63, room] <;> omega) | fail) only [↓reduceIte, ↓zP, zW, WOp, evOp, evBin, binI, binSh, binS, evNil, keyIs, keyEq, mkv, AV.cells, AV.sc, optv, bnd, env, put, Env.get, Env.set, Env.del, Env.dels, Env.init, res1, resL, resV, fillP, splice, newRow, Nat.reduceEqDiff, Nat.reduceLT, Nat.reduceLeDiff, Nat.reduceAdd, Nat.reduceMul, Nat.reduceSub, Nat.reduceBEq, reduceCtorEq, ↓zR, zQ, Tr, StA, StT, e_count, k2]
    exact hp _ (Pre.push h _)
  rw [if_neg k2] at hp
  by_cases k3 : kd = 3
  · rw [if_pos k3] at hp
    simp (maxSteps := 1000000) (disch := first | omega | rfl | (simp only [zL, two63, room] <;> omega) | fail) only [↓reduceIte, ↓zP, zW, WOp, evOp, evBin, binI, binSh, binS, evNil, keyIs, keyEq, mkv, AV.cells, AV.sc, optv, bnd, env, put, Env.get, Env.set, Env.del, Env.dels, Env.init, res1, resL, resV, fillP, splice, newRow, Nat.reduceEqDiff, Nat.reduceLT, Nat.reduceLeDiff, Nat.reduceAdd, Nat.reduceMul, Nat.reduceSub, Nat.reduceBEq, reduceCtorEq, ↓zR, zQ, Tr, StA, StT, e_count, k3]
    refine c_moves w [84, 70] hw ?_
    intro v h2 ho hp2
    have hs : Slc 2 encM h2 v (movesB w [84, 70]) := ho.sl
    have hv := fun g => Slc.lenV (hs) (g := g) (ρ := fun _ => _) (x := .t 0) rfl; simp only [evOp] at hv
    have hlt := pre_last_lt hp2
    simp (maxSteps := 1000000) (disch := first | omega | rfl | (simp only [zL, two63, room] <;> omega) | fail) only [↓reduceIte, ↓zP, zW, WOp, evOp, evBin, binI, binSh, binS, evNil, keyIs, keyEq, mkv, AV.cells, AV.sc, optv, bnd, env, put, Env.get, Env.set, Env.del, Env.dels, Env.init, res1, resL, resV, fillP, splice, newRow, Nat.reduceEqDiff, Nat.reduceLT, Nat.reduceLeDiff, Nat.reduceAdd, Nat.reduceMul, Nat.reduceSub, Nat.reduceBEq, reduceCtorEq, ↓zR, zQ, Tr, StA, StT, hv, wr_of (pre_last hp2)]
    exact hp _ (pre_set_last hp2)
  rw [if_neg k3] at hp
  by_cases k4 : kd = 4
  · rw [if_pos k4] at hp
    simp (maxSteps := 1000000) (disch := first | omega | rfl | (simp only [zL, two63, room] <;> omega) | fail) only [↓reduceIte, ↓zP, zW, WOp, evOp, evBin, binI, binSh, binS, evNil, keyIs, keyEq, mkv, AV.cells, AV.sc, optv, bnd, env, put, Env.get, Env.set, Env.del, Env.dels, Env.init, res1, resL, resV, fillP, splice, newRow, Nat.reduceEqDiff, Nat.reduceLT, Nat.reduceLeDiff, Nat.reduceAdd, Nat.reduceMul, Nat.reduceSub, Nat.reduceBEq, reduceCtorEq, ↓zR, zQ, Tr, StA, StT, e_count, e_pairs, k4]
    exact hp _ (Pre.push h _)
  rw [if_neg k4] at hp
  · simp (maxSteps := 1000000) (disch := first | omega | rfl | (simp only [zL, two63, room] <;> omega) | fail) only [↓reduceIte, ↓zP, zW, WOp, evOp, evBin, binI, binSh, binS, evNil, keyIs, keyEq, mkv, AV.cells, AV.sc, optv, bnd, env, put, Env.get, Env.set, Env.del, Env.dels, Env.init, res1, resL, resV, fillP, splice, newRow, Nat.reduceEqDiff, Nat.reduceLT, Nat.reduceLeDiff, Nat.reduceAdd, Nat.reduceMul, Nat.reduceSub, Nat.reduceBEq, reduceCtorEq, ↓zR, zQ, Tr, StA, StT, e_count]
    refine c_newGames ?_
    intro c h2 hp2 hc2 hm2
    simp (maxSteps := 1000000) (disch := first | omega | rfl | (simp only [zL, two63, room] <;> omega) | fail) only [↓reduceIte, ↓zP, zW, WOp, evOp, evBin, binI, binSh, binS, evNil, keyIs, keyEq, mkv, AV.cells, AV.sc, optv, bnd, env, put, Env.get, Env.set, Env.del, Env.dels, Env.init, res1, resL, resV, fillP, splice, newRow, Nat.reduceEqDiff, Nat.reduceLT, Nat.reduceLeDiff, Nat.reduceAdd, Nat.reduceMul, Nat.reduceSub, Nat.reduceBEq, reduceCtorEq, ↓zR, zQ, Tr, StA, StT]
    refine c_outcome w hw hm2 ?_
    intro h3 hp3
    rw [outcS_one]
    simp (maxSteps := 1000000) (disch := first | omega | rfl | (simp only [zL, two63, room] <;> omega) | fail) only [↓reduceIte, ↓zP, zW, WOp, evOp, evBin, binI, binSh, binS, evNil, keyIs, keyEq, mkv, AV.cells, AV.sc, optv, bnd, env, put, Env.get, Env.set, Env.del, Env.dels, Env.init, res1, resL, resV, fillP, splice, newRow, Nat.reduceEqDiff, Nat.reduceLT, Nat.reduceLeDiff, Nat.reduceAdd, Nat.reduceMul, Nat.reduceSub, Nat.reduceBEq, reduceCtorEq, ↓zR, zQ, Tr, StA, StT]
    refine S_ext rfl rfl ?_
    have hx : h3[h.length]? = some (AO.row [.int .i64 0, .int .i64 0, .int .i64 0] 0 0 false) := by
      have := hc2; simp at this
      rw [hp3.2 _ (by have := hp2.1; simp at this; omega) (by omega), pre_last hp2]
    have hlt := (List.getElem?_eq_some_iff.1 hx).1
    simp (maxSteps := 1000000) (disch := first | omega | rfl | (simp only [zL, two63, room] <;> omega) | fail) only [↓reduceIte, ↓zP, zW, WOp, evOp, evBin, binI, binSh, binS, evNil, keyIs, keyEq, mkv, AV.cells, AV.sc, optv, bnd, env, put, Env.get, Env.set, Env.del, Env.dels, Env.init, res1, resL, resV, fillP, splice, newRow, Nat.reduceEqDiff, Nat.reduceLT, Nat.reduceLeDiff, Nat.reduceAdd, Nat.reduceMul, Nat.reduceSub, Nat.reduceBEq, reduceCtorEq, ↓zR, zQ, Tr, StA, StT, wr_of hx]
    refine hp _ (((hp2.x c).trans hp3).pre2 (by simpa using hc2))
end Go.Proofs.YtnkkgghpfgihfabDoor.Ab

/- PUZZLES: which lines fit a clue. -/
namespace Go.Proofs.YtnkkgghpfgihfabDoor.Ab
open Go
set_option maxRecDepth 100000
set_option maxHeartbeats 4000000

theorem idx_cons (x : UInt8) (l : List UInt8) (b : UInt8) : Go.Lib.indexByte (x :: l) b = if x == b then 0 else if Go.Lib.indexByte l b == -1 then -1 else Go.Lib.indexByte l b + 1 := rfl
theorem lp_pzIndex (s : List UInt8) (hs : s.all isSign = true ∨ s = [49, 50, 70, 84]) (b : UInt8) (h0 : AH) (c : Nat) (hc : c = h0.length) {R : X → Env → AH → Prop} : ∀ (rest pre : List UInt8) (h : AH), s = pre ++ rest → s.length < 2 ^ 30 → h[c]? = some (.iter s pre.length) → Pre h0 h →
    (∀ h', Pre h0 h' → 0 ≤ Go.Lib.indexByte rest b → R .ret [(4, .int .i64 (pre.length + Go.Lib.indexByte rest b))] h') → (∀ h', Pre h0 h' → Go.Lib.indexByte rest b = -1 → R (.exit 0) [] h') →
    Cx (.loop lp195_0) [(0, .str s), (1, .str [b]), (7, .iter c)] h R k k
  | [], pre, h, hpre, hl, hi, hp, h1, h2 => by
    rw [w_loopb (c := lp195_0) (d := lb195_0) rfl]; unfold lb195_0
    have hlt : ¬ pre.length < s.length := by rw [hpre]; simp
    simp (maxSteps := 1000000) (disch := first | omega | rfl | (simp only [zL, two63, room] <;> omega) | fail) only [↓reduceIte, ↓zP, zW, WOp, evOp, evBin, binI, binSh, binS, evNil, keyIs, keyEq, mkv, AV.cells, AV.sc, optv, bnd, env, put, Env.get, Env.set, Env.del, Env.dels, Env.init, res1, resL, resV, fillP, splice, newRow, Nat.reduceEqDiff, Nat.reduceLT, Nat.reduceLeDiff, Nat.reduceAdd, Nat.reduceMul, Nat.reduceSub, Nat.reduceBEq, reduceCtorEq, ↓zR, zQ, Tr, StA, StT, hi, hlt]
    exact h2 h hp rfl
  | x :: rest, pre, h, hpre, hl, hi, hp, h1, h2 => by
    have ih := lp_pzIndex s hs b h0 c hc (R := R) rest (pre ++ [x])
    have hlt : pre.length < s.length := by rw [hpre]; simp
    have hx : s.getD pre.length 0 = x := by rw [hpre]; simp [List.getD_eq_getElem?_getD]
    have hlow : (s.getD pre.length 0).toNat < 128 := by
      rcases hs with hs | hs
      · exact sign_low (sign_at hs hlt)
      · have : ∀ i, i < 4 → (([49, 50, 70, 84] : List UInt8).getD i 0).toNat < 128 := by decide
        rw [hs] at hlt ⊢
        exact this _ hlt
    have hdec := dec_low hlt hlow
    have hd1 : (dec s pre.length).1 = ((s.getD pre.length 0).toNat : Int) := by rw [hdec]
    have hd2 : (dec s pre.length).2 = 1 := by rw [hdec]
    have hsub := sub_one s pre.length hlt
    have hi' : (h.set c (.iter s (pre.length + 1)))[c]? = some (.iter s (pre ++ [x]).length) := by
      rw [List.getElem?_set, if_pos rfl, if_pos (List.getElem?_eq_some_iff.1 hi).1]; simp
    have hp' : Pre h0 (h.set c (.iter s (pre.length + 1))) := hp.set (by omega)
    have e1 : ((pre.length : Int) + 1).toNat = pre.length + 1 := by omega
    have hbeq : ([x] == [b]) = (x == b) := by simp [List.beq_cons_cons, BEq.beq, List.beq]
    rw [w_loopb (c := lp195_0) (d := lb195_0) rfl]; unfold lb195_0
    cases e : (x == b)
    · simp (maxSteps := 1000000) (disch := first | omega | rfl | (simp only [zL, two63, room] <;> omega) | fail) only [↓reduceIte, ↓zP, zW, WOp, evOp, evBin, binI, binSh, binS, evNil, keyIs, keyEq, mkv, AV.cells, AV.sc, optv, bnd, env, put, Env.get, Env.set, Env.del, Env.dels, Env.init, res1, resL, resV, fillP, splice, newRow, Nat.reduceEqDiff, Nat.reduceLT, Nat.reduceLeDiff, Nat.reduceAdd, Nat.reduceMul, Nat.reduceSub, Nat.reduceBEq, reduceCtorEq, ↓zR, zQ, Tr, StA, StT, hi, hlt, hd1, hd2, e1, hsub, hx, hbeq, e]
      rw [w_loopn (c := lp195_0) rfl]
      simp (maxSteps := 1000000) (disch := first | omega | rfl | (simp only [zL, two63, room] <;> omega) | fail) only [↓reduceIte, ↓zP, zW, WOp, evOp, evBin, binI, binSh, binS, evNil, keyIs, keyEq, mkv, AV.cells, AV.sc, optv, bnd, env, put, Env.get, Env.set, Env.del, Env.dels, Env.init, res1, resL, resV, fillP, splice, newRow, Nat.reduceEqDiff, Nat.reduceLT, Nat.reduceLeDiff, Nat.reduceAdd, Nat.reduceMul, Nat.reduceSub, Nat.reduceBEq, reduceCtorEq, ↓zR, zQ, Tr, StA, StT]
      refine ih _ (by rw [hpre]; simp) hl hi' hp' ?_ ?_
      · intro h' hp2 hge
        have := h1 h' hp2 (by rw [idx_cons, e]; simp; split <;> omega)
        rw [idx_cons, e] at this
        rw [if_neg (by simp), if_neg (by simp; omega)] at this
        have e3 : (pre.length : Int) + (Go.Lib.indexByte rest b + 1) = ((pre ++ [x]).length : Int) + Go.Lib.indexByte rest b := by simp; omega
        rw [e3] at this
        exact this
      · intro h' hp2 hm
        exact h2 h' hp2 (by rw [idx_cons, e, hm]; rfl)
    · simp (maxSteps := 1000000) (disch := first | omega | rfl | (simp only [zL, two63, room] <;> omega) | fail) only [↓reduceIte, ↓zP, zW, WOp, evOp, evBin, binI, binSh, binS, evNil, keyIs, keyEq, mkv, AV.cells, AV.sc, optv, bnd, env, put, Env.get, Env.set, Env.del, Env.dels, Env.init, res1, resL, resV, fillP, splice, newRow, Nat.reduceEqDiff, Nat.reduceLT, Nat.reduceLeDiff, Nat.reduceAdd, Nat.reduceMul, Nat.reduceSub, Nat.reduceBEq, reduceCtorEq, ↓zR, zQ, Tr, StA, StT, hi, hlt, hd1, hd2, e1, hsub, hx, hbeq, e]
      have := h1 _ hp' (by rw [idx_cons, e]; simp)
      rw [idx_cons, e] at this
      simpa using this
def pzI (s : List UInt8) (b : UInt8) : Int := if Go.Lib.indexByte s b = -1 then 0 else Go.Lib.indexByte s b
theorem c_pzIndex (s : List UInt8) (hs : s.all isSign = true ∨ s = [49, 50, 70, 84]) (hl : s.length < 2 ^ 30) (b : UInt8) {h : AH} {post : AV → AH → Prop} (hp : ∀ h', Pre h h' → post (.int .i64 (pzI s b)) h') : S 195 [.str s, .str [b]] h post k := by
  refine S_of rfl T195 ?_; unfold fi195
  simp (maxSteps := 1000000) (disch := first | omega | rfl | (simp only [zL, two63, room] <;> omega) | fail) only [↓reduceIte, ↓zP, zW, WOp, evOp, evBin, binI, binSh, binS, evNil, keyIs, keyEq, mkv, AV.cells, AV.sc, optv, bnd, env, put, Env.get, Env.set, Env.del, Env.dels, Env.init, res1, resL, resV, fillP, splice, newRow, Nat.reduceEqDiff, Nat.reduceLT, Nat.reduceLeDiff, Nat.reduceAdd, Nat.reduceMul, Nat.reduceSub, Nat.reduceBEq, reduceCtorEq, ↓zR, zQ, Tr, StA, StT]
  refine lp_pzIndex s hs b h h.length rfl s [] _ rfl hl (by simp) (Pre.push _ _) ?_ ?_
  · intro h' hp' hge
    have := hp h' hp'
    unfold pzI at this
    rw [if_neg (by omega)] at this
    simp (maxSteps := 1000000) (disch := first | omega | rfl | (simp only [zL, two63, room] <;> omega) | fail) only [↓reduceIte, ↓zP, zW, WOp, evOp, evBin, binI, binSh, binS, evNil, keyIs, keyEq, mkv, AV.cells, AV.sc, optv, bnd, env, put, Env.get, Env.set, Env.del, Env.dels, Env.init, res1, resL, resV, fillP, splice, newRow, Nat.reduceEqDiff, Nat.reduceLT, Nat.reduceLeDiff, Nat.reduceAdd, Nat.reduceMul, Nat.reduceSub, Nat.reduceBEq, reduceCtorEq, ↓zR, zQ, Tr, StA, StT]
    simpa using this
  · intro h' hp' hm
    have := hp h' hp'
    unfold pzI at this
    rw [if_pos hm] at this
    simp (maxSteps := 1000000) (disch := first | omega | rfl | (simp only [zL, two63, room] <;> omega) | fail) only [↓reduceIte, ↓zP, zW, WOp, evOp, evBin, binI, binSh, binS, evNil, keyIs, keyEq, mkv, AV.cells, AV.sc, optv, bnd, env, put, Env.get, Env.set, Env.del, Env.dels, Env.init, res1, resL, resV, fillP, splice, newRow, Nat.reduceEqDiff, Nat.reduceLT, Nat.reduceLeDiff, Nat.reduceAdd, Nat.reduceMul, Nat.reduceSub, Nat.reduceBEq, reduceCtorEq, ↓zR, zQ, Tr, StA, StT]
    exact this

def valB (kd at' : Int) (w : List UInt8) : Int :=
  if kd = 0 then pzI [46, 70, 84] (w.getD at'.toNat 0) else if kd = 1 then w.count 84 else if kd = 2 then w.count 70 else if kd = 3 then (movesB w [84, 70]).length else if kd = 4 then pairsB w else
  pzI [49, 50, 70, 84] ((outcS (winB w true) (winB w false)).getD 0 0)
theorem c_pzValue (kd cell : Int) (w : List UInt8) (hs : w.all isSign = true) (hw : w.length ≤ 12) (hc : kd = 0 → 0 ≤ cell ∧ cell < w.length) {h : AH} {post : AV → AH → Prop} (hp : ∀ h', Pre h h' → post (.int .i64 (valB kd cell w)) h') : S 188 [.int .i64 kd, .int .i64 cell, .str w] h post k := by
  refine S_of rfl T188 ?_; unfold fi188
  unfold valB at hp
  have hw1 : w.length < 1073741824 := by omega
  by_cases k0 : kd = 0
  · obtain ⟨hc1, hc2⟩ := hc k0
    obtain ⟨i, rfl⟩ := Int.eq_ofNat_of_zero_le hc1
    have e1 : ((i : Int) + 1).toNat = i + 1 := by omega
    have e2 := sub_one w i (by omega)
    rw [if_pos k0] at hp
    simp (maxSteps := 1000000) (disch := first | omega | rfl | (simp only [zL, two63, room] <;> omega) | fail) only [↓reduceIte, ↓zP, zW, WOp, evOp, evBin, binI, binSh, binS, evNil, keyIs, keyEq, mkv, AV.cells, AV.sc, optv, bnd, env, put, Env.get, Env.set, Env.del, Env.dels, Env.init, res1, resL, resV, fillP, splice, newRow, Nat.reduceEqDiff, Nat.reduceLT, Nat.reduceLeDiff, Nat.reduceAdd, Nat.reduceMul, Nat.reduceSub, Nat.reduceBEq, reduceCtorEq, ↓zR, zQ, Tr, StA, StT, k0, e1, e2]
    refine c_pzIndex _ (.inl rfl) (by simp) _ ?_
    intro h2 hp2
    simp (maxSteps := 1000000) (disch := first | omega | rfl | (simp only [zL, two63, room] <;> omega) | fail) only [↓reduceIte, ↓zP, zW, WOp, evOp, evBin, binI, binSh, binS, evNil, keyIs, keyEq, mkv, AV.cells, AV.sc, optv, bnd, env, put, Env.get, Env.set, Env.del, Env.dels, Env.init, res1, resL, resV, fillP, splice, newRow, Nat.reduceEqDiff, Nat.reduceLT, Nat.reduceLeDiff, Nat.reduceAdd, Nat.reduceMul, Nat.reduceSub, Nat.reduceBEq, reduceCtorEq, ↓zR, zQ, Tr, StA, StT]
    exact hp h2 hp2
  rw [if_neg k0] at hp
  by_cases k1 : kd = 1
  · rw [if_pos k1] at hp
    simp (maxSteps := 1000000) (disch := first | omega | rfl | (simp only [zL, two63, room] <;> omega) | fail) only [↓reduceIte, ↓zP, zW, WOp, evOp, evBin, binI, binSh, binS, evNil, keyIs, keyEq, mkv, AV.cells, AV.sc, optv, bnd, env, put, Env.get, Env.set, Env.del, Env.dels, Env.init, res1, resL, resV, fillP, splice, newRow, Nat.reduceEqDiff, Nat.reduceLT, Nat.reduceLeDiff, Nat.reduceAdd, Nat.reduceMul, Nat.reduceSub, Nat.reduceBEq, reduceCtorEq, ↓zR, zQ, Tr, StA, StT, k1, e_liCountT]
    exact hp _ (Pre.refl _)
  rw [if_neg k1] at hp
  by_cases k2 : kd = 2
  · rw [if_pos k2] at hp
    simp (maxSteps := 1000000) (disch := first | omega | rfl | (simp only [zL, two63, room] <;> omega) | fail) only [↓reduceIte, ↓zP, zW, WOp, evOp, evBin, binI, binSh, binS, evNil, keyIs, keyEq, mkv, AV.cells, AV.sc, optv, bnd, env, put, Env.get, Env.set, Env.del, Env.dels, Env.init, res1, resL, resV, fillP, splice, newRow, Nat.reduceEqDiff, Nat.reduceLT, Nat.reduceLeDiff, Nat.reduceAdd, Nat.reduceMul, Nat.reduceSub, Nat.reduceBEq, reduceCtorEq, ↓zR, zQ, Tr, StA, StT, k2, e_liCountF]
    exact hp _ (Pre.refl _)
  rw [if_neg k2] at hp
  by_cases k3 : kd = 3
  · rw [if_pos k3] at hp
    simp (maxSteps := 1000000) (disch := first | omega | rfl | (simp only [zL, two63, room] <;> omega) | fail) only [↓reduceIte, ↓zP, zW, WOp, evOp, evBin, binI, binSh, binS, evNil, keyIs, keyEq, mkv, AV.cells, AV.sc, optv, bnd, env, put, Env.get, Env.set, Env.del, Env.dels, Env.init, res1, resL, resV, fillP, splice, newRow, Nat.reduceEqDiff, Nat.reduceLT, Nat.reduceLeDiff, Nat.reduceAdd, Nat.reduceMul, Nat.reduceSub, Nat.reduceBEq, reduceCtorEq, ↓zR, zQ, Tr, StA, StT, k3]
    refine c_liMoves w hs (by omega) true true ?_
    intro v h2 ho hp2
    rw [liMovesB_eq] at ho
    have hsl : Slc 2 encM h2 v (movesB w [84, 70]) := ho.slc
    have hv := fun g => Slc.lenV (hsl) (g := g) (ρ := fun _ => _) (x := .t 0) rfl; simp only [evOp] at hv
    simp (maxSteps := 1000000) (disch := first | omega | rfl | (simp only [zL, two63, room] <;> omega) | fail) only [↓reduceIte, ↓zP, zW, WOp, evOp, evBin, binI, binSh, binS, evNil, keyIs, keyEq, mkv, AV.cells, AV.sc, optv, bnd, env, put, Env.get, Env.set, Env.del, Env.dels, Env.init, res1, resL, resV, fillP, splice, newRow, Nat.reduceEqDiff, Nat.reduceLT, Nat.reduceLeDiff, Nat.reduceAdd, Nat.reduceMul, Nat.reduceSub, Nat.reduceBEq, reduceCtorEq, ↓zR, zQ, Tr, StA, StT, hv]
    exact hp _ hp2
  rw [if_neg k3] at hp
  by_cases k4 : kd = 4
  · rw [if_pos k4] at hp
    simp (maxSteps := 1000000) (disch := first | omega | rfl | (simp only [zL, two63, room] <;> omega) | fail) only [↓reduceIte, ↓zP, zW, WOp, evOp, evBin, binI, binSh, binS, evNil, keyIs, keyEq, mkv, AV.cells, AV.sc, optv, bnd, env, put, Env.get, Env.set, Env.del, Env.dels, Env.init, res1, resL, resV, fillP, splice, newRow, Nat.reduceEqDiff, Nat.reduceLT, Nat.reduceLeDiff, Nat.reduceAdd, Nat.reduceMul, Nat.reduceSub, Nat.reduceBEq, reduceCtorEq, ↓zR, zQ, Tr, StA, StT, k4, e_liPairs]
    exact hp _ (Pre.refl _)
  rw [if_neg k4] at hp
  · simp (maxSteps := 1000000) (disch := first | omega | rfl | (simp only [zL, two63, room] <;> omega) | fail) only [↓reduceIte, ↓zP, zW, WOp, evOp, evBin, binI, binSh, binS, evNil, keyIs, keyEq, mkv, AV.cells, AV.sc, optv, bnd, env, put, Env.get, Env.set, Env.del, Env.dels, Env.init, res1, resL, resV, fillP, splice, newRow, Nat.reduceEqDiff, Nat.reduceLT, Nat.reduceLeDiff, Nat.reduceAdd, Nat.reduceMul, Nat.reduceSub, Nat.reduceBEq, reduceCtorEq, ↓zR, zQ, Tr, StA, StT]
    have hsl : Slc 1 encS (h ++ [AO.row [.str w] 0 0 false]) (.slice h.length 0 0 1 1) [w] := by
      unfold Slc Sl
      exact ⟨rfl, rfl, rfl, by simp (maxSteps := 1000000) (disch := first | omega | rfl | (simp only [zL, two63, room] <;> omega) | fail) only [↓reduceIte, ↓zP, zW, WOp, evOp, evBin, binI, binSh, binS, evNil, keyIs, keyEq, mkv, AV.cells, AV.sc, optv, bnd, env, put, Env.get, Env.set, Env.del, Env.dels, Env.init, res1, resL, resV, fillP, splice, newRow, Nat.reduceEqDiff, Nat.reduceLT, Nat.reduceLeDiff, Nat.reduceAdd, Nat.reduceMul, Nat.reduceSub, Nat.reduceBEq, reduceCtorEq, ↓zR, zQ, Tr, StA, StT]; rfl⟩
    refine c_gaOutcome hsl (by simpa [signs] using hs) (by simp [gaTail]; omega) ?_
    intro h2 l2 a2
    rw [winL_one (mu w + 1) w true (by omega), winL_one (mu w + 1) w false (by omega), outcS_one]
    simp (maxSteps := 1000000) (disch := first | omega | rfl | (simp only [zL, two63, room] <;> omega) | fail) only [↓reduceIte, ↓zP, zW, WOp, evOp, evBin, binI, binSh, binS, evNil, keyIs, keyEq, mkv, AV.cells, AV.sc, optv, bnd, env, put, Env.get, Env.set, Env.del, Env.dels, Env.init, res1, resL, resV, fillP, splice, newRow, Nat.reduceEqDiff, Nat.reduceLT, Nat.reduceLeDiff, Nat.reduceAdd, Nat.reduceMul, Nat.reduceSub, Nat.reduceBEq, reduceCtorEq, ↓zR, zQ, Tr, StA, StT]
    refine c_pzIndex _ (.inr rfl) (by simp) _ ?_
    intro h3 hp3
    simp (maxSteps := 1000000) (disch := first | omega | rfl | (simp only [zL, two63, room] <;> omega) | fail) only [↓reduceIte, ↓zP, zW, WOp, evOp, evBin, binI, binSh, binS, evNil, keyIs, keyEq, mkv, AV.cells, AV.sc, optv, bnd, env, put, Env.get, Env.set, Env.del, Env.dels, Env.init, res1, resL, resV, fillP, splice, newRow, Nat.reduceEqDiff, Nat.reduceLT, Nat.reduceLeDiff, Nat.reduceAdd, Nat.reduceMul, Nat.reduceSub, Nat.reduceBEq, reduceCtorEq, ↓zR, zQ, Tr, StA, StT]
    have q : Pre (h ++ [AO.row [.str w] 0 0 false]) h2 := ⟨l2, a2⟩
    exact hp h3 ((pre_of_last q).trans hp3)

def fitB (c : Int × Int × Int) (w : List UInt8) : Bool := if c.1 = 0 then valB 0 c.2.1 w == c.2.2 else valB c.1 0 w == c.2.1
theorem c_pzFits (kd a b : Int) (w : List UInt8) (hs : w.all isSign = true) (hw : w.length ≤ 12) (hc : kd = 0 → 0 ≤ a ∧ a < w.length) {h : AH} {post : AV → AH → Prop} (hp : ∀ h', Pre h h' → post (.bool (fitB (kd, a, b) w)) h') : S 181 [.agg (encC (kd, a, b)), .str w] h post k := by
  refine S_of rfl T181 ?_; unfold fi181
  have r0 : rdRow (h ++ [AO.row [.int .i64 kd, .int .i64 a, .int .i64 b] 0 0 false]) h.length 0 2 1 = some [.int .i64 b] := by simp (maxSteps := 1000000) (disch := first | omega | rfl | (simp only [zL, two63, room] <;> omega) | fail) only [↓reduceIte, ↓zP, zW, WOp, evOp, evBin, binI, binSh, binS, evNil, keyIs, keyEq, mkv, AV.cells, AV.sc, optv, bnd, env, put, Env.get, Env.set, Env.del, Env.dels, Env.init, res1, resL, resV, fillP, splice, newRow, Nat.reduceEqDiff, Nat.reduceLT, Nat.reduceLeDiff, Nat.reduceAdd, Nat.reduceMul, Nat.reduceSub, Nat.reduceBEq, reduceCtorEq, ↓zR, zQ, Tr, StA, StT]
  have r1 : rdRow (h ++ [AO.row [.int .i64 kd, .int .i64 a, .int .i64 b] 0 0 false]) h.length 0 1 1 = some [.int .i64 a] := by simp (maxSteps := 1000000) (disch := first | omega | rfl | (simp only [zL, two63, room] <;> omega) | fail) only [↓reduceIte, ↓zP, zW, WOp, evOp, evBin, binI, binSh, binS, evNil, keyIs, keyEq, mkv, AV.cells, AV.sc, optv, bnd, env, put, Env.get, Env.set, Env.del, Env.dels, Env.init, res1, resL, resV, fillP, splice, newRow, Nat.reduceEqDiff, Nat.reduceLT, Nat.reduceLeDiff, Nat.reduceAdd, Nat.reduceMul, Nat.reduceSub, Nat.reduceBEq, reduceCtorEq, ↓zR, zQ, Tr, StA, StT]
  unfold fitB at hp
  by_cases k0 : kd = 0
  · rw [if_pos k0] at hp
    simp (maxSteps := 1000000) (disch := first | omega | rfl | (simp only [zL, two63, room] <;> omega) | fail) only [↓reduceIte, ↓zP, zW, WOp, evOp, evBin, binI, binSh, binS, evNil, keyIs, keyEq, mkv, AV.cells, AV.sc, optv, bnd, env, put, Env.get, Env.set, Env.del, Env.dels, Env.init, res1, resL, resV, fillP, splice, newRow, Nat.reduceEqDiff, Nat.reduceLT, Nat.reduceLeDiff, Nat.reduceAdd, Nat.reduceMul, Nat.reduceSub, Nat.reduceBEq, reduceCtorEq, ↓zR, zQ, Tr, StA, StT, k0]
    refine w_drw ?_
    simp (maxSteps := 1000000) (disch := first | omega | rfl | (simp only [zL, two63, room] <;> omega) | fail) only [↓reduceIte, ↓zP, zW, WOp, evOp, evBin, binI, binSh, binS, evNil, keyIs, keyEq, mkv, AV.cells, AV.sc, optv, bnd, env, put, Env.get, Env.set, Env.del, Env.dels, Env.init, res1, resL, resV, fillP, splice, newRow, Nat.reduceEqDiff, Nat.reduceLT, Nat.reduceLeDiff, Nat.reduceAdd, Nat.reduceMul, Nat.reduceSub, Nat.reduceBEq, reduceCtorEq, ↓zR, zQ, Tr, StA, StT, k0]
    refine c_pzValue 0 a w hs hw (fun _ => hc k0) ?_
    intro h2 hp2
    have q0 := rdRow_pre hp2 (k0 ▸ r0)
    simp (maxSteps := 1000000) (disch := first | omega | rfl | (simp only [zL, two63, room] <;> omega) | fail) only [↓reduceIte, ↓zP, zW, WOp, evOp, evBin, binI, binSh, binS, evNil, keyIs, keyEq, mkv, AV.cells, AV.sc, optv, bnd, env, put, Env.get, Env.set, Env.del, Env.dels, Env.init, res1, resL, resV, fillP, splice, newRow, Nat.reduceEqDiff, Nat.reduceLT, Nat.reduceLeDiff, Nat.reduceAdd, Nat.reduceMul, Nat.reduceSub, Nat.reduceBEq, reduceCtorEq, ↓zR, zQ, Tr, StA, StT, q0]
    exact hp h2 (pre_of_last hp2)
  · rw [if_neg k0] at hp
    simp (maxSteps := 1000000) (disch := first | omega | rfl | (simp only [zL, two63, room] <;> omega) | fail) only [↓reduceIte, ↓zP, zW, WOp, evOp, evBin, binI, binSh, binS, evNil, keyIs, keyEq, mkv, AV.cells, AV.sc, optv, bnd, env, put, Env.get, Env.set, Env.del, Env.dels, Env.init, res1, resL, resV, fillP, splice, newRow, Nat.reduceEqDiff, Nat.reduceLT, Nat.reduceLeDiff, Nat.reduceAdd, Nat.reduceMul, Nat.reduceSub, Nat.reduceBEq, reduceCtorEq, ↓zR, zQ, Tr, StA, StT, k0]
    refine w_drw ?_
    simp (maxSteps := 1000000) (disch := first | omega | rfl | (simp only [zL, two63, room] <;> omega) | fail) only [↓reduceIte, ↓zP, zW, WOp, evOp, evBin, binI, binSh, binS, evNil, keyIs, keyEq, mkv, AV.cells, AV.sc, optv, bnd, env, put, Env.get, Env.set, Env.del, Env.dels, Env.init, res1, resL, resV, fillP, splice, newRow, Nat.reduceEqDiff, Nat.reduceLT, Nat.reduceLeDiff, Nat.reduceAdd, Nat.reduceMul, Nat.reduceSub, Nat.reduceBEq, reduceCtorEq, ↓zR, zQ, Tr, StA, StT, k0]
    refine c_pzValue kd 0 w hs hw (fun e => absurd e k0) ?_
    intro h2 hp2
    have q1 := rdRow_pre hp2 r1
    simp (maxSteps := 1000000) (disch := first | omega | rfl | (simp only [zL, two63, room] <;> omega) | fail) only [↓reduceIte, ↓zP, zW, WOp, evOp, evBin, binI, binSh, binS, evNil, keyIs, keyEq, mkv, AV.cells, AV.sc, optv, bnd, env, put, Env.get, Env.set, Env.del, Env.dels, Env.init, res1, resL, resV, fillP, splice, newRow, Nat.reduceEqDiff, Nat.reduceLT, Nat.reduceLeDiff, Nat.reduceAdd, Nat.reduceMul, Nat.reduceSub, Nat.reduceBEq, reduceCtorEq, ↓zR, zQ, Tr, StA, StT, q1]
    exact hp h2 (pre_of_last hp2)

theorem pzI_sign {b : UInt8} (hb : isSign b = true) : pzI [46, 70, 84] b = Go.Lib.indexByte [46, 70, 84] b := by
  simp only [isSign, Bool.or_eq_true, beq_iff_eq] at hb
  rcases hb with (rfl | rfl) | rfl <;> decide
theorem pzI_out (a b : Bool) : pzI [49, 50, 70, 84] ((outcS a b).getD 0 0) = Go.Lib.indexByte [49, 50, 70, 84] ((outcS a b).getD 0 0) := by cases a <;> cases b <;> decide
theorem fit_eq {n : Int} {kd a b cell : Int} {w : List UInt8} (hs : w.all isSign = true) (hn : n = w.length) (hc : clueOk n (kd, a, b) = true) (hcell : kd = 0 → cell = a) : seqL [0, 0, 0] (encC (clueB kd cell w)) (encC (kd, a, b)) = some (fitB (kd, a, b) w) := by
  have key : ∀ x y z : Int, seqL [0, 0, 0] (encC (x, y, z)) (encC (kd, a, b)) = some ((x == kd) && ((y == a) && (z == b))) := by
    intro x y z
    simp [seqL, keyIs, keyEq]
  unfold fitB clueB valB
  by_cases k0 : kd = 0
  · subst k0
    have := hcell rfl
    subst this
    simp only [if_true]
    simp only [clueOk, if_true, Bool.and_eq_true, decide_eq_true_eq] at hc
    rw [key, pzI_sign (sign_at hs (by omega))]
    simp
  have hb : b = 0 := by
    simp only [clueOk, if_neg k0, Bool.and_eq_true, decide_eq_true_eq] at hc
    exact hc.1
  subst hb
  simp only [if_neg k0]
  by_cases k1 : kd = 1
  · subst k1; rw [if_pos rfl, if_pos rfl, key]; simp
  rw [if_neg k1, if_neg k1]
  by_cases k2 : kd = 2
  · subst k2; rw [if_pos rfl, if_pos rfl, key]; simp
  rw [if_neg k2, if_neg k2]
  by_cases k3 : kd = 3
  · subst k3; rw [if_pos rfl, if_pos rfl, key]; simp
  rw [if_neg k3, if_neg k3]
  by_cases k4 : kd = 4
  · subst k4; rw [if_pos rfl, if_pos rfl, key]; simp
  rw [if_neg k4, if_neg k4]
  have k5 : kd = 5 := by
    simp [clueOk, k0, k1, k2, k3, k4] at hc
    exact hc.1
  subst k5
  rw [key, pzI_out]
  simp
theorem c_fits (kd a b : Int) (w : List UInt8) (hs : w.all isSign = true) (hw : w.length < 1073741824) (hc : clueOk w.length (kd, a, b) = true) {h : AH} {post : AV → AH → Prop} (hp : ∀ h', Pre h h' → post (.bool (fitB (kd, a, b) w)) h') : S 186 [.agg (encC (kd, a, b)), .str w] h post k := by
  have hcell : kd = 0 → 0 ≤ a ∧ a < w.length := by
    rintro rfl
    simp only [clueOk, if_true, Bool.and_eq_true, decide_eq_true_eq] at hc
    omega
  refine S_of rfl T186 ?_; unfold fi186
  have r0 : rdRow (h ++ [AO.row [.int .i64 kd, .int .i64 a, .int .i64 b] 0 0 false]) h.length 0 0 3 = some [.int .i64 kd, .int .i64 a, .int .i64 b] := by simp (maxSteps := 1000000) (disch := first | omega | rfl | (simp only [zL, two63, room] <;> omega) | fail) only [↓reduceIte, ↓zP, zW, WOp, evOp, evBin, binI, binSh, binS, evNil, keyIs, keyEq, mkv, AV.cells, AV.sc, optv, bnd, env, put, Env.get, Env.set, Env.del, Env.dels, Env.init, res1, resL, resV, fillP, splice, newRow, Nat.reduceEqDiff, Nat.reduceLT, Nat.reduceLeDiff, Nat.reduceAdd, Nat.reduceMul, Nat.reduceSub, Nat.reduceBEq, reduceCtorEq, ↓zR, zQ, Tr, StA, StT]
  simp (maxSteps := 1000000) (disch := first | omega | rfl | (simp only [zL, two63, room] <;> omega) | fail) only [↓reduceIte, ↓zP, zW, WOp, evOp, evBin, binI, binSh, binS, evNil, keyIs, keyEq, mkv, AV.cells, AV.sc, optv, bnd, env, put, Env.get, Env.set, Env.del, Env.dels, Env.init, res1, resL, resV, fillP, splice, newRow, Nat.reduceEqDiff, Nat.reduceLT, Nat.reduceLeDiff, Nat.reduceAdd, Nat.reduceMul, Nat.reduceSub, Nat.reduceBEq, reduceCtorEq, ↓zR, zQ, Tr, StA, StT]
  refine w_drw ?_
  simp (maxSteps := 1000000) (disch := first | omega | rfl | (simp only [zL, two63, room] <;> omega) | fail) only [↓reduceIte, ↓zP, zW, WOp, evOp, evBin, binI, binSh, binS, evNil, keyIs, keyEq, mkv, AV.cells, AV.sc, optv, bnd, env, put, Env.get, Env.set, Env.del, Env.dels, Env.init, res1, resL, resV, fillP, splice, newRow, Nat.reduceEqDiff, Nat.reduceLT, Nat.reduceLeDiff, Nat.reduceAdd, Nat.reduceMul, Nat.reduceSub, Nat.reduceBEq, reduceCtorEq, ↓zR, zQ, Tr, StA, StT]
  refine c_clueOf kd a w hw hcell ?_
  intro h2 hp2
  have q0 := rdRow_pre hp2 r0
  have hf := fit_eq (cell := a) hs rfl hc (fun _ => rfl)
  unfold encC at hf
  simp (maxSteps := 1000000) (disch := first | omega | rfl | (simp only [zL, two63, room] <;> omega) | fail) only [↓reduceIte, ↓zP, zW, WOp, evOp, evBin, binI, binSh, binS, evNil, keyIs, keyEq, mkv, AV.cells, AV.sc, optv, bnd, env, put, Env.get, Env.set, Env.del, Env.dels, Env.init, res1, resL, resV, fillP, splice, newRow, Nat.reduceEqDiff, Nat.reduceLT, Nat.reduceLeDiff, Nat.reduceAdd, Nat.reduceMul, Nat.reduceSub, Nat.reduceBEq, reduceCtorEq, ↓zR, zQ, Tr, StA, StT, q0, hf]
  exact hp h2 (pre_of_last hp2)
theorem c_DoesFit (kd a b : Int) (w : List UInt8) (hs : w.all isSign = true) (hl : 1 ≤ w.length ∧ w.length ≤ 5) (hc : clueOk w.length (kd, a, b) = true) {h : AH} {post : AV → AH → Prop} (hp : ∀ h', Pre h h' → post (.tup [.bool (fitB (kd, a, b) w), .bool true]) h') : S 185 [.agg (encC (kd, a, b)), .str w] h post k := by
  refine S_of rfl T185 ?_; unfold fi185
  have r0 : rdRow (h ++ [AO.row [.int .i64 kd, .int .i64 a, .int .i64 b] 0 0 false]) h.length 0 0 3 = some [.int .i64 kd, .int .i64 a, .int .i64 b] := by simp (maxSteps := 1000000) (disch := first | omega | rfl | (simp only [zL, two63, room] <;> omega) | fail) only [↓reduceIte, ↓zP, zW, WOp, evOp, evBin, binI, binSh, binS, evNil, keyIs, keyEq, mkv, AV.cells, AV.sc, optv, bnd, env, put, Env.get, Env.set, Env.del, Env.dels, Env.init, res1, resL, resV, fillP, splice, newRow, Nat.reduceEqDiff, Nat.reduceLT, Nat.reduceLeDiff, Nat.reduceAdd, Nat.reduceMul, Nat.reduceSub, Nat.reduceBEq, reduceCtorEq, ↓zR, zQ, Tr, StA, StT]
  have r1 : rdRow (h ++ [AO.row [.int .i64 kd, .int .i64 a, .int .i64 b] 0 0 false]) h.length 0 0 1 = some [.int .i64 kd] := by simp (maxSteps := 1000000) (disch := first | omega | rfl | (simp only [zL, two63, room] <;> omega) | fail) only [↓reduceIte, ↓zP, zW, WOp, evOp, evBin, binI, binSh, binS, evNil, keyIs, keyEq, mkv, AV.cells, AV.sc, optv, bnd, env, put, Env.get, Env.set, Env.del, Env.dels, Env.init, res1, resL, resV, fillP, splice, newRow, Nat.reduceEqDiff, Nat.reduceLT, Nat.reduceLeDiff, Nat.reduceAdd, Nat.reduceMul, Nat.reduceSub, Nat.reduceBEq, reduceCtorEq, ↓zR, zQ, Tr, StA, StT]
  simp (maxSteps := 1000000) (disch := first | omega | rfl | (simp only [zL, two63, room] <;> omega) | fail) only [↓reduceIte, ↓zP, zW, WOp, evOp, evBin, binI, binSh, binS, evNil, keyIs, keyEq, mkv, AV.cells, AV.sc, optv, bnd, env, put, Env.get, Env.set, Env.del, Env.dels, Env.init, res1, resL, resV, fillP, splice, newRow, Nat.reduceEqDiff, Nat.reduceLT, Nat.reduceLeDiff, Nat.reduceAdd, Nat.reduceMul, Nat.reduceSub, Nat.reduceBEq, reduceCtorEq, ↓zR, zQ, Tr, StA, StT]
  refine c_isLineOf w 5 (by omega) (by omega) ?_
  have hl2 : (1 : Int) ≤ w.length ∧ (w.length : Int) ≤ 5 := by omega
  simp (maxSteps := 1000000) (disch := first | omega | rfl | (simp only [zL, two63, room] <;> omega) | fail) only [↓reduceIte, ↓zP, zW, WOp, evOp, evBin, binI, binSh, binS, evNil, keyIs, keyEq, mkv, AV.cells, AV.sc, optv, bnd, env, put, Env.get, Env.set, Env.del, Env.dels, Env.init, res1, resL, resV, fillP, splice, newRow, Nat.reduceEqDiff, Nat.reduceLT, Nat.reduceLeDiff, Nat.reduceAdd, Nat.reduceMul, Nat.reduceSub, Nat.reduceBEq, reduceCtorEq, ↓zR, zQ, Tr, StA, StT, hl2, hs]
  refine c_IsClue w.length kd a b (by omega) ?_
  intro h2 hp2
  have q0 := rdRow_pre hp2 r0
  have q1 := rdRow_pre hp2 r1
  by_cases k0 : kd = 0
  · subst k0
    simp (maxSteps := 1000000) (disch := first | omega | rfl | (simp only [zL, two63, room] <;> omega) | fail) only [↓reduceIte, ↓zP, zW, WOp, evOp, evBin, binI, binSh, binS, evNil, keyIs, keyEq, mkv, AV.cells, AV.sc, optv, bnd, env, put, Env.get, Env.set, Env.del, Env.dels, Env.init, res1, resL, resV, fillP, splice, newRow, Nat.reduceEqDiff, Nat.reduceLT, Nat.reduceLeDiff, Nat.reduceAdd, Nat.reduceMul, Nat.reduceSub, Nat.reduceBEq, reduceCtorEq, ↓zR, zQ, Tr, StA, StT, hl2, hc, q0, q1]
    refine c_fits 0 a b w hs (by omega) hc ?_
    intro h3 hp3
    simp (maxSteps := 1000000) (disch := first | omega | rfl | (simp only [zL, two63, room] <;> omega) | fail) only [↓reduceIte, ↓zP, zW, WOp, evOp, evBin, binI, binSh, binS, evNil, keyIs, keyEq, mkv, AV.cells, AV.sc, optv, bnd, env, put, Env.get, Env.set, Env.del, Env.dels, Env.init, res1, resL, resV, fillP, splice, newRow, Nat.reduceEqDiff, Nat.reduceLT, Nat.reduceLeDiff, Nat.reduceAdd, Nat.reduceMul, Nat.reduceSub, Nat.reduceBEq, reduceCtorEq, ↓zR, zQ, Tr, StA, StT]
    exact hp h3 ((pre_of_last hp2).trans hp3)
  · simp (maxSteps := 1000000) (disch := first | omega | rfl | (simp only [zL, two63, room] <;> omega) | fail) only [↓reduceIte, ↓zP, zW, WOp, evOp, evBin, binI, binSh, binS, evNil, keyIs, keyEq, mkv, AV.cells, AV.sc, optv, bnd, env, put, Env.get, Env.set, Env.del, Env.dels, Env.init, res1, resL, resV, fillP, splice, newRow, Nat.reduceEqDiff, Nat.reduceLT, Nat.reduceLeDiff, Nat.reduceAdd, Nat.reduceMul, Nat.reduceSub, Nat.reduceBEq, reduceCtorEq, ↓zR, zQ, Tr, StA, StT, hl2, hc, q0, q1, k0]
    refine w_drw ?_
    simp (maxSteps := 1000000) (disch := first | omega | rfl | (simp only [zL, two63, room] <;> omega) | fail) only [↓reduceIte, ↓zP, zW, WOp, evOp, evBin, binI, binSh, binS, evNil, keyIs, keyEq, mkv, AV.cells, AV.sc, optv, bnd, env, put, Env.get, Env.set, Env.del, Env.dels, Env.init, res1, resL, resV, fillP, splice, newRow, Nat.reduceEqDiff, Nat.reduceLT, Nat.reduceLeDiff, Nat.reduceAdd, Nat.reduceMul, Nat.reduceSub, Nat.reduceBEq, reduceCtorEq, ↓zR, zQ, Tr, StA, StT, q0, q1]
    refine c_clueOf kd 0 w (by omega) (fun e => absurd e k0) ?_
    intro h3 hp3
    have s0 := rdRow_pre hp3 q0
    have hf := fit_eq (cell := 0) hs rfl hc (fun e => absurd e k0)
    unfold encC at hf
    simp (maxSteps := 1000000) (disch := first | omega | rfl | (simp only [zL, two63, room] <;> omega) | fail) only [↓reduceIte, ↓zP, zW, WOp, evOp, evBin, binI, binSh, binS, evNil, keyIs, keyEq, mkv, AV.cells, AV.sc, optv, bnd, env, put, Env.get, Env.set, Env.del, Env.dels, Env.init, res1, resL, resV, fillP, splice, newRow, Nat.reduceEqDiff, Nat.reduceLT, Nat.reduceLeDiff, Nat.reduceAdd, Nat.reduceMul, Nat.reduceSub, Nat.reduceBEq, reduceCtorEq, ↓zR, zQ, Tr, StA, StT, q0, s0, hf]
    exact hp h3 ((pre_of_last hp2).trans hp3)
end Go.Proofs.YtnkkgghpfgihfabDoor.Ab

/- PLAIN: all lines of so many cells, in order. -/
namespace Go.Proofs.YtnkkgghpfgihfabDoor.Ab

def ext3 (w : List UInt8) : List (List UInt8) := [w ++ [46], w ++ [70], w ++ [84]]
def allL : Nat → List (List UInt8)
  | 0 => [[]]
  | n + 1 => (allL n).flatMap ext3
/-- All that go on so many cells. -/
def goOn : Nat → List UInt8 → List (List UInt8)
  | 0, w => [w]
  | n + 1, w => goOn n (w ++ [46]) ++ goOn n (w ++ [70]) ++ goOn n (w ++ [84])
theorem goOn_succ : ∀ (n : Nat) (w : List UInt8), goOn (n + 1) w = (goOn n w).flatMap ext3
  | 0, w => by simp [goOn, ext3]
  | n + 1, w => by
    rw [goOn, goOn_succ n, goOn_succ n, goOn_succ n]
    conv => rhs; rw [goOn]
    simp only [List.flatMap_append]
theorem goOn_all : ∀ n : Nat, goOn n [] = allL n
  | 0 => rfl
  | n + 1 => by rw [goOn_succ, goOn_all n]; rfl
theorem allL_good : ∀ (n : Nat) (w : List UInt8), w ∈ allL n → w.length = n ∧ w.all isSign = true
  | 0, w, h => by simp [allL] at h; subst h; exact ⟨rfl, rfl⟩
  | n + 1, w, h => by
    simp only [allL, List.mem_flatMap] at h
    obtain ⟨v, hv, h⟩ := h
    obtain ⟨h1, h2⟩ := allL_good n v hv
    simp only [ext3, List.mem_cons, List.not_mem_nil, or_false] at h
    rcases h with rfl | rfl | rfl <;> simp [h1, h2, isSign, List.all_append]
theorem allL_length : ∀ n : Nat, (allL n).length = 3 ^ n
  | 0 => rfl
  | n + 1 => by
    have key : ∀ l : List (List UInt8), (l.flatMap ext3).length = l.length * 3 := by
      intro l
      induction l with
      | nil => rfl
      | cons a l ih => rw [List.flatMap_cons, List.length_append, ih]; simp [ext3]; omega
    rw [allL, key, allL_length n, Nat.pow_succ]
end Go.Proofs.YtnkkgghpfgihfabDoor.Ab

/- A CELL that holds a slice of one's own, to which is appended through a pointer. -/
namespace Go.Proofs.YtnkkgghpfgihfabDoor.Ab
open Go
set_option maxRecDepth 100000
set_option maxHeartbeats 4000000

/-- Rows that belong to a cell: its own, and those of the slices that it holds. -/
def grc (c : Nat) (h : AH) (i : Nat) : Prop := i = c ∨ ∃ cs ver fl ro, h[c]? = some (.row cs ver fl ro) ∧ ∃ v ∈ cs, rowOf v = some i
def FrC (c : Nat) (h h' : AH) : Prop := h.length ≤ h'.length ∧ ∀ i, i < h.length → ¬ grc c h i → h'[i]? = h[i]? ∧ ¬ grc c h' i
theorem FrC.refl (c : Nat) (h : AH) : FrC c h h := ⟨Nat.le_refl _, fun _ _ hg => ⟨rfl, hg⟩⟩
theorem FrC.trans {c : Nat} {x y z : AH} (p : FrC c x y) (q : FrC c y z) : FrC c x z := ⟨Nat.le_trans p.1 q.1, fun i hi hg => by
  obtain ⟨h1, h2⟩ := p.2 i hi hg
  obtain ⟨h3, h4⟩ := q.2 i (Nat.lt_of_lt_of_le hi p.1) h2
  exact ⟨by rw [h3, h1], h4⟩⟩
theorem grc_pre {c : Nat} {h h' : AH} (hp : Pre h h') (hc : c < h.length) (i : Nat) : grc c h' i ↔ grc c h i := by
  unfold grc; rw [hp.2 c hc]
theorem Pre.frc {c : Nat} {h h' : AH} (hp : Pre h h') (hc : c < h.length) : FrC c h h' := ⟨hp.1, fun i hi hg => ⟨hp.2 i hi, by rw [grc_pre hp hc]; exact hg⟩⟩
theorem rd_frc {c : Nat} {h h' : AH} (hf : FrC c h h') {r k o n : Nat} {cs : List AV} (hg : ¬ grc c h r) (hr : rdRow h r k o n = some cs) : rdRow h' r k o n = some cs := by
  have := rd_lt hr
  unfold rdRow at hr ⊢
  rw [(hf.2 r this hg).1]; exact hr
/-- A slice that is read, and does not belong to the cell. -/
def SlcC {α : Type} (esz : Nat) (enc : α → List AV) (c : Nat) (h : AH) (v : AV) (L : List α) : Prop := Slc esz enc h v L ∧ ∀ r, rowOf v = some r → ¬ grc c h r
theorem SlcC.fr {α : Type} {esz : Nat} {enc : α → List AV} {c : Nat} {h h' : AH} {v : AV} {L : List α} (hs : SlcC esz enc c h v L) (hf : FrC c h h') : SlcC esz enc c h' v L := by
  obtain ⟨h1, h2⟩ := hs
  unfold SlcC Slc Sl at *
  cases v <;> simp only [rowOf] at * <;> first
    | (exact ⟨h1, fun r hr => by cases hr⟩)
    | (obtain ⟨k1, k2, k3, k4⟩ := h1
       exact ⟨⟨k1, k2, k3, rd_frc hf (h2 _ rfl) k4⟩, fun r hr => by cases hr; exact (hf.2 _ (rd_lt k4) (h2 _ rfl)).2⟩)
section
variable {α : Type} {esz : Nat} {enc : α → List AV}
/-- The cell r holds a slice of one's own. -/
def OutP (esz : Nat) (enc : α → List AV) (r : Nat) (b h : AH) (l : List α) : Prop := ∃ vo, h[r]? = some (.row [vo] 0 0 false) ∧ OwL esz enc b h vo l ∧ rowOf vo ≠ some r
theorem OutP.lt {r : Nat} {b h : AH} {l : List α} (ho : OutP esz enc r b h l) : r < h.length := by
  obtain ⟨vo, h1, _⟩ := ho
  exact (List.getElem?_eq_some_iff.1 h1).1
theorem OutP.pre {r : Nat} {b h h' : AH} {l : List α} (ho : OutP esz enc r b h l) (hp : Pre h h') : OutP esz enc r b h' l := by
  have := ho.lt
  obtain ⟨vo, h1, h2, h3⟩ := ho
  exact ⟨vo, by rw [hp.2 r this]; exact h1, h2.pre hp, h3⟩
theorem OutP.grc_lt {r : Nat} {b h : AH} {l : List α} (ho : OutP esz enc r b h l) {i : Nat} (hg : grc r h i) : i < h.length := by
  have hlt := ho.lt
  obtain ⟨vo, h1, h2, h3⟩ := ho
  rcases hg with rfl | ⟨cs, ver, fl, ro, h4, v, hv, h5⟩
  · exact hlt
  · rw [h1] at h4
    simp only [Option.some.injEq, AO.row.injEq] at h4
    obtain ⟨rfl, _⟩ := h4
    simp at hv
    subst hv
    exact own_lt h2 h5
theorem OutP.fresh {r : Nat} {b h h' : AH} {l : List α} (ho : OutP esz enc r b h l) (hp : Pre h h') {i : Nat} (hi : h.length ≤ i) : ¬ grc r h' i := by
  rw [grc_pre hp ho.lt]
  intro hg
  have := ho.grc_lt hg
  omega
theorem OutP.rd {r : Nat} {b h : AH} {l : List α} (ho : OutP esz enc r b h l) : ∃ vo, rdRow h r 0 0 1 = some [vo] ∧ OwL esz enc b h vo l := by
  obtain ⟨vo, h1, h2, _⟩ := ho
  exact ⟨vo, by simp [rdRow, h1], h2⟩
theorem OutP.push (hl : ∀ x, (enc x).length = esz) (hsc : ∀ x, (enc x).all AV.sc = true) {r : Nat} {b h : AH} {l : List α} (ho : OutP esz enc r b h l) (hb : b.length ≤ h.length) (x : α) (hr : l.length + 1 ≤ 1099511627776) :
    ∃ vo v' h3, rdRow h r 0 0 1 = some [vo] ∧ rdRow (h ++ [AO.row (enc x) 0 0 false]) h.length 0 0 esz = some (enc x) ∧ apRow (h ++ [AO.row (enc x) 0 0 false]) esz vo 1 (enc x) = some (v', h3) ∧ v'.cells = [v'] ∧ v'.sc = true ∧
      wrRow h3 r 0 0 [v'] = some (h3.set r (.row [v'] 0 0 false)) ∧ OutP esz enc r b (h3.set r (.row [v'] 0 0 false)) (l ++ [x]) ∧ FrC r h (h3.set r (.row [v'] 0 0 false)) := by
  have hlt := ho.lt
  obtain ⟨vo, h1, h2, h3⟩ := ho
  have hpush := Pre.push h (AO.row (enc x) 0 0 false)
  obtain ⟨v', g, ha, ho', hag⟩ := apA hl hsc (h2.pre hpush) (by simp; omega) x hr
  obtain ⟨f1, f2, f3⟩ := apRow_fr ha
  have hll : (h ++ [AO.row (enc x) 0 0 false]).length = h.length + 1 := by simp
  have hrg : g[r]? = some (.row [vo] 0 0 false) := by rw [f1 r (by omega) h3, hpush.2 r hlt, h1]
  have hlg : r < g.length := by omega
  have n1 : rowOf v' ≠ some r := fun e => by
    rcases f3 r e with h4 | h4
    · exact h3 h4
    · omega
  have hrx : rdRow (h ++ [AO.row (enc x) 0 0 false]) h.length 0 0 esz = some (enc x) := by
    rw [rd_last, if_pos (by rw [hl]; omega), List.drop_zero, List.take_of_length_le (by rw [hl]; exact Nat.le_refl _)]
  refine ⟨vo, v', g, by simp [rdRow, h1], hrx, ha, ho'.cells, ho'.sc1, ?_, ?_, ?_⟩
  · simp [wrRow, hrg, splice, ho'.sc1]
  · refine ⟨v', by rw [List.getElem?_set, if_pos rfl, if_pos hlg], own_row ho' fun i hi => ?_, n1⟩
    rw [List.getElem?_set, if_neg (by rintro rfl; exact n1 hi)]
  · refine ⟨by simp; omega, fun i hi hg => ?_⟩
    have g1 : i ≠ r := fun e => hg (.inl e)
    have g2 : rowOf vo ≠ some i := fun e => hg (.inr ⟨_, _, _, _, h1, vo, by simp, e⟩)
    refine ⟨by rw [List.getElem?_set, if_neg (Ne.symm g1), f1 i (by omega) g2, hpush.2 i hi], ?_⟩
    rintro (e | ⟨cs, ver, fl, ro, e1, v, hv, e2⟩)
    · exact g1 e
    · rw [List.getElem?_set, if_pos rfl, if_pos hlg] at e1
      simp only [Option.some.injEq, AO.row.injEq] at e1
      obtain ⟨rfl, _⟩ := e1
      simp at hv
      subst hv
      rcases f3 i e2 with h4 | h4
      · exact g2 h4
      · omega
theorem OwL.slcC {esz' : Nat} {β : Type} {enc' : β → List AV} {r : Nat} {b h h' : AH} {l : List α} {v : AV} {L : List β} (ho : OwL esz' enc' h h' v L) (hk : OutP esz enc r b h l) (hp : Pre h h') : SlcC esz' enc' r h' v L :=
  ⟨ho.slc, fun _ hr => hk.fresh hp (own_ge ho hr)⟩
end
end Go.Proofs.YtnkkgghpfgihfabDoor.Ab

/- PUZZLES: all lines, and those that fit. -/
namespace Go.Proofs.YtnkkgghpfgihfabDoor.Ab
open Go
set_option maxRecDepth 100000
set_option maxHeartbeats 4000000

theorem dec3 (i : Nat) (h : i < 3) : dec [46, 70, 84] i = (((([46, 70, 84] : List UInt8).getD i 0).toNat : Int), 1) := dec_low h (by
  have : ∀ i, i < 3 → (([46, 70, 84] : List UInt8).getD i 0).toNat < 128 := by decide
  exact this i h)
theorem enc3 : ∀ b : UInt8, b = 46 ∨ b = 70 ∨ b = 84 → (Utf8.encode (b.toNat : Int)).data.toList = [b] := by
  rintro b (rfl | rfl | rfl) <;> decide +kernel
theorem own_ne_iter {esz : Nat} {b h : AH} {v : AV} {n : Nat} {cs : List AV} (ho : Own esz b h v n cs) {c : Nat} {s : List UInt8} {p : Nat} (hc : h[c]? = some (.iter s p)) : rowOf v ≠ some c := by
  unfold Own at ho
  intro hr
  cases v <;> simp only [rowOf] at ho hr <;> first
    | (cases hr; done)
    | (cases hr
       obtain ⟨_, _, _, _, cells, fl, h5, _⟩ := ho
       rw [hc] at h5; cases h5)
theorem lp_hidden2 (w : List UInt8) (hw : w.length < 2 ^ 20) (b : AH) (c : Nat) (hcb : b.length ≤ c) (n10 i11 v14 n15 i16 : AV) {R : X → Env → AH → Prop} : ∀ (d i : Nat) (o : AV) (l : List (List UInt8)) (h : AH), i + d = 3 → OwL 1 encS b h o l → h[c]? = some (.iter [46, 70, 84] i) → l.length + d ≤ 2 ^ 33 →
    (∀ o' h', OwL 1 encS b h' o' (l ++ (([46, 70, 84] : List UInt8).drop i).map fun x => w ++ [x]) → Ag b.length h h' → R (.exit 4) [(4, o'), (10, n10), (11, i11), (14, v14), (15, n15), (16, i16)] h') →
    Cx (.loop lp178_2) [(4, o), (6, .str w), (10, n10), (11, i11), (14, v14), (15, n15), (16, i16), (20, .iter c)] h R k k
  | 0, i, o, l, h, hd, ho, hc, hl, hR => by
    obtain rfl : i = 3 := by omega
    rw [w_loopb (c := lp178_2) (d := lb178_2) rfl]; unfold lb178_2
    simp (maxSteps := 1000000) (disch := first | omega | rfl | (simp only [zL, two63, room] <;> omega) | fail) only [↓reduceIte, ↓zP, zW, WOp, evOp, evBin, binI, binSh, binS, evNil, keyIs, keyEq, mkv, AV.cells, AV.sc, optv, bnd, env, put, Env.get, Env.set, Env.del, Env.dels, Env.init, res1, resL, resV, fillP, splice, newRow, Nat.reduceEqDiff, Nat.reduceLT, Nat.reduceLeDiff, Nat.reduceAdd, Nat.reduceMul, Nat.reduceSub, Nat.reduceBEq, reduceCtorEq, ↓zR, zQ, Tr, StA, StT, hc]
    exact hR o h (by simpa using ho) (Ag.refl _ _)
  | d + 1, i, o, l, h, hd, ho, hc, hl, hR => by
    have ih := lp_hidden2 w hw b c hcb n10 i11 v14 n15 i16 (R := R) d (i + 1)
    have hi : i < 3 := by omega
    have hdec := dec3 i hi
    have hd1 : (dec [46, 70, 84] i).1 = (((([46, 70, 84] : List UInt8).getD i 0).toNat : Int)) := by rw [hdec]
    have hd2 : (dec [46, 70, 84] i).2 = 1 := by rw [hdec]
    have hx : ([46, 70, 84] : List UInt8).getD i 0 = 46 ∨ ([46, 70, 84] : List UInt8).getD i 0 = 70 ∨ ([46, 70, 84] : List UInt8).getD i 0 = 84 := by
      have : ∀ i, i < 3 → ([46, 70, 84] : List UInt8).getD i 0 = 46 ∨ ([46, 70, 84] : List UInt8).getD i 0 = 70 ∨ ([46, 70, 84] : List UInt8).getD i 0 = 84 := by decide
      exact this i hi
    have hdrop : ([46, 70, 84] : List UInt8).drop i = ([46, 70, 84] : List UInt8).getD i 0 :: ([46, 70, 84] : List UInt8).drop (i + 1) := by
      have : ∀ i, i < 3 → ([46, 70, 84] : List UInt8).drop i = ([46, 70, 84] : List UInt8).getD i 0 :: ([46, 70, 84] : List UInt8).drop (i + 1) := by decide
      exact this i hi
    rw [hdrop] at hR
    generalize ([46, 70, 84] : List UInt8).getD i 0 = x at *
    have henc := enc3 x hx
    have hlt : i < ([46, 70, 84] : List UInt8).length := hi
    have hcl := (List.getElem?_eq_some_iff.1 hc).1
    obtain ⟨o2, h3, ha, ho3, hag⟩ := apA hlS scS ((show OwL 1 encS b (h.set c (.iter [46, 70, 84] (i + 1))) o l from own_iter ho hc).pre (Pre.push (h.set c (.iter [46, 70, 84] (i + 1))) (AO.row [.str (w ++ [x])] 0 0 false))) (by simp; omega) (w ++ [x]) (by omega)
    rw [w_loopb (c := lp178_2) (d := lb178_2) rfl]; unfold lb178_2
    simp (maxSteps := 1000000) (disch := first | omega | rfl | (simp only [zL, two63, room] <;> omega) | fail) only [↓reduceIte, ↓zP, zW, WOp, evOp, evBin, binI, binSh, binS, evNil, keyIs, keyEq, mkv, AV.cells, AV.sc, optv, bnd, env, put, Env.get, Env.set, Env.del, Env.dels, Env.init, res1, resL, resV, fillP, splice, newRow, Nat.reduceEqDiff, Nat.reduceLT, Nat.reduceLeDiff, Nat.reduceAdd, Nat.reduceMul, Nat.reduceSub, Nat.reduceBEq, reduceCtorEq, ↓zR, zQ, Tr, StA, StT, hc, hi, hd1, hd2, henc, ha]
    rw [w_loopn (c := lp178_2) rfl]
    simp (maxSteps := 1000000) (disch := first | omega | rfl | (simp only [zL, two63, room] <;> omega) | fail) only [↓reduceIte, ↓zP, zW, WOp, evOp, evBin, binI, binSh, binS, evNil, keyIs, keyEq, mkv, AV.cells, AV.sc, optv, bnd, env, put, Env.get, Env.set, Env.del, Env.dels, Env.init, res1, resL, resV, fillP, splice, newRow, Nat.reduceEqDiff, Nat.reduceLT, Nat.reduceLeDiff, Nat.reduceAdd, Nat.reduceMul, Nat.reduceSub, Nat.reduceBEq, reduceCtorEq, ↓zR, zQ, Tr, StA, StT]
    have hpush := Pre.push (h.set c (.iter [46, 70, 84] (i + 1))) (AO.row [.str (w ++ [x])] 0 0 false)
    have hag2 : Ag b.length h h3 := ((Ag.refl b.length h).set hcb).trans ((hpush.ag (by simp; omega)).trans hag)
    refine ih o2 (l ++ [w ++ [x]]) h3 (by omega) ho3 ?_ (by simp; omega) ?_
    · have ho2 : OwL 1 encS b (h.set c (.iter [46, 70, 84] (i + 1))) o l := own_iter ho hc
      have hc2 : (h.set c (.iter [46, 70, 84] (i + 1)))[c]? = some (.iter [46, 70, 84] (i + 1)) := by rw [List.getElem?_set, if_pos rfl, if_pos hcl]
      rw [(apRow_fr ha).1 c (by simp; omega) (own_ne_iter ho2 hc2), hpush.2 c (by simpa using hcl), hc2]
    · intro o' h' ho' ha'
      exact hR o' h' (by simpa using ho') (hag2.trans ha')

theorem lp_hidden1 (b : AH) (n10 i11 : AV) {v : AV} {L : List (List UInt8)} (hL : L.length < 2 ^ 30) (hw : ∀ w ∈ L, w.length < 2 ^ 20) (hs : Slc 1 encS b v L) {R : X → Env → AH → Prop} : ∀ (rest pre : List (List UInt8)) (o : AV) (l : List (List UInt8)) (h : AH), L = pre ++ rest → OwL 1 encS b h o l → Ag b.length b h → l.length = 3 * pre.length →
    (∀ o' h', OwL 1 encS b h' o' (l ++ rest.flatMap ext3) → Ag b.length b h' → R (.exit 2) [(4, o'), (10, n10), (11, i11)] h') →
    Cx (.loop lp178_1) [(4, o), (10, n10), (11, i11), (14, v), (15, .int .i64 L.length), (16, .int .i64 pre.length)] h R k k
  | [], pre, o, l, h, hpre, ho, hag, hl, hR => by
    subst hpre
    rw [w_loopb (c := lp178_1) (d := lb178_1) rfl]; unfold lb178_1
    simp only [List.append_nil]
    simp (maxSteps := 1000000) (disch := first | omega | rfl | (simp only [zL, two63, room] <;> omega) | fail) only [↓reduceIte, ↓zP, zW, WOp, evOp, evBin, binI, binSh, binS, evNil, keyIs, keyEq, mkv, AV.cells, AV.sc, optv, bnd, env, put, Env.get, Env.set, Env.del, Env.dels, Env.init, res1, resL, resV, fillP, splice, newRow, Nat.reduceEqDiff, Nat.reduceLT, Nat.reduceLeDiff, Nat.reduceAdd, Nat.reduceMul, Nat.reduceSub, Nat.reduceBEq, reduceCtorEq, ↓zR, zQ, Tr, StA, StT]
    exact hR o h (by simpa using ho) hag
  | w :: rest, pre, o, l, h, hpre, ho, hag, hl, hR => by
    have ih := lp_hidden1 b n10 i11 hL hw hs (R := R) rest (pre ++ [w])
    have hlen : L.length = pre.length + 1 + rest.length := by rw [hpre]; simp; omega
    have hww := hw w (by rw [hpre]; simp)
    have hs' := hs.pre (hag.pre (Nat.le_refl _))
    rw [hpre] at hs'
    obtain ⟨c, kk, off, hv, hr⟩ := hs'.at hlS
    rw [← hpre, hlen] at hv
    subst hv
    rw [hlen] at ih hL ⊢
    have hlt : (pre.length : Int) < ((pre.length + 1 + rest.length : Nat) : Int) := by omega
    have hw1 : (pre.length : Int) + 1 = ((pre ++ [w]).length : Int) := by simp
    rw [w_loopb (c := lp178_1) (d := lb178_1) rfl]; unfold lb178_1
    simp (maxSteps := 1000000) (disch := first | omega | rfl | (simp only [zL, two63, room] <;> omega) | fail) only [↓reduceIte, ↓zP, zW, WOp, evOp, evBin, binI, binSh, binS, evNil, keyIs, keyEq, mkv, AV.cells, AV.sc, optv, bnd, env, put, Env.get, Env.set, Env.del, Env.dels, Env.init, res1, resL, resV, fillP, splice, newRow, Nat.reduceEqDiff, Nat.reduceLT, Nat.reduceLeDiff, Nat.reduceAdd, Nat.reduceMul, Nat.reduceSub, Nat.reduceBEq, reduceCtorEq, ↓zR, zQ, Tr, StA, StT, hlt, hr]
    refine lp_hidden2 w hww b h.length hag.1 _ _ _ _ _ 3 0 o l _ (by omega) (ho.pre (Pre.push _ _)) (by simp) (by omega) ?_
    intro o2 h2 ho2 hag2
    simp (maxSteps := 1000000) (disch := first | omega | rfl | (simp only [zL, two63, room] <;> omega) | fail) only [↓reduceIte, ↓zP, zW, WOp, evOp, evBin, binI, binSh, binS, evNil, keyIs, keyEq, mkv, AV.cells, AV.sc, optv, bnd, env, put, Env.get, Env.set, Env.del, Env.dels, Env.init, res1, resL, resV, fillP, splice, newRow, Nat.reduceEqDiff, Nat.reduceLT, Nat.reduceLeDiff, Nat.reduceAdd, Nat.reduceMul, Nat.reduceSub, Nat.reduceBEq, reduceCtorEq, ↓zR, zQ, Tr, StA, StT, hw1]
    rw [w_loopn (c := lp178_1) rfl]
    simp (maxSteps := 1000000) (disch := first | omega | rfl | (simp only [zL, two63, room] <;> omega) | fail) only [↓reduceIte, ↓zP, zW, WOp, evOp, evBin, binI, binSh, binS, evNil, keyIs, keyEq, mkv, AV.cells, AV.sc, optv, bnd, env, put, Env.get, Env.set, Env.del, Env.dels, Env.init, res1, resL, resV, fillP, splice, newRow, Nat.reduceEqDiff, Nat.reduceLT, Nat.reduceLeDiff, Nat.reduceAdd, Nat.reduceMul, Nat.reduceSub, Nat.reduceBEq, reduceCtorEq, ↓zR, zQ, Tr, StA, StT]
    refine ih o2 _ h2 (by rw [hpre]; simp) ho2 ((hag.trans ((Pre.push h (.iter [46, 70, 84] 0)).ag hag.1)).trans hag2) (by simp; omega) ?_
    intro o' h' ho' ha'
    exact hR o' h' (by simpa [ext3] using ho') ha'
theorem lp_hidden0 (n : Nat) (hn : n ≤ 5) (h0 : AH) {R : X → Env → AH → Prop} : ∀ (d i : Nat) (v : AV) (h : AH), i + d = n → OwL 1 encS h0 h v (allL i) → Pre h0 h →
    (∀ v' h', OwL 1 encS h0 h' v' (allL n) → Pre h0 h' → R (.exit 0) [(3, v')] h') →
    Cx (.loop lp178_0) [(3, v), (10, .int .i64 n), (11, .int .i64 i)] h R k k
  | 0, i, v, h, hi, ho, hp, hR => by
    obtain rfl : i = n := by omega
    rw [w_loopb (c := lp178_0) (d := lb178_0) rfl]; unfold lb178_0
    simp (maxSteps := 1000000) (disch := first | omega | rfl | (simp only [zL, two63, room] <;> omega) | fail) only [↓reduceIte, ↓zP, zW, WOp, evOp, evBin, binI, binSh, binS, evNil, keyIs, keyEq, mkv, AV.cells, AV.sc, optv, bnd, env, put, Env.get, Env.set, Env.del, Env.dels, Env.init, res1, resL, resV, fillP, splice, newRow, Nat.reduceEqDiff, Nat.reduceLT, Nat.reduceLeDiff, Nat.reduceAdd, Nat.reduceMul, Nat.reduceSub, Nat.reduceBEq, reduceCtorEq, ↓zR, zQ, Tr, StA, StT]
    exact hR v h ho hp
  | d + 1, i, v, h, hi, ho, hp, hR => by
    have ih := lp_hidden0 n hn h0 (R := R) d (i + 1)
    have hlt : (i : Int) < (n : Int) := by omega
    have hw1 : (i : Int) + 1 = ((i + 1 : Nat) : Int) := by omega
    have hlen := allL_length i
    have hpow : 3 ^ i ≤ 3 ^ 5 := Nat.pow_le_pow_right (by omega) (by omega)
    rw [w_loopb (c := lp178_0) (d := lb178_0) rfl]; unfold lb178_0
    have hv := fun g => Slc.lenV (ho.slc) (g := g) (ρ := fun _ => _) (x := .t 0) rfl; simp only [evOp] at hv
    simp (maxSteps := 1000000) (disch := first | omega | rfl | (simp only [zL, two63, room] <;> omega) | fail) only [↓reduceIte, ↓zP, zW, WOp, evOp, evBin, binI, binSh, binS, evNil, keyIs, keyEq, mkv, AV.cells, AV.sc, optv, bnd, env, put, Env.get, Env.set, Env.del, Env.dels, Env.init, res1, resL, resV, fillP, splice, newRow, Nat.reduceEqDiff, Nat.reduceLT, Nat.reduceLeDiff, Nat.reduceAdd, Nat.reduceMul, Nat.reduceSub, Nat.reduceBEq, reduceCtorEq, ↓zR, zQ, Tr, StA, StT, hlt, hv]
    refine lp_hidden1 h _ _ (by rw [hlen]; omega) (fun w hw => by rw [(allL_good i w hw).1]; omega) ho.slc (allL i) [] .empS [] h rfl OwL.emp (Ag.refl _ _) rfl ?_
    intro o2 h2 ho2 hag
    simp (maxSteps := 1000000) (disch := first | omega | rfl | (simp only [zL, two63, room] <;> omega) | fail) only [↓reduceIte, ↓zP, zW, WOp, evOp, evBin, binI, binSh, binS, evNil, keyIs, keyEq, mkv, AV.cells, AV.sc, optv, bnd, env, put, Env.get, Env.set, Env.del, Env.dels, Env.init, res1, resL, resV, fillP, splice, newRow, Nat.reduceEqDiff, Nat.reduceLT, Nat.reduceLeDiff, Nat.reduceAdd, Nat.reduceMul, Nat.reduceSub, Nat.reduceBEq, reduceCtorEq, ↓zR, zQ, Tr, StA, StT, hw1]
    rw [w_loopn (c := lp178_0) rfl]
    simp (maxSteps := 1000000) (disch := first | omega | rfl | (simp only [zL, two63, room] <;> omega) | fail) only [↓reduceIte, ↓zP, zW, WOp, evOp, evBin, binI, binSh, binS, evNil, keyIs, keyEq, mkv, AV.cells, AV.sc, optv, bnd, env, put, Env.get, Env.set, Env.del, Env.dels, Env.init, res1, resL, resV, fillP, splice, newRow, Nat.reduceEqDiff, Nat.reduceLT, Nat.reduceLeDiff, Nat.reduceAdd, Nat.reduceMul, Nat.reduceSub, Nat.reduceBEq, reduceCtorEq, ↓zR, zQ, Tr, StA, StT]
    exact ih o2 h2 (by omega) (OwL.old ho2 hp.1) (hp.trans (hag.pre (Nat.le_refl _))) hR
theorem c_hidden (n : Nat) (hn : n ≤ 5) {h : AH} {post : AV → AH → Prop} (hp : ∀ v h', OwL 1 encS h h' v (allL n) → Pre h h' → post v h') : S 178 [.int .i64 n] h post k := by
  refine S_of rfl T178 ?_; unfold fi178
  simp (maxSteps := 1000000) (disch := first | omega | rfl | (simp only [zL, two63, room] <;> omega) | fail) only [↓reduceIte, ↓zP, zW, WOp, evOp, evBin, binI, binSh, binS, evNil, keyIs, keyEq, mkv, AV.cells, AV.sc, optv, bnd, env, put, Env.get, Env.set, Env.del, Env.dels, Env.init, res1, resL, resV, fillP, splice, newRow, Nat.reduceEqDiff, Nat.reduceLT, Nat.reduceLeDiff, Nat.reduceAdd, Nat.reduceMul, Nat.reduceSub, Nat.reduceBEq, reduceCtorEq, ↓zR, zQ, Tr, StA, StT]
  refine lp_hidden0 n hn h n 0 _ _ (by omega) ?_ (Pre.push _ _) ?_
  · unfold OwL Own
    exact ⟨rfl, rfl, rfl, Nat.le_refl _, [.str []], 0, by simp, Nat.le_refl _, rfl, rfl⟩
  · intro v' h' ho hp'
    simp (maxSteps := 1000000) (disch := first | omega | rfl | (simp only [zL, two63, room] <;> omega) | fail) only [↓reduceIte, ↓zP, zW, WOp, evOp, evBin, binI, binSh, binS, evNil, keyIs, keyEq, mkv, AV.cells, AV.sc, optv, bnd, env, put, Env.get, Env.set, Env.del, Env.dels, Env.init, res1, resL, resV, fillP, splice, newRow, Nat.reduceEqDiff, Nat.reduceLT, Nat.reduceLeDiff, Nat.reduceAdd, Nat.reduceMul, Nat.reduceSub, Nat.reduceBEq, reduceCtorEq, ↓zR, zQ, Tr, StA, StT]
    exact hp v' h' ho hp'

abbrev Clu := Int × Int × Int
theorem c_solve1 (c : Clu) (x : List UInt8) (hs : x.all isSign = true) (hl : 1 ≤ x.length ∧ x.length ≤ 5) (hc : clueOk x.length c = true) {r : Nat} {h : AH} (hr : rdRow h r 0 0 3 = some (encC c)) {post : AV → AH → Prop} (hp : ∀ h', Pre h h' → post (.bool (!fitB c x)) h') : S 179 [.str x, .ptr r 0 0 3] h post k := by
  refine S_of rfl T179 ?_; unfold fi179
  simp (maxSteps := 1000000) (disch := first | omega | rfl | (simp only [zL, two63, room] <;> omega) | fail) only [↓reduceIte, ↓zP, zW, WOp, evOp, evBin, binI, binSh, binS, evNil, keyIs, keyEq, mkv, AV.cells, AV.sc, optv, bnd, env, put, Env.get, Env.set, Env.del, Env.dels, Env.init, res1, resL, resV, fillP, splice, newRow, Nat.reduceEqDiff, Nat.reduceLT, Nat.reduceLeDiff, Nat.reduceAdd, Nat.reduceMul, Nat.reduceSub, Nat.reduceBEq, reduceCtorEq, ↓zR, zQ, Tr, StA, StT, hr]
  refine c_DoesFit c.1 c.2.1 c.2.2 x hs hl hc ?_
  intro h2 hp2
  simp (maxSteps := 1000000) (disch := first | omega | rfl | (simp only [zL, two63, room] <;> omega) | fail) only [↓reduceIte, ↓zP, zW, WOp, evOp, evBin, binI, binSh, binS, evNil, keyIs, keyEq, mkv, AV.cells, AV.sc, optv, bnd, env, put, Env.get, Env.set, Env.del, Env.dels, Env.init, res1, resL, resV, fillP, splice, newRow, Nat.reduceEqDiff, Nat.reduceLT, Nat.reduceLeDiff, Nat.reduceAdd, Nat.reduceMul, Nat.reduceSub, Nat.reduceBEq, reduceCtorEq, ↓zR, zQ, Tr, StA, StT]
  exact hp h2 hp2
/-- All lines that fit. -/
def fitL (n : Nat) (cs : List Clu) : List (List UInt8) := (allL n).filter fun w => cs.all fun c => fitB c w
theorem lp_solve (n : Nat) (hn : 1 ≤ n ∧ n ≤ 5) {v : AV} {cs : List Clu} (hlen : cs.length < 2 ^ 30) (hok : ∀ c ∈ cs, clueOk n c = true) {h0 : AH} (hs : Slc 3 encC h0 v cs) {R : X → Env → AH → Prop} : ∀ (rest pre : List Clu) (o : AV) (h : AH), cs = pre ++ rest → OwW 1 encS h0 h o ((allL n).filter fun w => pre.all fun c => fitB c w) → Pre h0 h →
    (∀ o' h', OwW 1 encS h0 h' o' (fitL n cs) → Pre h0 h' → R (.exit 0) [(5, o')] h') →
    Cx (.loop lp167_0) [(5, o), (10, v), (11, .int .i64 cs.length), (12, .int .i64 pre.length)] h R k k
  | [], pre, o, h, hpre, ho, hp, hR => by
    subst hpre
    rw [w_loopb (c := lp167_0) (d := lb167_0) rfl]; unfold lb167_0
    simp only [List.append_nil]
    simp (maxSteps := 1000000) (disch := first | omega | rfl | (simp only [zL, two63, room] <;> omega) | fail) only [↓reduceIte, ↓zP, zW, WOp, evOp, evBin, binI, binSh, binS, evNil, keyIs, keyEq, mkv, AV.cells, AV.sc, optv, bnd, env, put, Env.get, Env.set, Env.del, Env.dels, Env.init, res1, resL, resV, fillP, splice, newRow, Nat.reduceEqDiff, Nat.reduceLT, Nat.reduceLeDiff, Nat.reduceAdd, Nat.reduceMul, Nat.reduceSub, Nat.reduceBEq, reduceCtorEq, ↓zR, zQ, Tr, StA, StT]
    exact hR o h (by simpa [fitL] using ho) hp
  | c :: rest, pre, o, h, hpre, ho, hp, hR => by
    have ih := lp_solve n hn hlen hok hs (R := R) rest (pre ++ [c])
    have hll : cs.length = pre.length + 1 + rest.length := by rw [hpre]; simp; omega
    have hck := hok c (by rw [hpre]; simp)
    have hs' := hs.pre hp
    rw [hpre] at hs'
    obtain ⟨r1, k1, o1, hv, hr⟩ := hs'.at hlC
    rw [← hpre, hll] at hv
    subst hv
    rw [hll] at ih hlen ⊢
    have hlt : (pre.length : Int) < ((pre.length + 1 + rest.length : Nat) : Int) := by omega
    have hw1 : (pre.length : Int) + 1 = ((pre ++ [c]).length : Int) := by simp
    have hpow : 3 ^ n ≤ 3 ^ 5 := Nat.pow_le_pow_right (by omega) hn.2
    have hal := allL_length n
    have hpush := Pre.push h (AO.row (encC c) 0 0 false)
    have hrd : rdRow (h ++ [AO.row (encC c) 0 0 false]) h.length 0 0 3 = some (encC c) := rd_lasT ⟨by simp, by simp, by simp⟩
    rw [w_loopb (c := lp167_0) (d := lb167_0) rfl]; unfold lb167_0
    simp (maxSteps := 1000000) (disch := first | omega | rfl | (simp only [zL, two63, room] <;> omega) | fail) only [↓reduceIte, ↓zP, zW, WOp, evOp, evBin, binI, binSh, binS, evNil, keyIs, keyEq, mkv, AV.cells, AV.sc, optv, bnd, env, put, Env.get, Env.set, Env.del, Env.dels, Env.init, res1, resL, resV, fillP, splice, newRow, Nat.reduceEqDiff, Nat.reduceLT, Nat.reduceLeDiff, Nat.reduceAdd, Nat.reduceMul, Nat.reduceSub, Nat.reduceBEq, reduceCtorEq, ↓zR, zQ, Tr, StA, StT, hlt, hr]
    refine c_DeleteFuncS _ _ (fun w => !fitB c w) (ho.pre hpush) ?_ ?_ ?_
    · have := List.length_filter_le (fun w => pre.all fun c => fitB c w) (allL n)
      omega
    · intro x hx h' hpv post hpost
      have hxg := allL_good n x (List.mem_filter.1 hx).1
      have hrd2 : rdRow h' h.length 0 0 3 = some (encC c) := by
        unfold rdRow at hrd ⊢
        rw [hpv.2 h.length (by simp) ?_]
        · exact hrd
        · rintro c' k' o' n' e' rfl
          unfold OwW at ho
          obtain ⟨_, _, _, A, Z, fl, h4, _⟩ := ho
          have := (List.getElem?_eq_some_iff.1 h4).1
          omega
      exact c_solve1 c x hxg.2 (by rw [hxg.1]; exact hn) (by rw [hxg.1]; exact hck) hrd2 hpost
    · intro o2 h2 ho2 hpv2
      have hf : ((allL n).filter fun w => pre.all fun c => fitB c w).filter (fun x => !!fitB c x) = (allL n).filter fun w => (pre ++ [c]).all fun c => fitB c w := by
        rw [List.filter_filter]
        apply List.filter_congr
        intro w _
        simp [Bool.and_comm]
      rw [hf] at ho2
      simp (maxSteps := 1000000) (disch := first | omega | rfl | (simp only [zL, two63, room] <;> omega) | fail) only [↓reduceIte, ↓zP, zW, WOp, evOp, evBin, binI, binSh, binS, evNil, keyIs, keyEq, mkv, AV.cells, AV.sc, optv, bnd, env, put, Env.get, Env.set, Env.del, Env.dels, Env.init, res1, resL, resV, fillP, splice, newRow, Nat.reduceEqDiff, Nat.reduceLT, Nat.reduceLeDiff, Nat.reduceAdd, Nat.reduceMul, Nat.reduceSub, Nat.reduceBEq, reduceCtorEq, ↓zR, zQ, Tr, StA, StT, hw1]
      rw [w_loopn (c := lp167_0) rfl]
      simp (maxSteps := 1000000) (disch := first | omega | rfl | (simp only [zL, two63, room] <;> omega) | fail) only [↓reduceIte, ↓zP, zW, WOp, evOp, evBin, binI, binSh, binS, evNil, keyIs, keyEq, mkv, AV.cells, AV.sc, optv, bnd, env, put, Env.get, Env.set, Env.del, Env.dels, Env.init, res1, resL, resV, fillP, splice, newRow, Nat.reduceEqDiff, Nat.reduceLT, Nat.reduceLeDiff, Nat.reduceAdd, Nat.reduceMul, Nat.reduceSub, Nat.reduceBEq, reduceCtorEq, ↓zR, zQ, Tr, StA, StT]
      refine ih o2 h2 (by rw [hpre]; simp) ho2 ?_ hR
      refine ⟨Nat.le_trans hp.1 (Nat.le_trans hpush.1 hpv2.1), fun i hi => ?_⟩
      rw [hpv2.2 i (by have := hp.1; simp; omega) ?_, hpush.2 i (Nat.lt_of_lt_of_le hi hp.1), hp.2 i hi]
      rintro c' k' o' n' e' rfl
      unfold OwW at ho
      obtain ⟨_, _, h3, _⟩ := ho
      omega
theorem c_solve (n : Nat) (hn : 1 ≤ n ∧ n ≤ 5) {v : AV} {cs : List Clu} (hlen : cs.length < 2 ^ 30) (hok : ∀ c ∈ cs, clueOk n c = true) {h : AH} (hs : Slc 3 encC h v cs) {post : AV → AH → Prop} (hp : ∀ o' h', OwW 1 encS h h' o' (fitL n cs) → Pre h h' → post o' h') : S 167 [.int .i64 n, v] h post k := by
  refine S_of rfl T167 ?_; unfold fi167
  simp (maxSteps := 1000000) (disch := first | omega | rfl | (simp only [zL, two63, room] <;> omega) | fail) only [↓reduceIte, ↓zP, zW, WOp, evOp, evBin, binI, binSh, binS, evNil, keyIs, keyEq, mkv, AV.cells, AV.sc, optv, bnd, env, put, Env.get, Env.set, Env.del, Env.dels, Env.init, res1, resL, resV, fillP, splice, newRow, Nat.reduceEqDiff, Nat.reduceLT, Nat.reduceLeDiff, Nat.reduceAdd, Nat.reduceMul, Nat.reduceSub, Nat.reduceBEq, reduceCtorEq, ↓zR, zQ, Tr, StA, StT]
  refine c_hidden n hn.2 ?_
  intro o h2 ho hp2
  have hv := fun g => Slc.lenV (hs) (g := g) (ρ := fun _ => _) (x := .t 0) rfl; simp only [evOp] at hv
  simp (maxSteps := 1000000) (disch := first | omega | rfl | (simp only [zL, two63, room] <;> omega) | fail) only [↓reduceIte, ↓zP, zW, WOp, evOp, evBin, binI, binSh, binS, evNil, keyIs, keyEq, mkv, AV.cells, AV.sc, optv, bnd, env, put, Env.get, Env.set, Env.del, Env.dels, Env.init, res1, resL, resV, fillP, splice, newRow, Nat.reduceEqDiff, Nat.reduceLT, Nat.reduceLeDiff, Nat.reduceAdd, Nat.reduceMul, Nat.reduceSub, Nat.reduceBEq, reduceCtorEq, ↓zR, zQ, Tr, StA, StT, hv]
  refine lp_solve n hn hlen hok hs cs [] o h2 rfl ?_ hp2 ?_
  · have : ((allL n).filter fun w => ([] : List Clu).all fun c => fitB c w) = allL n := List.filter_eq_self.2 (by simp)
    rw [this]
    exact ho.w
  · intro o' h' ho' hp'
    simp (maxSteps := 1000000) (disch := first | omega | rfl | (simp only [zL, two63, room] <;> omega) | fail) only [↓reduceIte, ↓zP, zW, WOp, evOp, evBin, binI, binSh, binS, evNil, keyIs, keyEq, mkv, AV.cells, AV.sc, optv, bnd, env, put, Env.get, Env.set, Env.del, Env.dels, Env.init, res1, resL, resV, fillP, splice, newRow, Nat.reduceEqDiff, Nat.reduceLT, Nat.reduceLeDiff, Nat.reduceAdd, Nat.reduceMul, Nat.reduceSub, Nat.reduceBEq, reduceCtorEq, ↓zR, zQ, Tr, StA, StT]
    exact hp o' h' ho' hp'

/-! ### The reference's search -/
theorem lp_pzLook0 {v : AV} {cs : List Clu} {h0 : AH} (hs : Slc 3 encC h0 v cs) (hlen : cs.length < 2 ^ 30) (w : List UInt8) (hw : w.all isSign = true) (hl : w.length ≤ 12) (hok : ∀ c ∈ cs, clueOk w.length c = true) (p : AV) {R : X → Env → AH → Prop} : ∀ (rest pre : List Clu) (h : AH), cs = pre ++ rest → Pre h0 h →
    (∀ h', Pre h0 h' → (rest.all fun c => fitB c w) = true → R (.exit 0) [(2, .str w), (3, p)] h') → (∀ h', Pre h0 h' → (rest.all fun c => fitB c w) = false → R .ret [] h') →
    Cx (.loop lp173_0) [(2, .str w), (3, p), (16, v), (17, .int .i64 cs.length), (18, .int .i64 pre.length)] h R k k
  | [], pre, h, hpre, hp, h1, h2 => by
    subst hpre
    rw [w_loopb (c := lp173_0) (d := lb173_0) rfl]; unfold lb173_0
    simp only [List.append_nil]
    simp (maxSteps := 1000000) (disch := first | omega | rfl | (simp only [zL, two63, room] <;> omega) | fail) only [↓reduceIte, ↓zP, zW, WOp, evOp, evBin, binI, binSh, binS, evNil, keyIs, keyEq, mkv, AV.cells, AV.sc, optv, bnd, env, put, Env.get, Env.set, Env.del, Env.dels, Env.init, res1, resL, resV, fillP, splice, newRow, Nat.reduceEqDiff, Nat.reduceLT, Nat.reduceLeDiff, Nat.reduceAdd, Nat.reduceMul, Nat.reduceSub, Nat.reduceBEq, reduceCtorEq, ↓zR, zQ, Tr, StA, StT]
    exact h1 h hp rfl
  | c :: rest, pre, h, hpre, hp, h1, h2 => by
    have ih := lp_pzLook0 hs hlen w hw hl hok p (R := R) rest (pre ++ [c])
    have hll : cs.length = pre.length + 1 + rest.length := by rw [hpre]; simp; omega
    have hck := hok c (by rw [hpre]; simp)
    have hs' := hs.pre hp
    rw [hpre] at hs'
    obtain ⟨r1, k1, o1, hv, hr⟩ := hs'.at hlC
    rw [← hpre, hll] at hv
    subst hv
    rw [hll] at ih hlen ⊢
    have hlt : (pre.length : Int) < ((pre.length + 1 + rest.length : Nat) : Int) := by omega
    have hw1 : (pre.length : Int) + 1 = ((pre ++ [c]).length : Int) := by simp
    have hcell : c.1 = 0 → 0 ≤ c.2.1 ∧ c.2.1 < w.length := by
      intro e
      simp only [clueOk, if_pos e, Bool.and_eq_true, decide_eq_true_eq] at hck
      omega
    have hpush := Pre.push h (AO.row (encC c) 0 0 false)
    rw [w_loopb (c := lp173_0) (d := lb173_0) rfl]; unfold lb173_0
    simp (maxSteps := 1000000) (disch := first | omega | rfl | (simp only [zL, two63, room] <;> omega) | fail) only [↓reduceIte, ↓zP, zW, WOp, evOp, evBin, binI, binSh, binS, evNil, keyIs, keyEq, mkv, AV.cells, AV.sc, optv, bnd, env, put, Env.get, Env.set, Env.del, Env.dels, Env.init, res1, resL, resV, fillP, splice, newRow, Nat.reduceEqDiff, Nat.reduceLT, Nat.reduceLeDiff, Nat.reduceAdd, Nat.reduceMul, Nat.reduceSub, Nat.reduceBEq, reduceCtorEq, ↓zR, zQ, Tr, StA, StT, hlt, hr]
    refine c_pzFits c.1 c.2.1 c.2.2 w hw hl hcell ?_
    intro h3 hp3
    have hpp : Pre h0 h3 := hp.trans (hpush.trans hp3)
    cases e : fitB c w
    · simp (maxSteps := 1000000) (disch := first | omega | rfl | (simp only [zL, two63, room] <;> omega) | fail) only [↓reduceIte, ↓zP, zW, WOp, evOp, evBin, binI, binSh, binS, evNil, keyIs, keyEq, mkv, AV.cells, AV.sc, optv, bnd, env, put, Env.get, Env.set, Env.del, Env.dels, Env.init, res1, resL, resV, fillP, splice, newRow, Nat.reduceEqDiff, Nat.reduceLT, Nat.reduceLeDiff, Nat.reduceAdd, Nat.reduceMul, Nat.reduceSub, Nat.reduceBEq, reduceCtorEq, ↓zR, zQ, Tr, StA, StT, e]
      exact h2 h3 hpp (by rw [List.all_cons, e]; rfl)
    · simp (maxSteps := 1000000) (disch := first | omega | rfl | (simp only [zL, two63, room] <;> omega) | fail) only [↓reduceIte, ↓zP, zW, WOp, evOp, evBin, binI, binSh, binS, evNil, keyIs, keyEq, mkv, AV.cells, AV.sc, optv, bnd, env, put, Env.get, Env.set, Env.del, Env.dels, Env.init, res1, resL, resV, fillP, splice, newRow, Nat.reduceEqDiff, Nat.reduceLT, Nat.reduceLeDiff, Nat.reduceAdd, Nat.reduceMul, Nat.reduceSub, Nat.reduceBEq, reduceCtorEq, ↓zR, zQ, Tr, StA, StT, e, hw1]
      rw [w_loopn (c := lp173_0) rfl]
      simp (maxSteps := 1000000) (disch := first | omega | rfl | (simp only [zL, two63, room] <;> omega) | fail) only [↓reduceIte, ↓zP, zW, WOp, evOp, evBin, binI, binSh, binS, evNil, keyIs, keyEq, mkv, AV.cells, AV.sc, optv, bnd, env, put, Env.get, Env.set, Env.del, Env.dels, Env.init, res1, resL, resV, fillP, splice, newRow, Nat.reduceEqDiff, Nat.reduceLT, Nat.reduceLeDiff, Nat.reduceAdd, Nat.reduceMul, Nat.reduceSub, Nat.reduceBEq, reduceCtorEq, ↓zR, zQ, Tr, StA, StT]
      exact ih h3 (by rw [hpre]; simp) hpp (fun h' q1 q2 => h1 h' q1 (by rw [List.all_cons, e, q2]; rfl)) (fun h' q1 q2 => h2 h' q1 (by rw [List.all_cons, e, q2]; rfl))
def LookAt (n : Nat) (v : AV) (cs : List Clu) (b : AH) (r : Nat) (d : Nat) : Prop := ∀ (w : List UInt8) (h : AH) (l : List (List UInt8)), w.length + d = n → w.all isSign = true → OutP 1 encS r b h l → b.length ≤ h.length → SlcC 3 encC r h v cs → l.length + 3 ^ d ≤ 2 ^ 30 → ∀ post : AV → AH → Prop,
  (∀ h', OutP 1 encS r b h' (l ++ (goOn d w).filter fun w => cs.all fun c => fitB c w) → FrC r h h' → post (.tup []) h') → S 173 [.int .i64 n, v, .str w, .ptr r 0 0 1] h post k
theorem goOn_length : ∀ (d : Nat) (w : List UInt8), (goOn d w).length = 3 ^ d
  | 0, _ => rfl
  | d + 1, w => by simp only [goOn, List.length_append, goOn_length d]; rw [Nat.pow_succ]; omega
abbrev S3 : List (List UInt8) := [[46], [70], [84]]
theorem lp_pzLook1 {n : Nat} {v : AV} {cs : List Clu} {b : AH} {r d : Nat} (ih : LookAt n v cs b r d) (hn : n ≤ 5) (w : List UInt8) (hwd : w.length + (d + 1) = n) (hw : w.all isSign = true) (vs : AV) {h0 : AH} {R : X → Env → AH → Prop} : ∀ (rest pre : List (List UInt8)) (l : List (List UInt8)) (h : AH), S3 = pre ++ rest → OutP 1 encS r b h l → b.length ≤ h.length → SlcC 3 encC r h v cs → SlcC 1 encS r h vs S3 → FrC r h0 h → l.length + rest.length * 3 ^ d ≤ 2 ^ 30 →
    (∀ h', OutP 1 encS r b h' (l ++ rest.flatMap fun s => (goOn d (w ++ s)).filter fun w => cs.all fun c => fitB c w) → FrC r h0 h' → R (.exit 2) [] h') →
    Cx (.loop lp173_1) [(0, .int .i64 n), (1, v), (2, .str w), (3, .ptr r 0 0 1), (35, vs), (36, .int .i64 3), (37, .int .i64 pre.length)] h R k k
  | [], pre, l, h, hpre, ho, hb, hs, hss, hf, hl, hR => by
    have hll : pre.length = 3 := by have := congrArg List.length hpre; simp at this; omega
    rw [w_loopb (c := lp173_1) (d := lb173_1) rfl]; unfold lb173_1
    simp (maxSteps := 1000000) (disch := first | omega | rfl | (simp only [zL, two63, room] <;> omega) | fail) only [↓reduceIte, ↓zP, zW, WOp, evOp, evBin, binI, binSh, binS, evNil, keyIs, keyEq, mkv, AV.cells, AV.sc, optv, bnd, env, put, Env.get, Env.set, Env.del, Env.dels, Env.init, res1, resL, resV, fillP, splice, newRow, Nat.reduceEqDiff, Nat.reduceLT, Nat.reduceLeDiff, Nat.reduceAdd, Nat.reduceMul, Nat.reduceSub, Nat.reduceBEq, reduceCtorEq, ↓zR, zQ, Tr, StA, StT, hll]
    exact hR h (by simpa using ho) hf
  | s :: rest, pre, l, h, hpre, ho, hb, hs, hss, hf, hl, hR => by
    have ihl := lp_pzLook1 ih hn w hwd hw vs (h0 := h0) (R := R) rest (pre ++ [s])
    have hll : pre.length + 1 + rest.length = 3 := by have := congrArg List.length hpre; simp at this; omega
    have hs3 : s ∈ S3 := by rw [hpre]; simp
    have hsg : s.length = 1 ∧ s.all isSign = true := by
      simp only [List.mem_cons, List.not_mem_nil, or_false] at hs3
      rcases hs3 with rfl | rfl | rfl <;> exact ⟨rfl, rfl⟩
    have hss' := hss
    rw [hpre] at hss'
    obtain ⟨c1, k1, o1, hv, hr⟩ := hss'.1.at hlS
    rw [← hpre] at hv
    subst hv
    have hlt : (pre.length : Int) < 3 := by omega
    have hw1 : (pre.length : Int) + 1 = ((pre ++ [s]).length : Int) := by simp
    have hlS3 : (S3.length : Nat) = 3 := rfl
    rw [w_loopb (c := lp173_1) (d := lb173_1) rfl]; unfold lb173_1
    simp (maxSteps := 1000000) (disch := first | omega | rfl | (simp only [zL, two63, room] <;> omega) | fail) only [↓reduceIte, ↓zP, zW, WOp, evOp, evBin, binI, binSh, binS, evNil, keyIs, keyEq, mkv, AV.cells, AV.sc, optv, bnd, env, put, Env.get, Env.set, Env.del, Env.dels, Env.init, res1, resL, resV, fillP, splice, newRow, Nat.reduceEqDiff, Nat.reduceLT, Nat.reduceLeDiff, Nat.reduceAdd, Nat.reduceMul, Nat.reduceSub, Nat.reduceBEq, reduceCtorEq, ↓zR, zQ, Tr, StA, StT, hlt, hr, hlS3]
    simp only [List.length_cons] at hl
    rw [Nat.succ_mul] at hl
    refine ih (w ++ s) h l (by simp; omega) (by simp [hw, hsg.2]) ho hb hs (by omega) _ ?_
    intro h2 ho2 hf2
    have hfl : ((goOn d (w ++ s)).filter fun w => cs.all fun c => fitB c w).length ≤ 3 ^ d := by rw [← goOn_length d (w ++ s)]; exact List.length_filter_le _ _
    simp (maxSteps := 1000000) (disch := first | omega | rfl | (simp only [zL, two63, room] <;> omega) | fail) only [↓reduceIte, ↓zP, zW, WOp, evOp, evBin, binI, binSh, binS, evNil, keyIs, keyEq, mkv, AV.cells, AV.sc, optv, bnd, env, put, Env.get, Env.set, Env.del, Env.dels, Env.init, res1, resL, resV, fillP, splice, newRow, Nat.reduceEqDiff, Nat.reduceLT, Nat.reduceLeDiff, Nat.reduceAdd, Nat.reduceMul, Nat.reduceSub, Nat.reduceBEq, reduceCtorEq, ↓zR, zQ, Tr, StA, StT, hw1]
    rw [w_loopn (c := lp173_1) rfl]
    simp (maxSteps := 1000000) (disch := first | omega | rfl | (simp only [zL, two63, room] <;> omega) | fail) only [↓reduceIte, ↓zP, zW, WOp, evOp, evBin, binI, binSh, binS, evNil, keyIs, keyEq, mkv, AV.cells, AV.sc, optv, bnd, env, put, Env.get, Env.set, Env.del, Env.dels, Env.init, res1, resL, resV, fillP, splice, newRow, Nat.reduceEqDiff, Nat.reduceLT, Nat.reduceLeDiff, Nat.reduceAdd, Nat.reduceMul, Nat.reduceSub, Nat.reduceBEq, reduceCtorEq, ↓zR, zQ, Tr, StA, StT]
    refine ihl _ h2 (by rw [hpre]; simp) ho2 (Nat.le_trans hb hf2.1) (hs.fr hf2) (hss.fr hf2) (hf.trans hf2) (by simp; omega) ?_
    intro h' ho' hf'
    exact hR h' (by simpa using ho') hf'
theorem c_pzLook {n : Nat} (hn : n ≤ 5) {v : AV} {cs : List Clu} (hlen : cs.length < 2 ^ 30) (hok : ∀ c ∈ cs, clueOk n c = true) {b : AH} {r : Nat} : ∀ d : Nat, LookAt n v cs b r d
  | 0 => by
    intro w h l hwd hw ho hb hs hl post hp
    have hlw : w.length = n := by omega
    refine S_of rfl T173 ?_; unfold fi173
    have hv := fun g => Slc.lenV (hs.1) (g := g) (ρ := fun _ => _) (x := .t 0) rfl; simp only [evOp] at hv
    simp (maxSteps := 1000000) (disch := first | omega | rfl | (simp only [zL, two63, room] <;> omega) | fail) only [↓reduceIte, ↓zP, zW, WOp, evOp, evBin, binI, binSh, binS, evNil, keyIs, keyEq, mkv, AV.cells, AV.sc, optv, bnd, env, put, Env.get, Env.set, Env.del, Env.dels, Env.init, res1, resL, resV, fillP, splice, newRow, Nat.reduceEqDiff, Nat.reduceLT, Nat.reduceLeDiff, Nat.reduceAdd, Nat.reduceMul, Nat.reduceSub, Nat.reduceBEq, reduceCtorEq, ↓zR, zQ, Tr, StA, StT, hlw, hv]
    refine lp_pzLook0 hs.1 hlen w hw (by omega) (by rw [hlw]; exact hok) _ cs [] h rfl (Pre.refl _) ?_ ?_
    · intro h2 hp2 hall
      obtain ⟨vo, v', h3, r1, r2, r3, r4, r5, r6, r7, r8⟩ := (ho.pre hp2).push hlS scS (Nat.le_trans hb hp2.1) w (by omega)
      simp only [AV.cells] at r4
      simp (maxSteps := 1000000) (disch := first | omega | rfl | (simp only [zL, two63, room] <;> omega) | fail) only [↓reduceIte, ↓zP, zW, WOp, evOp, evBin, binI, binSh, binS, evNil, keyIs, keyEq, mkv, AV.cells, AV.sc, optv, bnd, env, put, Env.get, Env.set, Env.del, Env.dels, Env.init, res1, resL, resV, fillP, splice, newRow, Nat.reduceEqDiff, Nat.reduceLT, Nat.reduceLeDiff, Nat.reduceAdd, Nat.reduceMul, Nat.reduceSub, Nat.reduceBEq, reduceCtorEq, ↓zR, zQ, Tr, StA, StT, r1, r2, r3, r4, r6]
      have hg : (goOn 0 w).filter (fun w => cs.all fun c => fitB c w) = [w] := by simp [goOn, hall]
      rw [hg] at hp
      exact hp _ r7 ((hp2.frc ho.lt).trans r8)
    · intro h2 hp2 hall
      have hg : (goOn 0 w).filter (fun w => cs.all fun c => fitB c w) = [] := by simp [goOn, hall]
      rw [hg, List.append_nil] at hp
      simp (maxSteps := 1000000) (disch := first | omega | rfl | (simp only [zL, two63, room] <;> omega) | fail) only [↓reduceIte, ↓zP, zW, WOp, evOp, evBin, binI, binSh, binS, evNil, keyIs, keyEq, mkv, AV.cells, AV.sc, optv, bnd, env, put, Env.get, Env.set, Env.del, Env.dels, Env.init, res1, resL, resV, fillP, splice, newRow, Nat.reduceEqDiff, Nat.reduceLT, Nat.reduceLeDiff, Nat.reduceAdd, Nat.reduceMul, Nat.reduceSub, Nat.reduceBEq, reduceCtorEq, ↓zR, zQ, Tr, StA, StT]
      exact hp _ (ho.pre hp2) (hp2.frc ho.lt)
  | d + 1 => by
    intro w h l hwd hw ho hb hs hl post hp
    have ih := c_pzLook hn (v := v) hlen hok (b := b) (r := r) d
    have hne : ((w.length : Int) == (n : Int)) = false := by simp; omega
    refine S_of rfl T173 ?_; unfold fi173
    simp (maxSteps := 1000000) (disch := first | omega | rfl | (simp only [zL, two63, room] <;> omega) | fail) only [↓reduceIte, ↓zP, zW, WOp, evOp, evBin, binI, binSh, binS, evNil, keyIs, keyEq, mkv, AV.cells, AV.sc, optv, bnd, env, put, Env.get, Env.set, Env.del, Env.dels, Env.init, res1, resL, resV, fillP, splice, newRow, Nat.reduceEqDiff, Nat.reduceLT, Nat.reduceLeDiff, Nat.reduceAdd, Nat.reduceMul, Nat.reduceSub, Nat.reduceBEq, reduceCtorEq, ↓zR, zQ, Tr, StA, StT, hne]
    have hp2 := Pre.push h (AO.row [.str [46], .str [70], .str [84]] 0 0 false)
    have hs3 : SlcC 1 encS r (h ++ [AO.row [.str [46], .str [70], .str [84]] 0 0 false]) (.slice h.length 0 0 3 1) S3 := by
      refine ⟨⟨rfl, rfl, rfl, rd_lasT ⟨Nat.le_refl _, Nat.le_refl _, Nat.le_refl _⟩⟩, fun i hi => ?_⟩
      simp only [rowOf, Option.some.injEq] at hi
      exact ho.fresh hp2 (by omega)
    have hf2 := hp2.frc (c := r) ho.lt
    refine lp_pzLook1 ih hn w hwd hw _ (h0 := h) S3 [] l _ rfl (ho.pre hp2) (Nat.le_trans hb hp2.1) (hs.fr hf2) hs3 hf2 ?_ ?_
    · simp only [List.length_cons, List.length_nil]; rw [Nat.pow_succ] at hl; omega
    · intro h' ho' hf'
      simp (maxSteps := 1000000) (disch := first | omega | rfl | (simp only [zL, two63, room] <;> omega) | fail) only [↓reduceIte, ↓zP, zW, WOp, evOp, evBin, binI, binSh, binS, evNil, keyIs, keyEq, mkv, AV.cells, AV.sc, optv, bnd, env, put, Env.get, Env.set, Env.del, Env.dels, Env.init, res1, resL, resV, fillP, splice, newRow, Nat.reduceEqDiff, Nat.reduceLT, Nat.reduceLeDiff, Nat.reduceAdd, Nat.reduceMul, Nat.reduceSub, Nat.reduceBEq, reduceCtorEq, ↓zR, zQ, Tr, StA, StT]
      refine hp h' ?_ hf'
      simpa [goOn] using ho'
theorem c_pzAll (n : Nat) (hn : n ≤ 5) {v : AV} {cs : List Clu} (hlen : cs.length < 2 ^ 30) (hok : ∀ c ∈ cs, clueOk n c = true) {h : AH} (hs : Slc 3 encC h v cs) {post : AV → AH → Prop} (hp : ∀ o' h', OwL 1 encS h h' o' (fitL n cs) → Pre h h' → post o' h') : S 161 [.int .i64 n, v] h post k := by
  have hpush := Pre.push h (AO.row [.nilS] 0 0 false)
  have ho : OutP 1 encS h.length h (h ++ [AO.row [.nilS] 0 0 false]) [] := ⟨.nilS, by simp, OwL.nil, by simp [rowOf]⟩
  have hng : ∀ i, i < h.length → ¬ grc h.length (h ++ [AO.row [.nilS] 0 0 false]) i := by
    rintro i hi (rfl | ⟨cs, ver, fl, ro, e1, v, hv, e2⟩)
    · exact Nat.lt_irrefl _ hi
    · simp at e1
      obtain ⟨rfl, _⟩ := e1
      simp at hv
      subst hv
      simp [rowOf] at e2
  have hs1 : SlcC 3 encC h.length (h ++ [AO.row [.nilS] 0 0 false]) v cs := by
    refine ⟨hs.pre hpush, fun i hi => hng i ?_⟩
    unfold Slc Sl at hs
    cases v <;> simp only [rowOf] at hi hs <;> first
      | (cases hi; done)
      | (cases hi; exact rd_lt hs.2.2.2)
  have hpow : 3 ^ n ≤ 3 ^ 5 := Nat.pow_le_pow_right (by omega) hn
  refine S_of rfl T161 ?_; unfold fi161
  simp (maxSteps := 1000000) (disch := first | omega | rfl | (simp only [zL, two63, room] <;> omega) | fail) only [↓reduceIte, ↓zP, zW, WOp, evOp, evBin, binI, binSh, binS, evNil, keyIs, keyEq, mkv, AV.cells, AV.sc, optv, bnd, env, put, Env.get, Env.set, Env.del, Env.dels, Env.init, res1, resL, resV, fillP, splice, newRow, Nat.reduceEqDiff, Nat.reduceLT, Nat.reduceLeDiff, Nat.reduceAdd, Nat.reduceMul, Nat.reduceSub, Nat.reduceBEq, reduceCtorEq, ↓zR, zQ, Tr, StA, StT]
  refine c_pzLook hn hlen hok n [] _ [] (by simp) rfl ho hpush.1 hs1 (by simp; omega) _ ?_
  intro h2 ho2 hf2
  rw [goOn_all, List.nil_append] at ho2
  obtain ⟨vo, hr, hown⟩ := ho2.rd
  simp (maxSteps := 1000000) (disch := first | omega | rfl | (simp only [zL, two63, room] <;> omega) | fail) only [↓reduceIte, ↓zP, zW, WOp, evOp, evBin, binI, binSh, binS, evNil, keyIs, keyEq, mkv, AV.cells, AV.sc, optv, bnd, env, put, Env.get, Env.set, Env.del, Env.dels, Env.init, res1, resL, resV, fillP, splice, newRow, Nat.reduceEqDiff, Nat.reduceLT, Nat.reduceLeDiff, Nat.reduceAdd, Nat.reduceMul, Nat.reduceSub, Nat.reduceBEq, reduceCtorEq, ↓zR, zQ, Tr, StA, StT, hr]
  refine hp vo h2 hown ⟨by have := hf2.1; simp at this; omega, fun i hi => ?_⟩
  rw [(hf2.2 i (by simp; omega) (hng i hi)).1, hpush.2 i hi]
end Go.Proofs.YtnkkgghpfgihfabDoor.Ab
