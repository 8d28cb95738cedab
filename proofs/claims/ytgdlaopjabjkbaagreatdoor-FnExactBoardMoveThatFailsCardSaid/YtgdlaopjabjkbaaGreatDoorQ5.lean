/- The proof that the law FnExactBoardMoveThatFails of the given program returns true for every input; the condition: the tables that the row lists are laid as the program's text lays them. -/
import Derived.Test.YtgdlaopjabjkbaaGreatDoorCards
import Derived.Test.YtgdlaopjabjkbaaGreatDoorTie
import Derived.OpenShut
import Derived.Deep.DeepHandedRow
import Derived.Lib.LaidTab
import Derived.Test.YtgdlaopjabjkbaaGreatDoorQ4
set_option linter.unusedSimpArgs false
set_option linter.unusedVariables false
/- BOARDS: PlayOnBoard, BoardMoveThatFails, MakeOnBoard: both sides and the laws. -/
namespace Go.Proofs.YtgdlaopjabjkbaaGreatDoor.Ab
open Go
set_option maxRecDepth 100000
set_option maxHeartbeats 4000000

def rowsB (w h : Nat) (cells : List UInt8) : List (List UInt8) := (List.range h).map fun y => (cells.drop (y * w)).take w
theorem rowsB_eq {rs : List (List UInt8)} {w h : Nat} (hb : Bd rs w h) : rowsB w h rs.flatten = rs := by
  unfold rowsB
  apply List.ext_getElem
  · simp [hb.len]
  · intro i h1 h2
    rw [List.getElem_map, List.getElem_range, flat_row (fun r hr => (hb.row r hr).1) h2]
    simp [List.getD_eq_getElem?_getD, h2]
theorem bPlay_bd {w h : Nat} : ∀ (ms : List Mo) (rs : List (List UInt8)), Bd rs w h → ∃ rs', Bd rs' w h ∧ rs'.flatten = (bPlay w h rs.flatten ms).1
  | [], rs, hb => ⟨rs, hb, rfl⟩
  | m :: ms, rs, hb => by
    cases e : bCan rs.flatten w h m
    · exact ⟨rs, hb, by unfold bPlay; rw [if_neg (by rw [e]; decide)]⟩
    · obtain ⟨f, t, rfl, hf, ht, hne⟩ := bCan_rng hb e
      obtain ⟨hb2, hfl2⟩ := hb.make hf ht hne
      obtain ⟨rs', h1, h2⟩ := bPlay_bd ms (rMake w rs f t) hb2
      refine ⟨rs', h1, ?_⟩
      rw [h2, hfl2]
      conv => rhs; unfold bPlay
      rw [if_pos e]
      simp only [Int.toNat_natCast]
theorem lp_boPlay {w h : Nat} {vm : AV} {ms : List Mo} (hL : ms.length < 2 ^ 30) {g0 : AH} (hs : Slc 2 encM g0 vm ms) {R : X → Env → AH → Prop} : ∀ (rest pre : List Mo) (rs : List (List UInt8)) (v : AV) (g : AH), Bd rs w h → ms = pre ++ rest → Pre g0 g → Slc 1 encS g v rs →
    (∀ v' g' rs', Pre g0 g' → Bd rs' w h → rs'.flatten = (bPlay w h rs.flatten rest).1 → Slc 1 encS g' v' rs' → (bPlay w h rs.flatten rest).2 = rest.length → R (.exit 0) [(0, v'), (1, vm)] g') →
    (∀ v' g' rs', Pre g0 g' → Bd rs' w h → rs'.flatten = (bPlay w h rs.flatten rest).1 → Slc 1 encS g' v' rs' → (bPlay w h rs.flatten rest).2 < rest.length → R .ret [(4, v'), (5, .int .i64 ((pre.length + (bPlay w h rs.flatten rest).2 : Nat) : Int))] g') →
    Cx (.loop lp371_0) [(0, v), (1, vm), (8, vm), (9, .int .i64 ms.length), (10, .int .i64 pre.length)] g R k k
  | [], pre, rs, v, g, hb, hL', hp, hv, h1, h2 => by
    rw [w_loopb (c := lp371_0) (d := lb371_0) rfl]; unfold lb371_0
    have hl : ms.length = pre.length := by rw [hL']; simp
    rw [hl]
    simp (maxSteps := 1000000) (disch := first | omega | rfl | (simp only [zL, two63, room] <;> omega) | fail) only [↓reduceIte, ↓zP, zW, WOp, evOp, evBin, binI, binSh, binS, evNil, keyIs, keyEq, mkv, AV.cells, AV.sc, optv, bnd, env, put, Env.get, Env.set, Env.del, Env.dels, Env.init, res1, resL, resV, fillP, splice, newRow, Nat.reduceEqDiff, Nat.reduceLT, Nat.reduceLeDiff, Nat.reduceAdd, Nat.reduceMul, Nat.reduceSub, Nat.reduceBEq, reduceCtorEq, ↓zR, zQ, Tr, StA, StT]
    exact h1 v g rs hp hb rfl hv rfl
  | m :: rest, pre, rs, v, g, hb, hL', hp, hv, h1, h2 => by
    have ih := lp_boPlay (h := h) (w := w) hL hs (R := R) rest (pre ++ [m])
    have hl : ms.length = pre.length + 1 + rest.length := by rw [hL']; simp; omega
    have hsg := hs.pre hp
    have hs' := hsg
    rw [hL'] at hs'
    obtain ⟨c, kk, off, hvm, hr⟩ := hs'.at hlM
    rw [← hL', hl] at hvm
    subst hvm
    rw [hl] at ih ⊢
    have hlt : (pre.length : Int) < ((pre.length + 1 + rest.length : Nat) : Int) := by omega
    have hw1 : (pre.length : Int) + 1 = ((pre ++ [m]).length : Int) := by simp
    obtain ⟨m1, m2⟩ := m
    rw [w_loopb (c := lp371_0) (d := lb371_0) rfl]; unfold lb371_0
    simp (maxSteps := 1000000) (disch := first | omega | rfl | (simp only [zL, two63, room] <;> omega) | fail) only [↓reduceIte, ↓zP, zW, WOp, evOp, evBin, binI, binSh, binS, evNil, keyIs, keyEq, mkv, AV.cells, AV.sc, optv, bnd, env, put, Env.get, Env.set, Env.del, Env.dels, Env.init, res1, resL, resV, fillP, splice, newRow, Nat.reduceEqDiff, Nat.reduceLT, Nat.reduceLeDiff, Nat.reduceAdd, Nat.reduceMul, Nat.reduceSub, Nat.reduceBEq, reduceCtorEq, ↓zR, zQ, Tr, StA, StT, hlt, hr]
    generalize hA : g ++ [AO.row [.int .i64 m1, .int .i64 m2] 0 0 false] = gA
    have pA : Pre g gA := hA ▸ Pre.push _ _
    have rA : rdRow gA g.length 0 0 2 = some [.int .i64 m1, .int .i64 m2] := by rw [← hA]; simp (maxSteps := 1000000) (disch := first | omega | rfl | (simp only [zL, two63, room] <;> omega) | fail) only [↓reduceIte, ↓zP, zW, WOp, evOp, evBin, binI, binSh, binS, evNil, keyIs, keyEq, mkv, AV.cells, AV.sc, optv, bnd, env, put, Env.get, Env.set, Env.del, Env.dels, Env.init, res1, resL, resV, fillP, splice, newRow, Nat.reduceEqDiff, Nat.reduceLT, Nat.reduceLeDiff, Nat.reduceAdd, Nat.reduceMul, Nat.reduceSub, Nat.reduceBEq, reduceCtorEq, ↓zR, zQ, Tr, StA, StT]
    try (simp (maxSteps := 1000000) (disch := first | omega | rfl | (simp only [zL, two63, room] <;> omega) | fail) only [↓reduceIte, ↓zP, zW, WOp, evOp, evBin, binI, binSh, binS, evNil, keyIs, keyEq, mkv, AV.cells, AV.sc, optv, bnd, env, put, Env.get, Env.set, Env.del, Env.dels, Env.init, res1, resL, resV, fillP, splice, newRow, Nat.reduceEqDiff, Nat.reduceLT, Nat.reduceLeDiff, Nat.reduceAdd, Nat.reduceMul, Nat.reduceSub, Nat.reduceBEq, reduceCtorEq, ↓zR, zQ, Tr, StA, StT, rA])
    refine c_boCan hb m1 m2 (hv.pre pA) ?_
    intro g2 p2
    have rA2 := rdRow_pre p2 rA
    cases e : bCan rs.flatten w h (m1, m2)
    · have hz : bPlay w h rs.flatten ((m1, m2) :: rest) = (rs.flatten, 0) := by unfold bPlay; rw [if_neg (by rw [e]; decide)]
      rw [hz] at h2
      have hq := h2 v g2 rs ((hp.trans pA).trans p2) hb rfl ((hv.pre pA).pre p2) (by simp)
      rw [Nat.add_zero] at hq
      simp (maxSteps := 1000000) (disch := first | omega | rfl | (simp only [zL, two63, room] <;> omega) | fail) only [↓reduceIte, ↓zP, zW, WOp, evOp, evBin, binI, binSh, binS, evNil, keyIs, keyEq, mkv, AV.cells, AV.sc, optv, bnd, env, put, Env.get, Env.set, Env.del, Env.dels, Env.init, res1, resL, resV, fillP, splice, newRow, Nat.reduceEqDiff, Nat.reduceLT, Nat.reduceLeDiff, Nat.reduceAdd, Nat.reduceMul, Nat.reduceSub, Nat.reduceBEq, reduceCtorEq, ↓zR, zQ, Tr, StA, StT]
      exact hq
    · obtain ⟨f, t, hft, hf, ht, hne⟩ := bCan_rng hb e
      simp only [Prod.mk.injEq] at hft
      obtain ⟨rfl, rfl⟩ := hft
      obtain ⟨hb2, hfl2⟩ := hb.make hf ht hne
      have hz : bPlay w h rs.flatten (((f : Int), (t : Int)) :: rest) = ((bPlay w h (rMake w rs f t).flatten rest).1, (bPlay w h (rMake w rs f t).flatten rest).2 + 1) := by
        rw [hfl2]
        conv => lhs; unfold bPlay
        rw [if_pos e]
        simp only [Int.toNat_natCast]
      rw [hz] at h1 h2
      simp (maxSteps := 1000000) (disch := first | omega | rfl | (simp only [zL, two63, room] <;> omega) | fail) only [↓reduceIte, ↓zP, zW, WOp, evOp, evBin, binI, binSh, binS, evNil, keyIs, keyEq, mkv, AV.cells, AV.sc, optv, bnd, env, put, Env.get, Env.set, Env.del, Env.dels, Env.init, res1, resL, resV, fillP, splice, newRow, Nat.reduceEqDiff, Nat.reduceLT, Nat.reduceLeDiff, Nat.reduceAdd, Nat.reduceMul, Nat.reduceSub, Nat.reduceBEq, reduceCtorEq, ↓zR, zQ, Tr, StA, StT, rA2]
      refine c_boMake hb hf ht ((hv.pre pA).pre p2) ?_
      intro v3 g3 ho3 p3
      simp (maxSteps := 1000000) (disch := first | omega | rfl | (simp only [zL, two63, room] <;> omega) | fail) only [↓reduceIte, ↓zP, zW, WOp, evOp, evBin, binI, binSh, binS, evNil, keyIs, keyEq, mkv, AV.cells, AV.sc, optv, bnd, env, put, Env.get, Env.set, Env.del, Env.dels, Env.init, res1, resL, resV, fillP, splice, newRow, Nat.reduceEqDiff, Nat.reduceLT, Nat.reduceLeDiff, Nat.reduceAdd, Nat.reduceMul, Nat.reduceSub, Nat.reduceBEq, reduceCtorEq, ↓zR, zQ, Tr, StA, StT, hw1]
      rw [w_loopn (c := lp371_0) rfl]
      simp (maxSteps := 1000000) (disch := first | omega | rfl | (simp only [zL, two63, room] <;> omega) | fail) only [↓reduceIte, ↓zP, zW, WOp, evOp, evBin, binI, binSh, binS, evNil, keyIs, keyEq, mkv, AV.cells, AV.sc, optv, bnd, env, put, Env.get, Env.set, Env.del, Env.dels, Env.init, res1, resL, resV, fillP, splice, newRow, Nat.reduceEqDiff, Nat.reduceLT, Nat.reduceLeDiff, Nat.reduceAdd, Nat.reduceMul, Nat.reduceSub, Nat.reduceBEq, reduceCtorEq, ↓zR, zQ, Tr, StA, StT]
      refine ih (rMake w rs f t) v3 g3 hb2 (by rw [hL']; simp) (((hp.trans pA).trans p2).trans p3) ho3.slc ?_ ?_
      · intro v' g' rs' q1 q2 q3 q4 q5
        exact h1 v' g' rs' q1 q2 q3 q4 (by simp only [List.length_cons]; omega)
      · intro v' g' rs' q1 q2 q3 q4 q5
        have hq := h2 v' g' rs' q1 q2 q3 q4 (by simp only [List.length_cons]; omega)
        have he : (pre ++ [((f : Int), (t : Int))]).length + (bPlay w h (rMake w rs f t).flatten rest).2 = pre.length + ((bPlay w h (rMake w rs f t).flatten rest).2 + 1) := by simp; omega
        rw [he]
        exact hq
theorem c_boPlay {rs : List (List UInt8)} {w h : Nat} (hb : Bd rs w h) {v vm : AV} {ms : List Mo} (hL : ms.length < 2 ^ 30) {g : AH} (hv : Slc 1 encS g v rs) (hs : Slc 2 encM g vm ms) {post : AV → AH → Prop}
    (hp : ∀ v' g' rs', Pre g g' → Bd rs' w h → rs'.flatten = (bPlay w h rs.flatten ms).1 → Slc 1 encS g' v' rs' → post (.tup [v', .int .i64 (bPlay w h rs.flatten ms).2]) g') : S 371 [v, vm] g post k := by
  refine S_of rfl T371 ?_; unfold fi371
  have hl := fun g => Slc.lenV (hs) (g := g) (ρ := fun _ => _) (x := .t 0) rfl; simp only [evOp] at hl
  simp (maxSteps := 1000000) (disch := first | omega | rfl | (simp only [zL, two63, room] <;> omega) | fail) only [↓reduceIte, ↓zP, zW, WOp, evOp, evBin, binI, binSh, binS, evNil, keyIs, keyEq, mkv, AV.cells, AV.sc, optv, bnd, env, put, Env.get, Env.set, Env.del, Env.dels, Env.init, res1, resL, resV, fillP, splice, newRow, Nat.reduceEqDiff, Nat.reduceLT, Nat.reduceLeDiff, Nat.reduceAdd, Nat.reduceMul, Nat.reduceSub, Nat.reduceBEq, reduceCtorEq, ↓zR, zQ, Tr, StA, StT, hl]
  refine lp_boPlay hL hs ms [] rs v g hb rfl (Pre.refl _) hv ?_ ?_
  · intro v' g' rs' q1 q2 q3 q4 q5
    have hl2 := fun g => Slc.lenV ((hs.pre q1)) (g := g) (ρ := fun _ => _) (x := .t 0) rfl; simp only [evOp] at hl2
    simp (maxSteps := 1000000) (disch := first | omega | rfl | (simp only [zL, two63, room] <;> omega) | fail) only [↓reduceIte, ↓zP, zW, WOp, evOp, evBin, binI, binSh, binS, evNil, keyIs, keyEq, mkv, AV.cells, AV.sc, optv, bnd, env, put, Env.get, Env.set, Env.del, Env.dels, Env.init, res1, resL, resV, fillP, splice, newRow, Nat.reduceEqDiff, Nat.reduceLT, Nat.reduceLeDiff, Nat.reduceAdd, Nat.reduceMul, Nat.reduceSub, Nat.reduceBEq, reduceCtorEq, ↓zR, zQ, Tr, StA, StT, hl2]
    have := hp v' g' rs' q1 q2 q3 q4
    rw [q5] at this
    exact this
  · intro v' g' rs' q1 q2 q3 q4 q5
    simp (maxSteps := 1000000) (disch := first | omega | rfl | (simp only [zL, two63, room] <;> omega) | fail) only [↓reduceIte, ↓zP, zW, WOp, evOp, evBin, binI, binSh, binS, evNil, keyIs, keyEq, mkv, AV.cells, AV.sc, optv, bnd, env, put, Env.get, Env.set, Env.del, Env.dels, Env.init, res1, resL, resV, fillP, splice, newRow, Nat.reduceEqDiff, Nat.reduceLT, Nat.reduceLeDiff, Nat.reduceAdd, Nat.reduceMul, Nat.reduceSub, Nat.reduceBEq, reduceCtorEq, ↓zR, zQ, Tr, StA, StT]
    have := hp v' g' rs' q1 q2 q3 q4
    simpa using this
/-- What a play on a board comes to. -/
def plN (b : List UInt8) (ms : List Mo) : Nat := (bPlay (bW b) (spl b).length (noB 47 b) ms).2
def plG (b : List UInt8) (ms : List Mo) : Bool := boOK b && decide (ms.length ≤ 200)
def plA (b : List UInt8) (ms : List Mo) : Bool := plG b ms && decide (plN b ms = ms.length)
def plT (b : List UInt8) (ms : List Mo) : List UInt8 := if plA b ms then txB (rowsB (bW b) (spl b).length (bPlay (bW b) (spl b).length (noB 47 b) ms).1) else []
theorem nob_fl (b : List UInt8) : noB 47 b = (spl b).flatten := (spl_flat b).symm
theorem c_sPlayOnBoard (b : List UInt8) (hb : b.length < 2 ^ 30) {vm : AV} {ms : List Mo} (hL : ms.length < 2 ^ 30) {g : AH} (hs : Slc 2 encM g vm ms) {post : AV → AH → Prop} (hp : ∀ g', Pre g g' → post (.tup [.str (plT b ms), .bool (plA b ms)]) g') : S 370 [.str b, vm] g post k := by
  have hg : plG b ms = (boOK b && decide (ms.length ≤ 200)) := rfl
  have ha : plA b ms = (plG b ms && decide (plN b ms = ms.length)) := rfl
  have hno : plA b ms = false → ∀ g', Pre g g' → post (.tup [.str [], .bool false]) g' := fun e g' p => by
    have := hp g' p
    unfold plT at this
    rw [e] at this
    exact this
  have hle := bPlay_le (bW b) (spl b).length ms (noB 47 b)
  refine S_of rfl T370 ?_; unfold fi370
  simp (maxSteps := 1000000) (disch := first | omega | rfl | (simp only [zL, two63, room] <;> omega) | fail) only [↓reduceIte, ↓zP, zW, WOp, evOp, evBin, binI, binSh, binS, evNil, keyIs, keyEq, mkv, AV.cells, AV.sc, optv, bnd, env, put, Env.get, Env.set, Env.del, Env.dels, Env.init, res1, resL, resV, fillP, splice, newRow, Nat.reduceEqDiff, Nat.reduceLT, Nat.reduceLeDiff, Nat.reduceAdd, Nat.reduceMul, Nat.reduceSub, Nat.reduceBEq, reduceCtorEq, ↓zR, zQ, Tr, StA, StT]
  refine c_boRows b hb ?_ ?_
  · intro e v g1 ho p1
    have hl := fun g => Slc.lenV ((hs.pre p1)) (g := g) (ρ := fun _ => _) (x := .t 0) rfl; simp only [evOp] at hl
    by_cases e2 : ms.length ≤ 200
    · have e2' : (ms.length : Int) ≤ 200 := by omega
      simp (maxSteps := 1000000) (disch := first | omega | rfl | (simp only [zL, two63, room] <;> omega) | fail) only [↓reduceIte, ↓zP, zW, WOp, evOp, evBin, binI, binSh, binS, evNil, keyIs, keyEq, mkv, AV.cells, AV.sc, optv, bnd, env, put, Env.get, Env.set, Env.del, Env.dels, Env.init, res1, resL, resV, fillP, splice, newRow, Nat.reduceEqDiff, Nat.reduceLT, Nat.reduceLeDiff, Nat.reduceAdd, Nat.reduceMul, Nat.reduceSub, Nat.reduceBEq, reduceCtorEq, ↓zR, zQ, Tr, StA, StT, hl, e2']
      have hd := boOK_bd e
      refine c_boPlay hd hL ho.slc (hs.pre p1) ?_
      intro v' g2 rs' p2 hb' hfl hv'
      have hnn : (bPlay ((spl b).getD 0 []).length (spl b).length (spl b).flatten ms).2 = plN b ms := by unfold plN bW; rw [nob_fl]
      have hcc : (bPlay ((spl b).getD 0 []).length (spl b).length (spl b).flatten ms).1 = (bPlay (bW b) (spl b).length (noB 47 b) ms).1 := by unfold bW; rw [nob_fl]
      rw [hnn]
      rw [hcc] at hfl
      have hl2 := fun g => Slc.lenV (((hs.pre p1).pre p2)) (g := g) (ρ := fun _ => _) (x := .t 0) rfl; simp only [evOp] at hl2
      have hlen : plN b ms ≤ ms.length := hle
      by_cases e3 : plN b ms = ms.length
      · have hA : plA b ms = true := by rw [ha, hg, e, decide_eq_true e2, decide_eq_true e3]; rfl
        have hT : plT b ms = txB rs' := by
          unfold plT
          rw [hA, if_pos rfl, ← hfl]
          congr 1
          exact rowsB_eq hb'
        have e3' : (ms.length : Int) ≤ (plN b ms : Int) := by omega
        simp (maxSteps := 1000000) (disch := first | omega | rfl | (simp only [zL, two63, room] <;> omega) | fail) only [↓reduceIte, ↓zP, zW, WOp, evOp, evBin, binI, binSh, binS, evNil, keyIs, keyEq, mkv, AV.cells, AV.sc, optv, bnd, env, put, Env.get, Env.set, Env.del, Env.dels, Env.init, res1, resL, resV, fillP, splice, newRow, Nat.reduceEqDiff, Nat.reduceLT, Nat.reduceLeDiff, Nat.reduceAdd, Nat.reduceMul, Nat.reduceSub, Nat.reduceBEq, reduceCtorEq, ↓zR, zQ, Tr, StA, StT, hl2, e3']
        refine c_boText hb' hv' ?_
        have hq := hp g2 (p1.trans p2)
        rw [hT, hA] at hq
        simp (maxSteps := 1000000) (disch := first | omega | rfl | (simp only [zL, two63, room] <;> omega) | fail) only [↓reduceIte, ↓zP, zW, WOp, evOp, evBin, binI, binSh, binS, evNil, keyIs, keyEq, mkv, AV.cells, AV.sc, optv, bnd, env, put, Env.get, Env.set, Env.del, Env.dels, Env.init, res1, resL, resV, fillP, splice, newRow, Nat.reduceEqDiff, Nat.reduceLT, Nat.reduceLeDiff, Nat.reduceAdd, Nat.reduceMul, Nat.reduceSub, Nat.reduceBEq, reduceCtorEq, ↓zR, zQ, Tr, StA, StT]
        exact hq
      · have hA : plA b ms = false := by rw [ha, decide_eq_false e3]; simp
        have e3' : (plN b ms : Int) < (ms.length : Int) := by omega
        simp (maxSteps := 1000000) (disch := first | omega | rfl | (simp only [zL, two63, room] <;> omega) | fail) only [↓reduceIte, ↓zP, zW, WOp, evOp, evBin, binI, binSh, binS, evNil, keyIs, keyEq, mkv, AV.cells, AV.sc, optv, bnd, env, put, Env.get, Env.set, Env.del, Env.dels, Env.init, res1, resL, resV, fillP, splice, newRow, Nat.reduceEqDiff, Nat.reduceLT, Nat.reduceLeDiff, Nat.reduceAdd, Nat.reduceMul, Nat.reduceSub, Nat.reduceBEq, reduceCtorEq, ↓zR, zQ, Tr, StA, StT, hl2, e3']
        exact hno hA g2 (p1.trans p2)
    · have e2' : (ms.length : Int) > 200 := by omega
      have hA : plA b ms = false := by rw [ha, hg, decide_eq_false e2]; simp
      simp (maxSteps := 1000000) (disch := first | omega | rfl | (simp only [zL, two63, room] <;> omega) | fail) only [↓reduceIte, ↓zP, zW, WOp, evOp, evBin, binI, binSh, binS, evNil, keyIs, keyEq, mkv, AV.cells, AV.sc, optv, bnd, env, put, Env.get, Env.set, Env.del, Env.dels, Env.init, res1, resL, resV, fillP, splice, newRow, Nat.reduceEqDiff, Nat.reduceLT, Nat.reduceLeDiff, Nat.reduceAdd, Nat.reduceMul, Nat.reduceSub, Nat.reduceBEq, reduceCtorEq, ↓zR, zQ, Tr, StA, StT, hl, e2']
      exact hno hA g1 p1
  · intro e g1 p1
    have hA : plA b ms = false := by rw [ha, hg, e]; simp
    simp (maxSteps := 1000000) (disch := first | omega | rfl | (simp only [zL, two63, room] <;> omega) | fail) only [↓reduceIte, ↓zP, zW, WOp, evOp, evBin, binI, binSh, binS, evNil, keyIs, keyEq, mkv, AV.cells, AV.sc, optv, bnd, env, put, Env.get, Env.set, Env.del, Env.dels, Env.init, res1, resL, resV, fillP, splice, newRow, Nat.reduceEqDiff, Nat.reduceLT, Nat.reduceLeDiff, Nat.reduceAdd, Nat.reduceMul, Nat.reduceSub, Nat.reduceBEq, reduceCtorEq, ↓zR, zQ, Tr, StA, StT]
    exact hno hA g1 p1
theorem c_PlayOnBoard (b : List UInt8) (hb : b.length < 2 ^ 30) {vm : AV} {ms : List Mo} (hL : ms.length < 2 ^ 30) {g : AH} (hs : Slc 2 encM g vm ms) {post : AV → AH → Prop} (hp : ∀ g', Pre g g' → post (.tup [.str (plT b ms), .bool (plA b ms)]) g') : S 336 [.str b, vm] g post k := by
  have hg : plG b ms = (boOK b && decide (ms.length ≤ 200)) := rfl
  have ha : plA b ms = (plG b ms && decide (plN b ms = ms.length)) := rfl
  have hno : plA b ms = false → ∀ g', Pre g g' → post (.tup [.str [], .bool false]) g' := fun e g' p => by
    have := hp g' p
    unfold plT at this
    rw [e] at this
    exact this
  have hle := bPlay_le (bW b) (spl b).length ms (noB 47 b)
  refine S_of rfl T336 ?_; unfold fi336
  simp (maxSteps := 1000000) (disch := first | omega | rfl | (simp only [zL, two63, room] <;> omega) | fail) only [↓reduceIte, ↓zP, zW, WOp, evOp, evBin, binI, binSh, binS, evNil, keyIs, keyEq, mkv, AV.cells, AV.sc, optv, bnd, env, put, Env.get, Env.set, Env.del, Env.dels, Env.init, res1, resL, resV, fillP, splice, newRow, Nat.reduceEqDiff, Nat.reduceLT, Nat.reduceLeDiff, Nat.reduceAdd, Nat.reduceMul, Nat.reduceSub, Nat.reduceBEq, reduceCtorEq, ↓zR, zQ, Tr, StA, StT]
  refine c_IsBoard b hb ?_
  intro g1 p1
  cases e : boOK b
  · have hA : plA b ms = false := by rw [ha, hg, e]; simp
    simp (maxSteps := 1000000) (disch := first | omega | rfl | (simp only [zL, two63, room] <;> omega) | fail) only [↓reduceIte, ↓zP, zW, WOp, evOp, evBin, binI, binSh, binS, evNil, keyIs, keyEq, mkv, AV.cells, AV.sc, optv, bnd, env, put, Env.get, Env.set, Env.del, Env.dels, Env.init, res1, resL, resV, fillP, splice, newRow, Nat.reduceEqDiff, Nat.reduceLT, Nat.reduceLeDiff, Nat.reduceAdd, Nat.reduceMul, Nat.reduceSub, Nat.reduceBEq, reduceCtorEq, ↓zR, zQ, Tr, StA, StT]
    exact hno hA g1 p1
  have hl := fun g => Slc.lenV ((hs.pre p1)) (g := g) (ρ := fun _ => _) (x := .t 0) rfl; simp only [evOp] at hl
  by_cases e2 : ms.length ≤ 200
  · have e2' : (ms.length : Int) ≤ 200 := by omega
    simp (maxSteps := 1000000) (disch := first | omega | rfl | (simp only [zL, two63, room] <;> omega) | fail) only [↓reduceIte, ↓zP, zW, WOp, evOp, evBin, binI, binSh, binS, evNil, keyIs, keyEq, mkv, AV.cells, AV.sc, optv, bnd, env, put, Env.get, Env.set, Env.del, Env.dels, Env.init, res1, resL, resV, fillP, splice, newRow, Nat.reduceEqDiff, Nat.reduceLT, Nat.reduceLeDiff, Nat.reduceAdd, Nat.reduceMul, Nat.reduceSub, Nat.reduceBEq, reduceCtorEq, ↓zR, zQ, Tr, StA, StT, hl, e2']
    refine c_boardOf b hb ?_
    intro g2 p2
    have hd : Bd (spl b) (bW b) (spl b).length := boOK_bd e
    have hs2 := (hs.pre p1).pre p2
    obtain ⟨rs', hb', hfl⟩ := bPlay_bd ms (spl b) hd
    simp (maxSteps := 1000000) (disch := first | omega | rfl | (simp only [zL, two63, room] <;> omega) | fail) only [↓reduceIte, ↓zP, zW, WOp, evOp, evBin, binI, binSh, binS, evNil, keyIs, keyEq, mkv, AV.cells, AV.sc, optv, bnd, env, put, Env.get, Env.set, Env.del, Env.dels, Env.init, res1, resL, resV, fillP, splice, newRow, Nat.reduceEqDiff, Nat.reduceLT, Nat.reduceLeDiff, Nat.reduceAdd, Nat.reduceMul, Nat.reduceSub, Nat.reduceBEq, reduceCtorEq, ↓zR, zQ, Tr, StA, StT]
    rw [nob_fl]
    have hnn : (bPlay (bW b) (spl b).length (spl b).flatten ms).2 = plN b ms := by unfold plN; rw [nob_fl]
    have hcc : (bPlay (bW b) (spl b).length (spl b).flatten ms).1 = (bPlay (bW b) (spl b).length (noB 47 b) ms).1 := by rw [nob_fl]
    refine c_bPlay hd hL hs2 ?_ ?_
    · intro g3 p3 e3
      rw [hnn] at e3
      rw [hcc] at hfl ⊢
      have hl2 := fun g => Slc.lenV ((hs2.pre p3)) (g := g) (ρ := fun _ => _) (x := .t 0) rfl; simp only [evOp] at hl2
      have hA : plA b ms = true := by rw [ha, hg, e, decide_eq_true e2, decide_eq_true e3]; rfl
      have hT : plT b ms = txB rs' := by
        unfold plT
        rw [hA, if_pos rfl, ← hfl]
        congr 1
        exact rowsB_eq hb'
      rw [← hfl]
      generalize hB : g3 ++ [AO.row [.str rs'.flatten, .int .i64 (bW b : Int)] 0 0 false] = gB
      have pB : Pre g3 gB := hB ▸ Pre.push _ _
      have rB : rdRow gB g3.length 0 0 2 = some [.str rs'.flatten, .int .i64 (bW b : Int)] := by rw [← hB]; simp (maxSteps := 1000000) (disch := first | omega | rfl | (simp only [zL, two63, room] <;> omega) | fail) only [↓reduceIte, ↓zP, zW, WOp, evOp, evBin, binI, binSh, binS, evNil, keyIs, keyEq, mkv, AV.cells, AV.sc, optv, bnd, env, put, Env.get, Env.set, Env.del, Env.dels, Env.init, res1, resL, resV, fillP, splice, newRow, Nat.reduceEqDiff, Nat.reduceLT, Nat.reduceLeDiff, Nat.reduceAdd, Nat.reduceMul, Nat.reduceSub, Nat.reduceBEq, reduceCtorEq, ↓zR, zQ, Tr, StA, StT]
      simp (maxSteps := 1000000) (disch := first | omega | rfl | (simp only [zL, two63, room] <;> omega) | fail) only [↓reduceIte, ↓zP, zW, WOp, evOp, evBin, binI, binSh, binS, evNil, keyIs, keyEq, mkv, AV.cells, AV.sc, optv, bnd, env, put, Env.get, Env.set, Env.del, Env.dels, Env.init, res1, resL, resV, fillP, splice, newRow, Nat.reduceEqDiff, Nat.reduceLT, Nat.reduceLeDiff, Nat.reduceAdd, Nat.reduceMul, Nat.reduceSub, Nat.reduceBEq, reduceCtorEq, ↓zR, zQ, Tr, StA, StT, hl2, hB, rB]
      refine c_bText hb' ?_
      intro g4 p4
      have hq := hp g4 ((((p1.trans p2).trans p3).trans pB).trans p4)
      rw [hT, hA] at hq
      simp (maxSteps := 1000000) (disch := first | omega | rfl | (simp only [zL, two63, room] <;> omega) | fail) only [↓reduceIte, ↓zP, zW, WOp, evOp, evBin, binI, binSh, binS, evNil, keyIs, keyEq, mkv, AV.cells, AV.sc, optv, bnd, env, put, Env.get, Env.set, Env.del, Env.dels, Env.init, res1, resL, resV, fillP, splice, newRow, Nat.reduceEqDiff, Nat.reduceLT, Nat.reduceLeDiff, Nat.reduceAdd, Nat.reduceMul, Nat.reduceSub, Nat.reduceBEq, reduceCtorEq, ↓zR, zQ, Tr, StA, StT]
      exact hq
    · intro g3 p3 e3
      rw [hnn] at e3 ⊢
      have hl2 := fun g => Slc.lenV ((hs2.pre p3)) (g := g) (ρ := fun _ => _) (x := .t 0) rfl; simp only [evOp] at hl2
      have hA : plA b ms = false := by rw [ha, decide_eq_false (by omega)]; simp
      have e3' : (plN b ms : Int) < (ms.length : Int) := by omega
      have pB := Pre.push g3 (AO.row [.str [], .int .i64 (bW b : Int)] 0 0 false)
      simp (maxSteps := 1000000) (disch := first | omega | rfl | (simp only [zL, two63, room] <;> omega) | fail) only [↓reduceIte, ↓zP, zW, WOp, evOp, evBin, binI, binSh, binS, evNil, keyIs, keyEq, mkv, AV.cells, AV.sc, optv, bnd, env, put, Env.get, Env.set, Env.del, Env.dels, Env.init, res1, resL, resV, fillP, splice, newRow, Nat.reduceEqDiff, Nat.reduceLT, Nat.reduceLeDiff, Nat.reduceAdd, Nat.reduceMul, Nat.reduceSub, Nat.reduceBEq, reduceCtorEq, ↓zR, zQ, Tr, StA, StT, hl2, e3']
      exact hno hA _ (((p1.trans p2).trans p3).trans pB)
  · have e2' : (ms.length : Int) > 200 := by omega
    have hA : plA b ms = false := by rw [ha, hg, decide_eq_false e2]; simp
    simp (maxSteps := 1000000) (disch := first | omega | rfl | (simp only [zL, two63, room] <;> omega) | fail) only [↓reduceIte, ↓zP, zW, WOp, evOp, evBin, binI, binSh, binS, evNil, keyIs, keyEq, mkv, AV.cells, AV.sc, optv, bnd, env, put, Env.get, Env.set, Env.del, Env.dels, Env.init, res1, resL, resV, fillP, splice, newRow, Nat.reduceEqDiff, Nat.reduceLT, Nat.reduceLeDiff, Nat.reduceAdd, Nat.reduceMul, Nat.reduceSub, Nat.reduceBEq, reduceCtorEq, ↓zR, zQ, Tr, StA, StT, hl, e2']
    exact hno hA g1 p1

theorem c_sMoveThatFails (b : List UInt8) (hb : b.length < 2 ^ 30) {vm : AV} {ms : List Mo} (hL : ms.length < 2 ^ 30) {g : AH} (hs : Slc 2 encM g vm ms) {post : AV → AH → Prop} (hp : ∀ g', Pre g g' → post (.tup [.int .i64 ((if plG b ms && !plA b ms then plN b ms else 0 : Nat) : Int), .bool (plG b ms && !plA b ms)]) g') : S 367 [.str b, vm] g post k := by
  have hg : plG b ms = (boOK b && decide (ms.length ≤ 200)) := rfl
  have ha : plA b ms = (plG b ms && decide (plN b ms = ms.length)) := rfl
  have hno : (plG b ms && !plA b ms) = false → ∀ g', Pre g g' → post (.tup [.int .i64 0, .bool false]) g' := fun e g' p => by
    have := hp g' p
    rw [e] at this
    exact this
  have hle := bPlay_le (bW b) (spl b).length ms (noB 47 b)
  refine S_of rfl T367 ?_; unfold fi367
  simp (maxSteps := 1000000) (disch := first | omega | rfl | (simp only [zL, two63, room] <;> omega) | fail) only [↓reduceIte, ↓zP, zW, WOp, evOp, evBin, binI, binSh, binS, evNil, keyIs, keyEq, mkv, AV.cells, AV.sc, optv, bnd, env, put, Env.get, Env.set, Env.del, Env.dels, Env.init, res1, resL, resV, fillP, splice, newRow, Nat.reduceEqDiff, Nat.reduceLT, Nat.reduceLeDiff, Nat.reduceAdd, Nat.reduceMul, Nat.reduceSub, Nat.reduceBEq, reduceCtorEq, ↓zR, zQ, Tr, StA, StT]
  refine c_boRows b hb ?_ ?_
  · intro e v g1 ho p1
    have hl := fun g => Slc.lenV ((hs.pre p1)) (g := g) (ρ := fun _ => _) (x := .t 0) rfl; simp only [evOp] at hl
    by_cases e2 : ms.length ≤ 200
    · have e2' : (ms.length : Int) ≤ 200 := by omega
      simp (maxSteps := 1000000) (disch := first | omega | rfl | (simp only [zL, two63, room] <;> omega) | fail) only [↓reduceIte, ↓zP, zW, WOp, evOp, evBin, binI, binSh, binS, evNil, keyIs, keyEq, mkv, AV.cells, AV.sc, optv, bnd, env, put, Env.get, Env.set, Env.del, Env.dels, Env.init, res1, resL, resV, fillP, splice, newRow, Nat.reduceEqDiff, Nat.reduceLT, Nat.reduceLeDiff, Nat.reduceAdd, Nat.reduceMul, Nat.reduceSub, Nat.reduceBEq, reduceCtorEq, ↓zR, zQ, Tr, StA, StT, hl, e2']
      have hd := boOK_bd e
      refine c_boPlay hd hL ho.slc (hs.pre p1) ?_
      intro v' g2 rs' p2 hb' hfl hv'
      have hnn : (bPlay ((spl b).getD 0 []).length (spl b).length (spl b).flatten ms).2 = plN b ms := by unfold plN bW; rw [nob_fl]
      rw [hnn]
      have hl2 := fun g => Slc.lenV (((hs.pre p1).pre p2)) (g := g) (ρ := fun _ => _) (x := .t 0) rfl; simp only [evOp] at hl2
      have hG : plG b ms = true := by rw [hg, e, decide_eq_true e2]; rfl
      have hlen : plN b ms ≤ ms.length := hle
      by_cases e3 : plN b ms = ms.length
      · have hA : plA b ms = true := by rw [ha, hG, decide_eq_true e3]; rfl
        have e3' : (plN b ms : Int) = (ms.length : Int) := by omega
        simp (maxSteps := 1000000) (disch := first | omega | rfl | (simp only [zL, two63, room] <;> omega) | fail) only [↓reduceIte, ↓zP, zW, WOp, evOp, evBin, binI, binSh, binS, evNil, keyIs, keyEq, mkv, AV.cells, AV.sc, optv, bnd, env, put, Env.get, Env.set, Env.del, Env.dels, Env.init, res1, resL, resV, fillP, splice, newRow, Nat.reduceEqDiff, Nat.reduceLT, Nat.reduceLeDiff, Nat.reduceAdd, Nat.reduceMul, Nat.reduceSub, Nat.reduceBEq, reduceCtorEq, ↓zR, zQ, Tr, StA, StT, hl2, e3']
        exact hno (by rw [hG, hA]; rfl) g2 (p1.trans p2)
      · have hA : plA b ms = false := by rw [ha, decide_eq_false e3]; simp
        have e3' : (plN b ms : Int) ≠ (ms.length : Int) := by omega
        have hq := hp g2 (p1.trans p2)
        rw [hG, hA] at hq
        simp (maxSteps := 1000000) (disch := first | omega | rfl | (simp only [zL, two63, room] <;> omega) | fail) only [↓reduceIte, ↓zP, zW, WOp, evOp, evBin, binI, binSh, binS, evNil, keyIs, keyEq, mkv, AV.cells, AV.sc, optv, bnd, env, put, Env.get, Env.set, Env.del, Env.dels, Env.init, res1, resL, resV, fillP, splice, newRow, Nat.reduceEqDiff, Nat.reduceLT, Nat.reduceLeDiff, Nat.reduceAdd, Nat.reduceMul, Nat.reduceSub, Nat.reduceBEq, reduceCtorEq, ↓zR, zQ, Tr, StA, StT, hl2, e3']
        exact hq
    · have e2' : (ms.length : Int) > 200 := by omega
      have hG : plG b ms = false := by rw [hg, decide_eq_false e2]; simp
      simp (maxSteps := 1000000) (disch := first | omega | rfl | (simp only [zL, two63, room] <;> omega) | fail) only [↓reduceIte, ↓zP, zW, WOp, evOp, evBin, binI, binSh, binS, evNil, keyIs, keyEq, mkv, AV.cells, AV.sc, optv, bnd, env, put, Env.get, Env.set, Env.del, Env.dels, Env.init, res1, resL, resV, fillP, splice, newRow, Nat.reduceEqDiff, Nat.reduceLT, Nat.reduceLeDiff, Nat.reduceAdd, Nat.reduceMul, Nat.reduceSub, Nat.reduceBEq, reduceCtorEq, ↓zR, zQ, Tr, StA, StT, hl, e2']
      exact hno (by rw [hG]; rfl) g1 p1
  · intro e g1 p1
    have hG : plG b ms = false := by rw [hg, e]; simp
    simp (maxSteps := 1000000) (disch := first | omega | rfl | (simp only [zL, two63, room] <;> omega) | fail) only [↓reduceIte, ↓zP, zW, WOp, evOp, evBin, binI, binSh, binS, evNil, keyIs, keyEq, mkv, AV.cells, AV.sc, optv, bnd, env, put, Env.get, Env.set, Env.del, Env.dels, Env.init, res1, resL, resV, fillP, splice, newRow, Nat.reduceEqDiff, Nat.reduceLT, Nat.reduceLeDiff, Nat.reduceAdd, Nat.reduceMul, Nat.reduceSub, Nat.reduceBEq, reduceCtorEq, ↓zR, zQ, Tr, StA, StT]
    exact hno (by rw [hG]; rfl) g1 p1
theorem c_MoveThatFails (b : List UInt8) (hb : b.length < 2 ^ 30) {vm : AV} {ms : List Mo} (hL : ms.length < 2 ^ 30) {g : AH} (hs : Slc 2 encM g vm ms) {post : AV → AH → Prop} (hp : ∀ g', Pre g g' → post (.tup [.int .i64 ((if plG b ms && !plA b ms then plN b ms else 0 : Nat) : Int), .bool (plG b ms && !plA b ms)]) g') : S 368 [.str b, vm] g post k := by
  have hg : plG b ms = (boOK b && decide (ms.length ≤ 200)) := rfl
  have ha : plA b ms = (plG b ms && decide (plN b ms = ms.length)) := rfl
  have hno : (plG b ms && !plA b ms) = false → ∀ g', Pre g g' → post (.tup [.int .i64 0, .bool false]) g' := fun e g' p => by
    have := hp g' p
    rw [e] at this
    exact this
  have hle := bPlay_le (bW b) (spl b).length ms (noB 47 b)
  refine S_of rfl T368 ?_; unfold fi368
  simp (maxSteps := 1000000) (disch := first | omega | rfl | (simp only [zL, two63, room] <;> omega) | fail) only [↓reduceIte, ↓zP, zW, WOp, evOp, evBin, binI, binSh, binS, evNil, keyIs, keyEq, mkv, AV.cells, AV.sc, optv, bnd, env, put, Env.get, Env.set, Env.del, Env.dels, Env.init, res1, resL, resV, fillP, splice, newRow, Nat.reduceEqDiff, Nat.reduceLT, Nat.reduceLeDiff, Nat.reduceAdd, Nat.reduceMul, Nat.reduceSub, Nat.reduceBEq, reduceCtorEq, ↓zR, zQ, Tr, StA, StT]
  refine c_IsBoard b hb ?_
  intro g1 p1
  cases e : boOK b
  · have hG : plG b ms = false := by rw [hg, e]; simp
    simp (maxSteps := 1000000) (disch := first | omega | rfl | (simp only [zL, two63, room] <;> omega) | fail) only [↓reduceIte, ↓zP, zW, WOp, evOp, evBin, binI, binSh, binS, evNil, keyIs, keyEq, mkv, AV.cells, AV.sc, optv, bnd, env, put, Env.get, Env.set, Env.del, Env.dels, Env.init, res1, resL, resV, fillP, splice, newRow, Nat.reduceEqDiff, Nat.reduceLT, Nat.reduceLeDiff, Nat.reduceAdd, Nat.reduceMul, Nat.reduceSub, Nat.reduceBEq, reduceCtorEq, ↓zR, zQ, Tr, StA, StT]
    exact hno (by rw [hG]; rfl) g1 p1
  have hl := fun g => Slc.lenV ((hs.pre p1)) (g := g) (ρ := fun _ => _) (x := .t 0) rfl; simp only [evOp] at hl
  by_cases e2 : ms.length ≤ 200
  · have e2' : (ms.length : Int) ≤ 200 := by omega
    simp (maxSteps := 1000000) (disch := first | omega | rfl | (simp only [zL, two63, room] <;> omega) | fail) only [↓reduceIte, ↓zP, zW, WOp, evOp, evBin, binI, binSh, binS, evNil, keyIs, keyEq, mkv, AV.cells, AV.sc, optv, bnd, env, put, Env.get, Env.set, Env.del, Env.dels, Env.init, res1, resL, resV, fillP, splice, newRow, Nat.reduceEqDiff, Nat.reduceLT, Nat.reduceLeDiff, Nat.reduceAdd, Nat.reduceMul, Nat.reduceSub, Nat.reduceBEq, reduceCtorEq, ↓zR, zQ, Tr, StA, StT, hl, e2']
    refine c_boardOf b hb ?_
    intro g2 p2
    have hd : Bd (spl b) (bW b) (spl b).length := boOK_bd e
    have hs2 := (hs.pre p1).pre p2
    simp (maxSteps := 1000000) (disch := first | omega | rfl | (simp only [zL, two63, room] <;> omega) | fail) only [↓reduceIte, ↓zP, zW, WOp, evOp, evBin, binI, binSh, binS, evNil, keyIs, keyEq, mkv, AV.cells, AV.sc, optv, bnd, env, put, Env.get, Env.set, Env.del, Env.dels, Env.init, res1, resL, resV, fillP, splice, newRow, Nat.reduceEqDiff, Nat.reduceLT, Nat.reduceLeDiff, Nat.reduceAdd, Nat.reduceMul, Nat.reduceSub, Nat.reduceBEq, reduceCtorEq, ↓zR, zQ, Tr, StA, StT]
    rw [nob_fl]
    have hnn : (bPlay (bW b) (spl b).length (spl b).flatten ms).2 = plN b ms := by unfold plN; rw [nob_fl]
    have hG : plG b ms = true := by rw [hg, e, decide_eq_true e2]; rfl
    refine c_bPlay hd hL hs2 ?_ ?_
    · intro g3 p3 e3
      rw [hnn] at e3
      have hl2 := fun g => Slc.lenV ((hs2.pre p3)) (g := g) (ρ := fun _ => _) (x := .t 0) rfl; simp only [evOp] at hl2
      have hA : plA b ms = true := by rw [ha, hG, decide_eq_true e3]; rfl
      have pB := Pre.push g3 (AO.row [.str (bPlay (bW b) (spl b).length (spl b).flatten ms).1, .int .i64 (bW b : Int)] 0 0 false)
      simp (maxSteps := 1000000) (disch := first | omega | rfl | (simp only [zL, two63, room] <;> omega) | fail) only [↓reduceIte, ↓zP, zW, WOp, evOp, evBin, binI, binSh, binS, evNil, keyIs, keyEq, mkv, AV.cells, AV.sc, optv, bnd, env, put, Env.get, Env.set, Env.del, Env.dels, Env.init, res1, resL, resV, fillP, splice, newRow, Nat.reduceEqDiff, Nat.reduceLT, Nat.reduceLeDiff, Nat.reduceAdd, Nat.reduceMul, Nat.reduceSub, Nat.reduceBEq, reduceCtorEq, ↓zR, zQ, Tr, StA, StT, hl2]
      exact hno (by rw [hG, hA]; rfl) _ (((p1.trans p2).trans p3).trans pB)
    · intro g3 p3 e3
      rw [hnn] at e3 ⊢
      have hl2 := fun g => Slc.lenV ((hs2.pre p3)) (g := g) (ρ := fun _ => _) (x := .t 0) rfl; simp only [evOp] at hl2
      have hA : plA b ms = false := by rw [ha, decide_eq_false (by omega)]; simp
      have e3' : (plN b ms : Int) ≠ (ms.length : Int) := by omega
      have pB := Pre.push g3 (AO.row [.str [], .int .i64 (bW b : Int)] 0 0 false)
      have hq := hp _ (((p1.trans p2).trans p3).trans pB)
      rw [hG, hA] at hq
      simp (maxSteps := 1000000) (disch := first | omega | rfl | (simp only [zL, two63, room] <;> omega) | fail) only [↓reduceIte, ↓zP, zW, WOp, evOp, evBin, binI, binSh, binS, evNil, keyIs, keyEq, mkv, AV.cells, AV.sc, optv, bnd, env, put, Env.get, Env.set, Env.del, Env.dels, Env.init, res1, resL, resV, fillP, splice, newRow, Nat.reduceEqDiff, Nat.reduceLT, Nat.reduceLeDiff, Nat.reduceAdd, Nat.reduceMul, Nat.reduceSub, Nat.reduceBEq, reduceCtorEq, ↓zR, zQ, Tr, StA, StT, hl2, e3']
      exact hq
  · have e2' : (ms.length : Int) > 200 := by omega
    have hG : plG b ms = false := by rw [hg, decide_eq_false e2]; simp
    simp (maxSteps := 1000000) (disch := first | omega | rfl | (simp only [zL, two63, room] <;> omega) | fail) only [↓reduceIte, ↓zP, zW, WOp, evOp, evBin, binI, binSh, binS, evNil, keyIs, keyEq, mkv, AV.cells, AV.sc, optv, bnd, env, put, Env.get, Env.set, Env.del, Env.dels, Env.init, res1, resL, resV, fillP, splice, newRow, Nat.reduceEqDiff, Nat.reduceLT, Nat.reduceLeDiff, Nat.reduceAdd, Nat.reduceMul, Nat.reduceSub, Nat.reduceBEq, reduceCtorEq, ↓zR, zQ, Tr, StA, StT, hl, e2']
    exact hno (by rw [hG]; rfl) g1 p1

/-! ### The laws -/
theorem c_toMove (m : Mo) {h : AH} {post : AV → AH → Prop} (hp : ∀ h', Pre h h' → post (.agg (encM m)) h') : S 325 [.agg (encM m)] h post k := by
  refine S_of rfl T325 ?_; unfold fi325
  simp (maxSteps := 1000000) (disch := first | omega | rfl | (simp only [zL, two63, room] <;> omega) | fail) only [↓reduceIte, ↓zP, zW, WOp, evOp, evBin, binI, binSh, binS, evNil, keyIs, keyEq, mkv, AV.cells, AV.sc, optv, bnd, env, put, Env.get, Env.set, Env.del, Env.dels, Env.init, res1, resL, resV, fillP, splice, newRow, Nat.reduceEqDiff, Nat.reduceLT, Nat.reduceLeDiff, Nat.reduceAdd, Nat.reduceMul, Nat.reduceSub, Nat.reduceBEq, reduceCtorEq, ↓zR, zQ, Tr, StA, StT]
  exact hp _ ((Pre.push _ _).trans ((Pre.push _ _).trans (Pre.push _ _)))
theorem rep_flatM (n : Nat) : (List.replicate n [AV.int .i64 0, AV.int .i64 0]).flatten = (List.replicate n ((0, 0) : Mo)).flatMap encM := by
  induction n with
  | zero => rfl
  | succ n ih => rw [List.replicate_succ, List.replicate_succ, List.flatten_cons, List.flatMap_cons, ih]
theorem lp_toMoveS {v : AV} {cs : List Mo} (hlen : cs.length < 2 ^ 30) {b : AH} (hs : Slc 2 encM b v cs) {R : X → Env → AH → Prop} : ∀ (rest pre : List Mo) (o : AV) (h : AH), cs = pre ++ rest → OwL 2 encM b h o (pre ++ List.replicate rest.length (0, 0)) → Pre b h →
    (∀ o' h', OwL 2 encM b h' o' cs → Pre b h' → R (.exit 0) [(3, o')] h') → Cx (.loop lp366_0) [(0, v), (3, o), (4, .int .i64 pre.length)] h R k k
  | [], pre, o, h, hpre, ho, hp, hR => by
    rw [w_loopb (c := lp366_0) (d := lb366_0) rfl]; unfold lb366_0
    have hv := fun g => Slc.lenV ((hs.pre hp)) (g := g) (ρ := fun _ => _) (x := .t 0) rfl; simp only [evOp] at hv
    have hl : cs.length = pre.length := by rw [hpre]; simp
    simp (maxSteps := 1000000) (disch := first | omega | rfl | (simp only [zL, two63, room] <;> omega) | fail) only [↓reduceIte, ↓zP, zW, WOp, evOp, evBin, binI, binSh, binS, evNil, keyIs, keyEq, mkv, AV.cells, AV.sc, optv, bnd, env, put, Env.get, Env.set, Env.del, Env.dels, Env.init, res1, resL, resV, fillP, splice, newRow, Nat.reduceEqDiff, Nat.reduceLT, Nat.reduceLeDiff, Nat.reduceAdd, Nat.reduceMul, Nat.reduceSub, Nat.reduceBEq, reduceCtorEq, ↓zR, zQ, Tr, StA, StT, hv, hl]
    refine hR o h ?_ hp
    rw [hpre]
    simpa using ho
  | c :: rest, pre, o, h, hpre, ho, hp, hR => by
    have ih := lp_toMoveS hlen hs (R := R) rest (pre ++ [c])
    have hv := fun g => Slc.lenV ((hs.pre hp)) (g := g) (ρ := fun _ => _) (x := .t 0) rfl; simp only [evOp] at hv
    have hl : cs.length = pre.length + 1 + rest.length := by rw [hpre]; simp; omega
    have hs' := hs.pre hp
    rw [hpre] at hs'
    obtain ⟨r, kk, off, hve, hr⟩ := hs'.at hlM
    rw [← hpre, hl] at hve
    subst hve
    have hlt : (pre.length : Int) < ((pre.length + 1 + rest.length : Nat) : Int) := by omega
    have hw1 : (pre.length : Int) + 1 = ((pre ++ [c]).length : Int) := by simp
    have ho' := ho
    rw [List.length_cons, List.replicate_succ] at ho'
    rw [hl] at hv
    rw [w_loopb (c := lp366_0) (d := lb366_0) rfl]; unfold lb366_0
    simp (maxSteps := 1000000) (disch := first | omega | rfl | (simp only [zL, two63, room] <;> omega) | fail) only [↓reduceIte, ↓zP, zW, WOp, evOp, evBin, binI, binSh, binS, evNil, keyIs, keyEq, mkv, AV.cells, AV.sc, optv, bnd, env, put, Env.get, Env.set, Env.del, Env.dels, Env.init, res1, resL, resV, fillP, splice, newRow, Nat.reduceEqDiff, Nat.reduceLT, Nat.reduceLeDiff, Nat.reduceAdd, Nat.reduceMul, Nat.reduceSub, Nat.reduceBEq, reduceCtorEq, ↓zR, zQ, Tr, StA, StT, hv, hlt, hr]
    refine c_toMove c ?_
    intro h2 p2
    obtain ⟨r2, k2, o2, h3, hoe, hw3, ho3, hb3, hl3, hag⟩ := (ho'.pre p2).store hlM scM c
    subst hoe
    have hlr : (pre ++ (0, 0) :: List.replicate rest.length ((0, 0) : Mo)).length = pre.length + 1 + rest.length := by simp; omega
    rw [hlr] at ho3 ⊢
    simp (maxSteps := 1000000) (disch := first | omega | rfl | (simp only [zL, two63, room] <;> omega) | fail) only [↓reduceIte, ↓zP, zW, WOp, evOp, evBin, binI, binSh, binS, evNil, keyIs, keyEq, mkv, AV.cells, AV.sc, optv, bnd, env, put, Env.get, Env.set, Env.del, Env.dels, Env.init, res1, resL, resV, fillP, splice, newRow, Nat.reduceEqDiff, Nat.reduceLT, Nat.reduceLeDiff, Nat.reduceAdd, Nat.reduceMul, Nat.reduceSub, Nat.reduceBEq, reduceCtorEq, ↓zR, zQ, Tr, StA, StT, hlt, hw3, hw1]
    rw [w_loopn (c := lp366_0) rfl]
    simp (maxSteps := 1000000) (disch := first | omega | rfl | (simp only [zL, two63, room] <;> omega) | fail) only [↓reduceIte, ↓zP, zW, WOp, evOp, evBin, binI, binSh, binS, evNil, keyIs, keyEq, mkv, AV.cells, AV.sc, optv, bnd, env, put, Env.get, Env.set, Env.del, Env.dels, Env.init, res1, resL, resV, fillP, splice, newRow, Nat.reduceEqDiff, Nat.reduceLT, Nat.reduceLeDiff, Nat.reduceAdd, Nat.reduceMul, Nat.reduceSub, Nat.reduceBEq, reduceCtorEq, ↓zR, zQ, Tr, StA, StT]
    refine ih _ h3 (by rw [hpre]; simp) ?_ ?_ hR
    · simpa using ho3
    · refine ⟨by rw [hl3]; exact Nat.le_trans hp.1 p2.1, fun i hi => ?_⟩
      rw [hag i (by omega), (hp.trans p2).2 i hi]
theorem c_toMoveS {v : AV} {cs : List Mo} (hlen : cs.length < 2 ^ 30) {h : AH} (hs : Slc 2 encM h v cs) {post : AV → AH → Prop} (hp : ∀ o h', OwL 2 encM h h' o cs → Pre h h' → post o h') : S 366 [v] h post k := by
  refine S_of rfl T366 ?_; unfold fi366
  have hv := fun g => Slc.lenV (hs) (g := g) (ρ := fun _ => _) (x := .t 0) rfl; simp only [evOp] at hv
  have hr : (cs.length : Int) ≤ 1099511627776 := by omega
  have hroom : ((room : Nat) : Int) = 1099511627776 := rfl
  have hsc : ((List.replicate cs.length ((0, 0) : Mo)).flatMap encM).all AV.sc = true := by
    rw [List.all_eq_true]
    intro x hx
    obtain ⟨c, _, hc⟩ := List.mem_flatMap.1 hx
    exact List.all_eq_true.1 (scM c) x hc
  simp (maxSteps := 1000000) (disch := first | omega | rfl | (simp only [zL, two63, room] <;> omega) | fail) only [↓reduceIte, ↓zP, zW, WOp, evOp, evBin, binI, binSh, binS, evNil, keyIs, keyEq, mkv, AV.cells, AV.sc, optv, bnd, env, put, Env.get, Env.set, Env.del, Env.dels, Env.init, res1, resL, resV, fillP, splice, newRow, Nat.reduceEqDiff, Nat.reduceLT, Nat.reduceLeDiff, Nat.reduceAdd, Nat.reduceMul, Nat.reduceSub, Nat.reduceBEq, reduceCtorEq, ↓zR, zQ, Tr, StA, StT, hv, hroom, rep_flatM, hsc]
  refine lp_toMoveS hlen (b := h) hs cs [] _ _ rfl ?_ (Pre.push _ _) ?_
  · unfold OwL Own
    exact ⟨rfl, by simp, by (rw [flat_len hlM]; try simp), Nat.le_refl _, (List.replicate cs.length ((0, 0) : Mo)).flatMap encM, 0, by simp, Nat.le_refl _, by rw [flat_len hlM]; simp, by simp⟩
  · intro o' h' ho hp'
    simp (maxSteps := 1000000) (disch := first | omega | rfl | (simp only [zL, two63, room] <;> omega) | fail) only [↓reduceIte, ↓zP, zW, WOp, evOp, evBin, binI, binSh, binS, evNil, keyIs, keyEq, mkv, AV.cells, AV.sc, optv, bnd, env, put, Env.get, Env.set, Env.del, Env.dels, Env.init, res1, resL, resV, fillP, splice, newRow, Nat.reduceEqDiff, Nat.reduceLT, Nat.reduceLeDiff, Nat.reduceAdd, Nat.reduceMul, Nat.reduceSub, Nat.reduceBEq, reduceCtorEq, ↓zR, zQ, Tr, StA, StT]
    exact hp o' h' ho hp'
theorem c_szMoveS {v : AV} {cs : List Mo} (hlen : cs.length < 2 ^ 63) {h : AH} (hs : Slc 2 encM h v cs) (n : Int) (hn : 0 ≤ n ∧ n ≤ 2 ^ 30) {post : AV → AH → Prop} (hp : post (.int .i64 (if n - cs.length < 0 then -1 else n - cs.length)) h) : S 365 [v, .int .i64 n] h post k := by
  have hw : IntKind.i64.wrap (n - cs.length) = n - cs.length := wrap_id (by omega) (by omega)
  refine S_of rfl T365 ?_; unfold fi365
  have hv := fun g => Slc.lenV (hs) (g := g) (ρ := fun _ => _) (x := .t 0) rfl; simp only [evOp] at hv
  by_cases e : n - (cs.length : Int) < 0
  · rw [if_pos e] at hp
    simp (maxSteps := 1000000) (disch := first | omega | rfl | (simp only [zL, two63, room] <;> omega) | fail) only [↓reduceIte, ↓zP, zW, WOp, evOp, evBin, binI, binSh, binS, evNil, keyIs, keyEq, mkv, AV.cells, AV.sc, optv, bnd, env, put, Env.get, Env.set, Env.del, Env.dels, Env.init, res1, resL, resV, fillP, splice, newRow, Nat.reduceEqDiff, Nat.reduceLT, Nat.reduceLeDiff, Nat.reduceAdd, Nat.reduceMul, Nat.reduceSub, Nat.reduceBEq, reduceCtorEq, ↓zR, zQ, Tr, StA, StT, hv, hw, e]
    exact hp
  · rw [if_neg e] at hp
    simp (maxSteps := 1000000) (disch := first | omega | rfl | (simp only [zL, two63, room] <;> omega) | fail) only [↓reduceIte, ↓zP, zW, WOp, evOp, evBin, binI, binSh, binS, evNil, keyIs, keyEq, mkv, AV.cells, AV.sc, optv, bnd, env, put, Env.get, Env.set, Env.del, Env.dels, Env.init, res1, resL, resV, fillP, splice, newRow, Nat.reduceEqDiff, Nat.reduceLT, Nat.reduceLeDiff, Nat.reduceAdd, Nat.reduceMul, Nat.reduceSub, Nat.reduceBEq, reduceCtorEq, ↓zR, zQ, Tr, StA, StT, hv, hw, e]
    exact hp
theorem law_PlayOnBoard (b : List UInt8) (hl63 : b.length < 2 ^ 63) {v : AV} {ms : List Mo} (hm63 : ms.length < 2 ^ 63) {h : AH} (hs : Slc 2 encM h v ms) : S 369 [.str b, v] h (fun r _ => r = .bool true) k := by
  refine S_of rfl T369 ?_; unfold fi369
  by_cases hl : (1048576 : Int) < (b.length : Int)
  · simp (maxSteps := 1000000) (disch := first | omega | rfl | (simp only [zL, two63, room] <;> omega) | fail) only [↓reduceIte, ↓zP, zW, WOp, evOp, evBin, binI, binSh, binS, evNil, keyIs, keyEq, mkv, AV.cells, AV.sc, optv, bnd, env, put, Env.get, Env.set, Env.del, Env.dels, Env.init, res1, resL, resV, fillP, splice, newRow, Nat.reduceEqDiff, Nat.reduceLT, Nat.reduceLeDiff, Nat.reduceAdd, Nat.reduceMul, Nat.reduceSub, Nat.reduceBEq, reduceCtorEq, ↓zR, zQ, Tr, StA, StT, hl]
  have hlen : b.length < 2 ^ 30 := by omega
  simp (maxSteps := 1000000) (disch := first | omega | rfl | (simp only [zL, two63, room] <;> omega) | fail) only [↓reduceIte, ↓zP, zW, WOp, evOp, evBin, binI, binSh, binS, evNil, keyIs, keyEq, mkv, AV.cells, AV.sc, optv, bnd, env, put, Env.get, Env.set, Env.del, Env.dels, Env.init, res1, resL, resV, fillP, splice, newRow, Nat.reduceEqDiff, Nat.reduceLT, Nat.reduceLeDiff, Nat.reduceAdd, Nat.reduceMul, Nat.reduceSub, Nat.reduceBEq, reduceCtorEq, ↓zR, zQ, Tr, StA, StT, hl]
  refine c_szMoveS hm63 hs 1048576 (by omega) ?_
  by_cases e : (1048576 : Int) - (ms.length : Int) < 0
  · rw [if_pos e]
    simp (maxSteps := 1000000) (disch := first | omega | rfl | (simp only [zL, two63, room] <;> omega) | fail) only [↓reduceIte, ↓zP, zW, WOp, evOp, evBin, binI, binSh, binS, evNil, keyIs, keyEq, mkv, AV.cells, AV.sc, optv, bnd, env, put, Env.get, Env.set, Env.del, Env.dels, Env.init, res1, resL, resV, fillP, splice, newRow, Nat.reduceEqDiff, Nat.reduceLT, Nat.reduceLeDiff, Nat.reduceAdd, Nat.reduceMul, Nat.reduceSub, Nat.reduceBEq, reduceCtorEq, ↓zR, zQ, Tr, StA, StT]
  rw [if_neg e]
  have hL : ms.length < 2 ^ 30 := by omega
  simp (maxSteps := 1000000) (disch := first | omega | rfl | (simp only [zL, two63, room] <;> omega) | fail) only [↓reduceIte, ↓zP, zW, WOp, evOp, evBin, binI, binSh, binS, evNil, keyIs, keyEq, mkv, AV.cells, AV.sc, optv, bnd, env, put, Env.get, Env.set, Env.del, Env.dels, Env.init, res1, resL, resV, fillP, splice, newRow, Nat.reduceEqDiff, Nat.reduceLT, Nat.reduceLeDiff, Nat.reduceAdd, Nat.reduceMul, Nat.reduceSub, Nat.reduceBEq, reduceCtorEq, ↓zR, zQ, Tr, StA, StT, e]
  refine c_toMoveS hL hs ?_
  intro o1 h1 ho1 p1
  have cS := fun {h : AH} {post : AV → AH → Prop} (q : Slc 2 encM h o1 ms) => c_sPlayOnBoard b hlen hL q (post := post)
  have cI := fun {vm : AV} {h : AH} {post : AV → AH → Prop} (q : Slc 2 encM h vm ms) => c_PlayOnBoard b hlen hL q (post := post)
  generalize plT b ms = A at cS cI
  generalize plA b ms = B at cS cI
  simp (maxSteps := 1000000) (disch := first | omega | rfl | (simp only [zL, two63, room] <;> omega) | fail) only [↓reduceIte, ↓zP, zW, WOp, evOp, evBin, binI, binSh, binS, evNil, keyIs, keyEq, mkv, AV.cells, AV.sc, optv, bnd, env, put, Env.get, Env.set, Env.del, Env.dels, Env.init, res1, resL, resV, fillP, splice, newRow, Nat.reduceEqDiff, Nat.reduceLT, Nat.reduceLeDiff, Nat.reduceAdd, Nat.reduceMul, Nat.reduceSub, Nat.reduceBEq, reduceCtorEq, ↓zR, zQ, Tr, StA, StT]
  refine cS ho1.slc ?_
  intro h2 p2
  simp (maxSteps := 1000000) (disch := first | omega | rfl | (simp only [zL, two63, room] <;> omega) | fail) only [↓reduceIte, ↓zP, zW, WOp, evOp, evBin, binI, binSh, binS, evNil, keyIs, keyEq, mkv, AV.cells, AV.sc, optv, bnd, env, put, Env.get, Env.set, Env.del, Env.dels, Env.init, res1, resL, resV, fillP, splice, newRow, Nat.reduceEqDiff, Nat.reduceLT, Nat.reduceLeDiff, Nat.reduceAdd, Nat.reduceMul, Nat.reduceSub, Nat.reduceBEq, reduceCtorEq, ↓zR, zQ, Tr, StA, StT]
  have hs2 := (hs.pre p1).pre p2
  refine c_toMoveS hL hs2 ?_
  intro o3 h3 ho3 p3
  simp (maxSteps := 1000000) (disch := first | omega | rfl | (simp only [zL, two63, room] <;> omega) | fail) only [↓reduceIte, ↓zP, zW, WOp, evOp, evBin, binI, binSh, binS, evNil, keyIs, keyEq, mkv, AV.cells, AV.sc, optv, bnd, env, put, Env.get, Env.set, Env.del, Env.dels, Env.init, res1, resL, resV, fillP, splice, newRow, Nat.reduceEqDiff, Nat.reduceLT, Nat.reduceLeDiff, Nat.reduceAdd, Nat.reduceMul, Nat.reduceSub, Nat.reduceBEq, reduceCtorEq, ↓zR, zQ, Tr, StA, StT]
  refine cI ho3.slc ?_
  intro h4 p4
  have hs4 := (hs2.pre p3).pre p4
  have hb : ∀ B : Bool, (B == B) = true := fun B => by cases B <;> rfl
  simp (maxSteps := 1000000) (disch := first | omega | rfl | (simp only [zL, two63, room] <;> omega) | fail) only [↓reduceIte, ↓zP, zW, WOp, evOp, evBin, binI, binSh, binS, evNil, keyIs, keyEq, mkv, AV.cells, AV.sc, optv, bnd, env, put, Env.get, Env.set, Env.del, Env.dels, Env.init, res1, resL, resV, fillP, splice, newRow, Nat.reduceEqDiff, Nat.reduceLT, Nat.reduceLeDiff, Nat.reduceAdd, Nat.reduceMul, Nat.reduceSub, Nat.reduceBEq, reduceCtorEq, ↓zR, zQ, Tr, StA, StT, hb]
  refine c_toMoveS hL hs4 ?_
  intro o5 h5 ho5 p5
  simp (maxSteps := 1000000) (disch := first | omega | rfl | (simp only [zL, two63, room] <;> omega) | fail) only [↓reduceIte, ↓zP, zW, WOp, evOp, evBin, binI, binSh, binS, evNil, keyIs, keyEq, mkv, AV.cells, AV.sc, optv, bnd, env, put, Env.get, Env.set, Env.del, Env.dels, Env.init, res1, resL, resV, fillP, splice, newRow, Nat.reduceEqDiff, Nat.reduceLT, Nat.reduceLeDiff, Nat.reduceAdd, Nat.reduceMul, Nat.reduceSub, Nat.reduceBEq, reduceCtorEq, ↓zR, zQ, Tr, StA, StT]
  refine c_eqMoveS (L := ms) (M := ms) hL ((ho3.slc.pre p4).pre p5) ho5.slc ?_
  intro h6 p6
  simp (maxSteps := 1000000) (disch := first | omega | rfl | (simp only [zL, two63, room] <;> omega) | fail) only [↓reduceIte, ↓zP, zW, WOp, evOp, evBin, binI, binSh, binS, evNil, keyIs, keyEq, mkv, AV.cells, AV.sc, optv, bnd, env, put, Env.get, Env.set, Env.del, Env.dels, Env.init, res1, resL, resV, fillP, splice, newRow, Nat.reduceEqDiff, Nat.reduceLT, Nat.reduceLeDiff, Nat.reduceAdd, Nat.reduceMul, Nat.reduceSub, Nat.reduceBEq, reduceCtorEq, ↓zR, zQ, Tr, StA, StT, beq_self_eq_true]
theorem law_BoardMoveThatFails (b : List UInt8) (hl63 : b.length < 2 ^ 63) {v : AV} {ms : List Mo} (hm63 : ms.length < 2 ^ 63) {h : AH} (hs : Slc 2 encM h v ms) : S 364 [.str b, v] h (fun r _ => r = .bool true) k := by
  refine S_of rfl T364 ?_; unfold fi364
  by_cases hl : (1048576 : Int) < (b.length : Int)
  · simp (maxSteps := 1000000) (disch := first | omega | rfl | (simp only [zL, two63, room] <;> omega) | fail) only [↓reduceIte, ↓zP, zW, WOp, evOp, evBin, binI, binSh, binS, evNil, keyIs, keyEq, mkv, AV.cells, AV.sc, optv, bnd, env, put, Env.get, Env.set, Env.del, Env.dels, Env.init, res1, resL, resV, fillP, splice, newRow, Nat.reduceEqDiff, Nat.reduceLT, Nat.reduceLeDiff, Nat.reduceAdd, Nat.reduceMul, Nat.reduceSub, Nat.reduceBEq, reduceCtorEq, ↓zR, zQ, Tr, StA, StT, hl]
  have hlen : b.length < 2 ^ 30 := by omega
  simp (maxSteps := 1000000) (disch := first | omega | rfl | (simp only [zL, two63, room] <;> omega) | fail) only [↓reduceIte, ↓zP, zW, WOp, evOp, evBin, binI, binSh, binS, evNil, keyIs, keyEq, mkv, AV.cells, AV.sc, optv, bnd, env, put, Env.get, Env.set, Env.del, Env.dels, Env.init, res1, resL, resV, fillP, splice, newRow, Nat.reduceEqDiff, Nat.reduceLT, Nat.reduceLeDiff, Nat.reduceAdd, Nat.reduceMul, Nat.reduceSub, Nat.reduceBEq, reduceCtorEq, ↓zR, zQ, Tr, StA, StT, hl]
  refine c_szMoveS hm63 hs 1048576 (by omega) ?_
  by_cases e : (1048576 : Int) - (ms.length : Int) < 0
  · rw [if_pos e]
    simp (maxSteps := 1000000) (disch := first | omega | rfl | (simp only [zL, two63, room] <;> omega) | fail) only [↓reduceIte, ↓zP, zW, WOp, evOp, evBin, binI, binSh, binS, evNil, keyIs, keyEq, mkv, AV.cells, AV.sc, optv, bnd, env, put, Env.get, Env.set, Env.del, Env.dels, Env.init, res1, resL, resV, fillP, splice, newRow, Nat.reduceEqDiff, Nat.reduceLT, Nat.reduceLeDiff, Nat.reduceAdd, Nat.reduceMul, Nat.reduceSub, Nat.reduceBEq, reduceCtorEq, ↓zR, zQ, Tr, StA, StT]
  rw [if_neg e]
  have hL : ms.length < 2 ^ 30 := by omega
  simp (maxSteps := 1000000) (disch := first | omega | rfl | (simp only [zL, two63, room] <;> omega) | fail) only [↓reduceIte, ↓zP, zW, WOp, evOp, evBin, binI, binSh, binS, evNil, keyIs, keyEq, mkv, AV.cells, AV.sc, optv, bnd, env, put, Env.get, Env.set, Env.del, Env.dels, Env.init, res1, resL, resV, fillP, splice, newRow, Nat.reduceEqDiff, Nat.reduceLT, Nat.reduceLeDiff, Nat.reduceAdd, Nat.reduceMul, Nat.reduceSub, Nat.reduceBEq, reduceCtorEq, ↓zR, zQ, Tr, StA, StT, e]
  refine c_toMoveS hL hs ?_
  intro o1 h1 ho1 p1
  have cS := fun {h : AH} {post : AV → AH → Prop} (q : Slc 2 encM h o1 ms) => c_sMoveThatFails b hlen hL q (post := post)
  have cI := fun {vm : AV} {h : AH} {post : AV → AH → Prop} (q : Slc 2 encM h vm ms) => c_MoveThatFails b hlen hL q (post := post)
  generalize (((if plG b ms && !plA b ms then plN b ms else 0 : Nat)) : Int) = A at cS cI
  generalize (plG b ms && !plA b ms) = B at cS cI
  simp (maxSteps := 1000000) (disch := first | omega | rfl | (simp only [zL, two63, room] <;> omega) | fail) only [↓reduceIte, ↓zP, zW, WOp, evOp, evBin, binI, binSh, binS, evNil, keyIs, keyEq, mkv, AV.cells, AV.sc, optv, bnd, env, put, Env.get, Env.set, Env.del, Env.dels, Env.init, res1, resL, resV, fillP, splice, newRow, Nat.reduceEqDiff, Nat.reduceLT, Nat.reduceLeDiff, Nat.reduceAdd, Nat.reduceMul, Nat.reduceSub, Nat.reduceBEq, reduceCtorEq, ↓zR, zQ, Tr, StA, StT]
  refine cS ho1.slc ?_
  intro h2 p2
  simp (maxSteps := 1000000) (disch := first | omega | rfl | (simp only [zL, two63, room] <;> omega) | fail) only [↓reduceIte, ↓zP, zW, WOp, evOp, evBin, binI, binSh, binS, evNil, keyIs, keyEq, mkv, AV.cells, AV.sc, optv, bnd, env, put, Env.get, Env.set, Env.del, Env.dels, Env.init, res1, resL, resV, fillP, splice, newRow, Nat.reduceEqDiff, Nat.reduceLT, Nat.reduceLeDiff, Nat.reduceAdd, Nat.reduceMul, Nat.reduceSub, Nat.reduceBEq, reduceCtorEq, ↓zR, zQ, Tr, StA, StT]
  have hs2 := (hs.pre p1).pre p2
  refine c_toMoveS hL hs2 ?_
  intro o3 h3 ho3 p3
  simp (maxSteps := 1000000) (disch := first | omega | rfl | (simp only [zL, two63, room] <;> omega) | fail) only [↓reduceIte, ↓zP, zW, WOp, evOp, evBin, binI, binSh, binS, evNil, keyIs, keyEq, mkv, AV.cells, AV.sc, optv, bnd, env, put, Env.get, Env.set, Env.del, Env.dels, Env.init, res1, resL, resV, fillP, splice, newRow, Nat.reduceEqDiff, Nat.reduceLT, Nat.reduceLeDiff, Nat.reduceAdd, Nat.reduceMul, Nat.reduceSub, Nat.reduceBEq, reduceCtorEq, ↓zR, zQ, Tr, StA, StT]
  refine cI ho3.slc ?_
  intro h4 p4
  have hs4 := (hs2.pre p3).pre p4
  have hb : ∀ B : Bool, (B == B) = true := fun B => by cases B <;> rfl
  simp (maxSteps := 1000000) (disch := first | omega | rfl | (simp only [zL, two63, room] <;> omega) | fail) only [↓reduceIte, ↓zP, zW, WOp, evOp, evBin, binI, binSh, binS, evNil, keyIs, keyEq, mkv, AV.cells, AV.sc, optv, bnd, env, put, Env.get, Env.set, Env.del, Env.dels, Env.init, res1, resL, resV, fillP, splice, newRow, Nat.reduceEqDiff, Nat.reduceLT, Nat.reduceLeDiff, Nat.reduceAdd, Nat.reduceMul, Nat.reduceSub, Nat.reduceBEq, reduceCtorEq, ↓zR, zQ, Tr, StA, StT, hb]
  refine c_toMoveS hL hs4 ?_
  intro o5 h5 ho5 p5
  simp (maxSteps := 1000000) (disch := first | omega | rfl | (simp only [zL, two63, room] <;> omega) | fail) only [↓reduceIte, ↓zP, zW, WOp, evOp, evBin, binI, binSh, binS, evNil, keyIs, keyEq, mkv, AV.cells, AV.sc, optv, bnd, env, put, Env.get, Env.set, Env.del, Env.dels, Env.init, res1, resL, resV, fillP, splice, newRow, Nat.reduceEqDiff, Nat.reduceLT, Nat.reduceLeDiff, Nat.reduceAdd, Nat.reduceMul, Nat.reduceSub, Nat.reduceBEq, reduceCtorEq, ↓zR, zQ, Tr, StA, StT]
  refine c_eqMoveS (L := ms) (M := ms) hL ((ho3.slc.pre p4).pre p5) ho5.slc ?_
  intro h6 p6
  simp (maxSteps := 1000000) (disch := first | omega | rfl | (simp only [zL, two63, room] <;> omega) | fail) only [↓reduceIte, ↓zP, zW, WOp, evOp, evBin, binI, binSh, binS, evNil, keyIs, keyEq, mkv, AV.cells, AV.sc, optv, bnd, env, put, Env.get, Env.set, Env.del, Env.dels, Env.init, res1, resL, resV, fillP, splice, newRow, Nat.reduceEqDiff, Nat.reduceLT, Nat.reduceLeDiff, Nat.reduceAdd, Nat.reduceMul, Nat.reduceSub, Nat.reduceBEq, reduceCtorEq, ↓zR, zQ, Tr, StA, StT, beq_self_eq_true]
end Go.Proofs.YtgdlaopjabjkbaaGreatDoor.Ab

/- The law FnExactBoardMoveThatFails of the given program returns true, whatever the input: its tied card. Condition: what the row lists of package-level tables is laid as the program's text lays it. -/
namespace Go.Proofs.YtgdlaopjabjkbaaGreatDoor.fnExactBoardMoveThatFails
open Go Go.ChangeShapes Go.WideShapes Go.ChangeAt Go.RowKit
set_option maxRecDepth 1000000

theorem own : ownKnob Tryz.prog.godebug = none := by kernel_rfl
theorem laidOut : laidOutB Tryz.prog = true := by kernel_rfl
theorem readable : ∀ t ∈ Tryz.f3.params.toList, Tryz.prog.readableRec t = true ∧ t < Tryz.prog.types.size := by
  rw [Tryz.params3]
  intro t ht
  simp only [List.mem_cons, List.not_mem_nil, or_false] at ht
  rcases ht with rfl | rfl
  · exact ⟨by kernel_rfl, of_decide_eq_true (by kernel_rfl)⟩
  · exact ⟨by kernel_rfl, of_decide_eq_true (by kernel_rfl)⟩
theorem contract (H : Type) (enc : TypeId × Value → H) (W : World) (base : Nat) (args : Array Value) (ds gs : List (DataW H)) (before : List MemPlace)
    (hval : ∀ (j : Nat) t v, Tryz.f3.params[j]? = some t → args[j]? = some v → Value.okWide Tryz.prog W .any base t v)
    (hW : DataW.Whole enc Tryz.prog Tryz.f3.params.toList Rows.fnExactBoardMoveThatFailsSpec.vars false W args.toList ds gs before) :
    Calls Tryz.prog 3 args W fun e W' => ∃ v, e = .returned v ∧ Rows.fnExactBoardMoveThatFailsSpec.post enc Tryz.prog Tryz.f3 false true false false W args v W' := by
  have hW' := hW
  obtain ⟨p, q, hA0, hV, rfl, hfz, hnd⟩ := hW
  obtain ⟨rfl, rfl⟩ := trodVars_none hV
  have hA : DataW.TrodAll enc Tryz.prog W 0 (fun _ => true) true Tryz.f3.params.toList args.toList ds p := hA0
  rw [Tryz.params3] at hA hval
  obtain ⟨v0, vs0, d0, ds0, p0, q0, hargs0, rfl, rfl, h0, r0⟩ := trodAll_cons hA
  obtain ⟨v1, vs1, d1, ds1, p1, q1, hargs1, rfl, rfl, h1, r1⟩ := trodAll_cons r0
  obtain ⟨rfl, rfl, rfl⟩ := trodAll_nil r1
  obtain rfl : args = #[v0, v1] := by cases args; simp_all
  obtain ⟨s0, hv0, hlen0⟩ := Ab.open_str Tryz.underlying9 (hval 0 9 v0 rfl rfl) h0
  obtain ⟨s1, m, g, a1, hsl1, hv1, hrel, hlen1⟩ := Ab.open_movesA (F := Ab.F) Tryz.underlying22 Tryz.underlying40 (by kernel_rfl) (by kernel_rfl) Tryz.underlying3 Tryz.underlying3 (hval 1 22 v1 rfl rfl) h1
  have hlaw := Ab.law_BoardMoveThatFails s0 hlen0 hlen1 hsl1 (h := g)
  have hargs : Ab.RelL Ab.F m [.str s0, a1] (#[v0, v1] : Array Value).toList := by
    simp only [Ab.RelL]
    exact ⟨v0, [v1], rfl, by simpa only [Ab.RelV] using hv0, v1, [], rfl, hv1, rfl⟩
  have hres : (Rows.fnExactBoardMoveThatFailsSpec.fn H ([d0, d1] ++ [])).results = [.lit (.bool true)] := rfl
  have hback : (Rows.fnExactBoardMoveThatFailsSpec.fn H ([d0, d1] ++ [])).args = [d0, d1] := rfl
  refine (Ab.law_calls (P := Tryz.prog) (F := Ab.F) Ab.all_sound (f := 364) (h := g) hlaw hrel hargs).mono ?_
  rintro e W' ⟨rfl, hb⟩
  refine ⟨_, rfl, Ab.post_below (pa := p0 ++ (p1 ++ [])) (pv := []) hW' (fun _ _ _ => ?_) (fun sp hsp => ?_) (fun _ _ => rfl) (by simp) hb (ok_one (by kernel_rfl) rfl (okWide_bool_mk Tryz.underlying4 _))⟩
  · rw [hres]
    exact trodAll_cons_mk (shut_bool Tryz.underlying4 _) trodAll_mk0
  · rw [hback]
    exact Ab.trodAll_stays laidOut hb readable hA0 (fun x hx => hW'.lt x (by simpa using hx)) (fun x hx => hsp x (by simpa using hx))

/-- A WORLD FOR THE WITNESS: the settled one, the tables holding what is laid. -/
def lits : List (DataW Unit) → List Value
  | [] => []
  | .lit (.int kd n) :: l => .int kd n :: lits l
  | _ :: l => lits l
def cellsT : DataW Unit → List Value
  | .agg l => l.flatMap fun
    | .lit (.int kd n) => [.int kd n]
    | .agg l' => lits l'
    | _ => []
  | _ => []
def setCells (cs : List Value) : Obj → Obj
  | .cells _ t frozen => .cells cs.toArray t frozen
  | o => o
noncomputable def laidWorld (os : Os) : World :=
  { World.holding Tryz.prog os ⟨#[], #[], []⟩ with heap := ((World.holding Tryz.prog os ⟨#[], #[], []⟩).heap.modify 1 (setCells (cellsT Rows.laid_unicode_utf8_first))).modify 2 (setCells (cellsT Rows.laid_unicode_utf8_acceptRanges)) }
theorem laid_met (os : Os) : laidMet Tryz.prog Rows.fnExactBoardMoveThatFailsRow.laid ((laidWorld os).forCall (fun _ _ => 0) ⟨#[], #[.string ⟨#[]⟩, .slice none 0 0], []⟩).memory :=
  laidMet_of_run' 8 (by kernel_rfl) (by kernel_rfl)
theorem reads (os : Os) {H : Type} (enc : TypeId × Value → H) : ∃ places, DataW.whole enc Tryz.prog ((laidWorld os).forCall (fun _ _ => 0) ⟨#[], #[.string ⟨#[]⟩, .slice none 0 0], []⟩).memory Tryz.f3.params.toList Rows.fnExactBoardMoveThatFailsSpec.vars false (#[.string ⟨#[]⟩, .slice none 0 0] : Array Value).toList 8 = some ([.lit (.string []), .nil], [], places) :=
  ⟨[], by kernel_rfl⟩

theorem lifted (os : Os) (started : os.Started) (H : Type) (enc : TypeId × Value → H) (F : Stop.Interp) :
    ReturnsInHanded {} Tryz.checked os 3 .any ((OpenSpec.ofChange Rows.fnExactBoardMoveThatFailsSpec).preRow enc Tryz.prog Tryz.f3 Rows.fnExactBoardMoveThatFailsRow.domain false Rows.fnExactBoardMoveThatFailsRow.laid) (((OpenSpec.ofChange Rows.fnExactBoardMoveThatFailsSpec).at F).post enc Tryz.prog Tryz.f3 false true false false) := by
  obtain ⟨places, hx⟩ := reads os enc
  refine returnsInHanded_of_row (C := Tryz.checked) (s := OpenSpec.ofChange Rows.fnExactBoardMoveThatFailsSpec) own started (by kernel_rfl) Tryz.func3
    (witness_row_at (enc := enc) (C := Tryz.checked) false (laidWorld os) #[.string ⟨#[]⟩, .slice none 0 0] rfl (by kernel_rfl) (by kernel_rfl) (by kernel_rfl)
      (OpenSpec.preRow_of_cond 8 hx (by kernel_rfl) (fun k hk => by cases hk) (by kernel_rfl) (laid_met os))) ?_
  intro W base args ds gs before hval hW _ _ _ _ _ _
  exact contract H enc W base args ds gs before hval hW

theorem said : Rows.FnExactBoardMoveThatFailsSaid :=
  OpenClaim.holds_of_cond 3 Tryz.f3 rfl rfl rfl rfl rfl rfl rfl ⟨rfl, rfl, rfl, rfl, rfl⟩ rfl rfl rfl rfl rfl (by kernel_rfl) Tryz.func3 (by kernel_rfl)
    (of_decide_eq_true (by kernel_rfl)) (by unfold Func.isWrapper; first | (rw [if_pos (by decide +kernel)]; kernel_rfl) | (rw [if_neg (by decide +kernel)]; exact ⟨rfl, rfl⟩))
    (fun os started H enc _ F => by rw [OpenClaim.pre_eq_preRow]; exact lifted os started H enc F)

/-- No parameter wants a stand-in; the program's own looks are off: what the card asks. -/
theorem plain (f : FuncId) (fn : Func) (hf : Tryz.pinned.checked.prog.funcNamed "loop.example/g01271/laws.FnExactBoardMoveThatFails" = some f) (hfn : Tryz.pinned.checked.prog.funcs[f]? = some fn) :
    false = Tryz.pinned.checked.prog.looks [] ∧ ∀ (j : Nat) t, fn.params[j]? = some t → Tryz.pinned.checked.prog.wantsStandIn t = false := by
  obtain rfl : f = 3 := Option.some.inj ((show Tryz.prog.funcNamed "loop.example/g01271/laws.FnExactBoardMoveThatFails" = some 3 by kernel_rfl).symm.trans hf) |>.symm
  obtain rfl : fn = Tryz.f3 := (Option.some.inj (Tryz.func3.symm.trans hfn)).symm
  refine ⟨by kernel_rfl, fun j t ht => ?_⟩
  rw [Tryz.params3] at ht
  have hm : t ∈ ([9, 22] : List Nat) := by
    have := Array.mem_of_getElem? ht
    simpa using this
  simp only [List.mem_cons, List.not_mem_nil, or_false] at hm
  rcases hm with rfl | rfl
  · exact (show Tryz.prog.wantsStandIn 9 = false by kernel_rfl)
  · exact (show Tryz.prog.wantsStandIn 22 = false by kernel_rfl)
theorem card : Rows.FnExactBoardMoveThatFailsCardSaid :=
  Claim7.holds_tied_plain_at .later [] _ _ _ _ said (fun _ h => by cases h) (by kernel_rfl) (fun _ h => by cases h) fnExactBoardMoveThatFails_row_tie rfl ⟨rfl, rfl⟩ (by kernel_rfl) rfl plain (by kernel_rfl)
end Go.Proofs.YtgdlaopjabjkbaaGreatDoor.fnExactBoardMoveThatFails
