/- The proof that the law FnLinesRanked of the given program returns true for every input; the condition: the tables that the row lists are laid as the program's text lays them. -/
import Derived.Test.YtejhhdpfndiliaaGreatDoorCards
import Derived.Test.YtejhhdpfndiliaaGreatDoorTie
import Derived.OpenShut
import Derived.Deep.DeepHandedRow
import Derived.Lib.LaidTab
import Derived.Test.YtejhhdpfndiliaaGreatDoorQ4
set_option linter.unusedSimpArgs false
set_option linter.unusedVariables false
/- RANKS of lines, both sides'. -/
namespace Go.Proofs.YtejhhdpfndiliaaGreatDoor.Ab
open Go
set_option maxRecDepth 100000
set_option maxHeartbeats 4000000

def rkG (w : List UInt8) : Int := if goodLine w then (rankN w : Nat) else 0
theorem c_RankOfLine (w : List UInt8) (hw : w.length < 2 ^ 60) {h : AH} {post : AV → AH → Prop} (hp : ∀ h', Pre h h' → post (.tup [.int .i64 (rkG w), .bool (goodLine w)]) h') : S 397 [.str w] h post k := by
  unfold rkG at hp
  refine S_of rfl T397 ?_; unfold fi397
  cases hg : goodLine w <;> rw [hg] at hp
  · simp (maxSteps := 1000000) (disch := first | omega | rfl | (simp only [zL, two63, room] <;> omega) | fail) only [↓reduceIte, ↓zP, zW, WOp, evOp, evBin, binI, binSh, binS, evNil, keyIs, keyEq, mkv, AV.cells, AV.sc, optv, bnd, env, put, Env.get, Env.set, Env.del, Env.dels, Env.init, res1, resL, resV, fillP, splice, newRow, Nat.reduceEqDiff, Nat.reduceLT, Nat.reduceLeDiff, Nat.reduceAdd, Nat.reduceMul, Nat.reduceSub, Nat.reduceBEq, reduceCtorEq, ↓zR, zQ, Tr, StA, StT, e_IsLine w hw, hg]
    exact hp h (Pre.refl h)
  · have hl := good_all hg
    simp (maxSteps := 1000000) (disch := first | omega | rfl | (simp only [zL, two63, room] <;> omega) | fail) only [↓reduceIte, ↓zP, zW, WOp, evOp, evBin, binI, binSh, binS, evNil, keyIs, keyEq, mkv, AV.cells, AV.sc, optv, bnd, env, put, Env.get, Env.set, Env.del, Env.dels, Env.init, res1, resL, resV, fillP, splice, newRow, Nat.reduceEqDiff, Nat.reduceLT, Nat.reduceLeDiff, Nat.reduceAdd, Nat.reduceMul, Nat.reduceSub, Nat.reduceBEq, reduceCtorEq, ↓zR, zQ, Tr, StA, StT, e_IsLine w hw, hg]
    refine c_count w ?_
    simp (maxSteps := 1000000) (disch := first | omega | rfl | (simp only [zL, two63, room] <;> omega) | fail) only [↓reduceIte, ↓zP, zW, WOp, evOp, evBin, binI, binSh, binS, evNil, keyIs, keyEq, mkv, AV.cells, AV.sc, optv, bnd, env, put, Env.get, Env.set, Env.del, Env.dels, Env.init, res1, resL, resV, fillP, splice, newRow, Nat.reduceEqDiff, Nat.reduceLT, Nat.reduceLeDiff, Nat.reduceAdd, Nat.reduceMul, Nat.reduceSub, Nat.reduceBEq, reduceCtorEq, ↓zR, zQ, Tr, StA, StT]
    have := lp_rank (b := h) (R := fun x e h' => x = .exit 0 ∧ e = [(8, .int .i64 (rankN w : Nat))] ∧ Pre h h') hl.2.2 hl.2.1 w [] 0 (h ++ [.row [.int .i64 (w.count 46 : Nat), .int .i64 (w.count 70 : Nat), .int .i64 (w.count 84 : Nat)] 0 0 false]) rfl (by simp) (Pre.push _ _) (by simp) (by simp) (fun h' hp' => ⟨rfl, by rw [Nat.zero_add], hp'⟩)
    refine Cx_mono this ?_
    rintro x e h' ⟨rfl, rfl, hp'⟩
    simp (maxSteps := 1000000) (disch := first | omega | rfl | (simp only [zL, two63, room] <;> omega) | fail) only [↓reduceIte, ↓zP, zW, WOp, evOp, evBin, binI, binSh, binS, evNil, keyIs, keyEq, mkv, AV.cells, AV.sc, optv, bnd, env, put, Env.get, Env.set, Env.del, Env.dels, Env.init, res1, resL, resV, fillP, splice, newRow, Nat.reduceEqDiff, Nat.reduceLT, Nat.reduceLeDiff, Nat.reduceAdd, Nat.reduceMul, Nat.reduceSub, Nat.reduceBEq, reduceCtorEq, ↓zR, zQ, Tr, StA, StT]
    exact hp h' hp'
theorem lp_sRank {w : List UInt8} (hg : signs w) (hw : w.length ≤ 12) {h : AH} {R : X → Env → AH → Prop} : ∀ (rest pre : List UInt8) (acc : Nat), w = pre ++ rest → acc ≤ pre.length * 2000000 →
    R (.exit 0) [(4, .int .i64 ((acc + rankN rest : Nat) : Int))] h →
    Cx (.loop lp398_0) [(0, .str w), (4, .int .i64 acc), (5, .int .i64 (rest.count 84 : Nat)), (6, .int .i64 (rest.count 46 : Nat)), (7, .int .i64 (rest.count 70 : Nat)), (8, .int .i64 pre.length)] h R k k := by
  intro rest
  induction rest with
  | nil =>
    intro pre acc hpre ha hR
    subst hpre
    rw [w_loopb (c := lp398_0) (d := lb398_0) rfl]; unfold lb398_0
    simp only [List.append_nil]
    simp (maxSteps := 1000000) (disch := first | omega | rfl | (simp only [zL, two63, room] <;> omega) | fail) only [↓reduceIte, ↓zP, zW, WOp, evOp, evBin, binI, binSh, binS, evNil, keyIs, keyEq, mkv, AV.cells, AV.sc, optv, bnd, env, put, Env.get, Env.set, Env.del, Env.dels, Env.init, res1, resL, resV, fillP, splice, newRow, Nat.reduceEqDiff, Nat.reduceLT, Nat.reduceLeDiff, Nat.reduceAdd, Nat.reduceMul, Nat.reduceSub, Nat.reduceBEq, reduceCtorEq, ↓zR, zQ, Tr, StA, StT]
    exact hR
  | cons x rest ih =>
    intro pre acc hpre ha hR
    have hx : isSign x = true := by
      refine List.all_eq_true.1 hg x ?_
      rw [hpre]; simp
    have hl : w.length = pre.length + 1 + rest.length := by rw [hpre]; simp; omega
    have hgr : signs (x :: rest) := by
      unfold signs at *
      rw [hpre, List.all_append, Bool.and_eq_true] at hg
      exact hg.2
    have hc := cnt3 hgr
    simp only [List.length_cons] at hc
    have hi : (pre.length : Int) < (w.length : Int) := by omega
    have hwx : w.getD pre.length 0 = x := by rw [hpre]; simp [List.getD]
    have hw1 : IntKind.i64.wrap ((pre.length : Int) + 1) = (pre.length : Int) + 1 := wrap_i (by omega)
    have ih' := ih (pre ++ [x]) (acc + bel ((x :: rest).count 84) ((x :: rest).count 46) ((x :: rest).count 70) x)
    rw [show (pre ++ [x]).length = pre.length + 1 by simp] at ih'
    simp only [rankN] at hR
    have hb := bel_lt (t := (x :: rest).count 84) (g := (x :: rest).count 46) (f := (x :: rest).count 70) (by omega) x
    have ih2 := ih' (by rw [hpre]; simp) (by rw [Nat.succ_mul]; omega) (by rw [Nat.add_assoc]; exact hR)
    rw [show ((pre.length + 1 : Nat) : Int) = (pre.length : Int) + 1 by omega] at ih2
    clear ih ih' hR
    have c84 := cntB1 x 84 rest
    have c46 := cntB1 x 46 rest
    have c70 := cntB1 x 70 rest
    obtain ⟨m1, m2⟩ := gM_lt (t := (x :: rest).count 84) (g := (x :: rest).count 46) (f := (x :: rest).count 70) (by omega)
    have eG := @e_manyG ((x :: rest).count 84) ((x :: rest).count 46) ((x :: rest).count 70) (by omega)
    have eF := @e_manyF ((x :: rest).count 84) ((x :: rest).count 46) ((x :: rest).count 70) (by omega)
    have wG : IntKind.i64.wrap ((((x :: rest).count 46 : Nat) : Int) - 1) = (((x :: rest).count 46 : Nat) : Int) - 1 := wrap_i (by omega)
    have wF : IntKind.i64.wrap ((((x :: rest).count 70 : Nat) : Int) - 1) = (((x :: rest).count 70 : Nat) : Int) - 1 := wrap_i (by omega)
    have wT : IntKind.i64.wrap ((((x :: rest).count 84 : Nat) : Int) - 1) = (((x :: rest).count 84 : Nat) : Int) - 1 := wrap_i (by omega)
    have k1 : ((84 : UInt8) == 46) = false := rfl
    have k2 : ((84 : UInt8) == 70) = false := rfl
    have k3 : ((70 : UInt8) == 46) = false := rfl
    rw [w_loopb (c := lp398_0) (d := lb398_0) rfl]; unfold lb398_0
    rcases sign3 hx with rfl | rfl | rfl
    · rw [if_pos rfl] at c84
      rw [if_neg (by decide), Nat.add_zero] at c46 c70
      have eb : bel ((84 :: rest : List UInt8).count 84) ((84 :: rest : List UInt8).count 46) ((84 :: rest : List UInt8).count 70) 84 = gM ((84 :: rest : List UInt8).count 84) ((84 :: rest : List UInt8).count 46) ((84 :: rest : List UInt8).count 70) + fM ((84 :: rest : List UInt8).count 84) ((84 :: rest : List UInt8).count 46) ((84 :: rest : List UInt8).count 70) := rfl
      rw [eb] at ih2 hb
      have hd : (((84 :: rest : List UInt8).count 84 : Nat) - 1 : Int) = (rest.count 84 : Nat) := by omega
      have wS : IntKind.i64.wrap (((gM ((84 :: rest : List UInt8).count 84) ((84 :: rest : List UInt8).count 46) ((84 :: rest : List UInt8).count 70) : Nat) : Int) + ((fM ((84 :: rest : List UInt8).count 84) ((84 :: rest : List UInt8).count 46) ((84 :: rest : List UInt8).count 70) : Nat) : Int)) = ((gM ((84 :: rest : List UInt8).count 84) ((84 :: rest : List UInt8).count 46) ((84 :: rest : List UInt8).count 70) + fM ((84 :: rest : List UInt8).count 84) ((84 :: rest : List UInt8).count 46) ((84 :: rest : List UInt8).count 70) : Nat) : Int) := by rw [← Int.natCast_add]; exact wn (by omega)
      have hw2 : IntKind.i64.wrap ((acc : Int) + ((gM ((84 :: rest : List UInt8).count 84) ((84 :: rest : List UInt8).count 46) ((84 :: rest : List UInt8).count 70) + fM ((84 :: rest : List UInt8).count 84) ((84 :: rest : List UInt8).count 46) ((84 :: rest : List UInt8).count 70) : Nat) : Int)) = ((acc + (gM ((84 :: rest : List UInt8).count 84) ((84 :: rest : List UInt8).count 46) ((84 :: rest : List UInt8).count 70) + fM ((84 :: rest : List UInt8).count 84) ((84 :: rest : List UInt8).count 46) ((84 :: rest : List UInt8).count 70)) : Nat) : Int) := by rw [← Int.natCast_add]; exact wn (by omega)
      simp (maxSteps := 1000000) (disch := first | omega | rfl | (simp only [zL, two63, room] <;> omega) | fail) only [↓reduceIte, ↓zP, zW, WOp, evOp, evBin, binI, binSh, binS, evNil, keyIs, keyEq, mkv, AV.cells, AV.sc, optv, bnd, env, put, Env.get, Env.set, Env.del, Env.dels, Env.init, res1, resL, resV, fillP, splice, newRow, Nat.reduceEqDiff, Nat.reduceLT, Nat.reduceLeDiff, Nat.reduceAdd, Nat.reduceMul, Nat.reduceSub, Nat.reduceBEq, reduceCtorEq, ↓zR, zQ, Tr, StA, StT, hi, hwx, k1, k2, wG, wF, wT, eG, eF, wS, hw2, hw1]
      rw [w_loopn (c := lp398_0) rfl]
      simp (maxSteps := 1000000) (disch := first | omega | rfl | (simp only [zL, two63, room] <;> omega) | fail) only [↓reduceIte, ↓zP, zW, WOp, evOp, evBin, binI, binSh, binS, evNil, keyIs, keyEq, mkv, AV.cells, AV.sc, optv, bnd, env, put, Env.get, Env.set, Env.del, Env.dels, Env.init, res1, resL, resV, fillP, splice, newRow, Nat.reduceEqDiff, Nat.reduceLT, Nat.reduceLeDiff, Nat.reduceAdd, Nat.reduceMul, Nat.reduceSub, Nat.reduceBEq, reduceCtorEq, ↓zR, zQ, Tr, StA, StT]
      rw [hd, c46, c70]
      rw [c46, c70] at ih2
      exact ih2
    · rw [if_pos rfl] at c46
      rw [if_neg (by decide), Nat.add_zero] at c84 c70
      have eb : bel ((46 :: rest : List UInt8).count 84) ((46 :: rest : List UInt8).count 46) ((46 :: rest : List UInt8).count 70) 46 = 0 := rfl
      rw [eb, Nat.add_zero] at ih2
      have hd : (((46 :: rest : List UInt8).count 46 : Nat) - 1 : Int) = (rest.count 46 : Nat) := by omega
      simp (maxSteps := 1000000) (disch := first | omega | rfl | (simp only [zL, two63, room] <;> omega) | fail) only [↓reduceIte, ↓zP, zW, WOp, evOp, evBin, binI, binSh, binS, evNil, keyIs, keyEq, mkv, AV.cells, AV.sc, optv, bnd, env, put, Env.get, Env.set, Env.del, Env.dels, Env.init, res1, resL, resV, fillP, splice, newRow, Nat.reduceEqDiff, Nat.reduceLT, Nat.reduceLeDiff, Nat.reduceAdd, Nat.reduceMul, Nat.reduceSub, Nat.reduceBEq, reduceCtorEq, ↓zR, zQ, Tr, StA, StT, hi, hwx, wG, hw1]
      rw [w_loopn (c := lp398_0) rfl]
      simp (maxSteps := 1000000) (disch := first | omega | rfl | (simp only [zL, two63, room] <;> omega) | fail) only [↓reduceIte, ↓zP, zW, WOp, evOp, evBin, binI, binSh, binS, evNil, keyIs, keyEq, mkv, AV.cells, AV.sc, optv, bnd, env, put, Env.get, Env.set, Env.del, Env.dels, Env.init, res1, resL, resV, fillP, splice, newRow, Nat.reduceEqDiff, Nat.reduceLT, Nat.reduceLeDiff, Nat.reduceAdd, Nat.reduceMul, Nat.reduceSub, Nat.reduceBEq, reduceCtorEq, ↓zR, zQ, Tr, StA, StT]
      rw [hd, c84, c70]
      exact ih2
    · rw [if_pos rfl] at c70
      rw [if_neg (by decide), Nat.add_zero] at c84 c46
      have eb : bel ((70 :: rest : List UInt8).count 84) ((70 :: rest : List UInt8).count 46) ((70 :: rest : List UInt8).count 70) 70 = gM ((70 :: rest : List UInt8).count 84) ((70 :: rest : List UInt8).count 46) ((70 :: rest : List UInt8).count 70) := rfl
      rw [eb] at ih2 hb
      have hd : (((70 :: rest : List UInt8).count 70 : Nat) - 1 : Int) = (rest.count 70 : Nat) := by omega
      have hw2 : IntKind.i64.wrap ((acc : Int) + ((gM ((70 :: rest : List UInt8).count 84) ((70 :: rest : List UInt8).count 46) ((70 :: rest : List UInt8).count 70) : Nat) : Int)) = ((acc + gM ((70 :: rest : List UInt8).count 84) ((70 :: rest : List UInt8).count 46) ((70 :: rest : List UInt8).count 70) : Nat) : Int) := by rw [← Int.natCast_add]; exact wn (by omega)
      simp (maxSteps := 1000000) (disch := first | omega | rfl | (simp only [zL, two63, room] <;> omega) | fail) only [↓reduceIte, ↓zP, zW, WOp, evOp, evBin, binI, binSh, binS, evNil, keyIs, keyEq, mkv, AV.cells, AV.sc, optv, bnd, env, put, Env.get, Env.set, Env.del, Env.dels, Env.init, res1, resL, resV, fillP, splice, newRow, Nat.reduceEqDiff, Nat.reduceLT, Nat.reduceLeDiff, Nat.reduceAdd, Nat.reduceMul, Nat.reduceSub, Nat.reduceBEq, reduceCtorEq, ↓zR, zQ, Tr, StA, StT, hi, hwx, k3, wG, wF, eG, hw2, hw1]
      rw [w_loopn (c := lp398_0) rfl]
      simp (maxSteps := 1000000) (disch := first | omega | rfl | (simp only [zL, two63, room] <;> omega) | fail) only [↓reduceIte, ↓zP, zW, WOp, evOp, evBin, binI, binSh, binS, evNil, keyIs, keyEq, mkv, AV.cells, AV.sc, optv, bnd, env, put, Env.get, Env.set, Env.del, Env.dels, Env.init, res1, resL, resV, fillP, splice, newRow, Nat.reduceEqDiff, Nat.reduceLT, Nat.reduceLeDiff, Nat.reduceAdd, Nat.reduceMul, Nat.reduceSub, Nat.reduceBEq, reduceCtorEq, ↓zR, zQ, Tr, StA, StT]
      rw [hd, c84, c46]
      rw [c84, c46] at ih2
      exact ih2
theorem e_sRankOfLine (w : List UInt8) (hw : w.length < 2 ^ 60) {h : AH} {post : AV → AH → Prop} : S 398 [.str w] h post k = post (.tup [.int .i64 (rkG w), .bool (goodLine w)]) h := S_eq fun _ hp => by
  unfold rkG at hp
  refine S_of rfl T398 ?_; unfold fi398
  cases hg : goodLine w <;> rw [hg] at hp
  · simp (maxSteps := 1000000) (disch := first | omega | rfl | (simp only [zL, two63, room] <;> omega) | fail) only [↓reduceIte, ↓zP, zW, WOp, evOp, evBin, binI, binSh, binS, evNil, keyIs, keyEq, mkv, AV.cells, AV.sc, optv, bnd, env, put, Env.get, Env.set, Env.del, Env.dels, Env.init, res1, resL, resV, fillP, splice, newRow, Nat.reduceEqDiff, Nat.reduceLT, Nat.reduceLeDiff, Nat.reduceAdd, Nat.reduceMul, Nat.reduceSub, Nat.reduceBEq, reduceCtorEq, ↓zR, zQ, Tr, StA, StT, e_liGoodG w hw, hg]
    exact hp
  · have hl := good_all hg
    simp (maxSteps := 1000000) (disch := first | omega | rfl | (simp only [zL, two63, room] <;> omega) | fail) only [↓reduceIte, ↓zP, zW, WOp, evOp, evBin, binI, binSh, binS, evNil, keyIs, keyEq, mkv, AV.cells, AV.sc, optv, bnd, env, put, Env.get, Env.set, Env.del, Env.dels, Env.init, res1, resL, resV, fillP, splice, newRow, Nat.reduceEqDiff, Nat.reduceLT, Nat.reduceLeDiff, Nat.reduceAdd, Nat.reduceMul, Nat.reduceSub, Nat.reduceBEq, reduceCtorEq, ↓zR, zQ, Tr, StA, StT, e_liGoodG w hw, hg, e_liCountT w (by omega), e_liCountF w (by omega), e_liCountD w (by omega)]
    refine lp_sRank hl.2.2 hl.2.1 w [] 0 rfl (by simp) ?_
    simp (maxSteps := 1000000) (disch := first | omega | rfl | (simp only [zL, two63, room] <;> omega) | fail) only [↓reduceIte, ↓zP, zW, WOp, evOp, evBin, binI, binSh, binS, evNil, keyIs, keyEq, mkv, AV.cells, AV.sc, optv, bnd, env, put, Env.get, Env.set, Env.del, Env.dels, Env.init, res1, resL, resV, fillP, splice, newRow, Nat.reduceEqDiff, Nat.reduceLT, Nat.reduceLeDiff, Nat.reduceAdd, Nat.reduceMul, Nat.reduceSub, Nat.reduceBEq, reduceCtorEq, ↓zR, zQ, Tr, StA, StT]
    simpa using hp
end Go.Proofs.YtejhhdpfndiliaaGreatDoor.Ab

/- LINES of ranks, the reference's. -/
namespace Go.Proofs.YtejhhdpfndiliaaGreatDoor.Ab
open Go
set_option maxRecDepth 100000
set_option maxHeartbeats 4000000

def okR (t g f r : Int) : Bool := nmG t g f && decide (0 ≤ r ∧ r ≤ cnL t g f - 1)
def liR (t g f r : Int) : List UInt8 := if okR t g f r then unr (t.toNat + g.toNat + f.toNat) t.toNat g.toNat f.toNat r.toNat else []
theorem lp_sUnr {h : AH} {R : X → Env → AH → Prop} : ∀ (n t g f r : Nat) (out : List UInt8), t + g + f = n → n ≤ 12 → r < mM t g f → out.length + n ≤ 12 → R (.exit 0) [(10, .str (out ++ unr n t g f r))] h →
    Cx (.loop lp405_0) [(0, .int .i64 t), (1, .int .i64 g), (2, .int .i64 f), (3, .int .i64 r), (10, .str out)] h R k k := by
  intro n
  induction n with
  | zero =>
    intro t g f r out hs hn hr ho hR
    obtain rfl : t = 0 := by omega
    obtain rfl : g = 0 := by omega
    obtain rfl : f = 0 := by omega
    have w1 : IntKind.i64.wrap (((0 : Nat) : Int) + ((0 : Nat) : Int)) = ((0 : Nat) : Int) := rfl
    have n1 : ¬ (((0 : Nat) : Int) > 0) := by omega
    simp only [unr, List.append_nil] at hR
    rw [w_loopb (c := lp405_0) (d := lb405_0) rfl]; unfold lb405_0
    simp (maxSteps := 1000000) (disch := first | omega | rfl | (simp only [zL, two63, room] <;> omega) | fail) only [↓reduceIte, ↓zP, zW, WOp, evOp, evBin, binI, binSh, binS, evNil, keyIs, keyEq, mkv, AV.cells, AV.sc, optv, bnd, env, put, Env.get, Env.set, Env.del, Env.dels, Env.init, res1, resL, resV, fillP, splice, newRow, Nat.reduceEqDiff, Nat.reduceLT, Nat.reduceLeDiff, Nat.reduceAdd, Nat.reduceMul, Nat.reduceSub, Nat.reduceBEq, reduceCtorEq, ↓zR, zQ, Tr, StA, StT, w1, n1]
    exact hR
  | succ n ih =>
    intro t g f r out hs hn hr ho hR
    have hp := (mM_facts (t := t) (g := g) (f := f) (by omega)).2.1 (by omega)
    obtain ⟨m1, m2⟩ := gM_lt (t := t) (g := g) (f := f) (by omega)
    have hm := (mM_facts (t := t) (g := g) (f := f) (by omega)).2.2.1
    have eG := @e_manyG t g f (by omega)
    have eF := @e_manyF t g f (by omega)
    have w1 : IntKind.i64.wrap ((t : Int) + (g : Int)) = ((t + g : Nat) : Int) := by rw [← Int.natCast_add]; exact wn (by omega)
    have w2 : IntKind.i64.wrap (((t + g : Nat) : Int) + (f : Int)) = ((t + g + f : Nat) : Int) := by rw [← Int.natCast_add]; exact wn (by omega)
    have n1 : ((t + g + f : Nat) : Int) > 0 := by omega
    have wg : IntKind.i64.wrap ((g : Int) - 1) = (g : Int) - 1 := wrap_i (by omega)
    have wf : IntKind.i64.wrap ((f : Int) - 1) = (f : Int) - 1 := wrap_i (by omega)
    have wt : IntKind.i64.wrap ((t : Int) - 1) = (t : Int) - 1 := wrap_i (by omega)
    have wS : IntKind.i64.wrap (((gM t g f : Nat) : Int) + ((fM t g f : Nat) : Int)) = ((gM t g f + fM t g f : Nat) : Int) := by rw [← Int.natCast_add]; exact wn (by omega)
    have wR1 : IntKind.i64.wrap ((r : Int) - ((gM t g f : Nat) : Int)) = (r : Int) - ((gM t g f : Nat) : Int) := wrap_i (by omega)
    have wR2 : IntKind.i64.wrap ((r : Int) - ((gM t g f + fM t g f : Nat) : Int)) = (r : Int) - ((gM t g f + fM t g f : Nat) : Int) := wrap_i (by omega)
    have l1 : ∀ y : UInt8, out.length + [y].length ≤ two63 := fun y => by simp only [two63, List.length_singleton]; omega
    simp only [unr] at hR
    rw [w_loopb (c := lp405_0) (d := lb405_0) rfl]; unfold lb405_0
    by_cases h1 : r < gM t g f
    · rw [if_pos h1] at hR
      have hg0 : 0 < g := by
        by_cases h : 0 < g
        · exact h
        · unfold gM at h1; rw [if_neg h] at h1; omega
      have hgm : gM t g f = mM t (g - 1) f := by unfold gM; rw [if_pos hg0]
      have ih' := ih t (g - 1) f r (out ++ [46]) (by omega) (by omega) (by omega) (by simp; omega) (by simpa using hR)
      rw [show ((g - 1 : Nat) : Int) = (g : Int) - 1 by omega] at ih'
      have k1 : (r : Int) < ((gM t g f : Nat) : Int) := by omega
      simp (maxSteps := 1000000) (disch := first | omega | rfl | (simp only [zL, two63, room] <;> omega) | fail) only [↓reduceIte, ↓zP, zW, WOp, evOp, evBin, binI, binSh, binS, evNil, keyIs, keyEq, mkv, AV.cells, AV.sc, optv, bnd, env, put, Env.get, Env.set, Env.del, Env.dels, Env.init, res1, resL, resV, fillP, splice, newRow, Nat.reduceEqDiff, Nat.reduceLT, Nat.reduceLeDiff, Nat.reduceAdd, Nat.reduceMul, Nat.reduceSub, Nat.reduceBEq, reduceCtorEq, ↓zR, zQ, Tr, StA, StT, w1, w2, n1, wg, wf, eG, eF, k1, l1]
      rw [w_loopn (c := lp405_0) rfl]
      simp (maxSteps := 1000000) (disch := first | omega | rfl | (simp only [zL, two63, room] <;> omega) | fail) only [↓reduceIte, ↓zP, zW, WOp, evOp, evBin, binI, binSh, binS, evNil, keyIs, keyEq, mkv, AV.cells, AV.sc, optv, bnd, env, put, Env.get, Env.set, Env.del, Env.dels, Env.init, res1, resL, resV, fillP, splice, newRow, Nat.reduceEqDiff, Nat.reduceLT, Nat.reduceLeDiff, Nat.reduceAdd, Nat.reduceMul, Nat.reduceSub, Nat.reduceBEq, reduceCtorEq, ↓zR, zQ, Tr, StA, StT]
      exact ih'
    · rw [if_neg h1] at hR
      have k1 : ¬ ((r : Int) < ((gM t g f : Nat) : Int)) := by omega
      by_cases h2 : r < gM t g f + fM t g f
      · rw [if_pos h2] at hR
        have hf0 : 0 < f := by
          by_cases h : 0 < f
          · exact h
          · unfold fM at h2; rw [if_neg h] at h2; omega
        have hfm : fM t g f = mM t g (f - 1) := by unfold fM; rw [if_pos hf0]
        have ih' := ih t g (f - 1) (r - gM t g f) (out ++ [70]) (by omega) (by omega) (by omega) (by simp; omega) (by simpa using hR)
        rw [show ((f - 1 : Nat) : Int) = (f : Int) - 1 by omega, show ((r - gM t g f : Nat) : Int) = (r : Int) - ((gM t g f : Nat) : Int) by omega] at ih'
        have k2 : (r : Int) < ((gM t g f + fM t g f : Nat) : Int) := by omega
        simp (maxSteps := 1000000) (disch := first | omega | rfl | (simp only [zL, two63, room] <;> omega) | fail) only [↓reduceIte, ↓zP, zW, WOp, evOp, evBin, binI, binSh, binS, evNil, keyIs, keyEq, mkv, AV.cells, AV.sc, optv, bnd, env, put, Env.get, Env.set, Env.del, Env.dels, Env.init, res1, resL, resV, fillP, splice, newRow, Nat.reduceEqDiff, Nat.reduceLT, Nat.reduceLeDiff, Nat.reduceAdd, Nat.reduceMul, Nat.reduceSub, Nat.reduceBEq, reduceCtorEq, ↓zR, zQ, Tr, StA, StT, w1, w2, n1, wg, wf, eG, eF, k1, k2, wS, wR1, l1]
        rw [w_loopn (c := lp405_0) rfl]
        simp (maxSteps := 1000000) (disch := first | omega | rfl | (simp only [zL, two63, room] <;> omega) | fail) only [↓reduceIte, ↓zP, zW, WOp, evOp, evBin, binI, binSh, binS, evNil, keyIs, keyEq, mkv, AV.cells, AV.sc, optv, bnd, env, put, Env.get, Env.set, Env.del, Env.dels, Env.init, res1, resL, resV, fillP, splice, newRow, Nat.reduceEqDiff, Nat.reduceLT, Nat.reduceLeDiff, Nat.reduceAdd, Nat.reduceMul, Nat.reduceSub, Nat.reduceBEq, reduceCtorEq, ↓zR, zQ, Tr, StA, StT]
        exact ih'
      · rw [if_neg h2] at hR
        have ht0 : 0 < t := by
          by_cases h : 0 < t
          · exact h
          · have : tM t g f = 0 := by unfold tM; rw [if_neg h]
            omega
        have htm : tM t g f = mM (t - 1) g f := by unfold tM; rw [if_pos ht0]
        have ih' := ih (t - 1) g f (r - (gM t g f + fM t g f)) (out ++ [84]) (by omega) (by omega) (by omega) (by simp; omega) (by simpa using hR)
        rw [show ((t - 1 : Nat) : Int) = (t : Int) - 1 by omega, show ((r - (gM t g f + fM t g f) : Nat) : Int) = (r : Int) - ((gM t g f + fM t g f : Nat) : Int) by omega] at ih'
        have k2 : ¬ ((r : Int) < ((gM t g f + fM t g f : Nat) : Int)) := by omega
        simp (maxSteps := 1000000) (disch := first | omega | rfl | (simp only [zL, two63, room] <;> omega) | fail) only [↓reduceIte, ↓zP, zW, WOp, evOp, evBin, binI, binSh, binS, evNil, keyIs, keyEq, mkv, AV.cells, AV.sc, optv, bnd, env, put, Env.get, Env.set, Env.del, Env.dels, Env.init, res1, resL, resV, fillP, splice, newRow, Nat.reduceEqDiff, Nat.reduceLT, Nat.reduceLeDiff, Nat.reduceAdd, Nat.reduceMul, Nat.reduceSub, Nat.reduceBEq, reduceCtorEq, ↓zR, zQ, Tr, StA, StT, w1, w2, n1, wg, wf, wt, eG, eF, k1, k2, wS, wR2, l1]
        rw [w_loopn (c := lp405_0) rfl]
        simp (maxSteps := 1000000) (disch := first | omega | rfl | (simp only [zL, two63, room] <;> omega) | fail) only [↓reduceIte, ↓zP, zW, WOp, evOp, evBin, binI, binSh, binS, evNil, keyIs, keyEq, mkv, AV.cells, AV.sc, optv, bnd, env, put, Env.get, Env.set, Env.del, Env.dels, Env.init, res1, resL, resV, fillP, splice, newRow, Nat.reduceEqDiff, Nat.reduceLT, Nat.reduceLeDiff, Nat.reduceAdd, Nat.reduceMul, Nat.reduceSub, Nat.reduceBEq, reduceCtorEq, ↓zR, zQ, Tr, StA, StT]
        exact ih'
theorem c_sLineOfRank (t g f r : Int) {h : AH} {post : AV → AH → Prop} (hp : ∀ h', Pre h h' → post (.tup [.str (liR t g f r), .bool (okR t g f r)]) h') : S 405 [.int .i64 t, .int .i64 g, .int .i64 f, .int .i64 r] h post k := by
  unfold liR okR cnL at hp
  refine S_of rfl T405 ?_; unfold fi405
  cases e : nmG t g f <;> simp only [e, Bool.false_and, Bool.true_and, if_true, if_false, Bool.false_eq_true] at hp
  · simp (maxSteps := 1000000) (disch := first | omega | rfl | (simp only [zL, two63, room] <;> omega) | fail) only [↓reduceIte, ↓zP, zW, WOp, evOp, evBin, binI, binSh, binS, evNil, keyIs, keyEq, mkv, AV.cells, AV.sc, optv, bnd, env, put, Env.get, Env.set, Env.del, Env.dels, Env.init, res1, resL, resV, fillP, splice, newRow, Nat.reduceEqDiff, Nat.reduceLT, Nat.reduceLeDiff, Nat.reduceAdd, Nat.reduceMul, Nat.reduceSub, Nat.reduceBEq, reduceCtorEq, ↓zR, zQ, Tr, StA, StT]
    refine c_liThree t g f ?_
    intro h' hp'
    rw [e]
    simp (maxSteps := 1000000) (disch := first | omega | rfl | (simp only [zL, two63, room] <;> omega) | fail) only [↓reduceIte, ↓zP, zW, WOp, evOp, evBin, binI, binSh, binS, evNil, keyIs, keyEq, mkv, AV.cells, AV.sc, optv, bnd, env, put, Env.get, Env.set, Env.del, Env.dels, Env.init, res1, resL, resV, fillP, splice, newRow, Nat.reduceEqDiff, Nat.reduceLT, Nat.reduceLeDiff, Nat.reduceAdd, Nat.reduceMul, Nat.reduceSub, Nat.reduceBEq, reduceCtorEq, ↓zR, zQ, Tr, StA, StT]
    exact hp h' hp'
  · obtain ⟨t, g, f, rfl, rfl, rfl, h1, h2⟩ := nmG_nat e
    simp only [Int.toNat_natCast] at hp
    obtain ⟨-, -, hm, hm0⟩ := mM_facts h2
    have wM : IntKind.i64.wrap (((mM t g f : Nat) : Int) - 1) = ((mM t g f : Nat) : Int) - 1 := wrap_i (by omega)
    simp (maxSteps := 1000000) (disch := first | omega | rfl | (simp only [zL, two63, room] <;> omega) | fail) only [↓reduceIte, ↓zP, zW, WOp, evOp, evBin, binI, binSh, binS, evNil, keyIs, keyEq, mkv, AV.cells, AV.sc, optv, bnd, env, put, Env.get, Env.set, Env.del, Env.dels, Env.init, res1, resL, resV, fillP, splice, newRow, Nat.reduceEqDiff, Nat.reduceLT, Nat.reduceLeDiff, Nat.reduceAdd, Nat.reduceMul, Nat.reduceSub, Nat.reduceBEq, reduceCtorEq, ↓zR, zQ, Tr, StA, StT]
    refine c_liThree t g f ?_
    intro h' hp'
    rw [e]
    cases e2 : decide (0 ≤ r ∧ r ≤ ((mM t g f : Nat) : Int) - 1)
    · have := hp h' hp'
      simp only [e2, Bool.false_eq_true, if_false] at this
      simp (maxSteps := 1000000) (disch := first | omega | rfl | (simp only [zL, two63, room] <;> omega) | fail) only [↓reduceIte, ↓zP, zW, WOp, evOp, evBin, binI, binSh, binS, evNil, keyIs, keyEq, mkv, AV.cells, AV.sc, optv, bnd, env, put, Env.get, Env.set, Env.del, Env.dels, Env.init, res1, resL, resV, fillP, splice, newRow, Nat.reduceEqDiff, Nat.reduceLT, Nat.reduceLeDiff, Nat.reduceAdd, Nat.reduceMul, Nat.reduceSub, Nat.reduceBEq, reduceCtorEq, ↓zR, zQ, Tr, StA, StT, e_liMany t g f h2, wM, e_l1In, e2]
      exact this
    · have := hp h' hp'
      simp only [e2, if_true] at this
      have e3 := of_decide_eq_true e2
      obtain ⟨r, rfl⟩ := Int.eq_ofNat_of_zero_le e3.1
      simp (maxSteps := 1000000) (disch := first | omega | rfl | (simp only [zL, two63, room] <;> omega) | fail) only [↓reduceIte, ↓zP, zW, WOp, evOp, evBin, binI, binSh, binS, evNil, keyIs, keyEq, mkv, AV.cells, AV.sc, optv, bnd, env, put, Env.get, Env.set, Env.del, Env.dels, Env.init, res1, resL, resV, fillP, splice, newRow, Nat.reduceEqDiff, Nat.reduceLT, Nat.reduceLeDiff, Nat.reduceAdd, Nat.reduceMul, Nat.reduceSub, Nat.reduceBEq, reduceCtorEq, ↓zR, zQ, Tr, StA, StT, e_liMany t g f h2, wM, e_l1In, e2]
      refine lp_sUnr (t + g + f) t g f r [] rfl h2 (by omega) (by simp; omega) ?_
      simp (maxSteps := 1000000) (disch := first | omega | rfl | (simp only [zL, two63, room] <;> omega) | fail) only [↓reduceIte, ↓zP, zW, WOp, evOp, evBin, binI, binSh, binS, evNil, keyIs, keyEq, mkv, AV.cells, AV.sc, optv, bnd, env, put, Env.get, Env.set, Env.del, Env.dels, Env.init, res1, resL, resV, fillP, splice, newRow, Nat.reduceEqDiff, Nat.reduceLT, Nat.reduceLeDiff, Nat.reduceAdd, Nat.reduceMul, Nat.reduceSub, Nat.reduceBEq, reduceCtorEq, ↓zR, zQ, Tr, StA, StT]
      simpa using this
end Go.Proofs.YtejhhdpfndiliaaGreatDoor.Ab

/- LINES of ranks, the program's. -/
namespace Go.Proofs.YtejhhdpfndiliaaGreatDoor.Ab
open Go
set_option maxRecDepth 100000
set_option maxHeartbeats 4000000

def cb3 (t g f : Nat) (b : UInt8) : Nat := if b = 84 then t else if b = 70 then f else g
theorem row3 {h : AH} {c : Nat} {t g f : Nat} (hr : h[c]? = some (.row [.int .i64 g, .int .i64 f, .int .i64 t] 0 0 false)) : rdRow h c 0 0 3 = some [.int .i64 g, .int .i64 f, .int .i64 t] ∧ rdRow h c 0 0 1 = some [.int .i64 g] ∧ rdRow h c 0 1 1 = some [.int .i64 f] ∧ rdRow h c 0 2 1 = some [.int .i64 t] := by
  refine ⟨?_, ?_, ?_, ?_⟩ <;> simp [rdRow, hr]
theorem lp_in {h : AH} {c : Nat} {t g f r : Nat} (hs : t + g + f ≤ 12) (hr : h[c]? = some (.row [.int .i64 g, .int .i64 f, .int .i64 t] 0 0 false)) {v : AV} {n i : Int} (b : UInt8) (hb : isSign b = true) {R : X → Env → AH → Prop}
    (hno : (cb3 t g f b = 0 ∨ r < bel t g f b) → ∀ h', Pre h h' → Cx (.loop lp403_1) [(3, .int .i64 r), (10, .ptr c 0 0 3), (11, v), (12, .int .i64 (sgn b - 1)), (37, .int .i64 n), (38, .int .i64 i)] h' R k k)
    (hyes : cb3 t g f b ≠ 0 → bel t g f b ≤ r → ∀ h', Pre h h' → R (.exit 2) [(3, .int .i64 r), (10, .ptr c 0 0 3), (11, v), (12, .int .i64 (sgn b)), (37, .int .i64 n), (38, .int .i64 i)] h') :
    Cx (.loop lp403_1) [(3, .int .i64 r), (10, .ptr c 0 0 3), (11, v), (12, .int .i64 (sgn b)), (37, .int .i64 n), (38, .int .i64 i)] h R k k := by
  obtain ⟨r3, a0, a1, a2⟩ := row3 hr
  have hbel : ∀ post : AV → AH → Prop, (∀ h', Pre h h' → post (.int .i64 (bel t g f b : Nat)) h') → S 439 [.agg [.int .i64 g, .int .i64 f, .int .i64 t], .int .i64 (sgn b)] h post k := fun post hp => c_below t g f hs b hb hp
  rcases sign3 hb with rfl | rfl | rfl
  all_goals
    simp only [show sgn 84 = 2 from rfl, show sgn 46 = 0 from rfl, show sgn 70 = 1 from rfl] at *
    have w1 : IntKind.i64.wrap ((2 : Int) - 1) = 2 - 1 := rfl
    have w2 : IntKind.i64.wrap ((1 : Int) - 1) = 1 - 1 := rfl
    have w3 : IntKind.i64.wrap ((0 : Int) - 1) = 0 - 1 := rfl
    rw [w_loopb (c := lp403_1) (d := lb403_1) rfl]; unfold lb403_1
  · have hcb : cb3 t g f 84 = t := rfl
    rw [hcb] at hno hyes
    by_cases h0 : t = 0
    · have k0 : (((t : Nat) : Int) == 0) = true := by simp [h0]
      simp (maxSteps := 1000000) (disch := first | omega | rfl | (simp only [zL, two63, room] <;> omega) | fail) only [↓reduceIte, ↓zP, zW, WOp, evOp, evBin, binI, binSh, binS, evNil, keyIs, keyEq, mkv, AV.cells, AV.sc, optv, bnd, env, put, Env.get, Env.set, Env.del, Env.dels, Env.init, res1, resL, resV, fillP, splice, newRow, Nat.reduceEqDiff, Nat.reduceLT, Nat.reduceLeDiff, Nat.reduceAdd, Nat.reduceMul, Nat.reduceSub, Nat.reduceBEq, reduceCtorEq, ↓zR, zQ, Tr, StA, StT, t32, a2, k0, w1]
      rw [w_loopn (c := lp403_1) rfl]
      simp (maxSteps := 1000000) (disch := first | omega | rfl | (simp only [zL, two63, room] <;> omega) | fail) only [↓reduceIte, ↓zP, zW, WOp, evOp, evBin, binI, binSh, binS, evNil, keyIs, keyEq, mkv, AV.cells, AV.sc, optv, bnd, env, put, Env.get, Env.set, Env.del, Env.dels, Env.init, res1, resL, resV, fillP, splice, newRow, Nat.reduceEqDiff, Nat.reduceLT, Nat.reduceLeDiff, Nat.reduceAdd, Nat.reduceMul, Nat.reduceSub, Nat.reduceBEq, reduceCtorEq, ↓zR, zQ, Tr, StA, StT]
      exact hno (.inl h0) h (Pre.refl h)
    · have k0 : (((t : Nat) : Int) == 0) = false := by simp; omega
      simp (maxSteps := 1000000) (disch := first | omega | rfl | (simp only [zL, two63, room] <;> omega) | fail) only [↓reduceIte, ↓zP, zW, WOp, evOp, evBin, binI, binSh, binS, evNil, keyIs, keyEq, mkv, AV.cells, AV.sc, optv, bnd, env, put, Env.get, Env.set, Env.del, Env.dels, Env.init, res1, resL, resV, fillP, splice, newRow, Nat.reduceEqDiff, Nat.reduceLT, Nat.reduceLeDiff, Nat.reduceAdd, Nat.reduceMul, Nat.reduceSub, Nat.reduceBEq, reduceCtorEq, ↓zR, zQ, Tr, StA, StT, t32, a2, k0, r3]
      refine hbel _ ?_
      intro h' hp'
      by_cases h1 : r < bel t g f 84
      · have k1 : ((bel t g f 84 : Nat) : Int) > (r : Int) := by omega
        simp (maxSteps := 1000000) (disch := first | omega | rfl | (simp only [zL, two63, room] <;> omega) | fail) only [↓reduceIte, ↓zP, zW, WOp, evOp, evBin, binI, binSh, binS, evNil, keyIs, keyEq, mkv, AV.cells, AV.sc, optv, bnd, env, put, Env.get, Env.set, Env.del, Env.dels, Env.init, res1, resL, resV, fillP, splice, newRow, Nat.reduceEqDiff, Nat.reduceLT, Nat.reduceLeDiff, Nat.reduceAdd, Nat.reduceMul, Nat.reduceSub, Nat.reduceBEq, reduceCtorEq, ↓zR, zQ, Tr, StA, StT, k1, w1]
        rw [w_loopn (c := lp403_1) rfl]
        simp (maxSteps := 1000000) (disch := first | omega | rfl | (simp only [zL, two63, room] <;> omega) | fail) only [↓reduceIte, ↓zP, zW, WOp, evOp, evBin, binI, binSh, binS, evNil, keyIs, keyEq, mkv, AV.cells, AV.sc, optv, bnd, env, put, Env.get, Env.set, Env.del, Env.dels, Env.init, res1, resL, resV, fillP, splice, newRow, Nat.reduceEqDiff, Nat.reduceLT, Nat.reduceLeDiff, Nat.reduceAdd, Nat.reduceMul, Nat.reduceSub, Nat.reduceBEq, reduceCtorEq, ↓zR, zQ, Tr, StA, StT]
        exact hno (.inr h1) h' hp'
      · have k1 : ¬ (((bel t g f 84 : Nat) : Int) > (r : Int)) := by omega
        simp (maxSteps := 1000000) (disch := first | omega | rfl | (simp only [zL, two63, room] <;> omega) | fail) only [↓reduceIte, ↓zP, zW, WOp, evOp, evBin, binI, binSh, binS, evNil, keyIs, keyEq, mkv, AV.cells, AV.sc, optv, bnd, env, put, Env.get, Env.set, Env.del, Env.dels, Env.init, res1, resL, resV, fillP, splice, newRow, Nat.reduceEqDiff, Nat.reduceLT, Nat.reduceLeDiff, Nat.reduceAdd, Nat.reduceMul, Nat.reduceSub, Nat.reduceBEq, reduceCtorEq, ↓zR, zQ, Tr, StA, StT, k1]
        exact hyes h0 (by omega) h' hp'
  · have hcb : cb3 t g f 46 = g := rfl
    rw [hcb] at hno hyes
    by_cases h0 : g = 0
    · have k0 : (((g : Nat) : Int) == 0) = true := by simp [h0]
      simp (maxSteps := 1000000) (disch := first | omega | rfl | (simp only [zL, two63, room] <;> omega) | fail) only [↓reduceIte, ↓zP, zW, WOp, evOp, evBin, binI, binSh, binS, evNil, keyIs, keyEq, mkv, AV.cells, AV.sc, optv, bnd, env, put, Env.get, Env.set, Env.del, Env.dels, Env.init, res1, resL, resV, fillP, splice, newRow, Nat.reduceEqDiff, Nat.reduceLT, Nat.reduceLeDiff, Nat.reduceAdd, Nat.reduceMul, Nat.reduceSub, Nat.reduceBEq, reduceCtorEq, ↓zR, zQ, Tr, StA, StT, t30, a0, k0, w3]
      rw [w_loopn (c := lp403_1) rfl]
      simp (maxSteps := 1000000) (disch := first | omega | rfl | (simp only [zL, two63, room] <;> omega) | fail) only [↓reduceIte, ↓zP, zW, WOp, evOp, evBin, binI, binSh, binS, evNil, keyIs, keyEq, mkv, AV.cells, AV.sc, optv, bnd, env, put, Env.get, Env.set, Env.del, Env.dels, Env.init, res1, resL, resV, fillP, splice, newRow, Nat.reduceEqDiff, Nat.reduceLT, Nat.reduceLeDiff, Nat.reduceAdd, Nat.reduceMul, Nat.reduceSub, Nat.reduceBEq, reduceCtorEq, ↓zR, zQ, Tr, StA, StT]
      exact hno (.inl h0) h (Pre.refl h)
    · have k0 : (((g : Nat) : Int) == 0) = false := by simp; omega
      simp (maxSteps := 1000000) (disch := first | omega | rfl | (simp only [zL, two63, room] <;> omega) | fail) only [↓reduceIte, ↓zP, zW, WOp, evOp, evBin, binI, binSh, binS, evNil, keyIs, keyEq, mkv, AV.cells, AV.sc, optv, bnd, env, put, Env.get, Env.set, Env.del, Env.dels, Env.init, res1, resL, resV, fillP, splice, newRow, Nat.reduceEqDiff, Nat.reduceLT, Nat.reduceLeDiff, Nat.reduceAdd, Nat.reduceMul, Nat.reduceSub, Nat.reduceBEq, reduceCtorEq, ↓zR, zQ, Tr, StA, StT, t30, a0, k0, r3]
      refine hbel _ ?_
      intro h' hp'
      by_cases h1 : r < bel t g f 46
      · have k1 : ((bel t g f 46 : Nat) : Int) > (r : Int) := by omega
        simp (maxSteps := 1000000) (disch := first | omega | rfl | (simp only [zL, two63, room] <;> omega) | fail) only [↓reduceIte, ↓zP, zW, WOp, evOp, evBin, binI, binSh, binS, evNil, keyIs, keyEq, mkv, AV.cells, AV.sc, optv, bnd, env, put, Env.get, Env.set, Env.del, Env.dels, Env.init, res1, resL, resV, fillP, splice, newRow, Nat.reduceEqDiff, Nat.reduceLT, Nat.reduceLeDiff, Nat.reduceAdd, Nat.reduceMul, Nat.reduceSub, Nat.reduceBEq, reduceCtorEq, ↓zR, zQ, Tr, StA, StT, k1, w3]
        rw [w_loopn (c := lp403_1) rfl]
        simp (maxSteps := 1000000) (disch := first | omega | rfl | (simp only [zL, two63, room] <;> omega) | fail) only [↓reduceIte, ↓zP, zW, WOp, evOp, evBin, binI, binSh, binS, evNil, keyIs, keyEq, mkv, AV.cells, AV.sc, optv, bnd, env, put, Env.get, Env.set, Env.del, Env.dels, Env.init, res1, resL, resV, fillP, splice, newRow, Nat.reduceEqDiff, Nat.reduceLT, Nat.reduceLeDiff, Nat.reduceAdd, Nat.reduceMul, Nat.reduceSub, Nat.reduceBEq, reduceCtorEq, ↓zR, zQ, Tr, StA, StT]
        exact hno (.inr h1) h' hp'
      · have k1 : ¬ (((bel t g f 46 : Nat) : Int) > (r : Int)) := by omega
        simp (maxSteps := 1000000) (disch := first | omega | rfl | (simp only [zL, two63, room] <;> omega) | fail) only [↓reduceIte, ↓zP, zW, WOp, evOp, evBin, binI, binSh, binS, evNil, keyIs, keyEq, mkv, AV.cells, AV.sc, optv, bnd, env, put, Env.get, Env.set, Env.del, Env.dels, Env.init, res1, resL, resV, fillP, splice, newRow, Nat.reduceEqDiff, Nat.reduceLT, Nat.reduceLeDiff, Nat.reduceAdd, Nat.reduceMul, Nat.reduceSub, Nat.reduceBEq, reduceCtorEq, ↓zR, zQ, Tr, StA, StT, k1]
        exact hyes h0 (by omega) h' hp'
  · have hcb : cb3 t g f 70 = f := rfl
    rw [hcb] at hno hyes
    by_cases h0 : f = 0
    · have k0 : (((f : Nat) : Int) == 0) = true := by simp [h0]
      simp (maxSteps := 1000000) (disch := first | omega | rfl | (simp only [zL, two63, room] <;> omega) | fail) only [↓reduceIte, ↓zP, zW, WOp, evOp, evBin, binI, binSh, binS, evNil, keyIs, keyEq, mkv, AV.cells, AV.sc, optv, bnd, env, put, Env.get, Env.set, Env.del, Env.dels, Env.init, res1, resL, resV, fillP, splice, newRow, Nat.reduceEqDiff, Nat.reduceLT, Nat.reduceLeDiff, Nat.reduceAdd, Nat.reduceMul, Nat.reduceSub, Nat.reduceBEq, reduceCtorEq, ↓zR, zQ, Tr, StA, StT, t31, a1, k0, w2]
      rw [w_loopn (c := lp403_1) rfl]
      simp (maxSteps := 1000000) (disch := first | omega | rfl | (simp only [zL, two63, room] <;> omega) | fail) only [↓reduceIte, ↓zP, zW, WOp, evOp, evBin, binI, binSh, binS, evNil, keyIs, keyEq, mkv, AV.cells, AV.sc, optv, bnd, env, put, Env.get, Env.set, Env.del, Env.dels, Env.init, res1, resL, resV, fillP, splice, newRow, Nat.reduceEqDiff, Nat.reduceLT, Nat.reduceLeDiff, Nat.reduceAdd, Nat.reduceMul, Nat.reduceSub, Nat.reduceBEq, reduceCtorEq, ↓zR, zQ, Tr, StA, StT]
      exact hno (.inl h0) h (Pre.refl h)
    · have k0 : (((f : Nat) : Int) == 0) = false := by simp; omega
      simp (maxSteps := 1000000) (disch := first | omega | rfl | (simp only [zL, two63, room] <;> omega) | fail) only [↓reduceIte, ↓zP, zW, WOp, evOp, evBin, binI, binSh, binS, evNil, keyIs, keyEq, mkv, AV.cells, AV.sc, optv, bnd, env, put, Env.get, Env.set, Env.del, Env.dels, Env.init, res1, resL, resV, fillP, splice, newRow, Nat.reduceEqDiff, Nat.reduceLT, Nat.reduceLeDiff, Nat.reduceAdd, Nat.reduceMul, Nat.reduceSub, Nat.reduceBEq, reduceCtorEq, ↓zR, zQ, Tr, StA, StT, t31, a1, k0, r3]
      refine hbel _ ?_
      intro h' hp'
      by_cases h1 : r < bel t g f 70
      · have k1 : ((bel t g f 70 : Nat) : Int) > (r : Int) := by omega
        simp (maxSteps := 1000000) (disch := first | omega | rfl | (simp only [zL, two63, room] <;> omega) | fail) only [↓reduceIte, ↓zP, zW, WOp, evOp, evBin, binI, binSh, binS, evNil, keyIs, keyEq, mkv, AV.cells, AV.sc, optv, bnd, env, put, Env.get, Env.set, Env.del, Env.dels, Env.init, res1, resL, resV, fillP, splice, newRow, Nat.reduceEqDiff, Nat.reduceLT, Nat.reduceLeDiff, Nat.reduceAdd, Nat.reduceMul, Nat.reduceSub, Nat.reduceBEq, reduceCtorEq, ↓zR, zQ, Tr, StA, StT, k1, w2]
        rw [w_loopn (c := lp403_1) rfl]
        simp (maxSteps := 1000000) (disch := first | omega | rfl | (simp only [zL, two63, room] <;> omega) | fail) only [↓reduceIte, ↓zP, zW, WOp, evOp, evBin, binI, binSh, binS, evNil, keyIs, keyEq, mkv, AV.cells, AV.sc, optv, bnd, env, put, Env.get, Env.set, Env.del, Env.dels, Env.init, res1, resL, resV, fillP, splice, newRow, Nat.reduceEqDiff, Nat.reduceLT, Nat.reduceLeDiff, Nat.reduceAdd, Nat.reduceMul, Nat.reduceSub, Nat.reduceBEq, reduceCtorEq, ↓zR, zQ, Tr, StA, StT]
        exact hno (.inr h1) h' hp'
      · have k1 : ¬ (((bel t g f 70 : Nat) : Int) > (r : Int)) := by omega
        simp (maxSteps := 1000000) (disch := first | omega | rfl | (simp only [zL, two63, room] <;> omega) | fail) only [↓reduceIte, ↓zP, zW, WOp, evOp, evBin, binI, binSh, binS, evNil, keyIs, keyEq, mkv, AV.cells, AV.sc, optv, bnd, env, put, Env.get, Env.set, Env.del, Env.dels, Env.init, res1, resL, resV, fillP, splice, newRow, Nat.reduceEqDiff, Nat.reduceLT, Nat.reduceLeDiff, Nat.reduceAdd, Nat.reduceMul, Nat.reduceSub, Nat.reduceBEq, reduceCtorEq, ↓zR, zQ, Tr, StA, StT, k1]
        exact hyes h0 (by omega) h' hp'
end Go.Proofs.YtejhhdpfndiliaaGreatDoor.Ab

/- LINES of ranks, the program's: the outer loop. -/
namespace Go.Proofs.YtejhhdpfndiliaaGreatDoor.Ab
open Go
set_option maxRecDepth 100000
set_option maxHeartbeats 4000000

theorem y84 : ([46, 70, 84] : List UInt8).getD (Int.toNat 2) 0 = 84 := rfl
theorem y70 : ([46, 70, 84] : List UInt8).getD (Int.toNat 1) 0 = 70 := rfl
theorem y46 : ([46, 70, 84] : List UInt8).getD (Int.toNat 0) 0 = 46 := rfl
theorem g84 : sgn 84 = 2 := rfl
theorem g70 : sgn 70 = 1 := rfl
theorem g46 : sgn 46 = 0 := rfl
theorem scU1 (x : UInt8) : (encU x).all AV.sc = true := rfl
theorem lp_unr {b B : AH} (hB : B.length = b.length + 1) {N : Nat} (hN : N ≤ 12) {R : X → Env → AH → Prop} : ∀ (n t g f r i : Nat) (out : List UInt8) (v : AV) (h : AH), t + g + f = n → i + n = N → out.length = i → r < mM t g f → OwL 1 encU B h v out → Pre b h → B.length ≤ h.length →
    h[b.length]? = some (AO.row [.int .i64 g, .int .i64 f, .int .i64 t] 0 0 false) →
    (∀ v' h', OwL 1 encU B h' v' (out ++ unr n t g f r) → Pre b h' → R (.exit 0) [(11, v')] h') →
    Cx (.loop lp403_0) [(3, .int .i64 r), (10, .ptr b.length 0 0 3), (11, v), (37, .int .i64 N), (38, .int .i64 i)] h R k k := by
  intro n
  induction n with
  | zero =>
    intro t g f r i out v h hs hi hol hrk ho hpb hBl hr hR
    have hiN : i = N := by omega
    subst hiN
    simp only [unr, List.append_nil] at hR
    rw [w_loopb (c := lp403_0) (d := lb403_0) rfl]; unfold lb403_0
    simp (maxSteps := 1000000) (disch := first | omega | rfl | (simp only [zL, two63, room] <;> omega) | fail) only [↓reduceIte, ↓zP, zW, WOp, evOp, evBin, binI, binSh, binS, evNil, keyIs, keyEq, mkv, AV.cells, AV.sc, optv, bnd, env, put, Env.get, Env.set, Env.del, Env.dels, Env.init, res1, resL, resV, fillP, splice, newRow, Nat.reduceEqDiff, Nat.reduceLT, Nat.reduceLeDiff, Nat.reduceAdd, Nat.reduceMul, Nat.reduceSub, Nat.reduceBEq, reduceCtorEq, ↓zR, zQ, Tr, StA, StT]
    exact hR v h ho hpb
  | succ n ih =>
    intro t g f r i out v h hs hi hol hrk ho hpb hBl hr hR
    have hlt : b.length < h.length := by omega
    have hp := (mM_facts (t := t) (g := g) (f := f) (by omega)).2.1 (by omega)
    have hm := (mM_facts (t := t) (g := g) (f := f) (by omega)).2.2.1
    have hiN : (i : Int) < (N : Int) := by omega
    have wi : IntKind.i64.wrap ((i : Int) + 1) = ((i + 1 : Nat) : Int) := by rw [IntKind.wrap_i64]; omega
    have b84 : bel t g f 84 = gM t g f + fM t g f := rfl
    have b70 : bel t g f 70 = gM t g f := rfl
    have b46 : bel t g f 46 = 0 := rfl
    have z84 : cb3 t g f 84 = t := rfl
    have z70 : cb3 t g f 70 = f := rfl
    have z46 : cb3 t g f 46 = g := rfl
    have tM0 : t = 0 → tM t g f = 0 := fun h => by unfold tM; rw [if_neg (by omega)]
    have fM0 : f = 0 → fM t g f = 0 := fun h => by unfold fM; rw [if_neg (by omega)]
    have gM0 : g = 0 → gM t g f = 0 := fun h => by unfold gM; rw [if_neg (by omega)]
    simp only [unr] at hR
    rw [w_loopb (c := lp403_0) (d := lb403_0) rfl]; unfold lb403_0
    simp (maxSteps := 1000000) (disch := first | omega | rfl | (simp only [zL, two63, room] <;> omega) | fail) only [↓reduceIte, ↓zP, zW, WOp, evOp, evBin, binI, binSh, binS, evNil, keyIs, keyEq, mkv, AV.cells, AV.sc, optv, bnd, env, put, Env.get, Env.set, Env.del, Env.dels, Env.init, res1, resL, resV, fillP, splice, newRow, Nat.reduceEqDiff, Nat.reduceLT, Nat.reduceLeDiff, Nat.reduceAdd, Nat.reduceMul, Nat.reduceSub, Nat.reduceBEq, reduceCtorEq, ↓zR, zQ, Tr, StA, StT, hiN]
    refine lp_in (by omega) hr 84 rfl ?_ ?_
    · intro hn84 hA hpA
      have hx84 : r < gM t g f + fM t g f := by
        rcases hn84 with h0 | h0
        · have := tM0 (z84 ▸ h0); omega
        · omega
      have ho := ho.pre hpA
      have hpb := hpb.trans hpA
      have hr : hA[b.length]? = some (AO.row [.int .i64 g, .int .i64 f, .int .i64 t] 0 0 false) := by rw [hpA.2 _ hlt]; exact hr
      have hlt : b.length < hA.length := Nat.lt_of_lt_of_le hlt hpA.1
      have hBl : B.length ≤ hA.length := Nat.le_trans hBl hpA.1
      clear hpA
      refine lp_in (by omega) hr 70 rfl ?_ ?_
      · intro hn70 hC hpC
        have hx70 : r < gM t g f := by
          rcases hn70 with h0 | h0
          · have := fM0 (z70 ▸ h0); omega
          · omega
        have hg0 : g ≠ 0 := fun h => by have := gM0 h; omega
        have ho := ho.pre hpC
        have hpb := hpb.trans hpC
        have hr : hC[b.length]? = some (AO.row [.int .i64 g, .int .i64 f, .int .i64 t] 0 0 false) := by rw [hpC.2 _ hlt]; exact hr
        have hlt : b.length < hC.length := Nat.lt_of_lt_of_le hlt hpC.1
        have hBl : B.length ≤ hC.length := Nat.le_trans hBl hpC.1
        clear hpC
        refine lp_in (by omega) hr 46 rfl ?_ ?_
        · intro hn46
          rcases hn46 with h0 | h0
          · exact absurd (z46 ▸ h0) hg0
          · omega
        · skip
          intro hcb hbl h1 hp1
          have hr1 : h1[b.length]? = some (AO.row [.int .i64 g, .int .i64 f, .int .i64 t] 0 0 false) := by rw [hp1.2 _ hlt]; exact hr
          obtain ⟨r3, a0, a1, a2⟩ := row3 hr1
          have wR : IntKind.i64.wrap ((r : Int) - ((bel t g f 46 : Nat) : Int)) = ((r - bel t g f 46 : Nat) : Int) := by rw [wrap_i (by omega)]; omega
          simp (maxSteps := 1000000) (disch := first | omega | rfl | (simp only [zL, two63, room] <;> omega) | fail) only [↓reduceIte, ↓zP, zW, WOp, evOp, evBin, binI, binSh, binS, evNil, keyIs, keyEq, mkv, AV.cells, AV.sc, optv, bnd, env, put, Env.get, Env.set, Env.del, Env.dels, Env.init, res1, resL, resV, fillP, splice, newRow, Nat.reduceEqDiff, Nat.reduceLT, Nat.reduceLeDiff, Nat.reduceAdd, Nat.reduceMul, Nat.reduceSub, Nat.reduceBEq, reduceCtorEq, ↓zR, zQ, Tr, StA, StT, r3]
          refine c_below t g f (by omega) 46 rfl ?_
          intro h2 hp2
          have hp12 := hp1.trans hp2
          have hr2 : h2[b.length]? = some (AO.row [.int .i64 g, .int .i64 f, .int .i64 t] 0 0 false) := by rw [hp2.2 _ (Nat.lt_of_lt_of_le hlt hp1.1)]; exact hr1
          have hlt2 : b.length < h2.length := Nat.lt_of_lt_of_le hlt hp12.1
          obtain ⟨r3, a0, a1, a2⟩ := row3 hr2
          have v0 : ∀ v, wrRow h2 b.length 0 0 [.int .i64 v] = some (h2.set b.length (AO.row [.int .i64 v, .int .i64 f, .int .i64 t] 0 0 false)) := fun v => by simp [wrRow, hr2, splice, AV.sc]
          have v1 : ∀ v, wrRow h2 b.length 0 1 [.int .i64 v] = some (h2.set b.length (AO.row [.int .i64 g, .int .i64 v, .int .i64 t] 0 0 false)) := fun v => by simp [wrRow, hr2, splice, AV.sc]
          have v2 : ∀ v, wrRow h2 b.length 0 2 [.int .i64 v] = some (h2.set b.length (AO.row [.int .i64 g, .int .i64 f, .int .i64 v] 0 0 false)) := fun v => by simp [wrRow, hr2, splice, AV.sc]
          have ho2 := ho.pre hp12
          have key : ∀ o : AO, ∃ v' h3, apRow (h2.set b.length o ++ [AO.row [.int .u8 (46 : UInt8).toNat] 0 0 false]) 1 v 1 [.int .u8 (46 : UInt8).toNat] = some (v', h3) ∧ OwL 1 encU B h3 v' (out ++ [46]) ∧ Pre b h3 ∧ B.length ≤ h3.length ∧ h3[b.length]? = some o := by
            intro o
            have hs3 : OwL 1 encU B (h2.set b.length o ++ [AO.row [.int .u8 (46 : UInt8).toNat] 0 0 false]) v out := OwL.pre (Pre.push _ _) (own_set ho2 (by omega))
            have hlen3 : B.length ≤ (h2.set b.length o ++ [AO.row [.int .u8 (46 : UInt8).toNat] 0 0 false]).length := by simp; have := hp12.1; omega
            obtain ⟨v', h3, e1, e2, e3⟩ := apA hlU scU1 hs3 hlen3 46 (by omega)
            have hg3 : h3[b.length]? = some o := by
              rw [e3.2 _ (by omega), List.getElem?_append_left (by simpa using hlt2), List.getElem?_set, if_pos rfl, if_pos hlt2]
            refine ⟨v', h3, e1, e2, ⟨?_, ?_⟩, Nat.le_trans hlen3 e3.1, hg3⟩
            · have := e3.1; simp at this; omega
            · intro j hj
              rw [e3.2 j (by omega), List.getElem?_append_left (by simp; omega), List.getElem?_set, if_neg (by omega), hp12.2 j (by omega), hpb.2 j hj]
          rw [if_pos (by omega)] at hR
          have htm : gM t g f = mM t (g - 1) f := by unfold gM; rw [if_pos (by omega)]
          have hd : IntKind.i64.wrap ((g : Int) - 1) = ((g - 1 : Nat) : Int) := by rw [wrap_i (by omega)]; omega
          obtain ⟨v', h3, e1, e2, e3, e4, e5⟩ := key (AO.row [.int .i64 ((g - 1 : Nat) : Int), .int .i64 f, .int .i64 t] 0 0 false)
          simp (maxSteps := 1000000) (disch := first | omega | rfl | (simp only [zL, two63, room] <;> omega) | fail) only [↓reduceIte, ↓zP, zW, WOp, evOp, evBin, binI, binSh, binS, evNil, keyIs, keyEq, mkv, AV.cells, AV.sc, optv, bnd, env, put, Env.get, Env.set, Env.del, Env.dels, Env.init, res1, resL, resV, fillP, splice, newRow, Nat.reduceEqDiff, Nat.reduceLT, Nat.reduceLeDiff, Nat.reduceAdd, Nat.reduceMul, Nat.reduceSub, Nat.reduceBEq, reduceCtorEq, ↓zR, zQ, Tr, StA, StT, wR, g46, y46, t30, a0, hd, v0, e1, wi]
          rw [w_loopn (c := lp403_0) rfl]
          simp (maxSteps := 1000000) (disch := first | omega | rfl | (simp only [zL, two63, room] <;> omega) | fail) only [↓reduceIte, ↓zP, zW, WOp, evOp, evBin, binI, binSh, binS, evNil, keyIs, keyEq, mkv, AV.cells, AV.sc, optv, bnd, env, put, Env.get, Env.set, Env.del, Env.dels, Env.init, res1, resL, resV, fillP, splice, newRow, Nat.reduceEqDiff, Nat.reduceLT, Nat.reduceLeDiff, Nat.reduceAdd, Nat.reduceMul, Nat.reduceSub, Nat.reduceBEq, reduceCtorEq, ↓zR, zQ, Tr, StA, StT]
          refine ih t (g - 1) f (r - bel t g f 46) (i + 1) (out ++ [46]) v' h3 (by omega) (by omega) (by simp; omega) (by omega) e2 e3 e4 e5 ?_
          intro v'' h'' q1 q2
          exact hR v'' h'' (by simpa [b84, b70, b46] using q1) q2
      · skip
        intro hcb hbl h1 hp1
        have hr1 : h1[b.length]? = some (AO.row [.int .i64 g, .int .i64 f, .int .i64 t] 0 0 false) := by rw [hp1.2 _ hlt]; exact hr
        obtain ⟨r3, a0, a1, a2⟩ := row3 hr1
        have wR : IntKind.i64.wrap ((r : Int) - ((bel t g f 70 : Nat) : Int)) = ((r - bel t g f 70 : Nat) : Int) := by rw [wrap_i (by omega)]; omega
        simp (maxSteps := 1000000) (disch := first | omega | rfl | (simp only [zL, two63, room] <;> omega) | fail) only [↓reduceIte, ↓zP, zW, WOp, evOp, evBin, binI, binSh, binS, evNil, keyIs, keyEq, mkv, AV.cells, AV.sc, optv, bnd, env, put, Env.get, Env.set, Env.del, Env.dels, Env.init, res1, resL, resV, fillP, splice, newRow, Nat.reduceEqDiff, Nat.reduceLT, Nat.reduceLeDiff, Nat.reduceAdd, Nat.reduceMul, Nat.reduceSub, Nat.reduceBEq, reduceCtorEq, ↓zR, zQ, Tr, StA, StT, r3]
        refine c_below t g f (by omega) 70 rfl ?_
        intro h2 hp2
        have hp12 := hp1.trans hp2
        have hr2 : h2[b.length]? = some (AO.row [.int .i64 g, .int .i64 f, .int .i64 t] 0 0 false) := by rw [hp2.2 _ (Nat.lt_of_lt_of_le hlt hp1.1)]; exact hr1
        have hlt2 : b.length < h2.length := Nat.lt_of_lt_of_le hlt hp12.1
        obtain ⟨r3, a0, a1, a2⟩ := row3 hr2
        have v0 : ∀ v, wrRow h2 b.length 0 0 [.int .i64 v] = some (h2.set b.length (AO.row [.int .i64 v, .int .i64 f, .int .i64 t] 0 0 false)) := fun v => by simp [wrRow, hr2, splice, AV.sc]
        have v1 : ∀ v, wrRow h2 b.length 0 1 [.int .i64 v] = some (h2.set b.length (AO.row [.int .i64 g, .int .i64 v, .int .i64 t] 0 0 false)) := fun v => by simp [wrRow, hr2, splice, AV.sc]
        have v2 : ∀ v, wrRow h2 b.length 0 2 [.int .i64 v] = some (h2.set b.length (AO.row [.int .i64 g, .int .i64 f, .int .i64 v] 0 0 false)) := fun v => by simp [wrRow, hr2, splice, AV.sc]
        have ho2 := ho.pre hp12
        have key : ∀ o : AO, ∃ v' h3, apRow (h2.set b.length o ++ [AO.row [.int .u8 (70 : UInt8).toNat] 0 0 false]) 1 v 1 [.int .u8 (70 : UInt8).toNat] = some (v', h3) ∧ OwL 1 encU B h3 v' (out ++ [70]) ∧ Pre b h3 ∧ B.length ≤ h3.length ∧ h3[b.length]? = some o := by
          intro o
          have hs3 : OwL 1 encU B (h2.set b.length o ++ [AO.row [.int .u8 (70 : UInt8).toNat] 0 0 false]) v out := OwL.pre (Pre.push _ _) (own_set ho2 (by omega))
          have hlen3 : B.length ≤ (h2.set b.length o ++ [AO.row [.int .u8 (70 : UInt8).toNat] 0 0 false]).length := by simp; have := hp12.1; omega
          obtain ⟨v', h3, e1, e2, e3⟩ := apA hlU scU1 hs3 hlen3 70 (by omega)
          have hg3 : h3[b.length]? = some o := by
            rw [e3.2 _ (by omega), List.getElem?_append_left (by simpa using hlt2), List.getElem?_set, if_pos rfl, if_pos hlt2]
          refine ⟨v', h3, e1, e2, ⟨?_, ?_⟩, Nat.le_trans hlen3 e3.1, hg3⟩
          · have := e3.1; simp at this; omega
          · intro j hj
            rw [e3.2 j (by omega), List.getElem?_append_left (by simp; omega), List.getElem?_set, if_neg (by omega), hp12.2 j (by omega), hpb.2 j hj]
        rw [if_neg (by omega), if_pos (by omega)] at hR
        have htm : fM t g f = mM t g (f - 1) := by unfold fM; rw [if_pos (by omega)]
        have hd : IntKind.i64.wrap ((f : Int) - 1) = ((f - 1 : Nat) : Int) := by rw [wrap_i (by omega)]; omega
        obtain ⟨v', h3, e1, e2, e3, e4, e5⟩ := key (AO.row [.int .i64 g, .int .i64 ((f - 1 : Nat) : Int), .int .i64 t] 0 0 false)
        simp (maxSteps := 1000000) (disch := first | omega | rfl | (simp only [zL, two63, room] <;> omega) | fail) only [↓reduceIte, ↓zP, zW, WOp, evOp, evBin, binI, binSh, binS, evNil, keyIs, keyEq, mkv, AV.cells, AV.sc, optv, bnd, env, put, Env.get, Env.set, Env.del, Env.dels, Env.init, res1, resL, resV, fillP, splice, newRow, Nat.reduceEqDiff, Nat.reduceLT, Nat.reduceLeDiff, Nat.reduceAdd, Nat.reduceMul, Nat.reduceSub, Nat.reduceBEq, reduceCtorEq, ↓zR, zQ, Tr, StA, StT, wR, g70, y70, t31, a1, hd, v1, e1, wi]
        rw [w_loopn (c := lp403_0) rfl]
        simp (maxSteps := 1000000) (disch := first | omega | rfl | (simp only [zL, two63, room] <;> omega) | fail) only [↓reduceIte, ↓zP, zW, WOp, evOp, evBin, binI, binSh, binS, evNil, keyIs, keyEq, mkv, AV.cells, AV.sc, optv, bnd, env, put, Env.get, Env.set, Env.del, Env.dels, Env.init, res1, resL, resV, fillP, splice, newRow, Nat.reduceEqDiff, Nat.reduceLT, Nat.reduceLeDiff, Nat.reduceAdd, Nat.reduceMul, Nat.reduceSub, Nat.reduceBEq, reduceCtorEq, ↓zR, zQ, Tr, StA, StT]
        refine ih t g (f - 1) (r - bel t g f 70) (i + 1) (out ++ [70]) v' h3 (by omega) (by omega) (by simp; omega) (by omega) e2 e3 e4 e5 ?_
        intro v'' h'' q1 q2
        exact hR v'' h'' (by simpa [b84, b70, b46] using q1) q2
    · skip
      intro hcb hbl h1 hp1
      have hr1 : h1[b.length]? = some (AO.row [.int .i64 g, .int .i64 f, .int .i64 t] 0 0 false) := by rw [hp1.2 _ hlt]; exact hr
      obtain ⟨r3, a0, a1, a2⟩ := row3 hr1
      have wR : IntKind.i64.wrap ((r : Int) - ((bel t g f 84 : Nat) : Int)) = ((r - bel t g f 84 : Nat) : Int) := by rw [wrap_i (by omega)]; omega
      simp (maxSteps := 1000000) (disch := first | omega | rfl | (simp only [zL, two63, room] <;> omega) | fail) only [↓reduceIte, ↓zP, zW, WOp, evOp, evBin, binI, binSh, binS, evNil, keyIs, keyEq, mkv, AV.cells, AV.sc, optv, bnd, env, put, Env.get, Env.set, Env.del, Env.dels, Env.init, res1, resL, resV, fillP, splice, newRow, Nat.reduceEqDiff, Nat.reduceLT, Nat.reduceLeDiff, Nat.reduceAdd, Nat.reduceMul, Nat.reduceSub, Nat.reduceBEq, reduceCtorEq, ↓zR, zQ, Tr, StA, StT, r3]
      refine c_below t g f (by omega) 84 rfl ?_
      intro h2 hp2
      have hp12 := hp1.trans hp2
      have hr2 : h2[b.length]? = some (AO.row [.int .i64 g, .int .i64 f, .int .i64 t] 0 0 false) := by rw [hp2.2 _ (Nat.lt_of_lt_of_le hlt hp1.1)]; exact hr1
      have hlt2 : b.length < h2.length := Nat.lt_of_lt_of_le hlt hp12.1
      obtain ⟨r3, a0, a1, a2⟩ := row3 hr2
      have v0 : ∀ v, wrRow h2 b.length 0 0 [.int .i64 v] = some (h2.set b.length (AO.row [.int .i64 v, .int .i64 f, .int .i64 t] 0 0 false)) := fun v => by simp [wrRow, hr2, splice, AV.sc]
      have v1 : ∀ v, wrRow h2 b.length 0 1 [.int .i64 v] = some (h2.set b.length (AO.row [.int .i64 g, .int .i64 v, .int .i64 t] 0 0 false)) := fun v => by simp [wrRow, hr2, splice, AV.sc]
      have v2 : ∀ v, wrRow h2 b.length 0 2 [.int .i64 v] = some (h2.set b.length (AO.row [.int .i64 g, .int .i64 f, .int .i64 v] 0 0 false)) := fun v => by simp [wrRow, hr2, splice, AV.sc]
      have ho2 := ho.pre hp12
      have key : ∀ o : AO, ∃ v' h3, apRow (h2.set b.length o ++ [AO.row [.int .u8 (84 : UInt8).toNat] 0 0 false]) 1 v 1 [.int .u8 (84 : UInt8).toNat] = some (v', h3) ∧ OwL 1 encU B h3 v' (out ++ [84]) ∧ Pre b h3 ∧ B.length ≤ h3.length ∧ h3[b.length]? = some o := by
        intro o
        have hs3 : OwL 1 encU B (h2.set b.length o ++ [AO.row [.int .u8 (84 : UInt8).toNat] 0 0 false]) v out := OwL.pre (Pre.push _ _) (own_set ho2 (by omega))
        have hlen3 : B.length ≤ (h2.set b.length o ++ [AO.row [.int .u8 (84 : UInt8).toNat] 0 0 false]).length := by simp; have := hp12.1; omega
        obtain ⟨v', h3, e1, e2, e3⟩ := apA hlU scU1 hs3 hlen3 84 (by omega)
        have hg3 : h3[b.length]? = some o := by
          rw [e3.2 _ (by omega), List.getElem?_append_left (by simpa using hlt2), List.getElem?_set, if_pos rfl, if_pos hlt2]
        refine ⟨v', h3, e1, e2, ⟨?_, ?_⟩, Nat.le_trans hlen3 e3.1, hg3⟩
        · have := e3.1; simp at this; omega
        · intro j hj
          rw [e3.2 j (by omega), List.getElem?_append_left (by simp; omega), List.getElem?_set, if_neg (by omega), hp12.2 j (by omega), hpb.2 j hj]
      rw [if_neg (by omega), if_neg (by omega)] at hR
      have htm : tM t g f = mM (t - 1) g f := by unfold tM; rw [if_pos (by omega)]
      have hd : IntKind.i64.wrap ((t : Int) - 1) = ((t - 1 : Nat) : Int) := by rw [wrap_i (by omega)]; omega
      obtain ⟨v', h3, e1, e2, e3, e4, e5⟩ := key (AO.row [.int .i64 g, .int .i64 f, .int .i64 ((t - 1 : Nat) : Int)] 0 0 false)
      simp (maxSteps := 1000000) (disch := first | omega | rfl | (simp only [zL, two63, room] <;> omega) | fail) only [↓reduceIte, ↓zP, zW, WOp, evOp, evBin, binI, binSh, binS, evNil, keyIs, keyEq, mkv, AV.cells, AV.sc, optv, bnd, env, put, Env.get, Env.set, Env.del, Env.dels, Env.init, res1, resL, resV, fillP, splice, newRow, Nat.reduceEqDiff, Nat.reduceLT, Nat.reduceLeDiff, Nat.reduceAdd, Nat.reduceMul, Nat.reduceSub, Nat.reduceBEq, reduceCtorEq, ↓zR, zQ, Tr, StA, StT, wR, g84, y84, t32, a2, hd, v2, e1, wi]
      rw [w_loopn (c := lp403_0) rfl]
      simp (maxSteps := 1000000) (disch := first | omega | rfl | (simp only [zL, two63, room] <;> omega) | fail) only [↓reduceIte, ↓zP, zW, WOp, evOp, evBin, binI, binSh, binS, evNil, keyIs, keyEq, mkv, AV.cells, AV.sc, optv, bnd, env, put, Env.get, Env.set, Env.del, Env.dels, Env.init, res1, resL, resV, fillP, splice, newRow, Nat.reduceEqDiff, Nat.reduceLT, Nat.reduceLeDiff, Nat.reduceAdd, Nat.reduceMul, Nat.reduceSub, Nat.reduceBEq, reduceCtorEq, ↓zR, zQ, Tr, StA, StT]
      refine ih (t - 1) g f (r - bel t g f 84) (i + 1) (out ++ [84]) v' h3 (by omega) (by omega) (by simp; omega) (by omega) e2 e3 e4 e5 ?_
      intro v'' h'' q1 q2
      exact hR v'' h'' (by simpa [b84, b70, b46] using q1) q2
theorem c_LineOfRank (t g f r : Int) {h : AH} {post : AV → AH → Prop} (hp : ∀ h', Pre h h' → post (.tup [.str (liR t g f r), .bool (okR t g f r)]) h') : S 403 [.int .i64 t, .int .i64 g, .int .i64 f, .int .i64 r] h post k := by
  unfold liR okR cnL at hp
  refine S_of rfl T403 ?_; unfold fi403
  cases e : nmG t g f <;> simp only [e, Bool.false_and, Bool.true_and, if_true, if_false, Bool.false_eq_true] at hp
  · simp (maxSteps := 1000000) (disch := first | omega | rfl | (simp only [zL, two63, room] <;> omega) | fail) only [↓reduceIte, ↓zP, zW, WOp, evOp, evBin, binI, binSh, binS, evNil, keyIs, keyEq, mkv, AV.cells, AV.sc, optv, bnd, env, put, Env.get, Env.set, Env.del, Env.dels, Env.init, res1, resL, resV, fillP, splice, newRow, Nat.reduceEqDiff, Nat.reduceLT, Nat.reduceLeDiff, Nat.reduceAdd, Nat.reduceMul, Nat.reduceSub, Nat.reduceBEq, reduceCtorEq, ↓zR, zQ, Tr, StA, StT, e_areCountsG, e]
    exact hp h (Pre.refl h)
  · obtain ⟨t, g, f, rfl, rfl, rfl, h1, h2⟩ := nmG_nat e
    simp only [Int.toNat_natCast] at hp
    obtain ⟨-, -, hm, hm0⟩ := mM_facts h2
    have wM : IntKind.i64.wrap (((mM t g f : Nat) : Int) - 1) = ((mM t g f : Nat) : Int) - 1 := wrap_i (by omega)
    have w1 : IntKind.i64.wrap ((t : Int) + (g : Int)) = ((t + g : Nat) : Int) := by rw [← Int.natCast_add]; exact wn (by omega)
    have w2 : IntKind.i64.wrap (((t + g : Nat) : Int) + (f : Int)) = ((t + g + f : Nat) : Int) := by rw [← Int.natCast_add]; exact wn (by omega)
    cases e2 : decide (0 ≤ r ∧ r ≤ ((mM t g f : Nat) : Int) - 1)
    · have := hp h (Pre.refl h)
      simp only [e2, Bool.false_eq_true, if_false] at this
      simp (maxSteps := 1000000) (disch := first | omega | rfl | (simp only [zL, two63, room] <;> omega) | fail) only [↓reduceIte, ↓zP, zW, WOp, evOp, evBin, binI, binSh, binS, evNil, keyIs, keyEq, mkv, AV.cells, AV.sc, optv, bnd, env, put, Env.get, Env.set, Env.del, Env.dels, Env.init, res1, resL, resV, fillP, splice, newRow, Nat.reduceEqDiff, Nat.reduceLT, Nat.reduceLeDiff, Nat.reduceAdd, Nat.reduceMul, Nat.reduceSub, Nat.reduceBEq, reduceCtorEq, ↓zR, zQ, Tr, StA, StT, e_areCountsG, e, e_lines t g f h2, wM, e_within, e2]
      exact this
    · simp only [e2, if_true] at hp
      have e3 := of_decide_eq_true e2
      obtain ⟨r, rfl⟩ := Int.eq_ofNat_of_zero_le e3.1
      simp only [Int.toNat_natCast] at hp
      simp (maxSteps := 1000000) (disch := first | omega | rfl | (simp only [zL, two63, room] <;> omega) | fail) only [↓reduceIte, ↓zP, zW, WOp, evOp, evBin, binI, binSh, binS, evNil, keyIs, keyEq, mkv, AV.cells, AV.sc, optv, bnd, env, put, Env.get, Env.set, Env.del, Env.dels, Env.init, res1, resL, resV, fillP, splice, newRow, Nat.reduceEqDiff, Nat.reduceLT, Nat.reduceLeDiff, Nat.reduceAdd, Nat.reduceMul, Nat.reduceSub, Nat.reduceBEq, reduceCtorEq, ↓zR, zQ, Tr, StA, StT, e_areCountsG, e, e_lines t g f h2, wM, e_within, e2, w1, w2]
      have := lp_unr (b := h) (B := h ++ [AO.row [.int .i64 g, .int .i64 f, .int .i64 t] 0 0 false]) (by simp) h2 (R := fun x e' h' => x = .exit 0 ∧ ∃ v', e' = [(11, v')] ∧ OwL 1 encU (h ++ [AO.row [.int .i64 g, .int .i64 f, .int .i64 t] 0 0 false]) h' v' (unr (t + g + f) t g f r) ∧ Pre h h') (t + g + f) t g f r 0 [] .empS (h ++ [AO.row [.int .i64 g, .int .i64 f, .int .i64 t] 0 0 false]) rfl (by omega) rfl (by omega) OwL.emp (Pre.push _ _) (Nat.le_refl _) (by simp) (fun v' h' q1 q2 => ⟨rfl, v', rfl, by simpa using q1, q2⟩)
      refine Cx_mono this ?_
      rintro x e' h' ⟨rfl, v', rfl, ho, hp'⟩
      have hq := hp h' hp'
      have hs := ho.slc
      generalize unr (t + g + f) t g f r = L at *
      have hbl := bytesL_map L
      rcases hs.cases with ⟨rfl, rfl⟩ | ⟨rfl, rfl⟩ | ⟨c, kk, off, rfl⟩
      · simp (maxSteps := 1000000) (disch := first | omega | rfl | (simp only [zL, two63, room] <;> omega) | fail) only [↓reduceIte, ↓zP, zW, WOp, evOp, evBin, binI, binSh, binS, evNil, keyIs, keyEq, mkv, AV.cells, AV.sc, optv, bnd, env, put, Env.get, Env.set, Env.del, Env.dels, Env.init, res1, resL, resV, fillP, splice, newRow, Nat.reduceEqDiff, Nat.reduceLT, Nat.reduceLeDiff, Nat.reduceAdd, Nat.reduceMul, Nat.reduceSub, Nat.reduceBEq, reduceCtorEq, ↓zR, zQ, Tr, StA, StT]
        exact hq
      · simp (maxSteps := 1000000) (disch := first | omega | rfl | (simp only [zL, two63, room] <;> omega) | fail) only [↓reduceIte, ↓zP, zW, WOp, evOp, evBin, binI, binSh, binS, evNil, keyIs, keyEq, mkv, AV.cells, AV.sc, optv, bnd, env, put, Env.get, Env.set, Env.del, Env.dels, Env.init, res1, resL, resV, fillP, splice, newRow, Nat.reduceEqDiff, Nat.reduceLT, Nat.reduceLeDiff, Nat.reduceAdd, Nat.reduceMul, Nat.reduceSub, Nat.reduceBEq, reduceCtorEq, ↓zR, zQ, Tr, StA, StT]
        exact hq
      · obtain ⟨_, _, hrd⟩ := hs.all
        rw [flatU, Nat.mul_one] at hrd
        simp (maxSteps := 1000000) (disch := first | omega | rfl | (simp only [zL, two63, room] <;> omega) | fail) only [↓reduceIte, ↓zP, zW, WOp, evOp, evBin, binI, binSh, binS, evNil, keyIs, keyEq, mkv, AV.cells, AV.sc, optv, bnd, env, put, Env.get, Env.set, Env.del, Env.dels, Env.init, res1, resL, resV, fillP, splice, newRow, Nat.reduceEqDiff, Nat.reduceLT, Nat.reduceLeDiff, Nat.reduceAdd, Nat.reduceMul, Nat.reduceSub, Nat.reduceBEq, reduceCtorEq, ↓zR, zQ, Tr, StA, StT, hrd, hbl]
        exact hq
end Go.Proofs.YtejhhdpfndiliaaGreatDoor.Ab

/- PLAYS move by move, both sides'. -/
namespace Go.Proofs.YtejhhdpfndiliaaGreatDoor.Ab
open Go
set_option maxRecDepth 100000
set_option maxHeartbeats 4000000

/-- The line behind the moves that can be made, and how many. -/
def plG : List UInt8 → List (Int × Int) → List UInt8 × Nat
  | w, [] => (w, 0)
  | w, m :: ms => if canB w m then ((plG (madeB w m.1.toNat m.2.toNat) ms).1, (plG (madeB w m.1.toNat m.2.toNat) ms).2 + 1) else (w, 0)
theorem plG_le : ∀ (ms : List (Int × Int)) (w : List UInt8), (plG w ms).2 ≤ ms.length
  | [], w => Nat.le_refl _
  | m :: ms, w => by
    unfold plG
    split
    · have := plG_le ms (madeB w m.1.toNat m.2.toNat)
      simp only [List.length_cons]; omega
    · simp
theorem lp_liPlay {v : AV} {L : List (Int × Int)} (hL : L.length < 2 ^ 30) {b : AH} (hs : Slc 2 encM b v L) {R : X → Env → AH → Prop} : ∀ (rest pre : List (Int × Int)) (w : List UInt8) (h : AH), L = pre ++ rest → w.length < 2 ^ 30 → Pre b h →
    ((plG w rest).2 = rest.length → ∀ h', Pre b h' → R (.exit 0) [(0, .str (plG w rest).1), (1, v)] h') →
    ((plG w rest).2 < rest.length → ∀ h', Pre b h' → R .ret [(4, .str (plG w rest).1), (5, .int .i64 ((pre.length + (plG w rest).2 : Nat) : Int))] h') →
    Cx (.loop lp445_0) [(0, .str w), (1, v), (8, v), (9, .int .i64 L.length), (10, .int .i64 pre.length)] h R k k := by
  intro rest
  induction rest with
  | nil =>
    intro pre w h hpre hw hp h1 h2
    have hl : L.length = pre.length := by rw [hpre]; simp
    rw [hl]
    rw [w_loopb (c := lp445_0) (d := lb445_0) rfl]; unfold lb445_0
    simp (maxSteps := 1000000) (disch := first | omega | rfl | (simp only [zL, two63, room] <;> omega) | fail) only [↓reduceIte, ↓zP, zW, WOp, evOp, evBin, binI, binSh, binS, evNil, keyIs, keyEq, mkv, AV.cells, AV.sc, optv, bnd, env, put, Env.get, Env.set, Env.del, Env.dels, Env.init, res1, resL, resV, fillP, splice, newRow, Nat.reduceEqDiff, Nat.reduceLT, Nat.reduceLeDiff, Nat.reduceAdd, Nat.reduceMul, Nat.reduceSub, Nat.reduceBEq, reduceCtorEq, ↓zR, zQ, Tr, StA, StT]
    exact h1 rfl h hp
  | cons m rest ih =>
    intro pre w h hpre hw hp h1 h2
    obtain ⟨i, t⟩ := m
    have hl : L.length = pre.length + 1 + rest.length := by rw [hpre]; simp; omega
    have hs' := hs.pre hp
    rw [hpre] at hs'
    obtain ⟨r1, k1, o1, hve, hr⟩ := hs'.at hlM
    rw [← hpre, hl] at hve
    subst hve
    rw [hl] at ih ⊢
    have hr' : rdRow h r1 k1 (o1 + pre.length * 2) 2 = some [.int .i64 i, .int .i64 t] := hr
    have hlt : (pre.length : Int) < ((pre.length + 1 + rest.length : Nat) : Int) := by omega
    have hw1 : (pre.length : Int) + 1 = ((pre ++ [((i, t) : Int × Int)]).length : Int) := by simp
    have hw2 : IntKind.i64.wrap ((pre ++ [((i, t) : Int × Int)]).length : Int) = ((pre ++ [((i, t) : Int × Int)]).length : Int) := wrap_i (by simp; omega)
    obtain ⟨q, -, -⟩ := mvRow h i t
    have hpR : Pre b (h ++ [AO.row [AV.int .i64 i, AV.int .i64 t] 0 0 false]) := hp.trans (Pre.push _ _)
    rw [w_loopb (c := lp445_0) (d := lb445_0) rfl]; unfold lb445_0
    simp (maxSteps := 1000000) (disch := first | omega | rfl | (simp only [zL, two63, room] <;> omega) | fail) only [↓reduceIte, ↓zP, zW, WOp, evOp, evBin, binI, binSh, binS, evNil, keyIs, keyEq, mkv, AV.cells, AV.sc, optv, bnd, env, put, Env.get, Env.set, Env.del, Env.dels, Env.init, res1, resL, resV, fillP, splice, newRow, Nat.reduceEqDiff, Nat.reduceLT, Nat.reduceLeDiff, Nat.reduceAdd, Nat.reduceMul, Nat.reduceSub, Nat.reduceBEq, reduceCtorEq, ↓zR, zQ, Tr, StA, StT, hlt, hr']
    refine c_liCan w i t hw ?_
    intro h3 hp3
    have q3 := rdRow_pre hp3 q
    cases hc : canB w (i, t)
    · have e : plG w ((i, t) :: rest) = (w, 0) := by simp only [plG, hc, Bool.false_eq_true, if_false]
      rw [e] at h2
      simp (maxSteps := 1000000) (disch := first | omega | rfl | (simp only [zL, two63, room] <;> omega) | fail) only [↓reduceIte, ↓zP, zW, WOp, evOp, evBin, binI, binSh, binS, evNil, keyIs, keyEq, mkv, AV.cells, AV.sc, optv, bnd, env, put, Env.get, Env.set, Env.del, Env.dels, Env.init, res1, resL, resV, fillP, splice, newRow, Nat.reduceEqDiff, Nat.reduceLT, Nat.reduceLeDiff, Nat.reduceAdd, Nat.reduceMul, Nat.reduceSub, Nat.reduceBEq, reduceCtorEq, ↓zR, zQ, Tr, StA, StT]
      exact h2 (by simp) h3 (hpR.trans hp3)
    · obtain ⟨i, t, rfl, rfl, hm⟩ := canB_mv hc
      have e : plG w (((i : Int), (t : Int)) :: rest) = ((plG (madeB w i t) rest).1, (plG (madeB w i t) rest).2 + 1) := by simp only [plG, hc, if_true, Int.toNat_natCast]
      rw [e] at h1 h2
      simp (maxSteps := 1000000) (disch := first | omega | rfl | (simp only [zL, two63, room] <;> omega) | fail) only [↓reduceIte, ↓zP, zW, WOp, evOp, evBin, binI, binSh, binS, evNil, keyIs, keyEq, mkv, AV.cells, AV.sc, optv, bnd, env, put, Env.get, Env.set, Env.del, Env.dels, Env.init, res1, resL, resV, fillP, splice, newRow, Nat.reduceEqDiff, Nat.reduceLT, Nat.reduceLeDiff, Nat.reduceAdd, Nat.reduceMul, Nat.reduceSub, Nat.reduceBEq, reduceCtorEq, ↓zR, zQ, Tr, StA, StT, q3]
      refine c_liMake w i t hm.1 hm.2.1 hm.ne hw ?_
      intro h4 hp4
      simp (maxSteps := 1000000) (disch := first | omega | rfl | (simp only [zL, two63, room] <;> omega) | fail) only [↓reduceIte, ↓zP, zW, WOp, evOp, evBin, binI, binSh, binS, evNil, keyIs, keyEq, mkv, AV.cells, AV.sc, optv, bnd, env, put, Env.get, Env.set, Env.del, Env.dels, Env.init, res1, resL, resV, fillP, splice, newRow, Nat.reduceEqDiff, Nat.reduceLT, Nat.reduceLeDiff, Nat.reduceAdd, Nat.reduceMul, Nat.reduceSub, Nat.reduceBEq, reduceCtorEq, ↓zR, zQ, Tr, StA, StT, hw1, hw2]
      rw [w_loopn (c := lp445_0) rfl]
      simp (maxSteps := 1000000) (disch := first | omega | rfl | (simp only [zL, two63, room] <;> omega) | fail) only [↓reduceIte, ↓zP, zW, WOp, evOp, evBin, binI, binSh, binS, evNil, keyIs, keyEq, mkv, AV.cells, AV.sc, optv, bnd, env, put, Env.get, Env.set, Env.del, Env.dels, Env.init, res1, resL, resV, fillP, splice, newRow, Nat.reduceEqDiff, Nat.reduceLT, Nat.reduceLeDiff, Nat.reduceAdd, Nat.reduceMul, Nat.reduceSub, Nat.reduceBEq, reduceCtorEq, ↓zR, zQ, Tr, StA, StT]
      refine ih (pre ++ [((i : Int), (t : Int))]) (madeB w i t) h4 (by rw [hpre]; simp) (by rw [madeB_length]; exact hw) (hpR.trans (hp3.trans hp4)) (fun a => h1 (by simp only [List.length_cons]; omega)) (fun a h' q1 => ?_)
      have := h2 (by simp only [List.length_cons]; omega) h' q1
      rwa [show pre.length + ((plG (madeB w i t) rest).2 + 1) = (pre ++ [((i : Int), (t : Int))]).length + (plG (madeB w i t) rest).2 by simp; omega] at this
theorem lp_impPlay {v : AV} {L : List (Int × Int)} (hL : L.length < 2 ^ 30) {b : AH} (hs : Slc 2 encM b v L) {R : X → Env → AH → Prop} : ∀ (rest pre : List (Int × Int)) (w : List UInt8) (h : AH), L = pre ++ rest → w.length < 2 ^ 30 → Pre b h →
    ((plG w rest).2 = rest.length → ∀ h', Pre b h' → R (.exit 0) [(0, .str (plG w rest).1), (1, v)] h') →
    ((plG w rest).2 < rest.length → ∀ h', Pre b h' → R .ret [(6, .str []), (7, .int .i64 ((pre.length + (plG w rest).2 : Nat) : Int))] h') →
    Cx (.loop lp68_0) [(0, .str w), (1, v), (2, .fn 435 []), (10, v), (11, .int .i64 L.length), (12, .int .i64 pre.length)] h R k k := by
  intro rest
  induction rest with
  | nil =>
    intro pre w h hpre hw hp h1 h2
    have hl : L.length = pre.length := by rw [hpre]; simp
    rw [hl]
    rw [w_loopb (c := lp68_0) (d := lb68_0) rfl]; unfold lb68_0
    simp (maxSteps := 1000000) (disch := first | omega | rfl | (simp only [zL, two63, room] <;> omega) | fail) only [↓reduceIte, ↓zP, zW, WOp, evOp, evBin, binI, binSh, binS, evNil, keyIs, keyEq, mkv, AV.cells, AV.sc, optv, bnd, env, put, Env.get, Env.set, Env.del, Env.dels, Env.init, res1, resL, resV, fillP, splice, newRow, Nat.reduceEqDiff, Nat.reduceLT, Nat.reduceLeDiff, Nat.reduceAdd, Nat.reduceMul, Nat.reduceSub, Nat.reduceBEq, reduceCtorEq, ↓zR, zQ, Tr, StA, StT]
    exact h1 rfl h hp
  | cons m rest ih =>
    intro pre w h hpre hw hp h1 h2
    obtain ⟨i, t⟩ := m
    have hl : L.length = pre.length + 1 + rest.length := by rw [hpre]; simp; omega
    have hs' := hs.pre hp
    rw [hpre] at hs'
    obtain ⟨r1, k1, o1, hve, hr⟩ := hs'.at hlM
    rw [← hpre, hl] at hve
    subst hve
    rw [hl] at ih ⊢
    have hr' : rdRow h r1 k1 (o1 + pre.length * 2) 2 = some [.int .i64 i, .int .i64 t] := hr
    have hlt : (pre.length : Int) < ((pre.length + 1 + rest.length : Nat) : Int) := by omega
    have hw1 : (pre.length : Int) + 1 = ((pre ++ [((i, t) : Int × Int)]).length : Int) := by simp
    have hw2 : IntKind.i64.wrap ((pre ++ [((i, t) : Int × Int)]).length : Int) = ((pre ++ [((i, t) : Int × Int)]).length : Int) := wrap_i (by simp; omega)
    obtain ⟨q, -, -⟩ := mvRow h i t
    have hpR : Pre b (h ++ [AO.row [AV.int .i64 i, AV.int .i64 t] 0 0 false]) := hp.trans (Pre.push _ _)
    rw [w_loopb (c := lp68_0) (d := lb68_0) rfl]; unfold lb68_0
    simp (maxSteps := 1000000) (disch := first | omega | rfl | (simp only [zL, two63, room] <;> omega) | fail) only [↓reduceIte, ↓zP, zW, WOp, evOp, evBin, binI, binSh, binS, evNil, keyIs, keyEq, mkv, AV.cells, AV.sc, optv, bnd, env, put, Env.get, Env.set, Env.del, Env.dels, Env.init, res1, resL, resV, fillP, splice, newRow, Nat.reduceEqDiff, Nat.reduceLT, Nat.reduceLeDiff, Nat.reduceAdd, Nat.reduceMul, Nat.reduceSub, Nat.reduceBEq, reduceCtorEq, ↓zR, zQ, Tr, StA, StT, hlt, hr']
    refine c_can w i t hw ?_
    intro h3 hp3
    have q3 := rdRow_pre hp3 q
    cases hc : canB w (i, t)
    · have e : plG w ((i, t) :: rest) = (w, 0) := by simp only [plG, hc, Bool.false_eq_true, if_false]
      rw [e] at h2
      simp (maxSteps := 1000000) (disch := first | omega | rfl | (simp only [zL, two63, room] <;> omega) | fail) only [↓reduceIte, ↓zP, zW, WOp, evOp, evBin, binI, binSh, binS, evNil, keyIs, keyEq, mkv, AV.cells, AV.sc, optv, bnd, env, put, Env.get, Env.set, Env.del, Env.dels, Env.init, res1, resL, resV, fillP, splice, newRow, Nat.reduceEqDiff, Nat.reduceLT, Nat.reduceLeDiff, Nat.reduceAdd, Nat.reduceMul, Nat.reduceSub, Nat.reduceBEq, reduceCtorEq, ↓zR, zQ, Tr, StA, StT]
      exact h2 (by simp) h3 (hpR.trans hp3)
    · obtain ⟨i, t, rfl, rfl, hm⟩ := canB_mv hc
      have e : plG w (((i : Int), (t : Int)) :: rest) = ((plG (madeB w i t) rest).1, (plG (madeB w i t) rest).2 + 1) := by simp only [plG, hc, if_true, Int.toNat_natCast]
      rw [e] at h1 h2
      simp (maxSteps := 1000000) (disch := first | omega | rfl | (simp only [zL, two63, room] <;> omega) | fail) only [↓reduceIte, ↓zP, zW, WOp, evOp, evBin, binI, binSh, binS, evNil, keyIs, keyEq, mkv, AV.cells, AV.sc, optv, bnd, env, put, Env.get, Env.set, Env.del, Env.dels, Env.init, res1, resL, resV, fillP, splice, newRow, Nat.reduceEqDiff, Nat.reduceLT, Nat.reduceLeDiff, Nat.reduceAdd, Nat.reduceMul, Nat.reduceSub, Nat.reduceBEq, reduceCtorEq, ↓zR, zQ, Tr, StA, StT, q3]
      refine c_made w i t hm.1 hm.2.1 hw ?_
      intro h4 hp4
      simp (maxSteps := 1000000) (disch := first | omega | rfl | (simp only [zL, two63, room] <;> omega) | fail) only [↓reduceIte, ↓zP, zW, WOp, evOp, evBin, binI, binSh, binS, evNil, keyIs, keyEq, mkv, AV.cells, AV.sc, optv, bnd, env, put, Env.get, Env.set, Env.del, Env.dels, Env.init, res1, resL, resV, fillP, splice, newRow, Nat.reduceEqDiff, Nat.reduceLT, Nat.reduceLeDiff, Nat.reduceAdd, Nat.reduceMul, Nat.reduceSub, Nat.reduceBEq, reduceCtorEq, ↓zR, zQ, Tr, StA, StT, hw1, hw2]
      rw [w_loopn (c := lp68_0) rfl]
      simp (maxSteps := 1000000) (disch := first | omega | rfl | (simp only [zL, two63, room] <;> omega) | fail) only [↓reduceIte, ↓zP, zW, WOp, evOp, evBin, binI, binSh, binS, evNil, keyIs, keyEq, mkv, AV.cells, AV.sc, optv, bnd, env, put, Env.get, Env.set, Env.del, Env.dels, Env.init, res1, resL, resV, fillP, splice, newRow, Nat.reduceEqDiff, Nat.reduceLT, Nat.reduceLeDiff, Nat.reduceAdd, Nat.reduceMul, Nat.reduceSub, Nat.reduceBEq, reduceCtorEq, ↓zR, zQ, Tr, StA, StT]
      refine ih (pre ++ [((i : Int), (t : Int))]) (madeB w i t) h4 (by rw [hpre]; simp) (by rw [madeB_length]; exact hw) (hpR.trans (hp3.trans hp4)) (fun a => h1 (by simp only [List.length_cons]; omega)) (fun a h' q1 => ?_)
      have := h2 (by simp only [List.length_cons]; omega) h' q1
      rwa [show pre.length + ((plG (madeB w i t) rest).2 + 1) = (pre ++ [((i : Int), (t : Int))]).length + (plG (madeB w i t) rest).2 by simp; omega] at this
theorem c_liPlay {v : AV} {L : List (Int × Int)} (hL : L.length < 2 ^ 30) (w : List UInt8) (hw : w.length < 2 ^ 30) {h : AH} (hs : Slc 2 encM h v L) {post : AV → AH → Prop} (hp : ∀ h', Pre h h' → post (.tup [.str (plG w L).1, .int .i64 ((plG w L).2 : Nat)]) h') : S 445 [.str w, v] h post k := by
  refine S_of rfl T445 ?_; unfold fi445
  have hv := fun g => Slc.lenV (hs) (g := g) (ρ := fun _ => _) (x := .t 0) rfl; simp only [evOp] at hv
  simp (maxSteps := 1000000) (disch := first | omega | rfl | (simp only [zL, two63, room] <;> omega) | fail) only [↓reduceIte, ↓zP, zW, WOp, evOp, evBin, binI, binSh, binS, evNil, keyIs, keyEq, mkv, AV.cells, AV.sc, optv, bnd, env, put, Env.get, Env.set, Env.del, Env.dels, Env.init, res1, resL, resV, fillP, splice, newRow, Nat.reduceEqDiff, Nat.reduceLT, Nat.reduceLeDiff, Nat.reduceAdd, Nat.reduceMul, Nat.reduceSub, Nat.reduceBEq, reduceCtorEq, ↓zR, zQ, Tr, StA, StT, hv]
  refine lp_liPlay hL hs L [] w h rfl hw (Pre.refl h) ?_ ?_
  · intro e h' hp'
    have := hp h' hp'
    rw [e] at this
    simp (maxSteps := 1000000) (disch := first | omega | rfl | (simp only [zL, two63, room] <;> omega) | fail) only [↓reduceIte, ↓zP, zW, WOp, evOp, evBin, binI, binSh, binS, evNil, keyIs, keyEq, mkv, AV.cells, AV.sc, optv, bnd, env, put, Env.get, Env.set, Env.del, Env.dels, Env.init, res1, resL, resV, fillP, splice, newRow, Nat.reduceEqDiff, Nat.reduceLT, Nat.reduceLeDiff, Nat.reduceAdd, Nat.reduceMul, Nat.reduceSub, Nat.reduceBEq, reduceCtorEq, ↓zR, zQ, Tr, StA, StT, hv]
    exact this
  · intro e h' hp'
    have := hp h' hp'
    simp (maxSteps := 1000000) (disch := first | omega | rfl | (simp only [zL, two63, room] <;> omega) | fail) only [↓reduceIte, ↓zP, zW, WOp, evOp, evBin, binI, binSh, binS, evNil, keyIs, keyEq, mkv, AV.cells, AV.sc, optv, bnd, env, put, Env.get, Env.set, Env.del, Env.dels, Env.init, res1, resL, resV, fillP, splice, newRow, Nat.reduceEqDiff, Nat.reduceLT, Nat.reduceLeDiff, Nat.reduceAdd, Nat.reduceMul, Nat.reduceSub, Nat.reduceBEq, reduceCtorEq, ↓zR, zQ, Tr, StA, StT]
    simpa using this
theorem c_played {v : AV} {L : List (Int × Int)} (hL : L.length < 2 ^ 30) (w : List UInt8) (hw : w.length < 2 ^ 30) {h : AH} (hs : Slc 2 encM h v L) {post : AV → AH → Prop} (hp : ∀ h', Pre h h' → post (.tup [.str (if (plG w L).2 = L.length then (plG w L).1 else []), .int .i64 ((plG w L).2 : Nat)]) h') : S 68 [.str w, v, .fn 435 []] h post k := by
  refine S_of rfl T68 ?_; unfold fi68
  have hv := fun g => Slc.lenV (hs) (g := g) (ρ := fun _ => _) (x := .t 0) rfl; simp only [evOp] at hv
  simp (maxSteps := 1000000) (disch := first | omega | rfl | (simp only [zL, two63, room] <;> omega) | fail) only [↓reduceIte, ↓zP, zW, WOp, evOp, evBin, binI, binSh, binS, evNil, keyIs, keyEq, mkv, AV.cells, AV.sc, optv, bnd, env, put, Env.get, Env.set, Env.del, Env.dels, Env.init, res1, resL, resV, fillP, splice, newRow, Nat.reduceEqDiff, Nat.reduceLT, Nat.reduceLeDiff, Nat.reduceAdd, Nat.reduceMul, Nat.reduceSub, Nat.reduceBEq, reduceCtorEq, ↓zR, zQ, Tr, StA, StT, hv]
  refine lp_impPlay hL hs L [] w h rfl hw (Pre.refl h) ?_ ?_
  · intro e h' hp'
    have := hp h' hp'
    rw [if_pos e, e] at this
    simp (maxSteps := 1000000) (disch := first | omega | rfl | (simp only [zL, two63, room] <;> omega) | fail) only [↓reduceIte, ↓zP, zW, WOp, evOp, evBin, binI, binSh, binS, evNil, keyIs, keyEq, mkv, AV.cells, AV.sc, optv, bnd, env, put, Env.get, Env.set, Env.del, Env.dels, Env.init, res1, resL, resV, fillP, splice, newRow, Nat.reduceEqDiff, Nat.reduceLT, Nat.reduceLeDiff, Nat.reduceAdd, Nat.reduceMul, Nat.reduceSub, Nat.reduceBEq, reduceCtorEq, ↓zR, zQ, Tr, StA, StT, hv]
    exact this
  · intro e h' hp'
    have := hp h' hp'
    rw [if_neg (by omega)] at this
    simp (maxSteps := 1000000) (disch := first | omega | rfl | (simp only [zL, two63, room] <;> omega) | fail) only [↓reduceIte, ↓zP, zW, WOp, evOp, evBin, binI, binSh, binS, evNil, keyIs, keyEq, mkv, AV.cells, AV.sc, optv, bnd, env, put, Env.get, Env.set, Env.del, Env.dels, Env.init, res1, resL, resV, fillP, splice, newRow, Nat.reduceEqDiff, Nat.reduceLT, Nat.reduceLeDiff, Nat.reduceAdd, Nat.reduceMul, Nat.reduceSub, Nat.reduceBEq, reduceCtorEq, ↓zR, zQ, Tr, StA, StT]
    simpa using this
end Go.Proofs.YtejhhdpfndiliaaGreatDoor.Ab

/- PLAYS: what comes before the first move that fails. -/
namespace Go.Proofs.YtejhhdpfndiliaaGreatDoor.Ab
open Go

theorem plG_take : ∀ (L : List (Int × Int)) (w : List UInt8), plG w (L.take (plG w L).2) = ((plG w L).1, (plG w L).2)
  | [], w => rfl
  | m :: L, w => by
    cases h : canB w m
    · have e : plG w (m :: L) = (w, 0) := by simp only [plG, h, Bool.false_eq_true, if_false]
      rw [e]; rfl
    · have e : plG w (m :: L) = ((plG (madeB w m.1.toNat m.2.toNat) L).1, (plG (madeB w m.1.toNat m.2.toNat) L).2 + 1) := by simp only [plG, h, if_true]
      have ih := plG_take L (madeB w m.1.toNat m.2.toNat)
      rw [e]
      simp only [List.take_succ_cons, plG, h, if_true, ih]
theorem plG_stop : ∀ (L : List (Int × Int)) (w : List UInt8) (hl : (plG w L).2 < L.length), canB (plG w L).1 (L[(plG w L).2]) = false
  | [], w, hl => by simp at hl
  | m :: L, w, hl => by
    cases h : canB w m
    · have e : plG w (m :: L) = (w, 0) := by simp only [plG, h, Bool.false_eq_true, if_false]
      simp only [e, List.getElem_cons_zero, h]
    · have e : plG w (m :: L) = ((plG (madeB w m.1.toNat m.2.toNat) L).1, (plG (madeB w m.1.toNat m.2.toNat) L).2 + 1) := by simp only [plG, h, if_true]
      have hl' : (plG (madeB w m.1.toNat m.2.toNat) L).2 < L.length := by rw [e] at hl; simpa using hl
      have ih := plG_stop L (madeB w m.1.toNat m.2.toNat) hl'
      simp only [e, List.getElem_cons_succ]
      exact ih
end Go.Proofs.YtejhhdpfndiliaaGreatDoor.Ab

/- PLAYS and moves that fail, both sides'. -/
namespace Go.Proofs.YtejhhdpfndiliaaGreatDoor.Ab
open Go
set_option maxRecDepth 100000
set_option maxHeartbeats 4000000

def asG (w : List UInt8) (L : List (Int × Int)) : Bool := goodLine w && decide (L.length ≤ 100)
def okP (w : List UInt8) (L : List (Int × Int)) : Bool := asG w L && decide ((plG w L).2 = L.length)
def okF (w : List UInt8) (L : List (Int × Int)) : Bool := asG w L && !decide ((plG w L).2 = L.length)
def plS (w : List UInt8) (L : List (Int × Int)) : List UInt8 := if okP w L then (plG w L).1 else []
def flN (w : List UInt8) (L : List (Int × Int)) : Int := if okF w L then ((plG w L).2 : Nat) else 0
theorem asG_len {w : List UInt8} {L : List (Int × Int)} (hg : goodLine w = true) : asG w L = decide (L.length ≤ 100) := by unfold asG; rw [hg]; rfl
theorem c_PlayMoves {v : AV} {L : List (Int × Int)} (w : List UInt8) (hw : w.length < 2 ^ 60) {h : AH} (hs : Slc 2 encM h v L) {post : AV → AH → Prop} (hp : ∀ h', Pre h h' → post (.tup [.str (plS w L), .bool (okP w L)]) h') : S 410 [.str w, v] h post k := by
  unfold plS okP asG at hp
  refine S_of rfl T410 ?_; unfold fi410
  have hv := fun g => Slc.lenV (hs) (g := g) (ρ := fun _ => _) (x := .t 0) rfl; simp only [evOp] at hv
  cases hg : goodLine w <;> simp only [hg, Bool.false_and, Bool.true_and, if_false, Bool.false_eq_true] at hp
  · simp (maxSteps := 1000000) (disch := first | omega | rfl | (simp only [zL, two63, room] <;> omega) | fail) only [↓reduceIte, ↓zP, zW, WOp, evOp, evBin, binI, binSh, binS, evNil, keyIs, keyEq, mkv, AV.cells, AV.sc, optv, bnd, env, put, Env.get, Env.set, Env.del, Env.dels, Env.init, res1, resL, resV, fillP, splice, newRow, Nat.reduceEqDiff, Nat.reduceLT, Nat.reduceLeDiff, Nat.reduceAdd, Nat.reduceMul, Nat.reduceSub, Nat.reduceBEq, reduceCtorEq, ↓zR, zQ, Tr, StA, StT, e_IsLine w hw, hg]
    exact hp h (Pre.refl h)
  · have hgl := good_all hg
    by_cases hl : L.length ≤ 100
    · have n1 : ¬ ((L.length : Int) > 100) := by omega
      simp only [hl, decide_true, Bool.true_and] at hp
      simp (maxSteps := 1000000) (disch := first | omega | rfl | (simp only [zL, two63, room] <;> omega) | fail) only [↓reduceIte, ↓zP, zW, WOp, evOp, evBin, binI, binSh, binS, evNil, keyIs, keyEq, mkv, AV.cells, AV.sc, optv, bnd, env, put, Env.get, Env.set, Env.del, Env.dels, Env.init, res1, resL, resV, fillP, splice, newRow, Nat.reduceEqDiff, Nat.reduceLT, Nat.reduceLeDiff, Nat.reduceAdd, Nat.reduceMul, Nat.reduceSub, Nat.reduceBEq, reduceCtorEq, ↓zR, zQ, Tr, StA, StT, e_IsLine w hw, hg, hv, n1]
      refine c_played (by omega) w (by omega) hs ?_
      intro h' hp'
      have := hp h' hp'
      by_cases e : (plG w L).2 = L.length
      · simp only [e, decide_true, if_true] at this
        rw [if_pos e]
        simp (maxSteps := 1000000) (disch := first | omega | rfl | (simp only [zL, two63, room] <;> omega) | fail) only [↓reduceIte, ↓zP, zW, WOp, evOp, evBin, binI, binSh, binS, evNil, keyIs, keyEq, mkv, AV.cells, AV.sc, optv, bnd, env, put, Env.get, Env.set, Env.del, Env.dels, Env.init, res1, resL, resV, fillP, splice, newRow, Nat.reduceEqDiff, Nat.reduceLT, Nat.reduceLeDiff, Nat.reduceAdd, Nat.reduceMul, Nat.reduceSub, Nat.reduceBEq, reduceCtorEq, ↓zR, zQ, Tr, StA, StT, hv, e]
        exact this
      · have k1 : ((((plG w L).2 : Nat) : Int) == (L.length : Int)) = false := by simp; omega
        simp only [e, decide_false, if_false, Bool.false_eq_true] at this
        rw [if_neg e]
        simp (maxSteps := 1000000) (disch := first | omega | rfl | (simp only [zL, two63, room] <;> omega) | fail) only [↓reduceIte, ↓zP, zW, WOp, evOp, evBin, binI, binSh, binS, evNil, keyIs, keyEq, mkv, AV.cells, AV.sc, optv, bnd, env, put, Env.get, Env.set, Env.del, Env.dels, Env.init, res1, resL, resV, fillP, splice, newRow, Nat.reduceEqDiff, Nat.reduceLT, Nat.reduceLeDiff, Nat.reduceAdd, Nat.reduceMul, Nat.reduceSub, Nat.reduceBEq, reduceCtorEq, ↓zR, zQ, Tr, StA, StT, hv, k1]
        exact this
    · have n1 : (L.length : Int) > 100 := by omega
      simp only [hl, decide_false, Bool.false_and, if_false, Bool.false_eq_true] at hp
      simp (maxSteps := 1000000) (disch := first | omega | rfl | (simp only [zL, two63, room] <;> omega) | fail) only [↓reduceIte, ↓zP, zW, WOp, evOp, evBin, binI, binSh, binS, evNil, keyIs, keyEq, mkv, AV.cells, AV.sc, optv, bnd, env, put, Env.get, Env.set, Env.del, Env.dels, Env.init, res1, resL, resV, fillP, splice, newRow, Nat.reduceEqDiff, Nat.reduceLT, Nat.reduceLeDiff, Nat.reduceAdd, Nat.reduceMul, Nat.reduceSub, Nat.reduceBEq, reduceCtorEq, ↓zR, zQ, Tr, StA, StT, e_IsLine w hw, hg, hv, n1]
      exact hp h (Pre.refl h)
theorem c_MoveThatFails1 {v : AV} {L : List (Int × Int)} (w : List UInt8) (hw : w.length < 2 ^ 60) {h : AH} (hs : Slc 2 encM h v L) {post : AV → AH → Prop} (hp : ∀ h', Pre h h' → post (.tup [.int .i64 (flN w L), .bool (okF w L)]) h') : S 412 [.str w, v] h post k := by
  unfold flN okF asG at hp
  refine S_of rfl T412 ?_; unfold fi412
  have hv := fun g => Slc.lenV (hs) (g := g) (ρ := fun _ => _) (x := .t 0) rfl; simp only [evOp] at hv
  cases hg : goodLine w <;> simp only [hg, Bool.false_and, Bool.true_and, if_false, Bool.false_eq_true] at hp
  · simp (maxSteps := 1000000) (disch := first | omega | rfl | (simp only [zL, two63, room] <;> omega) | fail) only [↓reduceIte, ↓zP, zW, WOp, evOp, evBin, binI, binSh, binS, evNil, keyIs, keyEq, mkv, AV.cells, AV.sc, optv, bnd, env, put, Env.get, Env.set, Env.del, Env.dels, Env.init, res1, resL, resV, fillP, splice, newRow, Nat.reduceEqDiff, Nat.reduceLT, Nat.reduceLeDiff, Nat.reduceAdd, Nat.reduceMul, Nat.reduceSub, Nat.reduceBEq, reduceCtorEq, ↓zR, zQ, Tr, StA, StT, e_IsLine w hw, hg]
    exact hp h (Pre.refl h)
  · have hgl := good_all hg
    by_cases hl : L.length ≤ 100
    · have n1 : ¬ ((L.length : Int) > 100) := by omega
      simp only [hl, decide_true, Bool.true_and] at hp
      simp (maxSteps := 1000000) (disch := first | omega | rfl | (simp only [zL, two63, room] <;> omega) | fail) only [↓reduceIte, ↓zP, zW, WOp, evOp, evBin, binI, binSh, binS, evNil, keyIs, keyEq, mkv, AV.cells, AV.sc, optv, bnd, env, put, Env.get, Env.set, Env.del, Env.dels, Env.init, res1, resL, resV, fillP, splice, newRow, Nat.reduceEqDiff, Nat.reduceLT, Nat.reduceLeDiff, Nat.reduceAdd, Nat.reduceMul, Nat.reduceSub, Nat.reduceBEq, reduceCtorEq, ↓zR, zQ, Tr, StA, StT, e_IsLine w hw, hg, hv, n1]
      refine c_played (by omega) w (by omega) hs ?_
      intro h' hp'
      have := hp h' hp'
      by_cases e : (plG w L).2 = L.length
      · simp only [e, decide_true, Bool.not_true, Bool.false_eq_true, if_false] at this
        simp (maxSteps := 1000000) (disch := first | omega | rfl | (simp only [zL, two63, room] <;> omega) | fail) only [↓reduceIte, ↓zP, zW, WOp, evOp, evBin, binI, binSh, binS, evNil, keyIs, keyEq, mkv, AV.cells, AV.sc, optv, bnd, env, put, Env.get, Env.set, Env.del, Env.dels, Env.init, res1, resL, resV, fillP, splice, newRow, Nat.reduceEqDiff, Nat.reduceLT, Nat.reduceLeDiff, Nat.reduceAdd, Nat.reduceMul, Nat.reduceSub, Nat.reduceBEq, reduceCtorEq, ↓zR, zQ, Tr, StA, StT, hv, e]
        exact this
      · have k1 : ((((plG w L).2 : Nat) : Int) == (L.length : Int)) = false := by simp; omega
        simp only [e, decide_false, Bool.not_false, if_true] at this
        simp (maxSteps := 1000000) (disch := first | omega | rfl | (simp only [zL, two63, room] <;> omega) | fail) only [↓reduceIte, ↓zP, zW, WOp, evOp, evBin, binI, binSh, binS, evNil, keyIs, keyEq, mkv, AV.cells, AV.sc, optv, bnd, env, put, Env.get, Env.set, Env.del, Env.dels, Env.init, res1, resL, resV, fillP, splice, newRow, Nat.reduceEqDiff, Nat.reduceLT, Nat.reduceLeDiff, Nat.reduceAdd, Nat.reduceMul, Nat.reduceSub, Nat.reduceBEq, reduceCtorEq, ↓zR, zQ, Tr, StA, StT, hv, k1]
        exact this
    · have n1 : (L.length : Int) > 100 := by omega
      simp only [hl, decide_false, Bool.false_and, if_false, Bool.false_eq_true] at hp
      simp (maxSteps := 1000000) (disch := first | omega | rfl | (simp only [zL, two63, room] <;> omega) | fail) only [↓reduceIte, ↓zP, zW, WOp, evOp, evBin, binI, binSh, binS, evNil, keyIs, keyEq, mkv, AV.cells, AV.sc, optv, bnd, env, put, Env.get, Env.set, Env.del, Env.dels, Env.init, res1, resL, resV, fillP, splice, newRow, Nat.reduceEqDiff, Nat.reduceLT, Nat.reduceLeDiff, Nat.reduceAdd, Nat.reduceMul, Nat.reduceSub, Nat.reduceBEq, reduceCtorEq, ↓zR, zQ, Tr, StA, StT, e_IsLine w hw, hg, hv, n1]
      exact hp h (Pre.refl h)
theorem c_liAsked {v : AV} {L : List (Int × Int)} (w : List UInt8) (hw : w.length < 2 ^ 60) {h : AH} (hs : Slc 2 encM h v L) {post : AV → AH → Prop} (hp : post (.bool (asG w L)) h) : S 444 [.str w, v] h post k := by
  unfold asG at hp
  refine S_of rfl T444 ?_; unfold fi444
  have hv := fun g => Slc.lenV (hs) (g := g) (ρ := fun _ => _) (x := .t 0) rfl; simp only [evOp] at hv
  cases hg : goodLine w <;> simp only [hg, Bool.false_and, Bool.true_and] at hp
  · simp (maxSteps := 1000000) (disch := first | omega | rfl | (simp only [zL, two63, room] <;> omega) | fail) only [↓reduceIte, ↓zP, zW, WOp, evOp, evBin, binI, binSh, binS, evNil, keyIs, keyEq, mkv, AV.cells, AV.sc, optv, bnd, env, put, Env.get, Env.set, Env.del, Env.dels, Env.init, res1, resL, resV, fillP, splice, newRow, Nat.reduceEqDiff, Nat.reduceLT, Nat.reduceLeDiff, Nat.reduceAdd, Nat.reduceMul, Nat.reduceSub, Nat.reduceBEq, reduceCtorEq, ↓zR, zQ, Tr, StA, StT, e_liGoodG w hw, hg]
    exact hp
  · have he : decide ((L.length : Int) ≤ 100) = decide (L.length ≤ 100) := decide_eq_decide.2 (by omega)
    by_cases hl : L.length ≤ 100
    · have n1 : (L.length : Int) ≤ 100 := by omega
      simp only [hl, decide_true] at hp
      simp (maxSteps := 1000000) (disch := first | omega | rfl | (simp only [zL, two63, room] <;> omega) | fail) only [↓reduceIte, ↓zP, zW, WOp, evOp, evBin, binI, binSh, binS, evNil, keyIs, keyEq, mkv, AV.cells, AV.sc, optv, bnd, env, put, Env.get, Env.set, Env.del, Env.dels, Env.init, res1, resL, resV, fillP, splice, newRow, Nat.reduceEqDiff, Nat.reduceLT, Nat.reduceLeDiff, Nat.reduceAdd, Nat.reduceMul, Nat.reduceSub, Nat.reduceBEq, reduceCtorEq, ↓zR, zQ, Tr, StA, StT, e_liGoodG w hw, hg, hv, n1]
      exact hp
    · have n1 : ¬ ((L.length : Int) ≤ 100) := by omega
      simp only [hl, decide_false] at hp
      simp (maxSteps := 1000000) (disch := first | omega | rfl | (simp only [zL, two63, room] <;> omega) | fail) only [↓reduceIte, ↓zP, zW, WOp, evOp, evBin, binI, binSh, binS, evNil, keyIs, keyEq, mkv, AV.cells, AV.sc, optv, bnd, env, put, Env.get, Env.set, Env.del, Env.dels, Env.init, res1, resL, resV, fillP, splice, newRow, Nat.reduceEqDiff, Nat.reduceLT, Nat.reduceLeDiff, Nat.reduceAdd, Nat.reduceMul, Nat.reduceSub, Nat.reduceBEq, reduceCtorEq, ↓zR, zQ, Tr, StA, StT, e_liGoodG w hw, hg, hv, n1]
      exact hp
theorem c_sPlayMoves {v : AV} {L : List (Int × Int)} (w : List UInt8) (hw : w.length < 2 ^ 60) {h : AH} (hs : Slc 2 encM h v L) {post : AV → AH → Prop} (hp : ∀ h', Pre h h' → post (.tup [.str (plS w L), .bool (okP w L)]) h') : S 411 [.str w, v] h post k := by
  unfold plS okP at hp
  refine S_of rfl T411 ?_; unfold fi411
  have hv := fun g => Slc.lenV (hs) (g := g) (ρ := fun _ => _) (x := .t 0) rfl; simp only [evOp] at hv
  simp (maxSteps := 1000000) (disch := first | omega | rfl | (simp only [zL, two63, room] <;> omega) | fail) only [↓reduceIte, ↓zP, zW, WOp, evOp, evBin, binI, binSh, binS, evNil, keyIs, keyEq, mkv, AV.cells, AV.sc, optv, bnd, env, put, Env.get, Env.set, Env.del, Env.dels, Env.init, res1, resL, resV, fillP, splice, newRow, Nat.reduceEqDiff, Nat.reduceLT, Nat.reduceLeDiff, Nat.reduceAdd, Nat.reduceMul, Nat.reduceSub, Nat.reduceBEq, reduceCtorEq, ↓zR, zQ, Tr, StA, StT]
  refine c_liAsked w hw hs ?_
  cases ha : asG w L <;> simp only [ha, Bool.false_and, Bool.true_and, if_false, Bool.false_eq_true] at hp
  · simp (maxSteps := 1000000) (disch := first | omega | rfl | (simp only [zL, two63, room] <;> omega) | fail) only [↓reduceIte, ↓zP, zW, WOp, evOp, evBin, binI, binSh, binS, evNil, keyIs, keyEq, mkv, AV.cells, AV.sc, optv, bnd, env, put, Env.get, Env.set, Env.del, Env.dels, Env.init, res1, resL, resV, fillP, splice, newRow, Nat.reduceEqDiff, Nat.reduceLT, Nat.reduceLeDiff, Nat.reduceAdd, Nat.reduceMul, Nat.reduceSub, Nat.reduceBEq, reduceCtorEq, ↓zR, zQ, Tr, StA, StT]
    exact hp h (Pre.refl h)
  · have ha2 := ha
    unfold asG at ha2
    simp only [Bool.and_eq_true, decide_eq_true_eq] at ha2
    have hgl := good_all ha2.1
    simp (maxSteps := 1000000) (disch := first | omega | rfl | (simp only [zL, two63, room] <;> omega) | fail) only [↓reduceIte, ↓zP, zW, WOp, evOp, evBin, binI, binSh, binS, evNil, keyIs, keyEq, mkv, AV.cells, AV.sc, optv, bnd, env, put, Env.get, Env.set, Env.del, Env.dels, Env.init, res1, resL, resV, fillP, splice, newRow, Nat.reduceEqDiff, Nat.reduceLT, Nat.reduceLeDiff, Nat.reduceAdd, Nat.reduceMul, Nat.reduceSub, Nat.reduceBEq, reduceCtorEq, ↓zR, zQ, Tr, StA, StT]
    refine c_liPlay (by omega) w (by omega) hs ?_
    intro h' hp'
    have hle := plG_le L w
    have := hp h' hp'
    by_cases e : (plG w L).2 = L.length
    · simp only [e, decide_true, if_true] at this
      have n1 : ¬ ((((plG w L).2 : Nat) : Int) < (L.length : Int)) := by omega
      simp (maxSteps := 1000000) (disch := first | omega | rfl | (simp only [zL, two63, room] <;> omega) | fail) only [↓reduceIte, ↓zP, zW, WOp, evOp, evBin, binI, binSh, binS, evNil, keyIs, keyEq, mkv, AV.cells, AV.sc, optv, bnd, env, put, Env.get, Env.set, Env.del, Env.dels, Env.init, res1, resL, resV, fillP, splice, newRow, Nat.reduceEqDiff, Nat.reduceLT, Nat.reduceLeDiff, Nat.reduceAdd, Nat.reduceMul, Nat.reduceSub, Nat.reduceBEq, reduceCtorEq, ↓zR, zQ, Tr, StA, StT, hv, n1]
      exact this
    · have n1 : (((plG w L).2 : Nat) : Int) < (L.length : Int) := by omega
      simp only [e, decide_false, if_false, Bool.false_eq_true] at this
      simp (maxSteps := 1000000) (disch := first | omega | rfl | (simp only [zL, two63, room] <;> omega) | fail) only [↓reduceIte, ↓zP, zW, WOp, evOp, evBin, binI, binSh, binS, evNil, keyIs, keyEq, mkv, AV.cells, AV.sc, optv, bnd, env, put, Env.get, Env.set, Env.del, Env.dels, Env.init, res1, resL, resV, fillP, splice, newRow, Nat.reduceEqDiff, Nat.reduceLT, Nat.reduceLeDiff, Nat.reduceAdd, Nat.reduceMul, Nat.reduceSub, Nat.reduceBEq, reduceCtorEq, ↓zR, zQ, Tr, StA, StT, hv, n1]
      exact this
theorem c_sMoveThatFails1 {v : AV} {L : List (Int × Int)} (w : List UInt8) (hw : w.length < 2 ^ 60) {h : AH} (hs : Slc 2 encM h v L) {post : AV → AH → Prop} (hp : ∀ h', Pre h h' → post (.tup [.int .i64 (flN w L), .bool (okF w L)]) h') : S 413 [.str w, v] h post k := by
  unfold flN okF at hp
  refine S_of rfl T413 ?_; unfold fi413
  have hv := fun g => Slc.lenV (hs) (g := g) (ρ := fun _ => _) (x := .t 0) rfl; simp only [evOp] at hv
  simp (maxSteps := 1000000) (disch := first | omega | rfl | (simp only [zL, two63, room] <;> omega) | fail) only [↓reduceIte, ↓zP, zW, WOp, evOp, evBin, binI, binSh, binS, evNil, keyIs, keyEq, mkv, AV.cells, AV.sc, optv, bnd, env, put, Env.get, Env.set, Env.del, Env.dels, Env.init, res1, resL, resV, fillP, splice, newRow, Nat.reduceEqDiff, Nat.reduceLT, Nat.reduceLeDiff, Nat.reduceAdd, Nat.reduceMul, Nat.reduceSub, Nat.reduceBEq, reduceCtorEq, ↓zR, zQ, Tr, StA, StT]
  refine c_liAsked w hw hs ?_
  cases ha : asG w L <;> simp only [ha, Bool.false_and, Bool.true_and, if_false, Bool.false_eq_true] at hp
  · simp (maxSteps := 1000000) (disch := first | omega | rfl | (simp only [zL, two63, room] <;> omega) | fail) only [↓reduceIte, ↓zP, zW, WOp, evOp, evBin, binI, binSh, binS, evNil, keyIs, keyEq, mkv, AV.cells, AV.sc, optv, bnd, env, put, Env.get, Env.set, Env.del, Env.dels, Env.init, res1, resL, resV, fillP, splice, newRow, Nat.reduceEqDiff, Nat.reduceLT, Nat.reduceLeDiff, Nat.reduceAdd, Nat.reduceMul, Nat.reduceSub, Nat.reduceBEq, reduceCtorEq, ↓zR, zQ, Tr, StA, StT]
    exact hp h (Pre.refl h)
  · have ha2 := ha
    unfold asG at ha2
    simp only [Bool.and_eq_true, decide_eq_true_eq] at ha2
    have hgl := good_all ha2.1
    simp (maxSteps := 1000000) (disch := first | omega | rfl | (simp only [zL, two63, room] <;> omega) | fail) only [↓reduceIte, ↓zP, zW, WOp, evOp, evBin, binI, binSh, binS, evNil, keyIs, keyEq, mkv, AV.cells, AV.sc, optv, bnd, env, put, Env.get, Env.set, Env.del, Env.dels, Env.init, res1, resL, resV, fillP, splice, newRow, Nat.reduceEqDiff, Nat.reduceLT, Nat.reduceLeDiff, Nat.reduceAdd, Nat.reduceMul, Nat.reduceSub, Nat.reduceBEq, reduceCtorEq, ↓zR, zQ, Tr, StA, StT]
    refine c_liPlay (by omega) w (by omega) hs ?_
    intro h' hp'
    have := hp h' hp'
    by_cases e : (plG w L).2 = L.length
    · simp only [e, decide_true, Bool.not_true, Bool.false_eq_true, if_false] at this
      simp (maxSteps := 1000000) (disch := first | omega | rfl | (simp only [zL, two63, room] <;> omega) | fail) only [↓reduceIte, ↓zP, zW, WOp, evOp, evBin, binI, binSh, binS, evNil, keyIs, keyEq, mkv, AV.cells, AV.sc, optv, bnd, env, put, Env.get, Env.set, Env.del, Env.dels, Env.init, res1, resL, resV, fillP, splice, newRow, Nat.reduceEqDiff, Nat.reduceLT, Nat.reduceLeDiff, Nat.reduceAdd, Nat.reduceMul, Nat.reduceSub, Nat.reduceBEq, reduceCtorEq, ↓zR, zQ, Tr, StA, StT, hv, e]
      exact this
    · have k1 : ((((plG w L).2 : Nat) : Int) == (L.length : Int)) = false := by simp; omega
      simp only [e, decide_false, Bool.not_false, if_true] at this
      simp (maxSteps := 1000000) (disch := first | omega | rfl | (simp only [zL, two63, room] <;> omega) | fail) only [↓reduceIte, ↓zP, zW, WOp, evOp, evBin, binI, binSh, binS, evNil, keyIs, keyEq, mkv, AV.cells, AV.sc, optv, bnd, env, put, Env.get, Env.set, Env.del, Env.dels, Env.init, res1, resL, resV, fillP, splice, newRow, Nat.reduceEqDiff, Nat.reduceLT, Nat.reduceLeDiff, Nat.reduceAdd, Nat.reduceMul, Nat.reduceSub, Nat.reduceBEq, reduceCtorEq, ↓zR, zQ, Tr, StA, StT, hv, k1]
      exact this
end Go.Proofs.YtejhhdpfndiliaaGreatDoor.Ab

/- FIRST LINES: their way and their pairs. -/
namespace Go.Proofs.YtejhhdpfndiliaaGreatDoor.Ab
open Go

theorem sum_rep (n c : Nat) : (List.replicate n c).sum = n * c := by
  induction n with
  | zero => simp
  | succ n ih => rw [List.replicate_succ, List.sum_cons, ih, Nat.succ_mul]; omega
theorem cross_rep (f : UInt8 → UInt8 → Nat) (m n : Nat) (a b : UInt8) : crossB f (List.replicate m a) (List.replicate n b) = m * (n * f a b) := by
  unfold crossB
  rw [List.map_replicate, List.map_replicate, sum_rep, sum_rep]
theorem cross_app (f : UInt8 → UInt8 → Nat) (A B C : List UInt8) : crossB f A (B ++ C) = crossB f A B + crossB f A C := by
  induction A with
  | nil => rfl
  | cons a A ih =>
    simp only [crossB, List.map_cons, List.sum_cons, List.map_append, List.sum_append] at ih ⊢
    omega
theorem inv_rep {f : UInt8 → UInt8 → Nat} {a : UInt8} (h : f a a = 0) (n : Nat) : inv f (List.replicate n a) = 0 := by
  refine inv_zero ?_
  rw [List.pairwise_replicate]; exact .inr h
theorem firB_way (t g f : Nat) : wayN (firB t g f) = t * (g + f) + f * (t + g) ∧ pairsB (firB t g f) = t * f := by
  rw [pairsB_inv]
  unfold wayN firB
  have e : List.replicate t (84 : UInt8) ++ List.replicate g 46 ++ List.replicate f 70 = List.replicate t 84 ++ (List.replicate g 46 ++ List.replicate f 70) := List.append_assoc _ _ _
  rw [e]
  simp only [inv_append, cross_app, cross_rep, inv_rep (show vW 84 84 = 0 from rfl), inv_rep (show vW 46 46 = 0 from rfl), inv_rep (show vW 70 70 = 0 from rfl), inv_rep (show vP 84 84 = 0 from rfl), inv_rep (show vP 46 46 = 0 from rfl), inv_rep (show vP 70 70 = 0 from rfl),
    show vW 46 70 = 1 from rfl, show vW 84 46 = 1 from rfl, show vW 84 70 = 2 from rfl, show vP 46 70 = 0 from rfl, show vP 84 46 = 0 from rfl, show vP 84 70 = 1 from rfl]
  refine ⟨?_, by simp⟩
  have h1 : f * (t + g) = t * f + g * f := by rw [Nat.mul_comm, Nat.add_mul]
  have h2 : t * (g + f) = t * g + t * f := Nat.mul_add _ _ _
  have h3 : t * (f * 2) = t * f + t * f := by rw [← Nat.mul_assoc]; omega
  rw [h1, h2, h3]
  simp only [Nat.mul_one]
  omega
end Go.Proofs.YtejhhdpfndiliaaGreatDoor.Ab

/- THE NEXT LINE, the lines of ranks, and lines behind plays. -/
namespace Go.Proofs.YtejhhdpfndiliaaGreatDoor.Ab
open Go

theorem less_not {a b : List UInt8} (h : Op.bytesLess a b = true) : (Op.bytesLess b a || b == a) = false := by
  rw [bl_eq, decide_eq_true_eq] at h
  rw [bl_eq, Bool.or_eq_false_iff, decide_eq_false_iff_not, beq_eq_false_iff_ne]
  refine ⟨fun h2 => ln_irrefl _ (ln_trans h h2), ?_⟩
  rintro rfl
  exact ln_irrefl _ h
theorem cnt_all {l m : List UInt8} (hl : signs l) (hm : signs m) (h1 : l.count 84 = m.count 84) (h2 : l.count 46 = m.count 46) (h3 : l.count 70 = m.count 70) (b : UInt8) : l.count b = m.count b := by
  by_cases e1 : b = 84
  · rw [e1]; exact h1
  · by_cases e2 : b = 46
    · rw [e2]; exact h2
    · by_cases e3 : b = 70
      · rw [e3]; exact h3
      · have no : ∀ {l : List UInt8}, signs l → l.count b = 0 := by
          intro l hl
          rw [List.count_eq_zero]
          intro hb
          rcases sign3 (List.all_eq_true.1 hl b hb) with h | h | h
          · exact e1 h
          · exact e2 h
          · exact e3 h
        rw [no hl, no hm]
theorem good_of {w : List UInt8} (h1 : 1 ≤ w.length) (h2 : w.length ≤ 12) (h3 : signs w) : goodLine w = true := by
  unfold goodLine
  unfold signs at h3
  rw [h3, Bool.and_true, decide_eq_true_eq]
  exact ⟨h1, h2⟩
/-- What is told of a line, its rank and the line of the next rank. -/
theorem rank_facts {w : List UInt8} (hg : goodLine w = true) : cnG w 84 = (w.count 84 : Nat) ∧ cnG w 46 = (w.count 46 : Nat) ∧ cnG w 70 = (w.count 70 : Nat) ∧ rkG w = (rankN w : Nat) ∧
    nmG (w.count 84 : Nat) (w.count 46 : Nat) (w.count 70 : Nat) = true ∧ cnL (w.count 84 : Nat) (w.count 46 : Nat) (w.count 70 : Nat) = (mW w : Nat) ∧ rankN w < mW w ∧ mW w < 1000000 ∧
    okR (w.count 84 : Nat) (w.count 46 : Nat) (w.count 70 : Nat) (rankN w : Nat) = true ∧ liR (w.count 84 : Nat) (w.count 46 : Nat) (w.count 70 : Nat) (rankN w : Nat) = w := by
  obtain ⟨h1, h2, h3⟩ := good_all hg
  have hc := cnt3 h3
  have hn : nmG (w.count 84 : Nat) (w.count 46 : Nat) (w.count 70 : Nat) = true := by unfold nmG; rw [decide_eq_true_eq]; omega
  have hm := (mM_facts (t := w.count 84) (g := w.count 46) (f := w.count 70) (by omega)).2.2.1
  have hcl : cnL (w.count 84 : Nat) (w.count 46 : Nat) (w.count 70 : Nat) = (mW w : Nat) := by unfold cnL; rw [if_pos hn]; rfl
  have hr := rank_lt h3 h2
  have hok : okR (w.count 84 : Nat) (w.count 46 : Nat) (w.count 70 : Nat) (rankN w : Nat) = true := by
    unfold okR; rw [hn, hcl, Bool.true_and, decide_eq_true_eq]; omega
  refine ⟨by unfold cnG; rw [if_pos hg], by unfold cnG; rw [if_pos hg], by unfold cnG; rw [if_pos hg], by unfold rkG; rw [if_pos hg], hn, hcl, hr, hm, hok, ?_⟩
  unfold liR
  rw [if_pos hok]
  simp only [Int.toNat_natCast]
  rw [← hc]
  exact unr_rank h3 h2
theorem next_facts {w : List UInt8} (hg : goodLine w = true) (hn : rankN w + 1 < mW w) :
    okR (w.count 84 : Nat) (w.count 46 : Nat) (w.count 70 : Nat) ((rankN w + 1 : Nat) : Int) = true ∧ (Op.bytesLess (liR (w.count 84 : Nat) (w.count 46 : Nat) (w.count 70 : Nat) ((rankN w + 1 : Nat) : Int)) w || liR (w.count 84 : Nat) (w.count 46 : Nat) (w.count 70 : Nat) ((rankN w + 1 : Nat) : Int) == w) = false := by
  obtain ⟨h1, h2, h3⟩ := good_all hg
  have hc := cnt3 h3
  obtain ⟨f1, f2, f3, f4, f5, f6, f7, f8, f9, fA⟩ := rank_facts hg
  have hok : okR (w.count 84 : Nat) (w.count 46 : Nat) (w.count 70 : Nat) ((rankN w + 1 : Nat) : Int) = true := by
    unfold okR; rw [f5, f6, Bool.true_and, decide_eq_true_eq]; omega
  refine ⟨hok, ?_⟩
  unfold liR
  rw [if_pos hok]
  simp only [Int.toNat_natCast]
  obtain ⟨i1, i2, i3, i4, i5⟩ := unr_ok (w.count 84 + w.count 46 + w.count 70) (w.count 84) (w.count 46) (w.count 70) (rankN w + 1) rfl (by omega) hn
  apply less_not
  exact (rank_lex h3 i1 h2 (cnt_all h3 i1 i2.symm i3.symm i4.symm)).2 (by omega)
theorem last_facts {w : List UInt8} (hg : goodLine w = true) : lasG w = lastB w ∧ goodLine (lastB w) = true ∧ wayG (lastB w) = 0 ∧ cnG (lastB w) 84 = (w.count 84 : Nat) ∧ cnG (lastB w) 46 = (w.count 46 : Nat) ∧ cnG (lastB w) 70 = (w.count 70 : Nat) := by
  obtain ⟨h1, h2, h3⟩ := good_all hg
  have hl := lastB_len h3
  have hgl : goodLine (lastB w) = true := good_of (by omega) (by omega) (lastB_signs w)
  obtain ⟨c1, c2, c3⟩ := lastB_count w
  refine ⟨by unfold lasG; rw [if_pos hg], hgl, by unfold wayG; rw [if_pos hgl, lastB_way]; rfl, by unfold cnG; rw [if_pos hgl, c1], by unfold cnG; rw [if_pos hgl, c2], by unfold cnG; rw [if_pos hgl, c3]⟩
theorem liR_facts {t g f r : Int} (h : okR t g f r = true) : goodLine (liR t g f r) = true ∧ rkG (liR t g f r) = r ∧ r < cnL t g f := by
  have h0 := h
  unfold okR at h0
  rw [Bool.and_eq_true, decide_eq_true_eq] at h0
  obtain ⟨hn, h1, h2⟩ := h0
  obtain ⟨t, g, f, rfl, rfl, rfl, k1, k2⟩ := nmG_nat hn
  obtain ⟨r, rfl⟩ := Int.eq_ofNat_of_zero_le h1
  have hcl : cnL (t : Nat) (g : Nat) (f : Nat) = (mM t g f : Nat) := by unfold cnL; rw [if_pos hn]; rfl
  rw [hcl] at h2
  obtain ⟨i1, i2, i3, i4, i5⟩ := unr_ok (t + g + f) t g f r rfl k2 (by omega)
  have hc := cnt3 i1
  have e : liR (t : Nat) (g : Nat) (f : Nat) (r : Nat) = unr (t + g + f) t g f r := by
    unfold liR
    rw [if_pos h]; rfl
  have hgl : goodLine (unr (t + g + f) t g f r) = true := good_of (by omega) (by omega) i1
  rw [e]
  refine ⟨hgl, ?_, by rw [hcl]; omega⟩
  unfold rkG
  rw [if_pos hgl, i5]
theorem fiL_facts {t g f : Int} (h : nmG t g f = true) : goodLine (fiL t g f) = true ∧ pairsG (fiL t g f) = t * f ∧ wayG (fiL t g f) = t * (g + f) + f * (t + g) := by
  obtain ⟨t, g, f, rfl, rfl, rfl, k1, k2⟩ := nmG_nat h
  have e : fiL (t : Nat) (g : Nat) (f : Nat) = firB t g f := by unfold fiL; rw [if_pos h]; rfl
  have hgl : goodLine (firB t g f) = true := by
    refine good_of (by simp [firB]; omega) (by simp [firB]; omega) ?_
    unfold signs firB
    rw [List.all_eq_true]
    intro x hx
    simp only [List.mem_append, List.mem_replicate] at hx
    rcases hx with (⟨_, rfl⟩ | ⟨_, rfl⟩) | ⟨_, rfl⟩ <;> rfl
  rw [e]
  refine ⟨hgl, ?_, ?_⟩
  · unfold pairsG; rw [if_pos hgl, (firB_way t g f).2, Int.natCast_mul]
  · unfold wayG; rw [if_pos hgl, (firB_way t g f).1]; simp only [Int.natCast_add, Int.natCast_mul]
/-- Lines behind moves are lines. -/
theorem good_play : ∀ (L : List (Int × Int)) {w : List UInt8}, goodLine w = true → goodLine (plG w L).1 = true ∧ (plG w L).1.length = w.length
  | [], w, h => ⟨h, rfl⟩
  | m :: L, w, h => by
    cases hc : canB w m
    · have e : plG w (m :: L) = (w, 0) := by simp only [plG, hc, Bool.false_eq_true, if_false]
      rw [e]; exact ⟨h, rfl⟩
    · have e : plG w (m :: L) = ((plG (madeB w m.1.toNat m.2.toNat) L).1, (plG (madeB w m.1.toNat m.2.toNat) L).2 + 1) := by simp only [plG, hc, if_true]
      rw [e]
      obtain ⟨i, t⟩ := m
      obtain ⟨i, t, rfl, rfl, hm⟩ := canB_mv hc
      have := good_play L (good_made h hm)
      rw [madeB_length] at this
      exact this
end Go.Proofs.YtejhhdpfndiliaaGreatDoor.Ab

/- THE LAW OF LINES ranked: for all bytes. -/
namespace Go.Proofs.YtejhhdpfndiliaaGreatDoor.Ab
open Go
set_option maxRecDepth 100000
set_option maxHeartbeats 16000000

theorem plG_all {w : List UInt8} {m : Int × Int} {rest : List (Int × Int)} (h : (plG w (m :: rest)).2 = (m :: rest).length) : canB w m = true ∧ (plG (madeB w m.1.toNat m.2.toNat) rest).2 = rest.length ∧ (plG w (m :: rest)).1 = (plG (madeB w m.1.toNat m.2.toNat) rest).1 := by
  cases hc : canB w m
  · have e : plG w (m :: rest) = (w, 0) := by simp only [plG, hc, Bool.false_eq_true, if_false]
    rw [e] at h; simp at h
  · have e : plG w (m :: rest) = ((plG (madeB w m.1.toNat m.2.toNat) rest).1, (plG (madeB w m.1.toNat m.2.toNat) rest).2 + 1) := by simp only [plG, hc, if_true]
    rw [e] at h ⊢
    exact ⟨rfl, by simpa using h, rfl⟩
theorem lp_ranked {v : AV} {L : List (Int × Int)} (hL : L.length < 2 ^ 30) {b : AH} (hs : Slc 2 encM b v L) (e52 : AV) {R : X → Env → AH → Prop} : ∀ (rest pre : List (Int × Int)) (w : List UInt8) (h : AH), L = pre ++ rest → goodLine w = true → (plG w rest).2 = rest.length → Pre b h →
    (∀ h', Pre b h' → R (.exit 0) [(52, e52), (66, .str (plG w rest).1)] h') →
    Cx (.loop lp395_0) [(52, e52), (66, .str w), (465, v), (466, .int .i64 L.length), (467, .int .i64 pre.length)] h R k k := by
  intro rest
  induction rest with
  | nil =>
    intro pre w h hpre hg ha hp hR
    have hl : L.length = pre.length := by rw [hpre]; simp
    rw [hl]
    rw [w_loopb (c := lp395_0) (d := lb395_0) rfl]; unfold lb395_0
    simp (maxSteps := 1000000) (disch := first | omega | rfl | (simp only [zL, two63, room] <;> omega) | fail) only [↓reduceIte, ↓zP, zW, WOp, evOp, evBin, binI, binSh, binS, evNil, keyIs, keyEq, mkv, AV.cells, AV.sc, optv, bnd, env, put, Env.get, Env.set, Env.del, Env.dels, Env.init, res1, resL, resV, fillP, splice, newRow, Nat.reduceEqDiff, Nat.reduceLT, Nat.reduceLeDiff, Nat.reduceAdd, Nat.reduceMul, Nat.reduceSub, Nat.reduceBEq, reduceCtorEq, ↓zR, zQ, Tr, StA, StT]
    exact hR h hp
  | cons m rest ih =>
    intro pre w h hpre hg ha hp hR
    obtain ⟨hc, ha2, he⟩ := plG_all ha
    rw [he] at hR
    obtain ⟨i, t⟩ := m
    have hok : okG w (i, t) = true := by unfold okG; rw [hg, hc]; rfl
    obtain ⟨i, t, rfl, rfl, hm⟩ := canB_mv hc
    have hmk : mkG w ((i : Int), (t : Int)) = madeB w i t := by unfold mkG; rw [if_pos hok]; rfl
    have hgl := good_all hg
    have hl : L.length = pre.length + 1 + rest.length := by rw [hpre]; simp; omega
    have hs' := hs.pre hp
    rw [hpre] at hs'
    obtain ⟨r1, k1, o1, hve, hr⟩ := hs'.at hlM
    rw [← hpre, hl] at hve
    subst hve
    rw [hl] at ih ⊢
    have hr' : rdRow h r1 k1 (o1 + pre.length * 2) 2 = some [.int .i64 i, .int .i64 t] := hr
    have hlt : (pre.length : Int) < ((pre.length + 1 + rest.length : Nat) : Int) := by omega
    have hw1 : (pre.length : Int) + 1 = ((pre ++ [(((i : Int), (t : Int)) : Int × Int)]).length : Int) := by simp
    have hw2 : IntKind.i64.wrap ((pre ++ [(((i : Int), (t : Int)) : Int × Int)]).length : Int) = ((pre ++ [(((i : Int), (t : Int)) : Int × Int)]).length : Int) := wrap_i (by simp; omega)
    have hpR : Pre b (h ++ [AO.row [AV.int .i64 i, AV.int .i64 t] 0 0 false]) := hp.trans (Pre.push _ _)
    rw [w_loopb (c := lp395_0) (d := lb395_0) rfl]; unfold lb395_0
    simp (maxSteps := 1000000) (disch := first | omega | rfl | (simp only [zL, two63, room] <;> omega) | fail) only [↓reduceIte, ↓zP, zW, WOp, evOp, evBin, binI, binSh, binS, evNil, keyIs, keyEq, mkv, AV.cells, AV.sc, optv, bnd, env, put, Env.get, Env.set, Env.del, Env.dels, Env.init, res1, resL, resV, fillP, splice, newRow, Nat.reduceEqDiff, Nat.reduceLT, Nat.reduceLeDiff, Nat.reduceAdd, Nat.reduceMul, Nat.reduceSub, Nat.reduceBEq, reduceCtorEq, ↓zR, zQ, Tr, StA, StT, hlt, hr']
    refine c_MakeMove w i t (by omega) ?_
    intro h3 hp3
    simp (maxSteps := 1000000) (disch := first | omega | rfl | (simp only [zL, two63, room] <;> omega) | fail) only [↓reduceIte, ↓zP, zW, WOp, evOp, evBin, binI, binSh, binS, evNil, keyIs, keyEq, mkv, AV.cells, AV.sc, optv, bnd, env, put, Env.get, Env.set, Env.del, Env.dels, Env.init, res1, resL, resV, fillP, splice, newRow, Nat.reduceEqDiff, Nat.reduceLT, Nat.reduceLeDiff, Nat.reduceAdd, Nat.reduceMul, Nat.reduceSub, Nat.reduceBEq, reduceCtorEq, ↓zR, zQ, Tr, StA, StT, hok, hmk, hw1, hw2]
    rw [w_loopn (c := lp395_0) rfl]
    simp (maxSteps := 1000000) (disch := first | omega | rfl | (simp only [zL, two63, room] <;> omega) | fail) only [↓reduceIte, ↓zP, zW, WOp, evOp, evBin, binI, binSh, binS, evNil, keyIs, keyEq, mkv, AV.cells, AV.sc, optv, bnd, env, put, Env.get, Env.set, Env.del, Env.dels, Env.init, res1, resL, resV, fillP, splice, newRow, Nat.reduceEqDiff, Nat.reduceLT, Nat.reduceLeDiff, Nat.reduceAdd, Nat.reduceMul, Nat.reduceSub, Nat.reduceBEq, reduceCtorEq, ↓zR, zQ, Tr, StA, StT]
    exact ih (pre ++ [(((i : Int), (t : Int)) : Int × Int)]) (madeB w i t) h3 (by rw [hpre]; simp) (good_made hg hm) ha2 (hpR.trans hp3) hR
theorem okP_facts {u : List UInt8} {L : List (Int × Int)} (h : okP u L = true) : goodLine u = true ∧ (plG u L).2 = L.length ∧ plS u L = (plG u L).1 := by
  have h0 := h
  unfold okP asG at h0
  simp only [Bool.and_eq_true, decide_eq_true_eq] at h0
  exact ⟨h0.1.1, h0.2, by unfold plS; rw [if_pos h]⟩
theorem okF_facts {u : List UInt8} {L : List (Int × Int)} (h : okF u L = true) : okP u L = false ∧ goodLine u = true ∧ (plG u L).2 < L.length ∧ flN u L = ((plG u L).2 : Nat) ∧ okP u (L.take (plG u L).2) = true ∧ plS u (L.take (plG u L).2) = (plG u L).1 ∧ goodLine (plG u L).1 = true := by
  have h0 := h
  unfold okF asG at h0
  simp only [Bool.and_eq_true, decide_eq_true_eq, Bool.not_eq_true', decide_eq_false_iff_not] at h0
  obtain ⟨⟨h1, h2⟩, h3⟩ := h0
  have hle := plG_le L u
  have hk : okP u (L.take (plG u L).2) = true := by
    unfold okP asG
    rw [plG_take, h1]
    simp only [Bool.true_and, Bool.and_eq_true, decide_eq_true_eq, List.length_take]
    omega
  refine ⟨by unfold okP; rw [decide_eq_false h3, Bool.and_false], h1, by omega, by unfold flN; rw [if_pos h], hk, ?_, (good_play L h1).1⟩
  unfold plS
  rw [if_pos hk, plG_take]
theorem okPF (u : List UInt8) (L : List (Int × Int)) : (okP u L = false ∧ okF u L = false) ∨ (okP u L = false ∧ okF u L = true) ∨ (okP u L = true ∧ okF u L = false) := by
  cases eF : okF u L
  · cases eP : okP u L
    · exact .inl ⟨rfl, rfl⟩
    · exact .inr (.inr ⟨rfl, rfl⟩)
  · exact .inr (.inl ⟨(okF_facts eF).1, rfl⟩)
theorem way_wraps {i g f : Nat} (h : i + g + f ≤ 12) : IntKind.i64.wrap ((i : Int) * f) = (i : Int) * f ∧ IntKind.i64.wrap ((g : Int) + f) = (g : Int) + f ∧ IntKind.i64.wrap ((i : Int) + g) = (i : Int) + g ∧ IntKind.i64.wrap ((i : Int) * (g + f)) = (i : Int) * (g + f) ∧
    IntKind.i64.wrap ((f : Int) * (i + g)) = (f : Int) * (i + g) ∧ IntKind.i64.wrap ((i : Int) * (g + f) + (f : Int) * (i + g)) = (i : Int) * (g + f) + (f : Int) * (i + g) := by
  have e1 : ((i : Int) * f) = ((i * f : Nat) : Int) := by rw [Int.natCast_mul]
  have e2 : ((i : Int) * (g + f)) = ((i * (g + f) : Nat) : Int) := by rw [Int.natCast_mul, Int.natCast_add]
  have e3 : ((f : Int) * (i + g)) = ((f * (i + g) : Nat) : Int) := by rw [Int.natCast_mul, Int.natCast_add]
  have b1 : i * f ≤ 12 * 12 := Nat.mul_le_mul (by omega) (by omega)
  have b2 : i * (g + f) ≤ 12 * 12 := Nat.mul_le_mul (by omega) (by omega)
  have b3 : f * (i + g) ≤ 12 * 12 := Nat.mul_le_mul (by omega) (by omega)
  rw [e1, e2, e3]
  generalize i * f = A at *
  generalize i * (g + f) = B at *
  generalize f * (i + g) = C at *
  exact ⟨wrap_i (by omega), wrap_i (by omega), wrap_i (by omega), wrap_i (by omega), wrap_i (by omega), wrap_i (by omega)⟩
theorem law_LinesRanked_of {cv mv : AV} {cs ms : List UInt8} {h : AH} (hs : Slc 1 encU h cv cs) (ht : Slc 1 encU h mv ms) {post : AV → AH → Prop} (hp : ∀ h', post (.bool true) h') : S 395 [cv, mv] h post k := by
  refine S_of rfl T395 ?_; unfold fi395
  simp (maxSteps := 1000000) (disch := first | omega | rfl | (simp only [zL, two63, room] <;> omega) | fail) only [↓reduceIte, ↓zP, zW, WOp, evOp, evBin, binI, binSh, binS, evNil, keyIs, keyEq, mkv, AV.cells, AV.sc, optv, bnd, env, put, Env.get, Env.set, Env.del, Env.dels, Env.init, res1, resL, resV, fillP, splice, newRow, Nat.reduceEqDiff, Nat.reduceLT, Nat.reduceLeDiff, Nat.reduceAdd, Nat.reduceMul, Nat.reduceSub, Nat.reduceBEq, reduceCtorEq, ↓zR, zQ, Tr, StA, StT]
  refine c_big hs ht ?_
  intro bg hbg
  cases bg
  case true =>
    simp (maxSteps := 1000000) (disch := first | omega | rfl | (simp only [zL, two63, room] <;> omega) | fail) only [↓reduceIte, ↓zP, zW, WOp, evOp, evBin, binI, binSh, binS, evNil, keyIs, keyEq, mkv, AV.cells, AV.sc, optv, bnd, env, put, Env.get, Env.set, Env.del, Env.dels, Env.init, res1, resL, resV, fillP, splice, newRow, Nat.reduceEqDiff, Nat.reduceLT, Nat.reduceLeDiff, Nat.reduceAdd, Nat.reduceMul, Nat.reduceSub, Nat.reduceBEq, reduceCtorEq, ↓zR, zQ, Tr, StA, StT]
    exact hp h
  obtain ⟨hl1, hl2⟩ := hbg rfl
  clear hbg
  simp (maxSteps := 1000000) (disch := first | omega | rfl | (simp only [zL, two63, room] <;> omega) | fail) only [↓reduceIte, ↓zP, zW, WOp, evOp, evBin, binI, binSh, binS, evNil, keyIs, keyEq, mkv, AV.cells, AV.sc, optv, bnd, env, put, Env.get, Env.set, Env.del, Env.dels, Env.init, res1, resL, resV, fillP, splice, newRow, Nat.reduceEqDiff, Nat.reduceLT, Nat.reduceLeDiff, Nat.reduceAdd, Nat.reduceMul, Nat.reduceSub, Nat.reduceBEq, reduceCtorEq, ↓zR, zQ, Tr, StA, StT]
  refine c_DrawRankOfLine hs (by omega) ?_
  intro w h1 hw hp1
  simp (maxSteps := 1000000) (disch := first | omega | rfl | (simp only [zL, two63, room] <;> omega) | fail) only [↓reduceIte, ↓zP, zW, WOp, evOp, evBin, binI, binSh, binS, evNil, keyIs, keyEq, mkv, AV.cells, AV.sc, optv, bnd, env, put, Env.get, Env.set, Env.del, Env.dels, Env.init, res1, resL, resV, fillP, splice, newRow, Nat.reduceEqDiff, Nat.reduceLT, Nat.reduceLeDiff, Nat.reduceAdd, Nat.reduceMul, Nat.reduceSub, Nat.reduceBEq, reduceCtorEq, ↓zR, zQ, Tr, StA, StT]
  refine c_RankOfLine w (by omega) ?_
  intro h2 hp2
  have pA := hp1.trans hp2
  simp (maxSteps := 1000000) (disch := first | omega | rfl | (simp only [zL, two63, room] <;> omega) | fail) only [↓reduceIte, ↓zP, zW, WOp, evOp, evBin, binI, binSh, binS, evNil, keyIs, keyEq, mkv, AV.cells, AV.sc, optv, bnd, env, put, Env.get, Env.set, Env.del, Env.dels, Env.init, res1, resL, resV, fillP, splice, newRow, Nat.reduceEqDiff, Nat.reduceLT, Nat.reduceLeDiff, Nat.reduceAdd, Nat.reduceMul, Nat.reduceSub, Nat.reduceBEq, reduceCtorEq, ↓zR, zQ, Tr, StA, StT, e_sRankOfLine w (by omega), e_CountOf w (by omega), e_sCountOf w (by omega), e_LastLine w (by omega), e_sLastLine w (by omega)]
  cases hg : goodLine w
  · simp (maxSteps := 1000000) (disch := first | omega | rfl | (simp only [zL, two63, room] <;> omega) | fail) only [↓reduceIte, ↓zP, zW, WOp, evOp, evBin, binI, binSh, binS, evNil, keyIs, keyEq, mkv, AV.cells, AV.sc, optv, bnd, env, put, Env.get, Env.set, Env.del, Env.dels, Env.init, res1, resL, resV, fillP, splice, newRow, Nat.reduceEqDiff, Nat.reduceLT, Nat.reduceLeDiff, Nat.reduceAdd, Nat.reduceMul, Nat.reduceSub, Nat.reduceBEq, reduceCtorEq, ↓zR, zQ, Tr, StA, StT]
    refine c_DrawLineOfRank (ht.pre pA) (by omega) ?_
    intro i g f r h5 hp5
    simp (maxSteps := 1000000) (disch := first | omega | rfl | (simp only [zL, two63, room] <;> omega) | fail) only [↓reduceIte, ↓zP, zW, WOp, evOp, evBin, binI, binSh, binS, evNil, keyIs, keyEq, mkv, AV.cells, AV.sc, optv, bnd, env, put, Env.get, Env.set, Env.del, Env.dels, Env.init, res1, resL, resV, fillP, splice, newRow, Nat.reduceEqDiff, Nat.reduceLT, Nat.reduceLeDiff, Nat.reduceAdd, Nat.reduceMul, Nat.reduceSub, Nat.reduceBEq, reduceCtorEq, ↓zR, zQ, Tr, StA, StT]
    refine c_LineOfRank i g f r ?_
    intro h6 hp6
    simp (maxSteps := 1000000) (disch := first | omega | rfl | (simp only [zL, two63, room] <;> omega) | fail) only [↓reduceIte, ↓zP, zW, WOp, evOp, evBin, binI, binSh, binS, evNil, keyIs, keyEq, mkv, AV.cells, AV.sc, optv, bnd, env, put, Env.get, Env.set, Env.del, Env.dels, Env.init, res1, resL, resV, fillP, splice, newRow, Nat.reduceEqDiff, Nat.reduceLT, Nat.reduceLeDiff, Nat.reduceAdd, Nat.reduceMul, Nat.reduceSub, Nat.reduceBEq, reduceCtorEq, ↓zR, zQ, Tr, StA, StT]
    refine c_sLineOfRank i g f r ?_
    intro h7 hp7
    simp (maxSteps := 1000000) (disch := first | omega | rfl | (simp only [zL, two63, room] <;> omega) | fail) only [↓reduceIte, ↓zP, zW, WOp, evOp, evBin, binI, binSh, binS, evNil, keyIs, keyEq, mkv, AV.cells, AV.sc, optv, bnd, env, put, Env.get, Env.set, Env.del, Env.dels, Env.init, res1, resL, resV, fillP, splice, newRow, Nat.reduceEqDiff, Nat.reduceLT, Nat.reduceLeDiff, Nat.reduceAdd, Nat.reduceMul, Nat.reduceSub, Nat.reduceBEq, reduceCtorEq, ↓zR, zQ, Tr, StA, StT, e_FirstLine i g f]
    refine c_sFirstLine i g f ?_
    intro h8 hp8
    simp (maxSteps := 1000000) (disch := first | omega | rfl | (simp only [zL, two63, room] <;> omega) | fail) only [↓reduceIte, ↓zP, zW, WOp, evOp, evBin, binI, binSh, binS, evNil, keyIs, keyEq, mkv, AV.cells, AV.sc, optv, bnd, env, put, Env.get, Env.set, Env.del, Env.dels, Env.init, res1, resL, resV, fillP, splice, newRow, Nat.reduceEqDiff, Nat.reduceLT, Nat.reduceLeDiff, Nat.reduceAdd, Nat.reduceMul, Nat.reduceSub, Nat.reduceBEq, reduceCtorEq, ↓zR, zQ, Tr, StA, StT, e_CountLines i g f]
    refine c_sCountLines i g f ?_
    intro h9 hp9
    simp (maxSteps := 1000000) (disch := first | omega | rfl | (simp only [zL, two63, room] <;> omega) | fail) only [↓reduceIte, ↓zP, zW, WOp, evOp, evBin, binI, binSh, binS, evNil, keyIs, keyEq, mkv, AV.cells, AV.sc, optv, bnd, env, put, Env.get, Env.set, Env.del, Env.dels, Env.init, res1, resL, resV, fillP, splice, newRow, Nat.reduceEqDiff, Nat.reduceLT, Nat.reduceLeDiff, Nat.reduceAdd, Nat.reduceMul, Nat.reduceSub, Nat.reduceBEq, reduceCtorEq, ↓zR, zQ, Tr, StA, StT]
    refine c_DrawPlayMoves (ht.pre (Pre.trans pA (hp5.trans (hp6.trans (hp7.trans (hp8.trans hp9)))))) (by omega) ?_
    intro u mv1 L hA hu hL _ hsA
    simp (maxSteps := 1000000) (disch := first | omega | rfl | (simp only [zL, two63, room] <;> omega) | fail) only [↓reduceIte, ↓zP, zW, WOp, evOp, evBin, binI, binSh, binS, evNil, keyIs, keyEq, mkv, AV.cells, AV.sc, optv, bnd, env, put, Env.get, Env.set, Env.del, Env.dels, Env.init, res1, resL, resV, fillP, splice, newRow, Nat.reduceEqDiff, Nat.reduceLT, Nat.reduceLeDiff, Nat.reduceAdd, Nat.reduceMul, Nat.reduceSub, Nat.reduceBEq, reduceCtorEq, ↓zR, zQ, Tr, StA, StT]
    refine c_PlayMoves u (by omega) hsA ?_
    intro hB pB
    have hsB := hsA.pre pB
    simp (maxSteps := 1000000) (disch := first | omega | rfl | (simp only [zL, two63, room] <;> omega) | fail) only [↓reduceIte, ↓zP, zW, WOp, evOp, evBin, binI, binSh, binS, evNil, keyIs, keyEq, mkv, AV.cells, AV.sc, optv, bnd, env, put, Env.get, Env.set, Env.del, Env.dels, Env.init, res1, resL, resV, fillP, splice, newRow, Nat.reduceEqDiff, Nat.reduceLT, Nat.reduceLeDiff, Nat.reduceAdd, Nat.reduceMul, Nat.reduceSub, Nat.reduceBEq, reduceCtorEq, ↓zR, zQ, Tr, StA, StT]
    refine c_sPlayMoves u (by omega) hsB ?_
    intro hC pC
    have hsC := hsB.pre pC
    simp (maxSteps := 1000000) (disch := first | omega | rfl | (simp only [zL, two63, room] <;> omega) | fail) only [↓reduceIte, ↓zP, zW, WOp, evOp, evBin, binI, binSh, binS, evNil, keyIs, keyEq, mkv, AV.cells, AV.sc, optv, bnd, env, put, Env.get, Env.set, Env.del, Env.dels, Env.init, res1, resL, resV, fillP, splice, newRow, Nat.reduceEqDiff, Nat.reduceLT, Nat.reduceLeDiff, Nat.reduceAdd, Nat.reduceMul, Nat.reduceSub, Nat.reduceBEq, reduceCtorEq, ↓zR, zQ, Tr, StA, StT]
    refine c_MoveThatFails1 u (by omega) hsC ?_
    intro hD pD
    have hsD := hsC.pre pD
    simp (maxSteps := 1000000) (disch := first | omega | rfl | (simp only [zL, two63, room] <;> omega) | fail) only [↓reduceIte, ↓zP, zW, WOp, evOp, evBin, binI, binSh, binS, evNil, keyIs, keyEq, mkv, AV.cells, AV.sc, optv, bnd, env, put, Env.get, Env.set, Env.del, Env.dels, Env.init, res1, resL, resV, fillP, splice, newRow, Nat.reduceEqDiff, Nat.reduceLT, Nat.reduceLeDiff, Nat.reduceAdd, Nat.reduceMul, Nat.reduceSub, Nat.reduceBEq, reduceCtorEq, ↓zR, zQ, Tr, StA, StT]
    refine c_sMoveThatFails1 u (by omega) hsD ?_
    intro hE pE
    have hsE := hsD.pre pE
    clear hsA hsB hsC hsD pA pB pC pD pE hp5 hp6 hp7 hp8 hp9
    cases eN : nmG i g f
    · have eR : okR i g f r = false := by unfold okR; rw [eN]; rfl
      have hsF := hsE
      rcases okPF u L with ⟨eP, eF⟩ | ⟨eP, eF⟩ | ⟨eP, eF⟩
      · simp (maxSteps := 1000000) (disch := first | omega | rfl | (simp only [zL, two63, room] <;> omega) | fail) only [↓reduceIte, ↓zP, zW, WOp, evOp, evBin, binI, binSh, binS, evNil, keyIs, keyEq, mkv, AV.cells, AV.sc, optv, bnd, env, put, Env.get, Env.set, Env.del, Env.dels, Env.init, res1, resL, resV, fillP, splice, newRow, Nat.reduceEqDiff, Nat.reduceLT, Nat.reduceLeDiff, Nat.reduceAdd, Nat.reduceMul, Nat.reduceSub, Nat.reduceBEq, reduceCtorEq, ↓zR, zQ, Tr, StA, StT, eP, eF, eN, eR]
        exact hp _
      · -- a move that fails
        obtain ⟨-, x2, x3, x4, x5, x6, x7⟩ := okF_facts eF
        have hxl := (good_all x7)
        rcases hsF.cases with ⟨rfl, h0⟩ | ⟨rfl, h0⟩ | ⟨rC, rK, rO, rfl⟩
        · rw [h0] at x3; simp at x3
        · rw [h0] at x3; simp at x3
        · have hto := Slc.upTo hlM hsF (j := (plG u L).2) (by omega) rfl rfl
          have b1 : (0 : Int) ≤ ((plG u L).2 : Nat) := by omega
          have b2 : (((plG u L).2 : Nat) : Int) ≤ (L.length : Nat) := by omega
          have b3 : (((plG u L).2 : Nat) : Int) < (L.length : Nat) := by omega
          simp (maxSteps := 1000000) (disch := first | omega | rfl | (simp only [zL, two63, room] <;> omega) | fail) only [↓reduceIte, ↓zP, zW, WOp, evOp, evBin, binI, binSh, binS, evNil, keyIs, keyEq, mkv, AV.cells, AV.sc, optv, bnd, env, put, Env.get, Env.set, Env.del, Env.dels, Env.init, res1, resL, resV, fillP, splice, newRow, Nat.reduceEqDiff, Nat.reduceLT, Nat.reduceLeDiff, Nat.reduceAdd, Nat.reduceMul, Nat.reduceSub, Nat.reduceBEq, reduceCtorEq, ↓zR, zQ, Tr, StA, StT, eP, eF, x4, b1, b2, eN, eR]
          refine c_PlayMoves u (by omega) (by simpa using hto) ?_
          intro hX pX
          have hsX := hsF.pre pX
          have hLe : L = L.take (plG u L).2 ++ L[(plG u L).2] :: L.drop ((plG u L).2 + 1) := by
            have := (List.take_append_drop (plG u L).2 L).symm
            rwa [List.drop_eq_getElem_cons x3] at this
          have hst := plG_stop L u x3
          rw [hLe] at hsX
          generalize L[(plG u L).2] = m at hsX hst
          have hrd := hsX.rd hlM
          rw [List.length_take, show min (plG u L).2 L.length = (plG u L).2 by omega] at hrd
          obtain ⟨m1, m2⟩ := m
          have hrd' : rdRow hX rC rK (rO + (plG u L).2 * 2) 2 = some [.int .i64 m1, .int .i64 m2] := hrd
          have hno : okG (plG u L).1 (m1, m2) = false := by unfold okG; rw [hst, Bool.and_false]
          simp (maxSteps := 1000000) (disch := first | omega | rfl | (simp only [zL, two63, room] <;> omega) | fail) only [↓reduceIte, ↓zP, zW, WOp, evOp, evBin, binI, binSh, binS, evNil, keyIs, keyEq, mkv, AV.cells, AV.sc, optv, bnd, env, put, Env.get, Env.set, Env.del, Env.dels, Env.init, res1, resL, resV, fillP, splice, newRow, Nat.reduceEqDiff, Nat.reduceLT, Nat.reduceLeDiff, Nat.reduceAdd, Nat.reduceMul, Nat.reduceSub, Nat.reduceBEq, reduceCtorEq, ↓zR, zQ, Tr, StA, StT, x4, x5, x6, b1, b2, b3, hrd']
          refine c_CanMove (plG u L).1 m1 m2 (by omega) ?_
          intro hY pY
          simp (maxSteps := 1000000) (disch := first | omega | rfl | (simp only [zL, two63, room] <;> omega) | fail) only [↓reduceIte, ↓zP, zW, WOp, evOp, evBin, binI, binSh, binS, evNil, keyIs, keyEq, mkv, AV.cells, AV.sc, optv, bnd, env, put, Env.get, Env.set, Env.del, Env.dels, Env.init, res1, resL, resV, fillP, splice, newRow, Nat.reduceEqDiff, Nat.reduceLT, Nat.reduceLeDiff, Nat.reduceAdd, Nat.reduceMul, Nat.reduceSub, Nat.reduceBEq, reduceCtorEq, ↓zR, zQ, Tr, StA, StT, x5, x7, hno]
          exact hp _
      · -- a play
        obtain ⟨x1, x2, x3⟩ := okP_facts eP
        have hv := fun g => Slc.lenV (hsF) (g := g) (ρ := fun _ => _) (x := .t 0) rfl; simp only [evOp] at hv
        simp (maxSteps := 1000000) (disch := first | omega | rfl | (simp only [zL, two63, room] <;> omega) | fail) only [↓reduceIte, ↓zP, zW, WOp, evOp, evBin, binI, binSh, binS, evNil, keyIs, keyEq, mkv, AV.cells, AV.sc, optv, bnd, env, put, Env.get, Env.set, Env.del, Env.dels, Env.init, res1, resL, resV, fillP, splice, newRow, Nat.reduceEqDiff, Nat.reduceLT, Nat.reduceLeDiff, Nat.reduceAdd, Nat.reduceMul, Nat.reduceSub, Nat.reduceBEq, reduceCtorEq, ↓zR, zQ, Tr, StA, StT, eP, eF, x3, hv, eN, eR]
        refine lp_ranked (by omega) hsF (.str (plG u L).1) L [] u _ rfl x1 x2 (Pre.refl _) ?_
        intro hX pX
        simp (maxSteps := 1000000) (disch := first | omega | rfl | (simp only [zL, two63, room] <;> omega) | fail) only [↓reduceIte, ↓zP, zW, WOp, evOp, evBin, binI, binSh, binS, evNil, keyIs, keyEq, mkv, AV.cells, AV.sc, optv, bnd, env, put, Env.get, Env.set, Env.del, Env.dels, Env.init, res1, resL, resV, fillP, splice, newRow, Nat.reduceEqDiff, Nat.reduceLT, Nat.reduceLeDiff, Nat.reduceAdd, Nat.reduceMul, Nat.reduceSub, Nat.reduceBEq, reduceCtorEq, ↓zR, zQ, Tr, StA, StT]
        exact hp _
    · obtain ⟨y1, y2, y3⟩ := fiL_facts eN
      have y4 := good_all y1
      obtain ⟨i, g, f, rfl, rfl, rfl, k1, k2⟩ := nmG_nat eN
      obtain ⟨z1, z2, z3, z4, z5, z6⟩ := way_wraps k2
      cases eR : okR i g f r
      · have hsF := hsE
        rcases okPF u L with ⟨eP, eF⟩ | ⟨eP, eF⟩ | ⟨eP, eF⟩
        · simp (maxSteps := 1000000) (disch := first | omega | rfl | (simp only [zL, two63, room] <;> omega) | fail) only [↓reduceIte, ↓zP, zW, WOp, evOp, evBin, binI, binSh, binS, evNil, keyIs, keyEq, mkv, AV.cells, AV.sc, optv, bnd, env, put, Env.get, Env.set, Env.del, Env.dels, Env.init, res1, resL, resV, fillP, splice, newRow, Nat.reduceEqDiff, Nat.reduceLT, Nat.reduceLeDiff, Nat.reduceAdd, Nat.reduceMul, Nat.reduceSub, Nat.reduceBEq, reduceCtorEq, ↓zR, zQ, Tr, StA, StT, eP, eF, eN, eR, e_PairsToPass (fiL i g f) (by omega), e_WayToGo (fiL i g f) (by omega), y1, y2, y3, z1, z2, z3, z4, z5, z6]
          exact hp _
        · -- a move that fails
          obtain ⟨-, x2, x3, x4, x5, x6, x7⟩ := okF_facts eF
          have hxl := (good_all x7)
          rcases hsF.cases with ⟨rfl, h0⟩ | ⟨rfl, h0⟩ | ⟨rC, rK, rO, rfl⟩
          · rw [h0] at x3; simp at x3
          · rw [h0] at x3; simp at x3
          · have hto := Slc.upTo hlM hsF (j := (plG u L).2) (by omega) rfl rfl
            have b1 : (0 : Int) ≤ ((plG u L).2 : Nat) := by omega
            have b2 : (((plG u L).2 : Nat) : Int) ≤ (L.length : Nat) := by omega
            have b3 : (((plG u L).2 : Nat) : Int) < (L.length : Nat) := by omega
            simp (maxSteps := 1000000) (disch := first | omega | rfl | (simp only [zL, two63, room] <;> omega) | fail) only [↓reduceIte, ↓zP, zW, WOp, evOp, evBin, binI, binSh, binS, evNil, keyIs, keyEq, mkv, AV.cells, AV.sc, optv, bnd, env, put, Env.get, Env.set, Env.del, Env.dels, Env.init, res1, resL, resV, fillP, splice, newRow, Nat.reduceEqDiff, Nat.reduceLT, Nat.reduceLeDiff, Nat.reduceAdd, Nat.reduceMul, Nat.reduceSub, Nat.reduceBEq, reduceCtorEq, ↓zR, zQ, Tr, StA, StT, eP, eF, x4, b1, b2, eN, eR, e_PairsToPass (fiL i g f) (by omega), e_WayToGo (fiL i g f) (by omega), y1, y2, y3, z1, z2, z3, z4, z5, z6]
            refine c_PlayMoves u (by omega) (by simpa using hto) ?_
            intro hX pX
            have hsX := hsF.pre pX
            have hLe : L = L.take (plG u L).2 ++ L[(plG u L).2] :: L.drop ((plG u L).2 + 1) := by
              have := (List.take_append_drop (plG u L).2 L).symm
              rwa [List.drop_eq_getElem_cons x3] at this
            have hst := plG_stop L u x3
            rw [hLe] at hsX
            generalize L[(plG u L).2] = m at hsX hst
            have hrd := hsX.rd hlM
            rw [List.length_take, show min (plG u L).2 L.length = (plG u L).2 by omega] at hrd
            obtain ⟨m1, m2⟩ := m
            have hrd' : rdRow hX rC rK (rO + (plG u L).2 * 2) 2 = some [.int .i64 m1, .int .i64 m2] := hrd
            have hno : okG (plG u L).1 (m1, m2) = false := by unfold okG; rw [hst, Bool.and_false]
            simp (maxSteps := 1000000) (disch := first | omega | rfl | (simp only [zL, two63, room] <;> omega) | fail) only [↓reduceIte, ↓zP, zW, WOp, evOp, evBin, binI, binSh, binS, evNil, keyIs, keyEq, mkv, AV.cells, AV.sc, optv, bnd, env, put, Env.get, Env.set, Env.del, Env.dels, Env.init, res1, resL, resV, fillP, splice, newRow, Nat.reduceEqDiff, Nat.reduceLT, Nat.reduceLeDiff, Nat.reduceAdd, Nat.reduceMul, Nat.reduceSub, Nat.reduceBEq, reduceCtorEq, ↓zR, zQ, Tr, StA, StT, x4, x5, x6, b1, b2, b3, hrd']
            refine c_CanMove (plG u L).1 m1 m2 (by omega) ?_
            intro hY pY
            simp (maxSteps := 1000000) (disch := first | omega | rfl | (simp only [zL, two63, room] <;> omega) | fail) only [↓reduceIte, ↓zP, zW, WOp, evOp, evBin, binI, binSh, binS, evNil, keyIs, keyEq, mkv, AV.cells, AV.sc, optv, bnd, env, put, Env.get, Env.set, Env.del, Env.dels, Env.init, res1, resL, resV, fillP, splice, newRow, Nat.reduceEqDiff, Nat.reduceLT, Nat.reduceLeDiff, Nat.reduceAdd, Nat.reduceMul, Nat.reduceSub, Nat.reduceBEq, reduceCtorEq, ↓zR, zQ, Tr, StA, StT, x5, x7, hno]
            exact hp _
        · -- a play
          obtain ⟨x1, x2, x3⟩ := okP_facts eP
          have hv := fun g => Slc.lenV (hsF) (g := g) (ρ := fun _ => _) (x := .t 0) rfl; simp only [evOp] at hv
          simp (maxSteps := 1000000) (disch := first | omega | rfl | (simp only [zL, two63, room] <;> omega) | fail) only [↓reduceIte, ↓zP, zW, WOp, evOp, evBin, binI, binSh, binS, evNil, keyIs, keyEq, mkv, AV.cells, AV.sc, optv, bnd, env, put, Env.get, Env.set, Env.del, Env.dels, Env.init, res1, resL, resV, fillP, splice, newRow, Nat.reduceEqDiff, Nat.reduceLT, Nat.reduceLeDiff, Nat.reduceAdd, Nat.reduceMul, Nat.reduceSub, Nat.reduceBEq, reduceCtorEq, ↓zR, zQ, Tr, StA, StT, eP, eF, x3, hv, eN, eR, e_PairsToPass (fiL i g f) (by omega), e_WayToGo (fiL i g f) (by omega), y1, y2, y3, z1, z2, z3, z4, z5, z6]
          refine lp_ranked (by omega) hsF (.str (plG u L).1) L [] u _ rfl x1 x2 (Pre.refl _) ?_
          intro hX pX
          simp (maxSteps := 1000000) (disch := first | omega | rfl | (simp only [zL, two63, room] <;> omega) | fail) only [↓reduceIte, ↓zP, zW, WOp, evOp, evBin, binI, binSh, binS, evNil, keyIs, keyEq, mkv, AV.cells, AV.sc, optv, bnd, env, put, Env.get, Env.set, Env.del, Env.dels, Env.init, res1, resL, resV, fillP, splice, newRow, Nat.reduceEqDiff, Nat.reduceLT, Nat.reduceLeDiff, Nat.reduceAdd, Nat.reduceMul, Nat.reduceSub, Nat.reduceBEq, reduceCtorEq, ↓zR, zQ, Tr, StA, StT]
          exact hp _
      · obtain ⟨q1, q2, q3⟩ := liR_facts eR
        have q4 := good_all q1
        have q5 : ¬ (r ≥ cnL (i : Nat) (g : Nat) (f : Nat)) := by omega
        have go : ∀ hF, Pre hE hF → Slc 2 encM hF mv1 L := fun hF p => hsE.pre p
        rcases okPF u L with ⟨eP, eF⟩ | ⟨eP, eF⟩ | ⟨eP, eF⟩
        all_goals
          simp (maxSteps := 1000000) (disch := first | omega | rfl | (simp only [zL, two63, room] <;> omega) | fail) only [↓reduceIte, ↓zP, zW, WOp, evOp, evBin, binI, binSh, binS, evNil, keyIs, keyEq, mkv, AV.cells, AV.sc, optv, bnd, env, put, Env.get, Env.set, Env.del, Env.dels, Env.init, res1, resL, resV, fillP, splice, newRow, Nat.reduceEqDiff, Nat.reduceLT, Nat.reduceLeDiff, Nat.reduceAdd, Nat.reduceMul, Nat.reduceSub, Nat.reduceBEq, reduceCtorEq, ↓zR, zQ, Tr, StA, StT, eP, eF, eN, eR]
          refine c_RankOfLine (liR (i : Nat) (g : Nat) (f : Nat) r) (by omega) ?_
          intro hF pF
          have hsF := go hF pF
        · simp (maxSteps := 1000000) (disch := first | omega | rfl | (simp only [zL, two63, room] <;> omega) | fail) only [↓reduceIte, ↓zP, zW, WOp, evOp, evBin, binI, binSh, binS, evNil, keyIs, keyEq, mkv, AV.cells, AV.sc, optv, bnd, env, put, Env.get, Env.set, Env.del, Env.dels, Env.init, res1, resL, resV, fillP, splice, newRow, Nat.reduceEqDiff, Nat.reduceLT, Nat.reduceLeDiff, Nat.reduceAdd, Nat.reduceMul, Nat.reduceSub, Nat.reduceBEq, reduceCtorEq, ↓zR, zQ, Tr, StA, StT, eP, eF, eN, eR, q1, q2, q5, e_PairsToPass (fiL i g f) (by omega), e_WayToGo (fiL i g f) (by omega), y1, y2, y3, z1, z2, z3, z4, z5, z6]
          exact hp _
        · -- a move that fails
          obtain ⟨-, x2, x3, x4, x5, x6, x7⟩ := okF_facts eF
          have hxl := (good_all x7)
          rcases hsF.cases with ⟨rfl, h0⟩ | ⟨rfl, h0⟩ | ⟨rC, rK, rO, rfl⟩
          · rw [h0] at x3; simp at x3
          · rw [h0] at x3; simp at x3
          · have hto := Slc.upTo hlM hsF (j := (plG u L).2) (by omega) rfl rfl
            have b1 : (0 : Int) ≤ ((plG u L).2 : Nat) := by omega
            have b2 : (((plG u L).2 : Nat) : Int) ≤ (L.length : Nat) := by omega
            have b3 : (((plG u L).2 : Nat) : Int) < (L.length : Nat) := by omega
            simp (maxSteps := 1000000) (disch := first | omega | rfl | (simp only [zL, two63, room] <;> omega) | fail) only [↓reduceIte, ↓zP, zW, WOp, evOp, evBin, binI, binSh, binS, evNil, keyIs, keyEq, mkv, AV.cells, AV.sc, optv, bnd, env, put, Env.get, Env.set, Env.del, Env.dels, Env.init, res1, resL, resV, fillP, splice, newRow, Nat.reduceEqDiff, Nat.reduceLT, Nat.reduceLeDiff, Nat.reduceAdd, Nat.reduceMul, Nat.reduceSub, Nat.reduceBEq, reduceCtorEq, ↓zR, zQ, Tr, StA, StT, eP, eF, x4, b1, b2, eN, eR, q1, q2, q5, e_PairsToPass (fiL i g f) (by omega), e_WayToGo (fiL i g f) (by omega), y1, y2, y3, z1, z2, z3, z4, z5, z6]
            refine c_PlayMoves u (by omega) (by simpa using hto) ?_
            intro hX pX
            have hsX := hsF.pre pX
            have hLe : L = L.take (plG u L).2 ++ L[(plG u L).2] :: L.drop ((plG u L).2 + 1) := by
              have := (List.take_append_drop (plG u L).2 L).symm
              rwa [List.drop_eq_getElem_cons x3] at this
            have hst := plG_stop L u x3
            rw [hLe] at hsX
            generalize L[(plG u L).2] = m at hsX hst
            have hrd := hsX.rd hlM
            rw [List.length_take, show min (plG u L).2 L.length = (plG u L).2 by omega] at hrd
            obtain ⟨m1, m2⟩ := m
            have hrd' : rdRow hX rC rK (rO + (plG u L).2 * 2) 2 = some [.int .i64 m1, .int .i64 m2] := hrd
            have hno : okG (plG u L).1 (m1, m2) = false := by unfold okG; rw [hst, Bool.and_false]
            simp (maxSteps := 1000000) (disch := first | omega | rfl | (simp only [zL, two63, room] <;> omega) | fail) only [↓reduceIte, ↓zP, zW, WOp, evOp, evBin, binI, binSh, binS, evNil, keyIs, keyEq, mkv, AV.cells, AV.sc, optv, bnd, env, put, Env.get, Env.set, Env.del, Env.dels, Env.init, res1, resL, resV, fillP, splice, newRow, Nat.reduceEqDiff, Nat.reduceLT, Nat.reduceLeDiff, Nat.reduceAdd, Nat.reduceMul, Nat.reduceSub, Nat.reduceBEq, reduceCtorEq, ↓zR, zQ, Tr, StA, StT, x4, x5, x6, b1, b2, b3, hrd']
            refine c_CanMove (plG u L).1 m1 m2 (by omega) ?_
            intro hY pY
            simp (maxSteps := 1000000) (disch := first | omega | rfl | (simp only [zL, two63, room] <;> omega) | fail) only [↓reduceIte, ↓zP, zW, WOp, evOp, evBin, binI, binSh, binS, evNil, keyIs, keyEq, mkv, AV.cells, AV.sc, optv, bnd, env, put, Env.get, Env.set, Env.del, Env.dels, Env.init, res1, resL, resV, fillP, splice, newRow, Nat.reduceEqDiff, Nat.reduceLT, Nat.reduceLeDiff, Nat.reduceAdd, Nat.reduceMul, Nat.reduceSub, Nat.reduceBEq, reduceCtorEq, ↓zR, zQ, Tr, StA, StT, x5, x7, hno]
            exact hp _
        · -- a play
          obtain ⟨x1, x2, x3⟩ := okP_facts eP
          have hv := fun g => Slc.lenV (hsF) (g := g) (ρ := fun _ => _) (x := .t 0) rfl; simp only [evOp] at hv
          simp (maxSteps := 1000000) (disch := first | omega | rfl | (simp only [zL, two63, room] <;> omega) | fail) only [↓reduceIte, ↓zP, zW, WOp, evOp, evBin, binI, binSh, binS, evNil, keyIs, keyEq, mkv, AV.cells, AV.sc, optv, bnd, env, put, Env.get, Env.set, Env.del, Env.dels, Env.init, res1, resL, resV, fillP, splice, newRow, Nat.reduceEqDiff, Nat.reduceLT, Nat.reduceLeDiff, Nat.reduceAdd, Nat.reduceMul, Nat.reduceSub, Nat.reduceBEq, reduceCtorEq, ↓zR, zQ, Tr, StA, StT, eP, eF, x3, hv, eN, eR, q1, q2, q5, e_PairsToPass (fiL i g f) (by omega), e_WayToGo (fiL i g f) (by omega), y1, y2, y3, z1, z2, z3, z4, z5, z6]
          refine lp_ranked (by omega) hsF (.str (plG u L).1) L [] u _ rfl x1 x2 (Pre.refl _) ?_
          intro hX pX
          simp (maxSteps := 1000000) (disch := first | omega | rfl | (simp only [zL, two63, room] <;> omega) | fail) only [↓reduceIte, ↓zP, zW, WOp, evOp, evBin, binI, binSh, binS, evNil, keyIs, keyEq, mkv, AV.cells, AV.sc, optv, bnd, env, put, Env.get, Env.set, Env.del, Env.dels, Env.init, res1, resL, resV, fillP, splice, newRow, Nat.reduceEqDiff, Nat.reduceLT, Nat.reduceLeDiff, Nat.reduceAdd, Nat.reduceMul, Nat.reduceSub, Nat.reduceBEq, reduceCtorEq, ↓zR, zQ, Tr, StA, StT]
          exact hp _
  · obtain ⟨f1, f2, f3, f4, f5, f6, f7, f8, f9, fA⟩ := rank_facts hg
    obtain ⟨l1, l2, l3, l4, l5, l6⟩ := last_facts hg
    have hgl := good_all hg
    have hc3 := cnt3 hgl.2.2
    have hll := good_all l2
    have n1 : ¬ (((rankN w : Nat) : Int) < 0) := by omega
    have n2 : ¬ (((rankN w : Nat) : Int) ≥ ((mW w : Nat) : Int)) := by omega
    have w1 : IntKind.i64.wrap (((w.count 84 : Nat) : Int) + ((w.count 46 : Nat) : Int)) = ((w.count 84 + w.count 46 : Nat) : Int) := by rw [← Int.natCast_add]; exact wn (by omega)
    have w2 : IntKind.i64.wrap (((w.count 84 + w.count 46 : Nat) : Int) + ((w.count 70 : Nat) : Int)) = ((w.length : Nat) : Int) := by rw [← Int.natCast_add, ← hc3]; exact wn (by omega)
    have w3 : IntKind.i64.wrap (((rankN w : Nat) : Int) + 1) = ((rankN w + 1 : Nat) : Int) := by rw [IntKind.wrap_i64]; omega
    simp (maxSteps := 1000000) (disch := first | omega | rfl | (simp only [zL, two63, room] <;> omega) | fail) only [↓reduceIte, ↓zP, zW, WOp, evOp, evBin, binI, binSh, binS, evNil, keyIs, keyEq, mkv, AV.cells, AV.sc, optv, bnd, env, put, Env.get, Env.set, Env.del, Env.dels, Env.init, res1, resL, resV, fillP, splice, newRow, Nat.reduceEqDiff, Nat.reduceLT, Nat.reduceLeDiff, Nat.reduceAdd, Nat.reduceMul, Nat.reduceSub, Nat.reduceBEq, reduceCtorEq, ↓zR, zQ, Tr, StA, StT, f1, f2, f3, f4, f6, f5, e_CountLines (w.count 84 : Nat) (w.count 46 : Nat) (w.count 70 : Nat)]
    refine c_LineOfRank (w.count 84 : Nat) (w.count 46 : Nat) (w.count 70 : Nat) (rankN w : Nat) ?_
    intro h3 hp3
    have pB := pA.trans hp3
    clear pA hp3
    simp (maxSteps := 1000000) (disch := first | omega | rfl | (simp only [zL, two63, room] <;> omega) | fail) only [↓reduceIte, ↓zP, zW, WOp, evOp, evBin, binI, binSh, binS, evNil, keyIs, keyEq, mkv, AV.cells, AV.sc, optv, bnd, env, put, Env.get, Env.set, Env.del, Env.dels, Env.init, res1, resL, resV, fillP, splice, newRow, Nat.reduceEqDiff, Nat.reduceLT, Nat.reduceLeDiff, Nat.reduceAdd, Nat.reduceMul, Nat.reduceSub, Nat.reduceBEq, reduceCtorEq, ↓zR, zQ, Tr, StA, StT, f9, fA, l1, e_WayToGo (lastB w) (by omega), e_CountOf (lastB w) (by omega), l2, l3, l4, l5, l6, n1, n2, w1, w2, w3, f5]
    by_cases hn : rankN w + 1 < mW w
    · have n3 : ((rankN w + 1 : Nat) : Int) < ((mW w : Nat) : Int) := by omega
      obtain ⟨g1, g2⟩ := next_facts hg hn
      simp (maxSteps := 1000000) (disch := first | omega | rfl | (simp only [zL, two63, room] <;> omega) | fail) only [↓reduceIte, ↓zP, zW, WOp, evOp, evBin, binI, binSh, binS, evNil, keyIs, keyEq, mkv, AV.cells, AV.sc, optv, bnd, env, put, Env.get, Env.set, Env.del, Env.dels, Env.init, res1, resL, resV, fillP, splice, newRow, Nat.reduceEqDiff, Nat.reduceLT, Nat.reduceLeDiff, Nat.reduceAdd, Nat.reduceMul, Nat.reduceSub, Nat.reduceBEq, reduceCtorEq, ↓zR, zQ, Tr, StA, StT, n3]
      refine c_LineOfRank (w.count 84 : Nat) (w.count 46 : Nat) (w.count 70 : Nat) ((rankN w + 1 : Nat) : Int) ?_
      intro h4 hp4
      have pA := pB.trans hp4
      clear pB hp4
      simp (maxSteps := 1000000) (disch := first | omega | rfl | (simp only [zL, two63, room] <;> omega) | fail) only [↓reduceIte, ↓zP, zW, WOp, evOp, evBin, binI, binSh, binS, evNil, keyIs, keyEq, mkv, AV.cells, AV.sc, optv, bnd, env, put, Env.get, Env.set, Env.del, Env.dels, Env.init, res1, resL, resV, fillP, splice, newRow, Nat.reduceEqDiff, Nat.reduceLT, Nat.reduceLeDiff, Nat.reduceAdd, Nat.reduceMul, Nat.reduceSub, Nat.reduceBEq, reduceCtorEq, ↓zR, zQ, Tr, StA, StT, g1, g2]
      refine c_DrawLineOfRank (ht.pre pA) (by omega) ?_
      intro i g f r h5 hp5
      simp (maxSteps := 1000000) (disch := first | omega | rfl | (simp only [zL, two63, room] <;> omega) | fail) only [↓reduceIte, ↓zP, zW, WOp, evOp, evBin, binI, binSh, binS, evNil, keyIs, keyEq, mkv, AV.cells, AV.sc, optv, bnd, env, put, Env.get, Env.set, Env.del, Env.dels, Env.init, res1, resL, resV, fillP, splice, newRow, Nat.reduceEqDiff, Nat.reduceLT, Nat.reduceLeDiff, Nat.reduceAdd, Nat.reduceMul, Nat.reduceSub, Nat.reduceBEq, reduceCtorEq, ↓zR, zQ, Tr, StA, StT]
      refine c_LineOfRank i g f r ?_
      intro h6 hp6
      simp (maxSteps := 1000000) (disch := first | omega | rfl | (simp only [zL, two63, room] <;> omega) | fail) only [↓reduceIte, ↓zP, zW, WOp, evOp, evBin, binI, binSh, binS, evNil, keyIs, keyEq, mkv, AV.cells, AV.sc, optv, bnd, env, put, Env.get, Env.set, Env.del, Env.dels, Env.init, res1, resL, resV, fillP, splice, newRow, Nat.reduceEqDiff, Nat.reduceLT, Nat.reduceLeDiff, Nat.reduceAdd, Nat.reduceMul, Nat.reduceSub, Nat.reduceBEq, reduceCtorEq, ↓zR, zQ, Tr, StA, StT]
      refine c_sLineOfRank i g f r ?_
      intro h7 hp7
      simp (maxSteps := 1000000) (disch := first | omega | rfl | (simp only [zL, two63, room] <;> omega) | fail) only [↓reduceIte, ↓zP, zW, WOp, evOp, evBin, binI, binSh, binS, evNil, keyIs, keyEq, mkv, AV.cells, AV.sc, optv, bnd, env, put, Env.get, Env.set, Env.del, Env.dels, Env.init, res1, resL, resV, fillP, splice, newRow, Nat.reduceEqDiff, Nat.reduceLT, Nat.reduceLeDiff, Nat.reduceAdd, Nat.reduceMul, Nat.reduceSub, Nat.reduceBEq, reduceCtorEq, ↓zR, zQ, Tr, StA, StT, e_FirstLine i g f]
      refine c_sFirstLine i g f ?_
      intro h8 hp8
      simp (maxSteps := 1000000) (disch := first | omega | rfl | (simp only [zL, two63, room] <;> omega) | fail) only [↓reduceIte, ↓zP, zW, WOp, evOp, evBin, binI, binSh, binS, evNil, keyIs, keyEq, mkv, AV.cells, AV.sc, optv, bnd, env, put, Env.get, Env.set, Env.del, Env.dels, Env.init, res1, resL, resV, fillP, splice, newRow, Nat.reduceEqDiff, Nat.reduceLT, Nat.reduceLeDiff, Nat.reduceAdd, Nat.reduceMul, Nat.reduceSub, Nat.reduceBEq, reduceCtorEq, ↓zR, zQ, Tr, StA, StT, e_CountLines i g f]
      refine c_sCountLines i g f ?_
      intro h9 hp9
      simp (maxSteps := 1000000) (disch := first | omega | rfl | (simp only [zL, two63, room] <;> omega) | fail) only [↓reduceIte, ↓zP, zW, WOp, evOp, evBin, binI, binSh, binS, evNil, keyIs, keyEq, mkv, AV.cells, AV.sc, optv, bnd, env, put, Env.get, Env.set, Env.del, Env.dels, Env.init, res1, resL, resV, fillP, splice, newRow, Nat.reduceEqDiff, Nat.reduceLT, Nat.reduceLeDiff, Nat.reduceAdd, Nat.reduceMul, Nat.reduceSub, Nat.reduceBEq, reduceCtorEq, ↓zR, zQ, Tr, StA, StT]
      refine c_DrawPlayMoves (ht.pre (Pre.trans pA (hp5.trans (hp6.trans (hp7.trans (hp8.trans hp9)))))) (by omega) ?_
      intro u mv1 L hA hu hL _ hsA
      simp (maxSteps := 1000000) (disch := first | omega | rfl | (simp only [zL, two63, room] <;> omega) | fail) only [↓reduceIte, ↓zP, zW, WOp, evOp, evBin, binI, binSh, binS, evNil, keyIs, keyEq, mkv, AV.cells, AV.sc, optv, bnd, env, put, Env.get, Env.set, Env.del, Env.dels, Env.init, res1, resL, resV, fillP, splice, newRow, Nat.reduceEqDiff, Nat.reduceLT, Nat.reduceLeDiff, Nat.reduceAdd, Nat.reduceMul, Nat.reduceSub, Nat.reduceBEq, reduceCtorEq, ↓zR, zQ, Tr, StA, StT]
      refine c_PlayMoves u (by omega) hsA ?_
      intro hB pB
      have hsB := hsA.pre pB
      simp (maxSteps := 1000000) (disch := first | omega | rfl | (simp only [zL, two63, room] <;> omega) | fail) only [↓reduceIte, ↓zP, zW, WOp, evOp, evBin, binI, binSh, binS, evNil, keyIs, keyEq, mkv, AV.cells, AV.sc, optv, bnd, env, put, Env.get, Env.set, Env.del, Env.dels, Env.init, res1, resL, resV, fillP, splice, newRow, Nat.reduceEqDiff, Nat.reduceLT, Nat.reduceLeDiff, Nat.reduceAdd, Nat.reduceMul, Nat.reduceSub, Nat.reduceBEq, reduceCtorEq, ↓zR, zQ, Tr, StA, StT]
      refine c_sPlayMoves u (by omega) hsB ?_
      intro hC pC
      have hsC := hsB.pre pC
      simp (maxSteps := 1000000) (disch := first | omega | rfl | (simp only [zL, two63, room] <;> omega) | fail) only [↓reduceIte, ↓zP, zW, WOp, evOp, evBin, binI, binSh, binS, evNil, keyIs, keyEq, mkv, AV.cells, AV.sc, optv, bnd, env, put, Env.get, Env.set, Env.del, Env.dels, Env.init, res1, resL, resV, fillP, splice, newRow, Nat.reduceEqDiff, Nat.reduceLT, Nat.reduceLeDiff, Nat.reduceAdd, Nat.reduceMul, Nat.reduceSub, Nat.reduceBEq, reduceCtorEq, ↓zR, zQ, Tr, StA, StT]
      refine c_MoveThatFails1 u (by omega) hsC ?_
      intro hD pD
      have hsD := hsC.pre pD
      simp (maxSteps := 1000000) (disch := first | omega | rfl | (simp only [zL, two63, room] <;> omega) | fail) only [↓reduceIte, ↓zP, zW, WOp, evOp, evBin, binI, binSh, binS, evNil, keyIs, keyEq, mkv, AV.cells, AV.sc, optv, bnd, env, put, Env.get, Env.set, Env.del, Env.dels, Env.init, res1, resL, resV, fillP, splice, newRow, Nat.reduceEqDiff, Nat.reduceLT, Nat.reduceLeDiff, Nat.reduceAdd, Nat.reduceMul, Nat.reduceSub, Nat.reduceBEq, reduceCtorEq, ↓zR, zQ, Tr, StA, StT]
      refine c_sMoveThatFails1 u (by omega) hsD ?_
      intro hE pE
      have hsE := hsD.pre pE
      clear hsA hsB hsC hsD pA pB pC pD pE hp5 hp6 hp7 hp8 hp9
      cases eN : nmG i g f
      · have eR : okR i g f r = false := by unfold okR; rw [eN]; rfl
        have hsF := hsE
        rcases okPF u L with ⟨eP, eF⟩ | ⟨eP, eF⟩ | ⟨eP, eF⟩
        · simp (maxSteps := 1000000) (disch := first | omega | rfl | (simp only [zL, two63, room] <;> omega) | fail) only [↓reduceIte, ↓zP, zW, WOp, evOp, evBin, binI, binSh, binS, evNil, keyIs, keyEq, mkv, AV.cells, AV.sc, optv, bnd, env, put, Env.get, Env.set, Env.del, Env.dels, Env.init, res1, resL, resV, fillP, splice, newRow, Nat.reduceEqDiff, Nat.reduceLT, Nat.reduceLeDiff, Nat.reduceAdd, Nat.reduceMul, Nat.reduceSub, Nat.reduceBEq, reduceCtorEq, ↓zR, zQ, Tr, StA, StT, eP, eF, eN, eR]
          exact hp _
        · -- a move that fails
          obtain ⟨-, x2, x3, x4, x5, x6, x7⟩ := okF_facts eF
          have hxl := (good_all x7)
          rcases hsF.cases with ⟨rfl, h0⟩ | ⟨rfl, h0⟩ | ⟨rC, rK, rO, rfl⟩
          · rw [h0] at x3; simp at x3
          · rw [h0] at x3; simp at x3
          · have hto := Slc.upTo hlM hsF (j := (plG u L).2) (by omega) rfl rfl
            have b1 : (0 : Int) ≤ ((plG u L).2 : Nat) := by omega
            have b2 : (((plG u L).2 : Nat) : Int) ≤ (L.length : Nat) := by omega
            have b3 : (((plG u L).2 : Nat) : Int) < (L.length : Nat) := by omega
            simp (maxSteps := 1000000) (disch := first | omega | rfl | (simp only [zL, two63, room] <;> omega) | fail) only [↓reduceIte, ↓zP, zW, WOp, evOp, evBin, binI, binSh, binS, evNil, keyIs, keyEq, mkv, AV.cells, AV.sc, optv, bnd, env, put, Env.get, Env.set, Env.del, Env.dels, Env.init, res1, resL, resV, fillP, splice, newRow, Nat.reduceEqDiff, Nat.reduceLT, Nat.reduceLeDiff, Nat.reduceAdd, Nat.reduceMul, Nat.reduceSub, Nat.reduceBEq, reduceCtorEq, ↓zR, zQ, Tr, StA, StT, eP, eF, x4, b1, b2, eN, eR]
            refine c_PlayMoves u (by omega) (by simpa using hto) ?_
            intro hX pX
            have hsX := hsF.pre pX
            have hLe : L = L.take (plG u L).2 ++ L[(plG u L).2] :: L.drop ((plG u L).2 + 1) := by
              have := (List.take_append_drop (plG u L).2 L).symm
              rwa [List.drop_eq_getElem_cons x3] at this
            have hst := plG_stop L u x3
            rw [hLe] at hsX
            generalize L[(plG u L).2] = m at hsX hst
            have hrd := hsX.rd hlM
            rw [List.length_take, show min (plG u L).2 L.length = (plG u L).2 by omega] at hrd
            obtain ⟨m1, m2⟩ := m
            have hrd' : rdRow hX rC rK (rO + (plG u L).2 * 2) 2 = some [.int .i64 m1, .int .i64 m2] := hrd
            have hno : okG (plG u L).1 (m1, m2) = false := by unfold okG; rw [hst, Bool.and_false]
            simp (maxSteps := 1000000) (disch := first | omega | rfl | (simp only [zL, two63, room] <;> omega) | fail) only [↓reduceIte, ↓zP, zW, WOp, evOp, evBin, binI, binSh, binS, evNil, keyIs, keyEq, mkv, AV.cells, AV.sc, optv, bnd, env, put, Env.get, Env.set, Env.del, Env.dels, Env.init, res1, resL, resV, fillP, splice, newRow, Nat.reduceEqDiff, Nat.reduceLT, Nat.reduceLeDiff, Nat.reduceAdd, Nat.reduceMul, Nat.reduceSub, Nat.reduceBEq, reduceCtorEq, ↓zR, zQ, Tr, StA, StT, x4, x5, x6, b1, b2, b3, hrd']
            refine c_CanMove (plG u L).1 m1 m2 (by omega) ?_
            intro hY pY
            simp (maxSteps := 1000000) (disch := first | omega | rfl | (simp only [zL, two63, room] <;> omega) | fail) only [↓reduceIte, ↓zP, zW, WOp, evOp, evBin, binI, binSh, binS, evNil, keyIs, keyEq, mkv, AV.cells, AV.sc, optv, bnd, env, put, Env.get, Env.set, Env.del, Env.dels, Env.init, res1, resL, resV, fillP, splice, newRow, Nat.reduceEqDiff, Nat.reduceLT, Nat.reduceLeDiff, Nat.reduceAdd, Nat.reduceMul, Nat.reduceSub, Nat.reduceBEq, reduceCtorEq, ↓zR, zQ, Tr, StA, StT, x5, x7, hno]
            exact hp _
        · -- a play
          obtain ⟨x1, x2, x3⟩ := okP_facts eP
          have hv := fun g => Slc.lenV (hsF) (g := g) (ρ := fun _ => _) (x := .t 0) rfl; simp only [evOp] at hv
          simp (maxSteps := 1000000) (disch := first | omega | rfl | (simp only [zL, two63, room] <;> omega) | fail) only [↓reduceIte, ↓zP, zW, WOp, evOp, evBin, binI, binSh, binS, evNil, keyIs, keyEq, mkv, AV.cells, AV.sc, optv, bnd, env, put, Env.get, Env.set, Env.del, Env.dels, Env.init, res1, resL, resV, fillP, splice, newRow, Nat.reduceEqDiff, Nat.reduceLT, Nat.reduceLeDiff, Nat.reduceAdd, Nat.reduceMul, Nat.reduceSub, Nat.reduceBEq, reduceCtorEq, ↓zR, zQ, Tr, StA, StT, eP, eF, x3, hv, eN, eR]
          refine lp_ranked (by omega) hsF (.str (plG u L).1) L [] u _ rfl x1 x2 (Pre.refl _) ?_
          intro hX pX
          simp (maxSteps := 1000000) (disch := first | omega | rfl | (simp only [zL, two63, room] <;> omega) | fail) only [↓reduceIte, ↓zP, zW, WOp, evOp, evBin, binI, binSh, binS, evNil, keyIs, keyEq, mkv, AV.cells, AV.sc, optv, bnd, env, put, Env.get, Env.set, Env.del, Env.dels, Env.init, res1, resL, resV, fillP, splice, newRow, Nat.reduceEqDiff, Nat.reduceLT, Nat.reduceLeDiff, Nat.reduceAdd, Nat.reduceMul, Nat.reduceSub, Nat.reduceBEq, reduceCtorEq, ↓zR, zQ, Tr, StA, StT]
          exact hp _
      · obtain ⟨y1, y2, y3⟩ := fiL_facts eN
        have y4 := good_all y1
        obtain ⟨i, g, f, rfl, rfl, rfl, k1, k2⟩ := nmG_nat eN
        obtain ⟨z1, z2, z3, z4, z5, z6⟩ := way_wraps k2
        cases eR : okR i g f r
        · have hsF := hsE
          rcases okPF u L with ⟨eP, eF⟩ | ⟨eP, eF⟩ | ⟨eP, eF⟩
          · simp (maxSteps := 1000000) (disch := first | omega | rfl | (simp only [zL, two63, room] <;> omega) | fail) only [↓reduceIte, ↓zP, zW, WOp, evOp, evBin, binI, binSh, binS, evNil, keyIs, keyEq, mkv, AV.cells, AV.sc, optv, bnd, env, put, Env.get, Env.set, Env.del, Env.dels, Env.init, res1, resL, resV, fillP, splice, newRow, Nat.reduceEqDiff, Nat.reduceLT, Nat.reduceLeDiff, Nat.reduceAdd, Nat.reduceMul, Nat.reduceSub, Nat.reduceBEq, reduceCtorEq, ↓zR, zQ, Tr, StA, StT, eP, eF, eN, eR, e_PairsToPass (fiL i g f) (by omega), e_WayToGo (fiL i g f) (by omega), y1, y2, y3, z1, z2, z3, z4, z5, z6]
            exact hp _
          · -- a move that fails
            obtain ⟨-, x2, x3, x4, x5, x6, x7⟩ := okF_facts eF
            have hxl := (good_all x7)
            rcases hsF.cases with ⟨rfl, h0⟩ | ⟨rfl, h0⟩ | ⟨rC, rK, rO, rfl⟩
            · rw [h0] at x3; simp at x3
            · rw [h0] at x3; simp at x3
            · have hto := Slc.upTo hlM hsF (j := (plG u L).2) (by omega) rfl rfl
              have b1 : (0 : Int) ≤ ((plG u L).2 : Nat) := by omega
              have b2 : (((plG u L).2 : Nat) : Int) ≤ (L.length : Nat) := by omega
              have b3 : (((plG u L).2 : Nat) : Int) < (L.length : Nat) := by omega
              simp (maxSteps := 1000000) (disch := first | omega | rfl | (simp only [zL, two63, room] <;> omega) | fail) only [↓reduceIte, ↓zP, zW, WOp, evOp, evBin, binI, binSh, binS, evNil, keyIs, keyEq, mkv, AV.cells, AV.sc, optv, bnd, env, put, Env.get, Env.set, Env.del, Env.dels, Env.init, res1, resL, resV, fillP, splice, newRow, Nat.reduceEqDiff, Nat.reduceLT, Nat.reduceLeDiff, Nat.reduceAdd, Nat.reduceMul, Nat.reduceSub, Nat.reduceBEq, reduceCtorEq, ↓zR, zQ, Tr, StA, StT, eP, eF, x4, b1, b2, eN, eR, e_PairsToPass (fiL i g f) (by omega), e_WayToGo (fiL i g f) (by omega), y1, y2, y3, z1, z2, z3, z4, z5, z6]
              refine c_PlayMoves u (by omega) (by simpa using hto) ?_
              intro hX pX
              have hsX := hsF.pre pX
              have hLe : L = L.take (plG u L).2 ++ L[(plG u L).2] :: L.drop ((plG u L).2 + 1) := by
                have := (List.take_append_drop (plG u L).2 L).symm
                rwa [List.drop_eq_getElem_cons x3] at this
              have hst := plG_stop L u x3
              rw [hLe] at hsX
              generalize L[(plG u L).2] = m at hsX hst
              have hrd := hsX.rd hlM
              rw [List.length_take, show min (plG u L).2 L.length = (plG u L).2 by omega] at hrd
              obtain ⟨m1, m2⟩ := m
              have hrd' : rdRow hX rC rK (rO + (plG u L).2 * 2) 2 = some [.int .i64 m1, .int .i64 m2] := hrd
              have hno : okG (plG u L).1 (m1, m2) = false := by unfold okG; rw [hst, Bool.and_false]
              simp (maxSteps := 1000000) (disch := first | omega | rfl | (simp only [zL, two63, room] <;> omega) | fail) only [↓reduceIte, ↓zP, zW, WOp, evOp, evBin, binI, binSh, binS, evNil, keyIs, keyEq, mkv, AV.cells, AV.sc, optv, bnd, env, put, Env.get, Env.set, Env.del, Env.dels, Env.init, res1, resL, resV, fillP, splice, newRow, Nat.reduceEqDiff, Nat.reduceLT, Nat.reduceLeDiff, Nat.reduceAdd, Nat.reduceMul, Nat.reduceSub, Nat.reduceBEq, reduceCtorEq, ↓zR, zQ, Tr, StA, StT, x4, x5, x6, b1, b2, b3, hrd']
              refine c_CanMove (plG u L).1 m1 m2 (by omega) ?_
              intro hY pY
              simp (maxSteps := 1000000) (disch := first | omega | rfl | (simp only [zL, two63, room] <;> omega) | fail) only [↓reduceIte, ↓zP, zW, WOp, evOp, evBin, binI, binSh, binS, evNil, keyIs, keyEq, mkv, AV.cells, AV.sc, optv, bnd, env, put, Env.get, Env.set, Env.del, Env.dels, Env.init, res1, resL, resV, fillP, splice, newRow, Nat.reduceEqDiff, Nat.reduceLT, Nat.reduceLeDiff, Nat.reduceAdd, Nat.reduceMul, Nat.reduceSub, Nat.reduceBEq, reduceCtorEq, ↓zR, zQ, Tr, StA, StT, x5, x7, hno]
              exact hp _
          · -- a play
            obtain ⟨x1, x2, x3⟩ := okP_facts eP
            have hv := fun g => Slc.lenV (hsF) (g := g) (ρ := fun _ => _) (x := .t 0) rfl; simp only [evOp] at hv
            simp (maxSteps := 1000000) (disch := first | omega | rfl | (simp only [zL, two63, room] <;> omega) | fail) only [↓reduceIte, ↓zP, zW, WOp, evOp, evBin, binI, binSh, binS, evNil, keyIs, keyEq, mkv, AV.cells, AV.sc, optv, bnd, env, put, Env.get, Env.set, Env.del, Env.dels, Env.init, res1, resL, resV, fillP, splice, newRow, Nat.reduceEqDiff, Nat.reduceLT, Nat.reduceLeDiff, Nat.reduceAdd, Nat.reduceMul, Nat.reduceSub, Nat.reduceBEq, reduceCtorEq, ↓zR, zQ, Tr, StA, StT, eP, eF, x3, hv, eN, eR, e_PairsToPass (fiL i g f) (by omega), e_WayToGo (fiL i g f) (by omega), y1, y2, y3, z1, z2, z3, z4, z5, z6]
            refine lp_ranked (by omega) hsF (.str (plG u L).1) L [] u _ rfl x1 x2 (Pre.refl _) ?_
            intro hX pX
            simp (maxSteps := 1000000) (disch := first | omega | rfl | (simp only [zL, two63, room] <;> omega) | fail) only [↓reduceIte, ↓zP, zW, WOp, evOp, evBin, binI, binSh, binS, evNil, keyIs, keyEq, mkv, AV.cells, AV.sc, optv, bnd, env, put, Env.get, Env.set, Env.del, Env.dels, Env.init, res1, resL, resV, fillP, splice, newRow, Nat.reduceEqDiff, Nat.reduceLT, Nat.reduceLeDiff, Nat.reduceAdd, Nat.reduceMul, Nat.reduceSub, Nat.reduceBEq, reduceCtorEq, ↓zR, zQ, Tr, StA, StT]
            exact hp _
        · obtain ⟨q1, q2, q3⟩ := liR_facts eR
          have q4 := good_all q1
          have q5 : ¬ (r ≥ cnL (i : Nat) (g : Nat) (f : Nat)) := by omega
          have go : ∀ hF, Pre hE hF → Slc 2 encM hF mv1 L := fun hF p => hsE.pre p
          rcases okPF u L with ⟨eP, eF⟩ | ⟨eP, eF⟩ | ⟨eP, eF⟩
          all_goals
            simp (maxSteps := 1000000) (disch := first | omega | rfl | (simp only [zL, two63, room] <;> omega) | fail) only [↓reduceIte, ↓zP, zW, WOp, evOp, evBin, binI, binSh, binS, evNil, keyIs, keyEq, mkv, AV.cells, AV.sc, optv, bnd, env, put, Env.get, Env.set, Env.del, Env.dels, Env.init, res1, resL, resV, fillP, splice, newRow, Nat.reduceEqDiff, Nat.reduceLT, Nat.reduceLeDiff, Nat.reduceAdd, Nat.reduceMul, Nat.reduceSub, Nat.reduceBEq, reduceCtorEq, ↓zR, zQ, Tr, StA, StT, eP, eF, eN, eR]
            refine c_RankOfLine (liR (i : Nat) (g : Nat) (f : Nat) r) (by omega) ?_
            intro hF pF
            have hsF := go hF pF
          · simp (maxSteps := 1000000) (disch := first | omega | rfl | (simp only [zL, two63, room] <;> omega) | fail) only [↓reduceIte, ↓zP, zW, WOp, evOp, evBin, binI, binSh, binS, evNil, keyIs, keyEq, mkv, AV.cells, AV.sc, optv, bnd, env, put, Env.get, Env.set, Env.del, Env.dels, Env.init, res1, resL, resV, fillP, splice, newRow, Nat.reduceEqDiff, Nat.reduceLT, Nat.reduceLeDiff, Nat.reduceAdd, Nat.reduceMul, Nat.reduceSub, Nat.reduceBEq, reduceCtorEq, ↓zR, zQ, Tr, StA, StT, eP, eF, eN, eR, q1, q2, q5, e_PairsToPass (fiL i g f) (by omega), e_WayToGo (fiL i g f) (by omega), y1, y2, y3, z1, z2, z3, z4, z5, z6]
            exact hp _
          · -- a move that fails
            obtain ⟨-, x2, x3, x4, x5, x6, x7⟩ := okF_facts eF
            have hxl := (good_all x7)
            rcases hsF.cases with ⟨rfl, h0⟩ | ⟨rfl, h0⟩ | ⟨rC, rK, rO, rfl⟩
            · rw [h0] at x3; simp at x3
            · rw [h0] at x3; simp at x3
            · have hto := Slc.upTo hlM hsF (j := (plG u L).2) (by omega) rfl rfl
              have b1 : (0 : Int) ≤ ((plG u L).2 : Nat) := by omega
              have b2 : (((plG u L).2 : Nat) : Int) ≤ (L.length : Nat) := by omega
              have b3 : (((plG u L).2 : Nat) : Int) < (L.length : Nat) := by omega
              simp (maxSteps := 1000000) (disch := first | omega | rfl | (simp only [zL, two63, room] <;> omega) | fail) only [↓reduceIte, ↓zP, zW, WOp, evOp, evBin, binI, binSh, binS, evNil, keyIs, keyEq, mkv, AV.cells, AV.sc, optv, bnd, env, put, Env.get, Env.set, Env.del, Env.dels, Env.init, res1, resL, resV, fillP, splice, newRow, Nat.reduceEqDiff, Nat.reduceLT, Nat.reduceLeDiff, Nat.reduceAdd, Nat.reduceMul, Nat.reduceSub, Nat.reduceBEq, reduceCtorEq, ↓zR, zQ, Tr, StA, StT, eP, eF, x4, b1, b2, eN, eR, q1, q2, q5, e_PairsToPass (fiL i g f) (by omega), e_WayToGo (fiL i g f) (by omega), y1, y2, y3, z1, z2, z3, z4, z5, z6]
              refine c_PlayMoves u (by omega) (by simpa using hto) ?_
              intro hX pX
              have hsX := hsF.pre pX
              have hLe : L = L.take (plG u L).2 ++ L[(plG u L).2] :: L.drop ((plG u L).2 + 1) := by
                have := (List.take_append_drop (plG u L).2 L).symm
                rwa [List.drop_eq_getElem_cons x3] at this
              have hst := plG_stop L u x3
              rw [hLe] at hsX
              generalize L[(plG u L).2] = m at hsX hst
              have hrd := hsX.rd hlM
              rw [List.length_take, show min (plG u L).2 L.length = (plG u L).2 by omega] at hrd
              obtain ⟨m1, m2⟩ := m
              have hrd' : rdRow hX rC rK (rO + (plG u L).2 * 2) 2 = some [.int .i64 m1, .int .i64 m2] := hrd
              have hno : okG (plG u L).1 (m1, m2) = false := by unfold okG; rw [hst, Bool.and_false]
              simp (maxSteps := 1000000) (disch := first | omega | rfl | (simp only [zL, two63, room] <;> omega) | fail) only [↓reduceIte, ↓zP, zW, WOp, evOp, evBin, binI, binSh, binS, evNil, keyIs, keyEq, mkv, AV.cells, AV.sc, optv, bnd, env, put, Env.get, Env.set, Env.del, Env.dels, Env.init, res1, resL, resV, fillP, splice, newRow, Nat.reduceEqDiff, Nat.reduceLT, Nat.reduceLeDiff, Nat.reduceAdd, Nat.reduceMul, Nat.reduceSub, Nat.reduceBEq, reduceCtorEq, ↓zR, zQ, Tr, StA, StT, x4, x5, x6, b1, b2, b3, hrd']
              refine c_CanMove (plG u L).1 m1 m2 (by omega) ?_
              intro hY pY
              simp (maxSteps := 1000000) (disch := first | omega | rfl | (simp only [zL, two63, room] <;> omega) | fail) only [↓reduceIte, ↓zP, zW, WOp, evOp, evBin, binI, binSh, binS, evNil, keyIs, keyEq, mkv, AV.cells, AV.sc, optv, bnd, env, put, Env.get, Env.set, Env.del, Env.dels, Env.init, res1, resL, resV, fillP, splice, newRow, Nat.reduceEqDiff, Nat.reduceLT, Nat.reduceLeDiff, Nat.reduceAdd, Nat.reduceMul, Nat.reduceSub, Nat.reduceBEq, reduceCtorEq, ↓zR, zQ, Tr, StA, StT, x5, x7, hno]
              exact hp _
          · -- a play
            obtain ⟨x1, x2, x3⟩ := okP_facts eP
            have hv := fun g => Slc.lenV (hsF) (g := g) (ρ := fun _ => _) (x := .t 0) rfl; simp only [evOp] at hv
            simp (maxSteps := 1000000) (disch := first | omega | rfl | (simp only [zL, two63, room] <;> omega) | fail) only [↓reduceIte, ↓zP, zW, WOp, evOp, evBin, binI, binSh, binS, evNil, keyIs, keyEq, mkv, AV.cells, AV.sc, optv, bnd, env, put, Env.get, Env.set, Env.del, Env.dels, Env.init, res1, resL, resV, fillP, splice, newRow, Nat.reduceEqDiff, Nat.reduceLT, Nat.reduceLeDiff, Nat.reduceAdd, Nat.reduceMul, Nat.reduceSub, Nat.reduceBEq, reduceCtorEq, ↓zR, zQ, Tr, StA, StT, eP, eF, x3, hv, eN, eR, q1, q2, q5, e_PairsToPass (fiL i g f) (by omega), e_WayToGo (fiL i g f) (by omega), y1, y2, y3, z1, z2, z3, z4, z5, z6]
            refine lp_ranked (by omega) hsF (.str (plG u L).1) L [] u _ rfl x1 x2 (Pre.refl _) ?_
            intro hX pX
            simp (maxSteps := 1000000) (disch := first | omega | rfl | (simp only [zL, two63, room] <;> omega) | fail) only [↓reduceIte, ↓zP, zW, WOp, evOp, evBin, binI, binSh, binS, evNil, keyIs, keyEq, mkv, AV.cells, AV.sc, optv, bnd, env, put, Env.get, Env.set, Env.del, Env.dels, Env.init, res1, resL, resV, fillP, splice, newRow, Nat.reduceEqDiff, Nat.reduceLT, Nat.reduceLeDiff, Nat.reduceAdd, Nat.reduceMul, Nat.reduceSub, Nat.reduceBEq, reduceCtorEq, ↓zR, zQ, Tr, StA, StT]
            exact hp _
    · have n3 : ¬ (((rankN w + 1 : Nat) : Int) < ((mW w : Nat) : Int)) := by omega
      simp (maxSteps := 1000000) (disch := first | omega | rfl | (simp only [zL, two63, room] <;> omega) | fail) only [↓reduceIte, ↓zP, zW, WOp, evOp, evBin, binI, binSh, binS, evNil, keyIs, keyEq, mkv, AV.cells, AV.sc, optv, bnd, env, put, Env.get, Env.set, Env.del, Env.dels, Env.init, res1, resL, resV, fillP, splice, newRow, Nat.reduceEqDiff, Nat.reduceLT, Nat.reduceLeDiff, Nat.reduceAdd, Nat.reduceMul, Nat.reduceSub, Nat.reduceBEq, reduceCtorEq, ↓zR, zQ, Tr, StA, StT, n3]
      have pA := pB
      clear pB
      refine c_DrawLineOfRank (ht.pre pA) (by omega) ?_
      intro i g f r h5 hp5
      simp (maxSteps := 1000000) (disch := first | omega | rfl | (simp only [zL, two63, room] <;> omega) | fail) only [↓reduceIte, ↓zP, zW, WOp, evOp, evBin, binI, binSh, binS, evNil, keyIs, keyEq, mkv, AV.cells, AV.sc, optv, bnd, env, put, Env.get, Env.set, Env.del, Env.dels, Env.init, res1, resL, resV, fillP, splice, newRow, Nat.reduceEqDiff, Nat.reduceLT, Nat.reduceLeDiff, Nat.reduceAdd, Nat.reduceMul, Nat.reduceSub, Nat.reduceBEq, reduceCtorEq, ↓zR, zQ, Tr, StA, StT]
      refine c_LineOfRank i g f r ?_
      intro h6 hp6
      simp (maxSteps := 1000000) (disch := first | omega | rfl | (simp only [zL, two63, room] <;> omega) | fail) only [↓reduceIte, ↓zP, zW, WOp, evOp, evBin, binI, binSh, binS, evNil, keyIs, keyEq, mkv, AV.cells, AV.sc, optv, bnd, env, put, Env.get, Env.set, Env.del, Env.dels, Env.init, res1, resL, resV, fillP, splice, newRow, Nat.reduceEqDiff, Nat.reduceLT, Nat.reduceLeDiff, Nat.reduceAdd, Nat.reduceMul, Nat.reduceSub, Nat.reduceBEq, reduceCtorEq, ↓zR, zQ, Tr, StA, StT]
      refine c_sLineOfRank i g f r ?_
      intro h7 hp7
      simp (maxSteps := 1000000) (disch := first | omega | rfl | (simp only [zL, two63, room] <;> omega) | fail) only [↓reduceIte, ↓zP, zW, WOp, evOp, evBin, binI, binSh, binS, evNil, keyIs, keyEq, mkv, AV.cells, AV.sc, optv, bnd, env, put, Env.get, Env.set, Env.del, Env.dels, Env.init, res1, resL, resV, fillP, splice, newRow, Nat.reduceEqDiff, Nat.reduceLT, Nat.reduceLeDiff, Nat.reduceAdd, Nat.reduceMul, Nat.reduceSub, Nat.reduceBEq, reduceCtorEq, ↓zR, zQ, Tr, StA, StT, e_FirstLine i g f]
      refine c_sFirstLine i g f ?_
      intro h8 hp8
      simp (maxSteps := 1000000) (disch := first | omega | rfl | (simp only [zL, two63, room] <;> omega) | fail) only [↓reduceIte, ↓zP, zW, WOp, evOp, evBin, binI, binSh, binS, evNil, keyIs, keyEq, mkv, AV.cells, AV.sc, optv, bnd, env, put, Env.get, Env.set, Env.del, Env.dels, Env.init, res1, resL, resV, fillP, splice, newRow, Nat.reduceEqDiff, Nat.reduceLT, Nat.reduceLeDiff, Nat.reduceAdd, Nat.reduceMul, Nat.reduceSub, Nat.reduceBEq, reduceCtorEq, ↓zR, zQ, Tr, StA, StT, e_CountLines i g f]
      refine c_sCountLines i g f ?_
      intro h9 hp9
      simp (maxSteps := 1000000) (disch := first | omega | rfl | (simp only [zL, two63, room] <;> omega) | fail) only [↓reduceIte, ↓zP, zW, WOp, evOp, evBin, binI, binSh, binS, evNil, keyIs, keyEq, mkv, AV.cells, AV.sc, optv, bnd, env, put, Env.get, Env.set, Env.del, Env.dels, Env.init, res1, resL, resV, fillP, splice, newRow, Nat.reduceEqDiff, Nat.reduceLT, Nat.reduceLeDiff, Nat.reduceAdd, Nat.reduceMul, Nat.reduceSub, Nat.reduceBEq, reduceCtorEq, ↓zR, zQ, Tr, StA, StT]
      refine c_DrawPlayMoves (ht.pre (Pre.trans pA (hp5.trans (hp6.trans (hp7.trans (hp8.trans hp9)))))) (by omega) ?_
      intro u mv1 L hA hu hL _ hsA
      simp (maxSteps := 1000000) (disch := first | omega | rfl | (simp only [zL, two63, room] <;> omega) | fail) only [↓reduceIte, ↓zP, zW, WOp, evOp, evBin, binI, binSh, binS, evNil, keyIs, keyEq, mkv, AV.cells, AV.sc, optv, bnd, env, put, Env.get, Env.set, Env.del, Env.dels, Env.init, res1, resL, resV, fillP, splice, newRow, Nat.reduceEqDiff, Nat.reduceLT, Nat.reduceLeDiff, Nat.reduceAdd, Nat.reduceMul, Nat.reduceSub, Nat.reduceBEq, reduceCtorEq, ↓zR, zQ, Tr, StA, StT]
      refine c_PlayMoves u (by omega) hsA ?_
      intro hB pB
      have hsB := hsA.pre pB
      simp (maxSteps := 1000000) (disch := first | omega | rfl | (simp only [zL, two63, room] <;> omega) | fail) only [↓reduceIte, ↓zP, zW, WOp, evOp, evBin, binI, binSh, binS, evNil, keyIs, keyEq, mkv, AV.cells, AV.sc, optv, bnd, env, put, Env.get, Env.set, Env.del, Env.dels, Env.init, res1, resL, resV, fillP, splice, newRow, Nat.reduceEqDiff, Nat.reduceLT, Nat.reduceLeDiff, Nat.reduceAdd, Nat.reduceMul, Nat.reduceSub, Nat.reduceBEq, reduceCtorEq, ↓zR, zQ, Tr, StA, StT]
      refine c_sPlayMoves u (by omega) hsB ?_
      intro hC pC
      have hsC := hsB.pre pC
      simp (maxSteps := 1000000) (disch := first | omega | rfl | (simp only [zL, two63, room] <;> omega) | fail) only [↓reduceIte, ↓zP, zW, WOp, evOp, evBin, binI, binSh, binS, evNil, keyIs, keyEq, mkv, AV.cells, AV.sc, optv, bnd, env, put, Env.get, Env.set, Env.del, Env.dels, Env.init, res1, resL, resV, fillP, splice, newRow, Nat.reduceEqDiff, Nat.reduceLT, Nat.reduceLeDiff, Nat.reduceAdd, Nat.reduceMul, Nat.reduceSub, Nat.reduceBEq, reduceCtorEq, ↓zR, zQ, Tr, StA, StT]
      refine c_MoveThatFails1 u (by omega) hsC ?_
      intro hD pD
      have hsD := hsC.pre pD
      simp (maxSteps := 1000000) (disch := first | omega | rfl | (simp only [zL, two63, room] <;> omega) | fail) only [↓reduceIte, ↓zP, zW, WOp, evOp, evBin, binI, binSh, binS, evNil, keyIs, keyEq, mkv, AV.cells, AV.sc, optv, bnd, env, put, Env.get, Env.set, Env.del, Env.dels, Env.init, res1, resL, resV, fillP, splice, newRow, Nat.reduceEqDiff, Nat.reduceLT, Nat.reduceLeDiff, Nat.reduceAdd, Nat.reduceMul, Nat.reduceSub, Nat.reduceBEq, reduceCtorEq, ↓zR, zQ, Tr, StA, StT]
      refine c_sMoveThatFails1 u (by omega) hsD ?_
      intro hE pE
      have hsE := hsD.pre pE
      clear hsA hsB hsC hsD pA pB pC pD pE hp5 hp6 hp7 hp8 hp9
      cases eN : nmG i g f
      · have eR : okR i g f r = false := by unfold okR; rw [eN]; rfl
        have hsF := hsE
        rcases okPF u L with ⟨eP, eF⟩ | ⟨eP, eF⟩ | ⟨eP, eF⟩
        · simp (maxSteps := 1000000) (disch := first | omega | rfl | (simp only [zL, two63, room] <;> omega) | fail) only [↓reduceIte, ↓zP, zW, WOp, evOp, evBin, binI, binSh, binS, evNil, keyIs, keyEq, mkv, AV.cells, AV.sc, optv, bnd, env, put, Env.get, Env.set, Env.del, Env.dels, Env.init, res1, resL, resV, fillP, splice, newRow, Nat.reduceEqDiff, Nat.reduceLT, Nat.reduceLeDiff, Nat.reduceAdd, Nat.reduceMul, Nat.reduceSub, Nat.reduceBEq, reduceCtorEq, ↓zR, zQ, Tr, StA, StT, eP, eF, eN, eR]
          exact hp _
        · -- a move that fails
          obtain ⟨-, x2, x3, x4, x5, x6, x7⟩ := okF_facts eF
          have hxl := (good_all x7)
          rcases hsF.cases with ⟨rfl, h0⟩ | ⟨rfl, h0⟩ | ⟨rC, rK, rO, rfl⟩
          · rw [h0] at x3; simp at x3
          · rw [h0] at x3; simp at x3
          · have hto := Slc.upTo hlM hsF (j := (plG u L).2) (by omega) rfl rfl
            have b1 : (0 : Int) ≤ ((plG u L).2 : Nat) := by omega
            have b2 : (((plG u L).2 : Nat) : Int) ≤ (L.length : Nat) := by omega
            have b3 : (((plG u L).2 : Nat) : Int) < (L.length : Nat) := by omega
            simp (maxSteps := 1000000) (disch := first | omega | rfl | (simp only [zL, two63, room] <;> omega) | fail) only [↓reduceIte, ↓zP, zW, WOp, evOp, evBin, binI, binSh, binS, evNil, keyIs, keyEq, mkv, AV.cells, AV.sc, optv, bnd, env, put, Env.get, Env.set, Env.del, Env.dels, Env.init, res1, resL, resV, fillP, splice, newRow, Nat.reduceEqDiff, Nat.reduceLT, Nat.reduceLeDiff, Nat.reduceAdd, Nat.reduceMul, Nat.reduceSub, Nat.reduceBEq, reduceCtorEq, ↓zR, zQ, Tr, StA, StT, eP, eF, x4, b1, b2, eN, eR]
            refine c_PlayMoves u (by omega) (by simpa using hto) ?_
            intro hX pX
            have hsX := hsF.pre pX
            have hLe : L = L.take (plG u L).2 ++ L[(plG u L).2] :: L.drop ((plG u L).2 + 1) := by
              have := (List.take_append_drop (plG u L).2 L).symm
              rwa [List.drop_eq_getElem_cons x3] at this
            have hst := plG_stop L u x3
            rw [hLe] at hsX
            generalize L[(plG u L).2] = m at hsX hst
            have hrd := hsX.rd hlM
            rw [List.length_take, show min (plG u L).2 L.length = (plG u L).2 by omega] at hrd
            obtain ⟨m1, m2⟩ := m
            have hrd' : rdRow hX rC rK (rO + (plG u L).2 * 2) 2 = some [.int .i64 m1, .int .i64 m2] := hrd
            have hno : okG (plG u L).1 (m1, m2) = false := by unfold okG; rw [hst, Bool.and_false]
            simp (maxSteps := 1000000) (disch := first | omega | rfl | (simp only [zL, two63, room] <;> omega) | fail) only [↓reduceIte, ↓zP, zW, WOp, evOp, evBin, binI, binSh, binS, evNil, keyIs, keyEq, mkv, AV.cells, AV.sc, optv, bnd, env, put, Env.get, Env.set, Env.del, Env.dels, Env.init, res1, resL, resV, fillP, splice, newRow, Nat.reduceEqDiff, Nat.reduceLT, Nat.reduceLeDiff, Nat.reduceAdd, Nat.reduceMul, Nat.reduceSub, Nat.reduceBEq, reduceCtorEq, ↓zR, zQ, Tr, StA, StT, x4, x5, x6, b1, b2, b3, hrd']
            refine c_CanMove (plG u L).1 m1 m2 (by omega) ?_
            intro hY pY
            simp (maxSteps := 1000000) (disch := first | omega | rfl | (simp only [zL, two63, room] <;> omega) | fail) only [↓reduceIte, ↓zP, zW, WOp, evOp, evBin, binI, binSh, binS, evNil, keyIs, keyEq, mkv, AV.cells, AV.sc, optv, bnd, env, put, Env.get, Env.set, Env.del, Env.dels, Env.init, res1, resL, resV, fillP, splice, newRow, Nat.reduceEqDiff, Nat.reduceLT, Nat.reduceLeDiff, Nat.reduceAdd, Nat.reduceMul, Nat.reduceSub, Nat.reduceBEq, reduceCtorEq, ↓zR, zQ, Tr, StA, StT, x5, x7, hno]
            exact hp _
        · -- a play
          obtain ⟨x1, x2, x3⟩ := okP_facts eP
          have hv := fun g => Slc.lenV (hsF) (g := g) (ρ := fun _ => _) (x := .t 0) rfl; simp only [evOp] at hv
          simp (maxSteps := 1000000) (disch := first | omega | rfl | (simp only [zL, two63, room] <;> omega) | fail) only [↓reduceIte, ↓zP, zW, WOp, evOp, evBin, binI, binSh, binS, evNil, keyIs, keyEq, mkv, AV.cells, AV.sc, optv, bnd, env, put, Env.get, Env.set, Env.del, Env.dels, Env.init, res1, resL, resV, fillP, splice, newRow, Nat.reduceEqDiff, Nat.reduceLT, Nat.reduceLeDiff, Nat.reduceAdd, Nat.reduceMul, Nat.reduceSub, Nat.reduceBEq, reduceCtorEq, ↓zR, zQ, Tr, StA, StT, eP, eF, x3, hv, eN, eR]
          refine lp_ranked (by omega) hsF (.str (plG u L).1) L [] u _ rfl x1 x2 (Pre.refl _) ?_
          intro hX pX
          simp (maxSteps := 1000000) (disch := first | omega | rfl | (simp only [zL, two63, room] <;> omega) | fail) only [↓reduceIte, ↓zP, zW, WOp, evOp, evBin, binI, binSh, binS, evNil, keyIs, keyEq, mkv, AV.cells, AV.sc, optv, bnd, env, put, Env.get, Env.set, Env.del, Env.dels, Env.init, res1, resL, resV, fillP, splice, newRow, Nat.reduceEqDiff, Nat.reduceLT, Nat.reduceLeDiff, Nat.reduceAdd, Nat.reduceMul, Nat.reduceSub, Nat.reduceBEq, reduceCtorEq, ↓zR, zQ, Tr, StA, StT]
          exact hp _
      · obtain ⟨y1, y2, y3⟩ := fiL_facts eN
        have y4 := good_all y1
        obtain ⟨i, g, f, rfl, rfl, rfl, k1, k2⟩ := nmG_nat eN
        obtain ⟨z1, z2, z3, z4, z5, z6⟩ := way_wraps k2
        cases eR : okR i g f r
        · have hsF := hsE
          rcases okPF u L with ⟨eP, eF⟩ | ⟨eP, eF⟩ | ⟨eP, eF⟩
          · simp (maxSteps := 1000000) (disch := first | omega | rfl | (simp only [zL, two63, room] <;> omega) | fail) only [↓reduceIte, ↓zP, zW, WOp, evOp, evBin, binI, binSh, binS, evNil, keyIs, keyEq, mkv, AV.cells, AV.sc, optv, bnd, env, put, Env.get, Env.set, Env.del, Env.dels, Env.init, res1, resL, resV, fillP, splice, newRow, Nat.reduceEqDiff, Nat.reduceLT, Nat.reduceLeDiff, Nat.reduceAdd, Nat.reduceMul, Nat.reduceSub, Nat.reduceBEq, reduceCtorEq, ↓zR, zQ, Tr, StA, StT, eP, eF, eN, eR, e_PairsToPass (fiL i g f) (by omega), e_WayToGo (fiL i g f) (by omega), y1, y2, y3, z1, z2, z3, z4, z5, z6]
            exact hp _
          · -- a move that fails
            obtain ⟨-, x2, x3, x4, x5, x6, x7⟩ := okF_facts eF
            have hxl := (good_all x7)
            rcases hsF.cases with ⟨rfl, h0⟩ | ⟨rfl, h0⟩ | ⟨rC, rK, rO, rfl⟩
            · rw [h0] at x3; simp at x3
            · rw [h0] at x3; simp at x3
            · have hto := Slc.upTo hlM hsF (j := (plG u L).2) (by omega) rfl rfl
              have b1 : (0 : Int) ≤ ((plG u L).2 : Nat) := by omega
              have b2 : (((plG u L).2 : Nat) : Int) ≤ (L.length : Nat) := by omega
              have b3 : (((plG u L).2 : Nat) : Int) < (L.length : Nat) := by omega
              simp (maxSteps := 1000000) (disch := first | omega | rfl | (simp only [zL, two63, room] <;> omega) | fail) only [↓reduceIte, ↓zP, zW, WOp, evOp, evBin, binI, binSh, binS, evNil, keyIs, keyEq, mkv, AV.cells, AV.sc, optv, bnd, env, put, Env.get, Env.set, Env.del, Env.dels, Env.init, res1, resL, resV, fillP, splice, newRow, Nat.reduceEqDiff, Nat.reduceLT, Nat.reduceLeDiff, Nat.reduceAdd, Nat.reduceMul, Nat.reduceSub, Nat.reduceBEq, reduceCtorEq, ↓zR, zQ, Tr, StA, StT, eP, eF, x4, b1, b2, eN, eR, e_PairsToPass (fiL i g f) (by omega), e_WayToGo (fiL i g f) (by omega), y1, y2, y3, z1, z2, z3, z4, z5, z6]
              refine c_PlayMoves u (by omega) (by simpa using hto) ?_
              intro hX pX
              have hsX := hsF.pre pX
              have hLe : L = L.take (plG u L).2 ++ L[(plG u L).2] :: L.drop ((plG u L).2 + 1) := by
                have := (List.take_append_drop (plG u L).2 L).symm
                rwa [List.drop_eq_getElem_cons x3] at this
              have hst := plG_stop L u x3
              rw [hLe] at hsX
              generalize L[(plG u L).2] = m at hsX hst
              have hrd := hsX.rd hlM
              rw [List.length_take, show min (plG u L).2 L.length = (plG u L).2 by omega] at hrd
              obtain ⟨m1, m2⟩ := m
              have hrd' : rdRow hX rC rK (rO + (plG u L).2 * 2) 2 = some [.int .i64 m1, .int .i64 m2] := hrd
              have hno : okG (plG u L).1 (m1, m2) = false := by unfold okG; rw [hst, Bool.and_false]
              simp (maxSteps := 1000000) (disch := first | omega | rfl | (simp only [zL, two63, room] <;> omega) | fail) only [↓reduceIte, ↓zP, zW, WOp, evOp, evBin, binI, binSh, binS, evNil, keyIs, keyEq, mkv, AV.cells, AV.sc, optv, bnd, env, put, Env.get, Env.set, Env.del, Env.dels, Env.init, res1, resL, resV, fillP, splice, newRow, Nat.reduceEqDiff, Nat.reduceLT, Nat.reduceLeDiff, Nat.reduceAdd, Nat.reduceMul, Nat.reduceSub, Nat.reduceBEq, reduceCtorEq, ↓zR, zQ, Tr, StA, StT, x4, x5, x6, b1, b2, b3, hrd']
              refine c_CanMove (plG u L).1 m1 m2 (by omega) ?_
              intro hY pY
              simp (maxSteps := 1000000) (disch := first | omega | rfl | (simp only [zL, two63, room] <;> omega) | fail) only [↓reduceIte, ↓zP, zW, WOp, evOp, evBin, binI, binSh, binS, evNil, keyIs, keyEq, mkv, AV.cells, AV.sc, optv, bnd, env, put, Env.get, Env.set, Env.del, Env.dels, Env.init, res1, resL, resV, fillP, splice, newRow, Nat.reduceEqDiff, Nat.reduceLT, Nat.reduceLeDiff, Nat.reduceAdd, Nat.reduceMul, Nat.reduceSub, Nat.reduceBEq, reduceCtorEq, ↓zR, zQ, Tr, StA, StT, x5, x7, hno]
              exact hp _
          · -- a play
            obtain ⟨x1, x2, x3⟩ := okP_facts eP
            have hv := fun g => Slc.lenV (hsF) (g := g) (ρ := fun _ => _) (x := .t 0) rfl; simp only [evOp] at hv
            simp (maxSteps := 1000000) (disch := first | omega | rfl | (simp only [zL, two63, room] <;> omega) | fail) only [↓reduceIte, ↓zP, zW, WOp, evOp, evBin, binI, binSh, binS, evNil, keyIs, keyEq, mkv, AV.cells, AV.sc, optv, bnd, env, put, Env.get, Env.set, Env.del, Env.dels, Env.init, res1, resL, resV, fillP, splice, newRow, Nat.reduceEqDiff, Nat.reduceLT, Nat.reduceLeDiff, Nat.reduceAdd, Nat.reduceMul, Nat.reduceSub, Nat.reduceBEq, reduceCtorEq, ↓zR, zQ, Tr, StA, StT, eP, eF, x3, hv, eN, eR, e_PairsToPass (fiL i g f) (by omega), e_WayToGo (fiL i g f) (by omega), y1, y2, y3, z1, z2, z3, z4, z5, z6]
            refine lp_ranked (by omega) hsF (.str (plG u L).1) L [] u _ rfl x1 x2 (Pre.refl _) ?_
            intro hX pX
            simp (maxSteps := 1000000) (disch := first | omega | rfl | (simp only [zL, two63, room] <;> omega) | fail) only [↓reduceIte, ↓zP, zW, WOp, evOp, evBin, binI, binSh, binS, evNil, keyIs, keyEq, mkv, AV.cells, AV.sc, optv, bnd, env, put, Env.get, Env.set, Env.del, Env.dels, Env.init, res1, resL, resV, fillP, splice, newRow, Nat.reduceEqDiff, Nat.reduceLT, Nat.reduceLeDiff, Nat.reduceAdd, Nat.reduceMul, Nat.reduceSub, Nat.reduceBEq, reduceCtorEq, ↓zR, zQ, Tr, StA, StT]
            exact hp _
        · obtain ⟨q1, q2, q3⟩ := liR_facts eR
          have q4 := good_all q1
          have q5 : ¬ (r ≥ cnL (i : Nat) (g : Nat) (f : Nat)) := by omega
          have go : ∀ hF, Pre hE hF → Slc 2 encM hF mv1 L := fun hF p => hsE.pre p
          rcases okPF u L with ⟨eP, eF⟩ | ⟨eP, eF⟩ | ⟨eP, eF⟩
          all_goals
            simp (maxSteps := 1000000) (disch := first | omega | rfl | (simp only [zL, two63, room] <;> omega) | fail) only [↓reduceIte, ↓zP, zW, WOp, evOp, evBin, binI, binSh, binS, evNil, keyIs, keyEq, mkv, AV.cells, AV.sc, optv, bnd, env, put, Env.get, Env.set, Env.del, Env.dels, Env.init, res1, resL, resV, fillP, splice, newRow, Nat.reduceEqDiff, Nat.reduceLT, Nat.reduceLeDiff, Nat.reduceAdd, Nat.reduceMul, Nat.reduceSub, Nat.reduceBEq, reduceCtorEq, ↓zR, zQ, Tr, StA, StT, eP, eF, eN, eR]
            refine c_RankOfLine (liR (i : Nat) (g : Nat) (f : Nat) r) (by omega) ?_
            intro hF pF
            have hsF := go hF pF
          · simp (maxSteps := 1000000) (disch := first | omega | rfl | (simp only [zL, two63, room] <;> omega) | fail) only [↓reduceIte, ↓zP, zW, WOp, evOp, evBin, binI, binSh, binS, evNil, keyIs, keyEq, mkv, AV.cells, AV.sc, optv, bnd, env, put, Env.get, Env.set, Env.del, Env.dels, Env.init, res1, resL, resV, fillP, splice, newRow, Nat.reduceEqDiff, Nat.reduceLT, Nat.reduceLeDiff, Nat.reduceAdd, Nat.reduceMul, Nat.reduceSub, Nat.reduceBEq, reduceCtorEq, ↓zR, zQ, Tr, StA, StT, eP, eF, eN, eR, q1, q2, q5, e_PairsToPass (fiL i g f) (by omega), e_WayToGo (fiL i g f) (by omega), y1, y2, y3, z1, z2, z3, z4, z5, z6]
            exact hp _
          · -- a move that fails
            obtain ⟨-, x2, x3, x4, x5, x6, x7⟩ := okF_facts eF
            have hxl := (good_all x7)
            rcases hsF.cases with ⟨rfl, h0⟩ | ⟨rfl, h0⟩ | ⟨rC, rK, rO, rfl⟩
            · rw [h0] at x3; simp at x3
            · rw [h0] at x3; simp at x3
            · have hto := Slc.upTo hlM hsF (j := (plG u L).2) (by omega) rfl rfl
              have b1 : (0 : Int) ≤ ((plG u L).2 : Nat) := by omega
              have b2 : (((plG u L).2 : Nat) : Int) ≤ (L.length : Nat) := by omega
              have b3 : (((plG u L).2 : Nat) : Int) < (L.length : Nat) := by omega
              simp (maxSteps := 1000000) (disch := first | omega | rfl | (simp only [zL, two63, room] <;> omega) | fail) only [↓reduceIte, ↓zP, zW, WOp, evOp, evBin, binI, binSh, binS, evNil, keyIs, keyEq, mkv, AV.cells, AV.sc, optv, bnd, env, put, Env.get, Env.set, Env.del, Env.dels, Env.init, res1, resL, resV, fillP, splice, newRow, Nat.reduceEqDiff, Nat.reduceLT, Nat.reduceLeDiff, Nat.reduceAdd, Nat.reduceMul, Nat.reduceSub, Nat.reduceBEq, reduceCtorEq, ↓zR, zQ, Tr, StA, StT, eP, eF, x4, b1, b2, eN, eR, q1, q2, q5, e_PairsToPass (fiL i g f) (by omega), e_WayToGo (fiL i g f) (by omega), y1, y2, y3, z1, z2, z3, z4, z5, z6]
              refine c_PlayMoves u (by omega) (by simpa using hto) ?_
              intro hX pX
              have hsX := hsF.pre pX
              have hLe : L = L.take (plG u L).2 ++ L[(plG u L).2] :: L.drop ((plG u L).2 + 1) := by
                have := (List.take_append_drop (plG u L).2 L).symm
                rwa [List.drop_eq_getElem_cons x3] at this
              have hst := plG_stop L u x3
              rw [hLe] at hsX
              generalize L[(plG u L).2] = m at hsX hst
              have hrd := hsX.rd hlM
              rw [List.length_take, show min (plG u L).2 L.length = (plG u L).2 by omega] at hrd
              obtain ⟨m1, m2⟩ := m
              have hrd' : rdRow hX rC rK (rO + (plG u L).2 * 2) 2 = some [.int .i64 m1, .int .i64 m2] := hrd
              have hno : okG (plG u L).1 (m1, m2) = false := by unfold okG; rw [hst, Bool.and_false]
              simp (maxSteps := 1000000) (disch := first | omega | rfl | (simp only [zL, two63, room] <;> omega) | fail) only [↓reduceIte, ↓zP, zW, WOp, evOp, evBin, binI, binSh, binS, evNil, keyIs, keyEq, mkv, AV.cells, AV.sc, optv, bnd, env, put, Env.get, Env.set, Env.del, Env.dels, Env.init, res1, resL, resV, fillP, splice, newRow, Nat.reduceEqDiff, Nat.reduceLT, Nat.reduceLeDiff, Nat.reduceAdd, Nat.reduceMul, Nat.reduceSub, Nat.reduceBEq, reduceCtorEq, ↓zR, zQ, Tr, StA, StT, x4, x5, x6, b1, b2, b3, hrd']
              refine c_CanMove (plG u L).1 m1 m2 (by omega) ?_
              intro hY pY
              simp (maxSteps := 1000000) (disch := first | omega | rfl | (simp only [zL, two63, room] <;> omega) | fail) only [↓reduceIte, ↓zP, zW, WOp, evOp, evBin, binI, binSh, binS, evNil, keyIs, keyEq, mkv, AV.cells, AV.sc, optv, bnd, env, put, Env.get, Env.set, Env.del, Env.dels, Env.init, res1, resL, resV, fillP, splice, newRow, Nat.reduceEqDiff, Nat.reduceLT, Nat.reduceLeDiff, Nat.reduceAdd, Nat.reduceMul, Nat.reduceSub, Nat.reduceBEq, reduceCtorEq, ↓zR, zQ, Tr, StA, StT, x5, x7, hno]
              exact hp _
          · -- a play
            obtain ⟨x1, x2, x3⟩ := okP_facts eP
            have hv := fun g => Slc.lenV (hsF) (g := g) (ρ := fun _ => _) (x := .t 0) rfl; simp only [evOp] at hv
            simp (maxSteps := 1000000) (disch := first | omega | rfl | (simp only [zL, two63, room] <;> omega) | fail) only [↓reduceIte, ↓zP, zW, WOp, evOp, evBin, binI, binSh, binS, evNil, keyIs, keyEq, mkv, AV.cells, AV.sc, optv, bnd, env, put, Env.get, Env.set, Env.del, Env.dels, Env.init, res1, resL, resV, fillP, splice, newRow, Nat.reduceEqDiff, Nat.reduceLT, Nat.reduceLeDiff, Nat.reduceAdd, Nat.reduceMul, Nat.reduceSub, Nat.reduceBEq, reduceCtorEq, ↓zR, zQ, Tr, StA, StT, eP, eF, x3, hv, eN, eR, q1, q2, q5, e_PairsToPass (fiL i g f) (by omega), e_WayToGo (fiL i g f) (by omega), y1, y2, y3, z1, z2, z3, z4, z5, z6]
            refine lp_ranked (by omega) hsF (.str (plG u L).1) L [] u _ rfl x1 x2 (Pre.refl _) ?_
            intro hX pX
            simp (maxSteps := 1000000) (disch := first | omega | rfl | (simp only [zL, two63, room] <;> omega) | fail) only [↓reduceIte, ↓zP, zW, WOp, evOp, evBin, binI, binSh, binS, evNil, keyIs, keyEq, mkv, AV.cells, AV.sc, optv, bnd, env, put, Env.get, Env.set, Env.del, Env.dels, Env.init, res1, resL, resV, fillP, splice, newRow, Nat.reduceEqDiff, Nat.reduceLT, Nat.reduceLeDiff, Nat.reduceAdd, Nat.reduceMul, Nat.reduceSub, Nat.reduceBEq, reduceCtorEq, ↓zR, zQ, Tr, StA, StT]
            exact hp _
theorem law_LinesRanked {cv mv : AV} {cs ms : List UInt8} {h : AH} (hs : Slc 1 encU h cv cs) (ht : Slc 1 encU h mv ms) : S 395 [cv, mv] h (fun r _ => r = .bool true) k := law_LinesRanked_of hs ht fun _ => rfl
end Go.Proofs.YtejhhdpfndiliaaGreatDoor.Ab

/- The law FnLinesRanked of the given program returns true, whatever the input: its tied card. Condition: what the row lists of package-level tables is laid as the program's text lays it. -/
namespace Go.Proofs.YtejhhdpfndiliaaGreatDoor.fnLinesRanked
open Go Go.ChangeShapes Go.WideShapes Go.ChangeAt Go.RowKit
set_option maxRecDepth 1000000

theorem own : ownKnob Tryz.prog.godebug = none := by kernel_rfl
theorem laidOut : laidOutB Tryz.prog = true := by kernel_rfl
theorem readable : ∀ t ∈ Tryz.f3.params.toList, Tryz.prog.readableRec t = true ∧ t < Tryz.prog.types.size := by
  rw [Tryz.params3]
  intro t ht
  simp only [List.mem_cons, List.not_mem_nil, or_false] at ht
  rcases ht with rfl | rfl
  · exact ⟨by kernel_rfl, of_decide_eq_true (by kernel_rfl)⟩
  · exact ⟨by kernel_rfl, of_decide_eq_true (by kernel_rfl)⟩
theorem contract (H : Type) (enc : TypeId × Value → H) (W : World) (base : Nat) (args : Array Value) (ds gs : List (DataW H)) (before : List MemPlace)
    (hval : ∀ (j : Nat) t v, Tryz.f3.params[j]? = some t → args[j]? = some v → Value.okWide Tryz.prog W .any base t v)
    (hW : DataW.Whole enc Tryz.prog Tryz.f3.params.toList Rows.fnLinesRankedSpec.vars false W args.toList ds gs before) :
    Calls Tryz.prog 3 args W fun e W' => ∃ v, e = .returned v ∧ Rows.fnLinesRankedSpec.post enc Tryz.prog Tryz.f3 false true false false W args v W' := by
  have hW' := hW
  obtain ⟨p, q, hA0, hV, rfl, hfz, hnd⟩ := hW
  obtain ⟨rfl, rfl⟩ := trodVars_none hV
  have hA : DataW.TrodAll enc Tryz.prog W 0 (fun _ => true) true Tryz.f3.params.toList args.toList ds p := hA0
  rw [Tryz.params3] at hA hval
  obtain ⟨v0, vs0, d0, ds0, p0, q0, hargs0, rfl, rfl, h0, r0⟩ := trodAll_cons hA
  obtain ⟨v1, vs1, d1, ds1, p1, q1, hargs1, rfl, rfl, h1, r1⟩ := trodAll_cons r0
  obtain ⟨rfl, rfl, rfl⟩ := trodAll_nil r1
  obtain rfl : args = #[v0, v1] := by cases args; simp_all
  obtain ⟨s0, m0, g0, a0, _, _, sl0, hv0, rel0⟩ := Ab.open_bytes (F := Ab.F) (Ab.rel_nothing Ab.F W) Tryz.underlying22 Tryz.underlying5 (by kernel_rfl) (hval 0 22 v0 rfl rfl) h0
  obtain ⟨s1, m, g, a1, le1, pre1, sl1, hv1, hrel⟩ := Ab.open_bytes (F := Ab.F) rel0 Tryz.underlying22 Tryz.underlying5 (by kernel_rfl) (hval 1 22 v1 rfl rfl) h1
  have hlaw := Ab.law_LinesRanked (sl0.pre pre1) sl1
  have hargs : Ab.RelL Ab.F m [a0, a1] (#[v0, v1] : Array Value).toList := by
    simp only [Ab.RelL]
    exact ⟨v0, [v1], rfl, Ab.RelV.mono le1 _ _ hv0, v1, [], rfl, hv1, rfl⟩
  have hres : (Rows.fnLinesRankedSpec.fn H ([d0, d1] ++ [])).results = [.lit (.bool true)] := rfl
  have hback : (Rows.fnLinesRankedSpec.fn H ([d0, d1] ++ [])).args = [d0, d1] := rfl
  refine (Ab.law_calls (P := Tryz.prog) (F := Ab.F) Ab.all_sound (f := 395) (h := g) hlaw hrel hargs).mono ?_
  rintro e W' ⟨rfl, hb⟩
  refine ⟨_, rfl, Ab.post_below (pa := p0 ++ (p1 ++ [])) (pv := []) hW' (fun _ _ _ => ?_) (fun sp hsp => ?_) (fun _ _ => rfl) (by simp) hb (ok_one (by kernel_rfl) rfl (okWide_bool_mk Tryz.underlying4 _))⟩
  · rw [hres]
    exact trodAll_cons_mk (shut_bool Tryz.underlying4 _) trodAll_mk0
  · rw [hback]
    exact Ab.trodAll_stays laidOut hb readable hA0 (fun x hx => hW'.lt x (by simpa using hx)) (fun x hx => hsp x (by simpa using hx))

/-- A WORLD FOR THE WITNESS: the settled one, the tables holding what is laid. -/
def lits : List (DataW Unit) → List Value
  | [] => []
  | .lit (.int kd n) :: l => .int kd n :: lits l
  | _ :: l => lits l
def cellsT : DataW Unit → List Value
  | .agg l => l.flatMap fun
    | .lit (.int kd n) => [.int kd n]
    | .agg l' => lits l'
    | _ => []
  | _ => []
def setCells (cs : List Value) : Obj → Obj
  | .cells _ t frozen => .cells cs.toArray t frozen
  | o => o
noncomputable def laidWorld (os : Os) : World :=
  { World.holding Tryz.prog os ⟨#[], #[], []⟩ with heap := ((World.holding Tryz.prog os ⟨#[], #[], []⟩).heap.modify 1 (setCells (cellsT Rows.laid_unicode_utf8_first))).modify 2 (setCells (cellsT Rows.laid_unicode_utf8_acceptRanges)) }
theorem laid_met (os : Os) : laidMet Tryz.prog Rows.fnLinesRankedRow.laid ((laidWorld os).forCall (fun _ _ => 0) ⟨#[], #[.slice none 0 0, .slice none 0 0], []⟩).memory :=
  laidMet_of_run' 8 (by kernel_rfl) (by kernel_rfl)
theorem reads (os : Os) {H : Type} (enc : TypeId × Value → H) : ∃ places, DataW.whole enc Tryz.prog ((laidWorld os).forCall (fun _ _ => 0) ⟨#[], #[.slice none 0 0, .slice none 0 0], []⟩).memory Tryz.f3.params.toList Rows.fnLinesRankedSpec.vars false (#[.slice none 0 0, .slice none 0 0] : Array Value).toList 8 = some ([.nil, .nil], [], places) :=
  ⟨[], by kernel_rfl⟩

theorem lifted (os : Os) (started : os.Started) (H : Type) (enc : TypeId × Value → H) (F : Stop.Interp) :
    ReturnsInHanded {} Tryz.checked os 3 .any ((OpenSpec.ofChange Rows.fnLinesRankedSpec).preRow enc Tryz.prog Tryz.f3 Rows.fnLinesRankedRow.domain false Rows.fnLinesRankedRow.laid) (((OpenSpec.ofChange Rows.fnLinesRankedSpec).at F).post enc Tryz.prog Tryz.f3 false true false false) := by
  obtain ⟨places, hx⟩ := reads os enc
  refine returnsInHanded_of_row (C := Tryz.checked) (s := OpenSpec.ofChange Rows.fnLinesRankedSpec) own started (by kernel_rfl) Tryz.func3
    (witness_row_at (enc := enc) (C := Tryz.checked) false (laidWorld os) #[.slice none 0 0, .slice none 0 0] rfl (by kernel_rfl) (by kernel_rfl) (by kernel_rfl)
      (OpenSpec.preRow_of_cond 8 hx (by kernel_rfl) (fun k hk => by cases hk) (by kernel_rfl) (laid_met os))) ?_
  intro W base args ds gs before hval hW _ _ _ _ _ _
  exact contract H enc W base args ds gs before hval hW

theorem said : Rows.FnLinesRankedSaid :=
  OpenClaim.holds_of_cond 3 Tryz.f3 rfl rfl rfl rfl rfl rfl rfl ⟨rfl, rfl, rfl, rfl, rfl⟩ rfl rfl rfl rfl rfl (by kernel_rfl) Tryz.func3 (by kernel_rfl)
    (of_decide_eq_true (by kernel_rfl)) (by unfold Func.isWrapper; first | (rw [if_pos (by decide +kernel)]; kernel_rfl) | (rw [if_neg (by decide +kernel)]; exact ⟨rfl, rfl⟩))
    (fun os started H enc _ F => by rw [OpenClaim.pre_eq_preRow]; exact lifted os started H enc F)

/-- No parameter wants a stand-in; the program's own looks are off: what the card asks. -/
theorem plain (f : FuncId) (fn : Func) (hf : Tryz.pinned.checked.prog.funcNamed "loop.example/g01271/laws.FnLinesRanked" = some f) (hfn : Tryz.pinned.checked.prog.funcs[f]? = some fn) :
    false = Tryz.pinned.checked.prog.looks [] ∧ ∀ (j : Nat) t, fn.params[j]? = some t → Tryz.pinned.checked.prog.wantsStandIn t = false := by
  obtain rfl : f = 3 := Option.some.inj ((show Tryz.prog.funcNamed "loop.example/g01271/laws.FnLinesRanked" = some 3 by kernel_rfl).symm.trans hf) |>.symm
  obtain rfl : fn = Tryz.f3 := (Option.some.inj (Tryz.func3.symm.trans hfn)).symm
  refine ⟨by kernel_rfl, fun j t ht => ?_⟩
  rw [Tryz.params3] at ht
  have hm : t ∈ ([22, 22] : List Nat) := by
    have := Array.mem_of_getElem? ht
    simpa using this
  simp only [List.mem_cons, List.not_mem_nil, or_false] at hm
  rcases hm with rfl | rfl
  · exact (show Tryz.prog.wantsStandIn 22 = false by kernel_rfl)
  · exact (show Tryz.prog.wantsStandIn 22 = false by kernel_rfl)
theorem card : Rows.FnLinesRankedCardSaid :=
  Claim7.holds_tied_plain_at .later [] _ _ _ _ said (fun _ h => by cases h) (by kernel_rfl) (fun _ h => by cases h) fnLinesRanked_row_tie rfl ⟨rfl, rfl⟩ (by kernel_rfl) rfl plain (by kernel_rfl)
end Go.Proofs.YtejhhdpfndiliaaGreatDoor.fnLinesRanked
