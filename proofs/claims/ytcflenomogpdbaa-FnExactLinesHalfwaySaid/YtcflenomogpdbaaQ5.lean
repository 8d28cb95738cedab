/- The proof that the law FnExactLinesHalfwaySaid of the given program returns true for every input; the condition: the tables that the row lists are laid as the program's text lays them. -/
import Derived.Test.YtcflenomogpdbaaRows
import Derived.OpenShut
import Derived.ProofKit
import Derived.Test.YtcflenomogpdbaaQ4
set_option linter.unusedSimpArgs false
set_option linter.unusedVariables false
/- MARKS on texts; the law of Solutions. -/
namespace Go.Proofs.Ytcflenomogpdbaa.Ab
open Go
set_option maxRecDepth 100000
set_option maxHeartbeats 4000000

theorem lp_eqSS {v u : AV} {L M : List (List UInt8)} (hlen : L.length < 2 ^ 40) {h : AH} (hs : Slc 1 encS h v L) (ht : Slc 1 encS h u M) (hll : L.length = M.length) {R : X → Env → AH → Prop} : ∀ (rest rest' pre pre' : List (List UInt8)), L = pre ++ rest → M = pre' ++ rest' → pre.length = pre'.length →
    ((rest == rest') = true → R (.exit 0) [] h) → ((rest == rest') = false → R .ret [(4, .bool false)] h) → Cx (.loop lp48_0) [(0, v), (1, u), (5, .int .i64 pre.length)] h R k k
  | [], rest', pre, pre', hL, hM, hpp, h1, h2 => by
    have : rest' = [] := by
      have e1 := congrArg List.length hL
      have e2 := congrArg List.length hM
      simp at e1 e2
      exact List.eq_nil_of_length_eq_zero (by omega)
    subst this
    rw [w_loopb (c := lp48_0) (d := lb48_0) rfl]; unfold lb48_0
    have hv := fun g => Slc.lenV (hs) (g := g) (ρ := fun _ => _) (x := .t 0) rfl; simp only [evOp] at hv
    have hl : L.length = pre.length := by rw [hL]; simp
    simp (maxSteps := 1000000) (disch := first | omega | rfl | (simp only [zL, two63, room] <;> omega) | fail) only [↓reduceIte, ↓zP, zW, WOp, evOp, evBin, binI, binSh, binS, evNil, keyIs, keyEq, mkv, AV.cells, AV.sc, optv, bnd, env, put, Env.get, Env.set, Env.del, Env.dels, Env.init, res1, resL, resV, fillP, splice, newRow, Nat.reduceEqDiff, Nat.reduceLT, Nat.reduceLeDiff, Nat.reduceAdd, Nat.reduceMul, Nat.reduceSub, Nat.reduceBEq, reduceCtorEq, ↓zR, zQ, Tr, StA, StT, hv, hl]
    exact h1 rfl
  | x :: rest, [], pre, pre', hL, hM, hpp, h1, h2 => by
    have e1 := congrArg List.length hL
    have e2 := congrArg List.length hM
    simp at e1 e2
    omega
  | x :: rest, y :: rest', pre, pre', hL, hM, hpp, h1, h2 => by
    have ih := lp_eqSS hlen hs ht hll (R := R) rest rest' (pre ++ [x]) (pre' ++ [y])
    have hv := fun g => Slc.lenV (hs) (g := g) (ρ := fun _ => _) (x := .t 0) rfl; simp only [evOp] at hv
    have hl : L.length = pre.length + 1 + rest.length := by rw [hL]; simp; omega
    have hm : M.length = pre.length + 1 + rest'.length := by rw [hM, hpp]; simp; omega
    have hs' := hs
    have ht' := ht
    rw [hL] at hs'
    rw [hM] at ht'
    obtain ⟨r1, k1, o1, hve, hr⟩ := hs'.at hlS
    obtain ⟨r2, k2, o2, hue, hr2⟩ := ht'.at hlS
    rw [← hL, hl] at hve
    rw [← hM, hm] at hue
    rw [← hpp] at hr2
    subst hve
    subst hue
    have hlt : (pre.length : Int) < ((pre.length + 1 + rest.length : Nat) : Int) := by omega
    have hlt2 : (pre.length : Int) < ((pre.length + 1 + rest'.length : Nat) : Int) := by omega
    have hw1 : (pre.length : Int) + 1 = ((pre ++ [x]).length : Int) := by simp
    rw [w_loopb (c := lp48_0) (d := lb48_0) rfl]; unfold lb48_0
    cases e : (x == y)
    · have en : (x != y) = true := by simp only [bne, e]; rfl
      simp (maxSteps := 1000000) (disch := first | omega | rfl | (simp only [zL, two63, room] <;> omega) | fail) only [↓reduceIte, ↓zP, zW, WOp, evOp, evBin, binI, binSh, binS, evNil, keyIs, keyEq, mkv, AV.cells, AV.sc, optv, bnd, env, put, Env.get, Env.set, Env.del, Env.dels, Env.init, res1, resL, resV, fillP, splice, newRow, Nat.reduceEqDiff, Nat.reduceLT, Nat.reduceLeDiff, Nat.reduceAdd, Nat.reduceMul, Nat.reduceSub, Nat.reduceBEq, reduceCtorEq, ↓zR, zQ, Tr, StA, StT, hlt, hlt2, hr, hr2, en, e]
      exact h2 (by rw [beq_cc, e]; rfl)
    · have en : (x != y) = false := by simp only [bne, e]; rfl
      simp (maxSteps := 1000000) (disch := first | omega | rfl | (simp only [zL, two63, room] <;> omega) | fail) only [↓reduceIte, ↓zP, zW, WOp, evOp, evBin, binI, binSh, binS, evNil, keyIs, keyEq, mkv, AV.cells, AV.sc, optv, bnd, env, put, Env.get, Env.set, Env.del, Env.dels, Env.init, res1, resL, resV, fillP, splice, newRow, Nat.reduceEqDiff, Nat.reduceLT, Nat.reduceLeDiff, Nat.reduceAdd, Nat.reduceMul, Nat.reduceSub, Nat.reduceBEq, reduceCtorEq, ↓zR, zQ, Tr, StA, StT, hlt, hlt2, hr, hr2, en, e]
      simp (maxSteps := 1000000) (disch := first | omega | rfl | (simp only [zL, two63, room] <;> omega) | fail) only [↓reduceIte, ↓zP, zW, WOp, evOp, evBin, binI, binSh, binS, evNil, keyIs, keyEq, mkv, AV.cells, AV.sc, optv, bnd, env, put, Env.get, Env.set, Env.del, Env.dels, Env.init, res1, resL, resV, fillP, splice, newRow, Nat.reduceEqDiff, Nat.reduceLT, Nat.reduceLeDiff, Nat.reduceAdd, Nat.reduceMul, Nat.reduceSub, Nat.reduceBEq, reduceCtorEq, ↓zR, zQ, Tr, StA, StT, hw1]
      rw [w_loopn (c := lp48_0) rfl]
      simp (maxSteps := 1000000) (disch := first | omega | rfl | (simp only [zL, two63, room] <;> omega) | fail) only [↓reduceIte, ↓zP, zW, WOp, evOp, evBin, binI, binSh, binS, evNil, keyIs, keyEq, mkv, AV.cells, AV.sc, optv, bnd, env, put, Env.get, Env.set, Env.del, Env.dels, Env.init, res1, resL, resV, fillP, splice, newRow, Nat.reduceEqDiff, Nat.reduceLT, Nat.reduceLeDiff, Nat.reduceAdd, Nat.reduceMul, Nat.reduceSub, Nat.reduceBEq, reduceCtorEq, ↓zR, zQ, Tr, StA, StT]
      exact ih (by rw [hL]; simp) (by rw [hM]; simp) (by simp [hpp]) (fun q => h1 (by rw [beq_cc, e, q]; rfl)) (fun q => h2 (by rw [beq_cc, e, q]; rfl))
theorem c_eqSS {v u : AV} {L M : List (List UInt8)} (hlen : L.length < 2 ^ 40) {h : AH} (hs : Slc 1 encS h v L) (ht : Slc 1 encS h u M) {post : AV → AH → Prop} (hp : post (.bool (L == M)) h) : S 48 [v, u] h post k := by
  refine S_of rfl T48 ?_; unfold fi48
  have hv := fun g => Slc.lenV (hs) (g := g) (ρ := fun _ => _) (x := .t 0) rfl; simp only [evOp] at hv
  have hu := fun g => Slc.lenV (ht) (g := g) (ρ := fun _ => _) (x := .t 0) rfl; simp only [evOp] at hu
  by_cases hl : L.length = M.length
  · simp (maxSteps := 1000000) (disch := first | omega | rfl | (simp only [zL, two63, room] <;> omega) | fail) only [↓reduceIte, ↓zP, zW, WOp, evOp, evBin, binI, binSh, binS, evNil, keyIs, keyEq, mkv, AV.cells, AV.sc, optv, bnd, env, put, Env.get, Env.set, Env.del, Env.dels, Env.init, res1, resL, resV, fillP, splice, newRow, Nat.reduceEqDiff, Nat.reduceLT, Nat.reduceLeDiff, Nat.reduceAdd, Nat.reduceMul, Nat.reduceSub, Nat.reduceBEq, reduceCtorEq, ↓zR, zQ, Tr, StA, StT, hv, hu, hl]
    refine lp_eqSS hlen hs ht hl L M [] [] rfl rfl rfl ?_ ?_
    · intro e
      simp (maxSteps := 1000000) (disch := first | omega | rfl | (simp only [zL, two63, room] <;> omega) | fail) only [↓reduceIte, ↓zP, zW, WOp, evOp, evBin, binI, binSh, binS, evNil, keyIs, keyEq, mkv, AV.cells, AV.sc, optv, bnd, env, put, Env.get, Env.set, Env.del, Env.dels, Env.init, res1, resL, resV, fillP, splice, newRow, Nat.reduceEqDiff, Nat.reduceLT, Nat.reduceLeDiff, Nat.reduceAdd, Nat.reduceMul, Nat.reduceSub, Nat.reduceBEq, reduceCtorEq, ↓zR, zQ, Tr, StA, StT]
      exact e ▸ hp
    · intro e
      simp (maxSteps := 1000000) (disch := first | omega | rfl | (simp only [zL, two63, room] <;> omega) | fail) only [↓reduceIte, ↓zP, zW, WOp, evOp, evBin, binI, binSh, binS, evNil, keyIs, keyEq, mkv, AV.cells, AV.sc, optv, bnd, env, put, Env.get, Env.set, Env.del, Env.dels, Env.init, res1, resL, resV, fillP, splice, newRow, Nat.reduceEqDiff, Nat.reduceLT, Nat.reduceLeDiff, Nat.reduceAdd, Nat.reduceMul, Nat.reduceSub, Nat.reduceBEq, reduceCtorEq, ↓zR, zQ, Tr, StA, StT]
      exact e ▸ hp
  · have hne : ((L.length : Int) != (M.length : Int)) = true := by simp; omega
    simp (maxSteps := 1000000) (disch := first | omega | rfl | (simp only [zL, two63, room] <;> omega) | fail) only [↓reduceIte, ↓zP, zW, WOp, evOp, evBin, binI, binSh, binS, evNil, keyIs, keyEq, mkv, AV.cells, AV.sc, optv, bnd, env, put, Env.get, Env.set, Env.del, Env.dels, Env.init, res1, resL, resV, fillP, splice, newRow, Nat.reduceEqDiff, Nat.reduceLT, Nat.reduceLeDiff, Nat.reduceAdd, Nat.reduceMul, Nat.reduceSub, Nat.reduceBEq, reduceCtorEq, ↓zR, zQ, Tr, StA, StT, hv, hu, hne]
    have : (L == M) = false := by
      rw [beq_eq_false_iff_ne]; rintro rfl; exact hl rfl
    exact this ▸ hp

/-! ### The text of a mark -/
def mdig (k : Nat) (out : List UInt8) : List UInt8 := if h : k = 0 then out else mdig (k / 10) (UInt8.ofNat (48 + k % 10) :: out)
termination_by k
decreasing_by omega
def mtxt (q : Nat) : List UInt8 := 109 :: mdig q []
theorem wrap_d : ∀ d, d < 10 → IntKind.u8.wrap (48 + ((d : Nat) : Int)) = ((UInt8.ofNat (48 + d)).toNat : Int) := by decide
theorem lp_markText {b : AH} {R : X → Env → AH → Prop} : ∀ (d k : Nat) (out : List UInt8) (h : AH), k ≤ d → out.length + k < 2 ^ 35 → Pre b h →
    (∀ h', Pre b h' → (mdig k out).length < 2 ^ 35 → R (.exit 0) [(3, .str (mdig k out))] h') → Cx (.loop lp98_0) [(0, .int .i64 (k : Nat)), (3, .str out)] h R Ab.k Ab.k
  | d, 0, out, h, hd, hb, hp, hR => by
    rw [mdig] at hR
    have hz : ¬ (((0 : Nat) : Int) > 0) := by omega
    rw [w_loopb (c := lp98_0) (d := lb98_0) rfl]; unfold lb98_0
    simp (maxSteps := 1000000) (disch := first | omega | rfl | (simp only [zL, two63, room] <;> omega) | fail) only [↓reduceIte, ↓zP, zW, WOp, evOp, evBin, binI, binSh, binS, evNil, keyIs, keyEq, mkv, AV.cells, AV.sc, optv, bnd, env, put, Env.get, Env.set, Env.del, Env.dels, Env.init, res1, resL, resV, fillP, splice, newRow, Nat.reduceEqDiff, Nat.reduceLT, Nat.reduceLeDiff, Nat.reduceAdd, Nat.reduceMul, Nat.reduceSub, Nat.reduceBEq, reduceCtorEq, ↓zR, zQ, Tr, StA, StT, hz]
    exact hR h hp (by simp; omega)
  | 0, k + 1, out, h, hd, hb, hp, hR => by omega
  | d + 1, k + 1, out, h, hd, hb, hp, hR => by
    have ih := lp_markText (b := b) (R := R) d ((k + 1) / 10) (UInt8.ofNat (48 + (k + 1) % 10) :: out)
    rw [mdig] at hR
    rw [dif_neg (by omega)] at hR
    generalize hk : k + 1 = n at *
    have hz : ((n : Nat) : Int) > 0 := by omega
    have hm : ((n : Nat) : Int).tmod 10 = ((n % 10 : Nat) : Int) := by rw [Int.tmod_eq_emod_of_nonneg (by omega)]; omega
    have hq : ((n : Nat) : Int).tdiv 10 = ((n / 10 : Nat) : Int) := by rw [Int.tdiv_eq_ediv_of_nonneg (by omega)]; omega
    have hwd := wrap_d (n % 10) (by omega)
    have hw1 : IntKind.i64.wrap (48 + ((n % 10 : Nat) : Int)) = 48 + ((n % 10 : Nat) : Int) := wrap_i (by omega)
    have hw2 : IntKind.i64.wrap ((n / 10 : Nat) : Int) = ((n / 10 : Nat) : Int) := wrap_i (by omega)
    generalize UInt8.ofNat (48 + n % 10) = c at *
    have hbl : bytesL [AV.int .u8 (c.toNat : Int)] = some [c] := bytesL_map [c]
    rw [w_loopb (c := lp98_0) (d := lb98_0) rfl]; unfold lb98_0
    have h10 : ¬ ((10 : Int) = 0) := by decide
    simp (maxSteps := 1000000) (disch := first | omega | rfl | (simp only [zL, two63, room] <;> omega) | fail) only [↓reduceIte, ↓zP, zW, WOp, evOp, evBin, binI, binSh, binS, evNil, keyIs, keyEq, mkv, AV.cells, AV.sc, optv, bnd, env, put, Env.get, Env.set, Env.del, Env.dels, Env.init, res1, resL, resV, fillP, splice, newRow, Nat.reduceEqDiff, Nat.reduceLT, Nat.reduceLeDiff, Nat.reduceAdd, Nat.reduceMul, Nat.reduceSub, Nat.reduceBEq, reduceCtorEq, ↓zR, zQ, Tr, StA, StT, hz, hm, hq, hw1, hwd, hw2, hbl, h10]
    rw [w_loopn (c := lp98_0) rfl]
    simp (maxSteps := 1000000) (disch := first | omega | rfl | (simp only [zL, two63, room] <;> omega) | fail) only [↓reduceIte, ↓zP, zW, WOp, evOp, evBin, binI, binSh, binS, evNil, keyIs, keyEq, mkv, AV.cells, AV.sc, optv, bnd, env, put, Env.get, Env.set, Env.del, Env.dels, Env.init, res1, resL, resV, fillP, splice, newRow, Nat.reduceEqDiff, Nat.reduceLT, Nat.reduceLeDiff, Nat.reduceAdd, Nat.reduceMul, Nat.reduceSub, Nat.reduceBEq, reduceCtorEq, ↓zR, zQ, Tr, StA, StT]
    exact ih _ (by omega) (by simp; omega) (hp.trans (Pre.push _ _)) hR
theorem c_markText (q : Nat) (hq : 1 ≤ q ∧ q < 2 ^ 34) {h : AH} {post : AV → AH → Prop} (hp : ∀ h', Pre h h' → post (.str (mtxt q)) h') : S 98 [.int .i64 q] h post k := by
  have hz : ¬ ((q : Int) ≤ 0) := by omega
  refine S_of rfl T98 ?_; unfold fi98
  simp (maxSteps := 1000000) (disch := first | omega | rfl | (simp only [zL, two63, room] <;> omega) | fail) only [↓reduceIte, ↓zP, zW, WOp, evOp, evBin, binI, binSh, binS, evNil, keyIs, keyEq, mkv, AV.cells, AV.sc, optv, bnd, env, put, Env.get, Env.set, Env.del, Env.dels, Env.init, res1, resL, resV, fillP, splice, newRow, Nat.reduceEqDiff, Nat.reduceLT, Nat.reduceLeDiff, Nat.reduceAdd, Nat.reduceMul, Nat.reduceSub, Nat.reduceBEq, reduceCtorEq, ↓zR, zQ, Tr, StA, StT, hz]
  refine lp_markText (b := h) q q [] h (Nat.le_refl _) (by simp; omega) (Pre.refl _) ?_
  intro h' hp' hl
  simp (maxSteps := 1000000) (disch := first | omega | rfl | (simp only [zL, two63, room] <;> omega) | fail) only [↓reduceIte, ↓zP, zW, WOp, evOp, evBin, binI, binSh, binS, evNil, keyIs, keyEq, mkv, AV.cells, AV.sc, optv, bnd, env, put, Env.get, Env.set, Env.del, Env.dels, Env.init, res1, resL, resV, fillP, splice, newRow, Nat.reduceEqDiff, Nat.reduceLT, Nat.reduceLeDiff, Nat.reduceAdd, Nat.reduceMul, Nat.reduceSub, Nat.reduceBEq, reduceCtorEq, ↓zR, zQ, Tr, StA, StT]
  exact hp h' hp'
def mtL : Nat → Nat → List (List UInt8)
  | _, 0 => []
  | q, n + 1 => mtxt q :: mtL (q + 1) n
theorem mtL_len : ∀ (n q : Nat), (mtL q n).length = n
  | 0, _ => rfl
  | n + 1, q => by simp [mtL, mtL_len n]
theorem lp_markStringS {b : AH} {v : AV} {R : X → Env → AH → Prop} : ∀ (rest pre : List (List UInt8)) (q : Nat) (h : AH), OwW 1 encS b h v (pre ++ rest) → pre.length + rest.length < 2 ^ 30 → 1 ≤ q → q + rest.length < 2 ^ 33 →
    (∀ h', OwW 1 encS b h' v (pre ++ mtL q rest.length) → PreV v h h' → R (.exit 0) [(1, .int .i64 ((q + rest.length : Nat) : Int))] h') → Cx (.loop lp50_0) [(0, v), (1, .int .i64 q), (5, .int .i64 pre.length)] h R k k
  | [], pre, q, h, ho, hb, h0, hq, hR => by
    rw [w_loopb (c := lp50_0) (d := lb50_0) rfl]; unfold lb50_0
    have hv := fun g => Slc.lenV ((ho.slc hlS)) (g := g) (ρ := fun _ => _) (x := .t 0) rfl; simp only [evOp] at hv
    simp only [List.append_nil] at hv
    simp (maxSteps := 1000000) (disch := first | omega | rfl | (simp only [zL, two63, room] <;> omega) | fail) only [↓reduceIte, ↓zP, zW, WOp, evOp, evBin, binI, binSh, binS, evNil, keyIs, keyEq, mkv, AV.cells, AV.sc, optv, bnd, env, put, Env.get, Env.set, Env.del, Env.dels, Env.init, res1, resL, resV, fillP, splice, newRow, Nat.reduceEqDiff, Nat.reduceLT, Nat.reduceLeDiff, Nat.reduceAdd, Nat.reduceMul, Nat.reduceSub, Nat.reduceBEq, reduceCtorEq, ↓zR, zQ, Tr, StA, StT, hv]
    have := hR h ho (PreV.refl _ _)
    simpa using this
  | x :: rest, pre, q, h, ho, hb, h0, hq, hR => by
    have ih := lp_markStringS (b := b) (v := v) (R := R) rest (pre ++ [mtxt q]) (q + 1)
    have hl : (pre ++ x :: rest).length = pre.length + 1 + rest.length := by simp; omega
    have hv := fun g => Slc.lenV ((ho.slc hlS)) (g := g) (ρ := fun _ => _) (x := .t 0) rfl; simp only [evOp] at hv
    obtain ⟨c, kk, off, hve, _⟩ := (ho.slc hlS).at hlS
    rw [hl] at hve hv
    subst hve
    simp only [List.length_cons] at hb hq
    have hlt : (pre.length : Int) < ((pre.length + 1 + rest.length : Nat) : Int) := by omega
    have hw1 : (pre.length : Int) + 1 = ((pre ++ [mtxt q]).length : Int) := by simp
    have hw2 : (q : Int) + 1 = ((q + 1 : Nat) : Int) := by omega
    rw [w_loopb (c := lp50_0) (d := lb50_0) rfl]; unfold lb50_0
    simp (maxSteps := 1000000) (disch := first | omega | rfl | (simp only [zL, two63, room] <;> omega) | fail) only [↓reduceIte, ↓zP, zW, WOp, evOp, evBin, binI, binSh, binS, evNil, keyIs, keyEq, mkv, AV.cells, AV.sc, optv, bnd, env, put, Env.get, Env.set, Env.del, Env.dels, Env.init, res1, resL, resV, fillP, splice, newRow, Nat.reduceEqDiff, Nat.reduceLT, Nat.reduceLeDiff, Nat.reduceAdd, Nat.reduceMul, Nat.reduceSub, Nat.reduceBEq, reduceCtorEq, ↓zR, zQ, Tr, StA, StT, hv, hlt]
    refine c_markText q ⟨h0, by omega⟩ ?_
    intro h1 hp1
    obtain ⟨c', kk', off', h', hve, hw, ho', hpv⟩ := (ho.pre hp1).store hlS (mtxt q) 0 [.str (mtxt q)] (by simp) rfl rfl
    simp only [AV.slice.injEq] at hve
    obtain ⟨rfl, rfl, rfl, -⟩ := hve
    rw [Nat.add_zero] at hw
    simp (maxSteps := 1000000) (disch := first | omega | rfl | (simp only [zL, two63, room] <;> omega) | fail) only [↓reduceIte, ↓zP, zW, WOp, evOp, evBin, binI, binSh, binS, evNil, keyIs, keyEq, mkv, AV.cells, AV.sc, optv, bnd, env, put, Env.get, Env.set, Env.del, Env.dels, Env.init, res1, resL, resV, fillP, splice, newRow, Nat.reduceEqDiff, Nat.reduceLT, Nat.reduceLeDiff, Nat.reduceAdd, Nat.reduceMul, Nat.reduceSub, Nat.reduceBEq, reduceCtorEq, ↓zR, zQ, Tr, StA, StT, hw, hlt]
    simp (maxSteps := 1000000) (disch := first | omega | rfl | (simp only [zL, two63, room] <;> omega) | fail) only [↓reduceIte, ↓zP, zW, WOp, evOp, evBin, binI, binSh, binS, evNil, keyIs, keyEq, mkv, AV.cells, AV.sc, optv, bnd, env, put, Env.get, Env.set, Env.del, Env.dels, Env.init, res1, resL, resV, fillP, splice, newRow, Nat.reduceEqDiff, Nat.reduceLT, Nat.reduceLeDiff, Nat.reduceAdd, Nat.reduceMul, Nat.reduceSub, Nat.reduceBEq, reduceCtorEq, ↓zR, zQ, Tr, StA, StT, hw1, hw2]
    rw [w_loopn (c := lp50_0) rfl]
    simp (maxSteps := 1000000) (disch := first | omega | rfl | (simp only [zL, two63, room] <;> omega) | fail) only [↓reduceIte, ↓zP, zW, WOp, evOp, evBin, binI, binSh, binS, evNil, keyIs, keyEq, mkv, AV.cells, AV.sc, optv, bnd, env, put, Env.get, Env.set, Env.del, Env.dels, Env.init, res1, resL, resV, fillP, splice, newRow, Nat.reduceEqDiff, Nat.reduceLT, Nat.reduceLeDiff, Nat.reduceAdd, Nat.reduceMul, Nat.reduceSub, Nat.reduceBEq, reduceCtorEq, ↓zR, zQ, Tr, StA, StT]
    refine ih h' (by simpa using ho') (by simp; omega) (by omega) (by omega) ?_
    intro h2 ho2 hpv2
    have := hR h2 (by simpa [mtL] using ho2) (((hp1.v _).trans hpv).trans hpv2)
    rw [show q + (x :: rest).length = q + 1 + rest.length by simp; omega] at this
    exact this
theorem c_markStringS {b h : AH} {v : AV} {L : List (List UInt8)} (ho : OwW 1 encS b h v L) (q : Nat) (hL : L.length < 2 ^ 30) (hq : 1 ≤ q ∧ q < 2 ^ 30) {post : AV → AH → Prop} (hp : ∀ h', OwW 1 encS b h' v (mtL q L.length) → PreV v h h' → post (.int .i64 ((q + L.length : Nat) : Int)) h') : S 50 [v, .int .i64 q] h post k := by
  refine S_of rfl T50 ?_; unfold fi50
  simp (maxSteps := 1000000) (disch := first | omega | rfl | (simp only [zL, two63, room] <;> omega) | fail) only [↓reduceIte, ↓zP, zW, WOp, evOp, evBin, binI, binSh, binS, evNil, keyIs, keyEq, mkv, AV.cells, AV.sc, optv, bnd, env, put, Env.get, Env.set, Env.del, Env.dels, Env.init, res1, resL, resV, fillP, splice, newRow, Nat.reduceEqDiff, Nat.reduceLT, Nat.reduceLeDiff, Nat.reduceAdd, Nat.reduceMul, Nat.reduceSub, Nat.reduceBEq, reduceCtorEq, ↓zR, zQ, Tr, StA, StT]
  refine lp_markStringS (b := b) L [] q h ho (by simpa using hL) hq.1 (by omega) ?_
  intro h' ho' hpv
  simp (maxSteps := 1000000) (disch := first | omega | rfl | (simp only [zL, two63, room] <;> omega) | fail) only [↓reduceIte, ↓zP, zW, WOp, evOp, evBin, binI, binSh, binS, evNil, keyIs, keyEq, mkv, AV.cells, AV.sc, optv, bnd, env, put, Env.get, Env.set, Env.del, Env.dels, Env.init, res1, resL, resV, fillP, splice, newRow, Nat.reduceEqDiff, Nat.reduceLT, Nat.reduceLeDiff, Nat.reduceAdd, Nat.reduceMul, Nat.reduceSub, Nat.reduceBEq, reduceCtorEq, ↓zR, zQ, Tr, StA, StT]
  exact hp h' ho' hpv
theorem lp_heldStringS {v : AV} {b : AH} {n : Nat} (hn : n < 2 ^ 30) {R : X → Env → AH → Prop} : ∀ (d : Nat) (pre : List (List UInt8)) (q : Nat) (h : AH), Slc 1 encS h v (pre ++ mtL q d) → pre.length + d = n → 1 ≤ q → q + d < 2 ^ 33 → Pre b h →
    (∀ h', Pre b h' → R (.exit 0) [(1, .int .i64 ((q + d : Nat) : Int))] h') → Cx (.loop lp47_0) [(0, v), (1, .int .i64 q), (5, .int .i64 pre.length)] h R k k
  | 0, pre, q, h, hs, hd, h0, hq, hp, hR => by
    rw [w_loopb (c := lp47_0) (d := lb47_0) rfl]; unfold lb47_0
    have hv := fun g => Slc.lenV (hs) (g := g) (ρ := fun _ => _) (x := .t 0) rfl; simp only [evOp] at hv
    simp only [mtL, List.append_nil] at hv
    simp (maxSteps := 1000000) (disch := first | omega | rfl | (simp only [zL, two63, room] <;> omega) | fail) only [↓reduceIte, ↓zP, zW, WOp, evOp, evBin, binI, binSh, binS, evNil, keyIs, keyEq, mkv, AV.cells, AV.sc, optv, bnd, env, put, Env.get, Env.set, Env.del, Env.dels, Env.init, res1, resL, resV, fillP, splice, newRow, Nat.reduceEqDiff, Nat.reduceLT, Nat.reduceLeDiff, Nat.reduceAdd, Nat.reduceMul, Nat.reduceSub, Nat.reduceBEq, reduceCtorEq, ↓zR, zQ, Tr, StA, StT, hv]
    simpa using hR h hp
  | d + 1, pre, q, h, hs, hd, h0, hq, hp, hR => by
    have ih := lp_heldStringS (v := v) (b := b) hn (R := R) d (pre ++ [mtxt q]) (q + 1)
    have hv := fun g => Slc.lenV (hs) (g := g) (ρ := fun _ => _) (x := .t 0) rfl; simp only [evOp] at hv
    simp only [mtL] at hs hv
    have hl : (pre ++ mtxt q :: mtL (q + 1) d).length = pre.length + 1 + d := by simp [mtL_len]; omega
    obtain ⟨c, kk, off, hve, hr⟩ := hs.at hlS
    rw [hl] at hve hv
    subst hve
    have hlt : (pre.length : Int) < ((pre.length + 1 + d : Nat) : Int) := by omega
    have hw1 : (pre.length : Int) + 1 = ((pre ++ [mtxt q]).length : Int) := by simp
    have hw2 : (q : Int) + 1 = ((q + 1 : Nat) : Int) := by omega
    rw [w_loopb (c := lp47_0) (d := lb47_0) rfl]; unfold lb47_0
    simp (maxSteps := 1000000) (disch := first | omega | rfl | (simp only [zL, two63, room] <;> omega) | fail) only [↓reduceIte, ↓zP, zW, WOp, evOp, evBin, binI, binSh, binS, evNil, keyIs, keyEq, mkv, AV.cells, AV.sc, optv, bnd, env, put, Env.get, Env.set, Env.del, Env.dels, Env.init, res1, resL, resV, fillP, splice, newRow, Nat.reduceEqDiff, Nat.reduceLT, Nat.reduceLeDiff, Nat.reduceAdd, Nat.reduceMul, Nat.reduceSub, Nat.reduceBEq, reduceCtorEq, ↓zR, zQ, Tr, StA, StT, hv, hlt]
    refine w_drw ?_
    simp (maxSteps := 1000000) (disch := first | omega | rfl | (simp only [zL, two63, room] <;> omega) | fail) only [↓reduceIte, ↓zP, zW, WOp, evOp, evBin, binI, binSh, binS, evNil, keyIs, keyEq, mkv, AV.cells, AV.sc, optv, bnd, env, put, Env.get, Env.set, Env.del, Env.dels, Env.init, res1, resL, resV, fillP, splice, newRow, Nat.reduceEqDiff, Nat.reduceLT, Nat.reduceLeDiff, Nat.reduceAdd, Nat.reduceMul, Nat.reduceSub, Nat.reduceBEq, reduceCtorEq, ↓zR, zQ, Tr, StA, StT, hr, hlt]
    refine c_markText q ⟨h0, by omega⟩ ?_
    intro h1 hp1
    have hr1 := rdRow_pre hp1 hr
    simp (maxSteps := 1000000) (disch := first | omega | rfl | (simp only [zL, two63, room] <;> omega) | fail) only [↓reduceIte, ↓zP, zW, WOp, evOp, evBin, binI, binSh, binS, evNil, keyIs, keyEq, mkv, AV.cells, AV.sc, optv, bnd, env, put, Env.get, Env.set, Env.del, Env.dels, Env.init, res1, resL, resV, fillP, splice, newRow, Nat.reduceEqDiff, Nat.reduceLT, Nat.reduceLeDiff, Nat.reduceAdd, Nat.reduceMul, Nat.reduceSub, Nat.reduceBEq, reduceCtorEq, ↓zR, zQ, Tr, StA, StT, hr, hr1, hlt, bne_self_eq_false]
    simp (maxSteps := 1000000) (disch := first | omega | rfl | (simp only [zL, two63, room] <;> omega) | fail) only [↓reduceIte, ↓zP, zW, WOp, evOp, evBin, binI, binSh, binS, evNil, keyIs, keyEq, mkv, AV.cells, AV.sc, optv, bnd, env, put, Env.get, Env.set, Env.del, Env.dels, Env.init, res1, resL, resV, fillP, splice, newRow, Nat.reduceEqDiff, Nat.reduceLT, Nat.reduceLeDiff, Nat.reduceAdd, Nat.reduceMul, Nat.reduceSub, Nat.reduceBEq, reduceCtorEq, ↓zR, zQ, Tr, StA, StT, hw1, hw2]
    rw [w_loopn (c := lp47_0) rfl]
    simp (maxSteps := 1000000) (disch := first | omega | rfl | (simp only [zL, two63, room] <;> omega) | fail) only [↓reduceIte, ↓zP, zW, WOp, evOp, evBin, binI, binSh, binS, evNil, keyIs, keyEq, mkv, AV.cells, AV.sc, optv, bnd, env, put, Env.get, Env.set, Env.del, Env.dels, Env.init, res1, resL, resV, fillP, splice, newRow, Nat.reduceEqDiff, Nat.reduceLT, Nat.reduceLeDiff, Nat.reduceAdd, Nat.reduceMul, Nat.reduceSub, Nat.reduceBEq, reduceCtorEq, ↓zR, zQ, Tr, StA, StT]
    refine ih h1 (by simpa using hs.pre hp1) (by simp; omega) (by omega) (by omega) (hp.trans hp1) ?_
    rw [show q + 1 + d = q + (d + 1) by omega]
    exact hR
theorem c_heldStringS {h : AH} {v : AV} (q : Nat) (n : Nat) (hn : n < 2 ^ 30) (hq : 1 ≤ q ∧ q < 2 ^ 30) (hs : Slc 1 encS h v (mtL q n)) {post : AV → AH → Prop} (hp : ∀ h', Pre h h' → post (.int .i64 ((q + n : Nat) : Int)) h') : S 47 [v, .int .i64 q] h post k := by
  refine S_of rfl T47 ?_; unfold fi47
  simp (maxSteps := 1000000) (disch := first | omega | rfl | (simp only [zL, two63, room] <;> omega) | fail) only [↓reduceIte, ↓zP, zW, WOp, evOp, evBin, binI, binSh, binS, evNil, keyIs, keyEq, mkv, AV.cells, AV.sc, optv, bnd, env, put, Env.get, Env.set, Env.del, Env.dels, Env.init, res1, resL, resV, fillP, splice, newRow, Nat.reduceEqDiff, Nat.reduceLT, Nat.reduceLeDiff, Nat.reduceAdd, Nat.reduceMul, Nat.reduceSub, Nat.reduceBEq, reduceCtorEq, ↓zR, zQ, Tr, StA, StT]
  refine lp_heldStringS (b := h) hn n [] q h hs (by simp) hq.1 (by omega) (Pre.refl _) ?_
  intro h' hp'
  simp (maxSteps := 1000000) (disch := first | omega | rfl | (simp only [zL, two63, room] <;> omega) | fail) only [↓reduceIte, ↓zP, zW, WOp, evOp, evBin, binI, binSh, binS, evNil, keyIs, keyEq, mkv, AV.cells, AV.sc, optv, bnd, env, put, Env.get, Env.set, Env.del, Env.dels, Env.init, res1, resL, resV, fillP, splice, newRow, Nat.reduceEqDiff, Nat.reduceLT, Nat.reduceLeDiff, Nat.reduceAdd, Nat.reduceMul, Nat.reduceSub, Nat.reduceBEq, reduceCtorEq, ↓zR, zQ, Tr, StA, StT]
  exact hp h' hp'

theorem solP_len (n : Int) (cs : List Clu) : (solP n cs).length ≤ 243 := by
  unfold solP
  cases e : goodP n cs
  · simp
  · obtain ⟨m, rfl, m1, m5, _⟩ := goodP_iff e
    have h1 := List.length_filter_le (fun w => cs.all fun c => fitB c w) (allL m)
    have h2 := allL_length m
    have h3 : 3 ^ m ≤ 3 ^ 5 := Nat.pow_le_pow_right (by omega) m5
    have h4 : (solN (m : Int) cs).length ≤ (allL m).length := h1
    simp only [if_true]
    omega
end Go.Proofs.Ytcflenomogpdbaa.Ab

/- HALFWAY: what both sides answer, and the law. -/
namespace Go.Proofs.Ytcflenomogpdbaa.Ab
open Go
set_option maxRecDepth 100000
set_option maxHeartbeats 4000000

def hfL (t g f : Int) : List Ln := lyL (lnL (lnF t.toNat g.toNat f.toNat)) (lnF t.toNat g.toNat f.toNat) ((exN t g f).toNat / 2)
theorem ex_ok {t g f : Int} (h : exB t g f = true) : ∃ a b c : Nat, t = a ∧ g = b ∧ f = c ∧ 1 ≤ a + b + c ∧ a + b + c ≤ 8 ∧ exN t g f = ((b * (a + c) + a * c : Nat) : Int) ∧ lnL (lnF a b c) ∈ lay (lnF a b c) (b * (a + c) + a * c) := by
  have h' := h
  unfold exB at h'
  simp only [Bool.and_eq_true, decide_eq_true_eq] at h'
  obtain ⟨h1, h2⟩ := h'
  obtain ⟨k1, k2, k3, k4, k5⟩ := nmB_iff h1
  refine ⟨t.toNat, g.toNat, f.toNat, by omega, by omega, by omega, by omega, by omega, ?_, ?_⟩
  · unfold exN
    rw [if_pos h]
    have e1 : ((t.toNat : Nat) : Int) = t := by omega
    have e2 : ((g.toNat : Nat) : Int) = g := by omega
    have e3 : ((f.toNat : Nat) : Int) = f := by omega
    push_cast
    rw [e1, e2, e3]
  · have hx := exch t.toNat g.toNat f.toNat (by omega) (by omega) (by omega)
    obtain ⟨c1, c2, c3, _⟩ := lnF_count t.toNat g.toNat f.toNat
    have e : lnL (lnF t.toNat g.toNat f.toNat) = List.replicate f.toNat 70 ++ List.replicate g.toNat 46 ++ List.replicate t.toNat 84 := by
      unfold lnL
      rw [c1, c2, c3]
    rw [e]
    exact hx
theorem nm_le {a b c : Nat} (h : a + b + c ≤ 8) : b * (a + c) + a * c ≤ 100 := by
  have h1 : b * (a + c) ≤ 8 * 8 := Nat.mul_le_mul (by omega) (by omega)
  have h2 : a * c ≤ 4 * 8 := by
    by_cases ha : a ≤ 4
    · exact Nat.mul_le_mul ha (by omega)
    · have := Nat.mul_le_mul (show a ≤ 8 by omega) (show c ≤ 4 by omega); omega
  omega
theorem c_half (t g f : Int) {h : AH} {post : AV → AH → Prop} (hp0 : exB t g f = false → post (.tup [.nilS, .bool false]) h) (hp1 : exB t g f = true → ∀ v' h', OwL 1 encS h h' v' (hfL t g f) → Pre h h' → post (.tup [v', .bool true]) h') : S 311 [.int .i64 t, .int .i64 g, .int .i64 f] h post k := by
  cases e : exB t g f
  · refine S_extZ (d := dHalf) (ra := 6) (rb := 7) (q := (0, false, [])) rfl ?_ (by exact hp0 e)
    unfold dHalf
    simp only [dW, toCx]
    simp (maxSteps := 1000000) (disch := first | omega | rfl | (simp only [zL, two63, room] <;> omega) | fail) only [↓reduceIte, ↓zP, zW, WOp, evOp, evBin, binI, binSh, binS, evNil, keyIs, keyEq, mkv, AV.cells, AV.sc, optv, bnd, env, put, Env.get, Env.set, Env.del, Env.dels, Env.init, res1, resL, resV, fillP, splice, newRow, Nat.reduceEqDiff, Nat.reduceLT, Nat.reduceLeDiff, Nat.reduceAdd, Nat.reduceMul, Nat.reduceSub, Nat.reduceBEq, reduceCtorEq, ↓zR, zQ, Tr, StA, StT, e_exLen, e]
    exact ⟨rfl, rfl, fun _ _ => rfl, .inl ⟨rfl, rfl, rfl⟩⟩
  obtain ⟨a, b, c, rfl, rfl, rfl, h1, h8, hN, hx⟩ := ex_ok e
  have hn100 := nm_le h8
  unfold hfL at hp1
  rw [hN] at hp1
  simp only [Int.toNat_natCast] at hp1
  have hpos := (cE_iff _ _).2 ⟨_, hx⟩
  have hne : lyL (lnL (lnF a b c)) (lnF a b c) ((b * (a + c) + a * c) / 2) ≠ [] := by
    intro h0
    have h2 := lv_ne hx (i := (b * (a + c) + a * c) / 2) (by omega)
    obtain ⟨v, hv⟩ := List.exists_mem_of_ne_nil _ h2
    have := (lyL_mem.2 ((lv_mem hpos _ v).1 hv))
    rw [h0] at this; simp at this
  have hlen := (lnF_count a b c).2.2.2
  have hsg := lnF_signs a b c
  generalize hL : lyL (lnL (lnF a b c)) (lnF a b c) ((b * (a + c) + a * c) / 2) = L at *
  generalize b * (a + c) + a * c = n at *
  have main : dW (WC T E) dHalf (Env.init 0 [.int .i64 (a : Int), .int .i64 (b : Int), .int .i64 (c : Int)]) h (FinR 6 7 h (2, true, L)) := by
    unfold dHalf
    simp only [dW, toCx]
    simp (maxSteps := 1000000) (disch := first | omega | rfl | (simp only [zL, two63, room] <;> omega) | fail) only [↓reduceIte, ↓zP, zW, WOp, evOp, evBin, binI, binSh, binS, evNil, keyIs, keyEq, mkv, AV.cells, AV.sc, optv, bnd, env, put, Env.get, Env.set, Env.del, Env.dels, Env.init, res1, resL, resV, fillP, splice, newRow, Nat.reduceEqDiff, Nat.reduceLT, Nat.reduceLeDiff, Nat.reduceAdd, Nat.reduceMul, Nat.reduceSub, Nat.reduceBEq, reduceCtorEq, ↓zR, zQ, Tr, StA, StT, e_exLen, e, hN]
    unfold dHalfM
    simp only [dW, toCx]
    simp (maxSteps := 1000000) (disch := first | omega | rfl | (simp only [zL, two63, room] <;> omega) | fail) only [↓reduceIte, ↓zP, zW, WOp, evOp, evBin, binI, binSh, binS, evNil, keyIs, keyEq, mkv, AV.cells, AV.sc, optv, bnd, env, put, Env.get, Env.set, Env.del, Env.dels, Env.init, res1, resL, resV, fillP, splice, newRow, Nat.reduceEqDiff, Nat.reduceLT, Nat.reduceLeDiff, Nat.reduceAdd, Nat.reduceMul, Nat.reduceSub, Nat.reduceBEq, reduceCtorEq, ↓zR, zQ, Tr, StA, StT]
    refine c_liveLines a b c ⟨h1, h8⟩ hpos ?_
    intro co h1' es hb hm hc1 hp1'
    unfold MapIs at hm
    simp (maxSteps := 1000000) (disch := first | omega | rfl | (simp only [zL, two63, room] <;> omega) | fail) only [↓reduceIte, ↓zP, zW, WOp, evOp, evBin, binI, binSh, binS, evNil, keyIs, keyEq, mkv, AV.cells, AV.sc, optv, bnd, env, put, Env.get, Env.set, Env.del, Env.dels, Env.init, res1, resL, resV, fillP, splice, newRow, Nat.reduceEqDiff, Nat.reduceLT, Nat.reduceLeDiff, Nat.reduceAdd, Nat.reduceMul, Nat.reduceSub, Nat.reduceBEq, reduceCtorEq, ↓zR, zQ, Tr, StA, StT, hm]
    have hel := hb.bi.len hsg (by omega)
    have hcl := (List.getElem?_eq_some_iff.1 hm).1
    have hpm := Pre.push h1' (AO.mit co (es.map encE).length [])
    have m1 : (h1' ++ [AO.mit co (es.map encE).length []])[h1'.length]? = some (.mit co (es.map encE).length []) := by simp
    have m2 : (h1' ++ [AO.mit co (es.map encE).length []])[co]? = some (.map (es.map encE)) := by rw [hpm.2 co hcl]; exact hm
    refine ⟨es.length + 1, dl_half (w := lnF a b c) (by omega) hb.bi hel (n := n) (by omega) (b := h) (c := co) (ci := h1'.length) hp1'.1 es.length [] .empS _ (by simp) List.nodup_nil (by simp) m1 m2 OwL.emp (.inl rfl) (hp1'.trans hpm) ?_⟩
    intro seen o h3 hnd hall ho hsh hp3
    have hsel : (sel (fun _ d => d == n / 2) es seen).mergeSort (fun x y => decide (x ≤ y)) = L := sort_eq (sel_nodup hb.nd hnd) (by rw [← hL]; exact lyL_srt _ _ _) fun v => by
      rw [sel_mem hall, ← hL, lyL_mem]
      constructor
      · rintro ⟨d, h1, h2⟩
        rw [beq_iff_eq] at h2
        subst h2
        exact (hb.mem v _).1 h1
      · intro h1; exact ⟨n / 2, (hb.mem v _).2 h1, by simp⟩
    simp only [inBlk, ↓reduceIte, then_normal]
    try simp only [toCx]
    unfold dHalfT
    have hlen2 : (sel (fun _ d => d == n / 2) es seen).length ≤ 59049 := by
      have hk : (sel (fun _ d => d == n / 2) es seen).Nodup := sel_nodup hb.nd hnd
      have hsub : ∀ v ∈ sel (fun _ d => d == n / 2) es seen, v ∈ keys es := fun v hv => by
        obtain ⟨d, hd, _⟩ := (sel_mem hall v).1 hv
        exact mem_keys.2 ⟨d, hd⟩
      have := hk.length_le_of_subset (fun v hv => hsub v hv)
      rw [keys_len] at this
      omega
    have hnes : sel (fun _ d => d == n / 2) es seen ≠ [] := by
      intro h0
      rw [h0] at hsel
      exact hne (by rw [← hsel]; simp)
    rcases hsh with rfl | ⟨_, r, kk, off, m, rfl⟩
    · have hnil : sel (fun _ d => d == n / 2) es seen = [] := by
        unfold OwL Own at ho
        exact List.eq_nil_of_length_eq_zero ho.1
      exact absurd hnil hnes
    · obtain ⟨h4, cells, fl, hx, g1, g2, g3, g4, g5, g6, g7, g8⟩ := sort_own ho hnes hlen2
      rw [hsel] at g6
      have hll : L.length = (sel (fun _ d => d == n / 2) es seen).length := by rw [← hsel]; exact List.length_mergeSort _
      simp (maxSteps := 1000000) (disch := first | omega | rfl | (simp only [zL, two63, room] <;> omega) | fail) only [↓reduceIte, ↓zP, zW, WOp, evOp, evBin, binI, binSh, binS, evNil, keyIs, keyEq, mkv, AV.cells, AV.sc, optv, bnd, env, put, Env.get, Env.set, Env.del, Env.dels, Env.init, res1, resL, resV, fillP, splice, newRow, Nat.reduceEqDiff, Nat.reduceLT, Nat.reduceLeDiff, Nat.reduceAdd, Nat.reduceMul, Nat.reduceSub, Nat.reduceBEq, reduceCtorEq, ↓zR, zQ, Tr, StA, StT]
      refine S_extY (G := xSortS) rfl hx ?_
      simp (maxSteps := 1000000) (disch := first | omega | rfl | (simp only [zL, two63, room] <;> omega) | fail) only [↓reduceIte, ↓zP, zW, WOp, evOp, evBin, binI, binSh, binS, evNil, keyIs, keyEq, mkv, AV.cells, AV.sc, optv, bnd, env, put, Env.get, Env.set, Env.del, Env.dels, Env.init, res1, resL, resV, fillP, splice, newRow, Nat.reduceEqDiff, Nat.reduceLT, Nat.reduceLeDiff, Nat.reduceAdd, Nat.reduceMul, Nat.reduceSub, Nat.reduceBEq, reduceCtorEq, ↓zR, zQ, Tr, StA, StT]
      refine ⟨rfl, rfl, fun i hi => ?_, .inr (.inr ⟨rfl, r, kk, off, m, cells, fl, rfl, g1, g2, g3, by rw [g4]; exact hll.symm, ?_, g5, g6⟩)⟩
      · rw [g8 i (by omega)]; exact hp3.2 i hi
      · rw [g4, ← hll]
        cases L with
        | nil => exact absurd rfl hne
        | cons _ _ => simp
  refine S_extZ (d := dHalf) (ra := 6) (rb := 7) (q := (2, true, L)) rfl main ?_
  show post (.tup [.slice h.length 0 0 L.length 1, .bool true]) (h ++ [.row (L.map AV.str) 0 0 false])
  refine hp1 e _ _ ?_ (Pre.push _ _)
  unfold OwL Own
  refine ⟨rfl, rfl, (flat_len hlS L).symm, Nat.le_refl _, L.map AV.str, 0, by simp, Nat.le_refl _, by rw [List.length_map]; omega, ?_⟩
  rw [List.drop_zero, flat_strs]

/-! ### The reference -/
theorem lp_sh1 {x : Ln} {v tl : AV} {L : List Ln} {h : AH} (hs : Slc 1 encS h v L) (ho : Srt L) (hL : L.length < 2 ^ 30) {t36 t37 : AV} {R : X → Env → AH → Prop} : ∀ (d i : Nat), i + d = lowB x L → R (.exit 2) [(11, v), (13, .str x), (14, .int .i64 (lowB x L)), (35, tl), (36, t36), (37, t37)] h →
    Cx (.loop lp310_1) [(11, v), (13, .str x), (14, .int .i64 i), (35, tl), (36, t36), (37, t37)] h R k k
  | 0, i, hi, hR => by
    obtain rfl : i = lowB x L := by omega
    have hle := lowB_le x L
    have hv := fun g => Slc.lenV (hs) (g := g) (ρ := fun _ => _) (x := .t 0) rfl; simp only [evOp] at hv
    rw [w_loopb (c := lp310_1) (d := lb310_1) rfl]; unfold lb310_1
    by_cases hlt : lowB x L < L.length
    · obtain ⟨c, kk, off, rfl, hr⟩ := hs.get hlS hlt
      have hltI : (lowB x L : Int) < (L.length : Int) := by omega
      have hr' : rdRow h c kk (off + lowB x L * 1) 1 = some [.str (L[lowB x L])] := hr
      have hb : Op.bytesLess (L[lowB x L]) x = false := by
        rw [bl_eq, decide_eq_false_iff_not]
        intro hh
        have := (low_iff x ho (lowB x L) _ (List.getElem?_eq_getElem hlt)).1 hh
        omega
      simp (maxSteps := 1000000) (disch := first | omega | rfl | (simp only [zL, two63, room] <;> omega) | fail) only [↓reduceIte, ↓zP, zW, WOp, evOp, evBin, binI, binSh, binS, evNil, keyIs, keyEq, mkv, AV.cells, AV.sc, optv, bnd, env, put, Env.get, Env.set, Env.del, Env.dels, Env.init, res1, resL, resV, fillP, splice, newRow, Nat.reduceEqDiff, Nat.reduceLT, Nat.reduceLeDiff, Nat.reduceAdd, Nat.reduceMul, Nat.reduceSub, Nat.reduceBEq, reduceCtorEq, ↓zR, zQ, Tr, StA, StT, hv, hltI, hr', hb]
      exact hR
    · have hltI : ¬ (lowB x L : Int) < (L.length : Int) := by omega
      simp (maxSteps := 1000000) (disch := first | omega | rfl | (simp only [zL, two63, room] <;> omega) | fail) only [↓reduceIte, ↓zP, zW, WOp, evOp, evBin, binI, binSh, binS, evNil, keyIs, keyEq, mkv, AV.cells, AV.sc, optv, bnd, env, put, Env.get, Env.set, Env.del, Env.dels, Env.init, res1, resL, resV, fillP, splice, newRow, Nat.reduceEqDiff, Nat.reduceLT, Nat.reduceLeDiff, Nat.reduceAdd, Nat.reduceMul, Nat.reduceSub, Nat.reduceBEq, reduceCtorEq, ↓zR, zQ, Tr, StA, StT, hv, hltI]
      exact hR
  | d + 1, i, hi, hR => by
    have ih := lp_sh1 hs ho hL (x := x) (tl := tl) (t36 := t36) (t37 := t37) (R := R) d (i + 1) (by omega) hR
    have hle := lowB_le x L
    have hlt : i < L.length := by omega
    obtain ⟨c, kk, off, rfl, hr⟩ := hs.get hlS hlt
    have hltI : (i : Int) < (L.length : Int) := by omega
    have hr' : rdRow h c kk (off + i * 1) 1 = some [.str (L[i])] := hr
    have hb : Op.bytesLess (L[i]) x = true := by
      rw [bl_eq, decide_eq_true_iff]
      exact (low_iff x ho i _ (List.getElem?_eq_getElem hlt)).2 (by omega)
    have hw1 : (i : Int) + 1 = ((i + 1 : Nat) : Int) := by omega
    have hv := fun g => Slc.lenV (hs) (g := g) (ρ := fun _ => _) (x := .t 0) rfl; simp only [evOp] at hv
    rw [w_loopb (c := lp310_1) (d := lb310_1) rfl]; unfold lb310_1
    simp (maxSteps := 1000000) (disch := first | omega | rfl | (simp only [zL, two63, room] <;> omega) | fail) only [↓reduceIte, ↓zP, zW, WOp, evOp, evBin, binI, binSh, binS, evNil, keyIs, keyEq, mkv, AV.cells, AV.sc, optv, bnd, env, put, Env.get, Env.set, Env.del, Env.dels, Env.init, res1, resL, resV, fillP, splice, newRow, Nat.reduceEqDiff, Nat.reduceLT, Nat.reduceLeDiff, Nat.reduceAdd, Nat.reduceMul, Nat.reduceSub, Nat.reduceBEq, reduceCtorEq, ↓zR, zQ, Tr, StA, StT, hv, hltI, hr', hb, hw1]
    rw [w_loopn (c := lp310_1) rfl]
    simp (maxSteps := 1000000) (disch := first | omega | rfl | (simp only [zL, two63, room] <;> omega) | fail) only [↓reduceIte, ↓zP, zW, WOp, evOp, evBin, binI, binSh, binS, evNil, keyIs, keyEq, mkv, AV.cells, AV.sc, optv, bnd, env, put, Env.get, Env.set, Env.del, Env.dels, Env.init, res1, resL, resV, fillP, splice, newRow, Nat.reduceEqDiff, Nat.reduceLT, Nat.reduceLeDiff, Nat.reduceAdd, Nat.reduceMul, Nat.reduceSub, Nat.reduceBEq, reduceCtorEq, ↓zR, zQ, Tr, StA, StT]
    exact ih
theorem lp_sh0 {W : List Ln} (hW : W.Nodup) (hWl : W.length ≤ 6561) {tl : AV} {h0 : AH} (hsl : Slc 1 encS h0 tl W) {R : X → Env → AH → Prop} :
    ∀ (rest pre : List Ln) (A : List Ln) (v : AV) (h : AH), W = pre ++ rest → A = addS pre [] → A.length = pre.length → Slc 1 encS h v A → Pre h0 h →
    (∀ v' h', Slc 1 encS h' v' (addS W []) → Pre h0 h' → R (.exit 0) [(11, v')] h') →
    Cx (.loop lp310_0) [(11, v), (35, tl), (36, .int .i64 W.length), (37, .int .i64 pre.length)] h R k k
  | [], pre, A, v, h, hpre, hA, hAl, hs, hp, hR => by
    have hl : W.length = pre.length := by rw [hpre]; simp
    have e : A = addS W [] := by rw [hA, hpre, List.append_nil]
    rw [w_loopb (c := lp310_0) (d := lb310_0) rfl]; unfold lb310_0
    rw [hl]
    simp (maxSteps := 1000000) (disch := first | omega | rfl | (simp only [zL, two63, room] <;> omega) | fail) only [↓reduceIte, ↓zP, zW, WOp, evOp, evBin, binI, binSh, binS, evNil, keyIs, keyEq, mkv, AV.cells, AV.sc, optv, bnd, env, put, Env.get, Env.set, Env.del, Env.dels, Env.init, res1, resL, resV, fillP, splice, newRow, Nat.reduceEqDiff, Nat.reduceLT, Nat.reduceLeDiff, Nat.reduceAdd, Nat.reduceMul, Nat.reduceSub, Nat.reduceBEq, reduceCtorEq, ↓zR, zQ, Tr, StA, StT]
    exact hR v h (by rw [← e]; exact hs) hp
  | x :: rest, pre, A, v, h, hpre, hA, hAl, hs, hp, hR => by
    have ih := lp_sh0 hW hWl hsl (R := R) rest (pre ++ [x])
    have hml : W.length = pre.length + 1 + rest.length := by rw [hpre]; simp; omega
    have hsl' := hsl.pre hp
    rw [hpre] at hsl'
    obtain ⟨r1, k1, o1, hv1, hr⟩ := hsl'.at hlS
    rw [← hpre, hml] at hv1
    subst hv1
    rw [hml] at ih hWl ⊢
    have hlt : (pre.length : Int) < ((pre.length + 1 + rest.length : Nat) : Int) := by omega
    have hw1 : (pre.length : Int) + 1 = ((pre ++ [x]).length : Int) := by simp
    have hsrt : Srt A := by rw [hA]; exact addS_srt _ List.Pairwise.nil
    have hxA : x ∉ A := by
      rw [hA, addS_mem]
      rw [hpre, List.nodup_append] at hW
      rintro (h1 | h1)
      · exact hW.2.2 x h1 x (by simp) rfl
      · simp at h1
    have hins : insS x A = A.take (lowB x A) ++ x :: A.drop (lowB x A) := by
      rw [insS_low, if_neg]
      intro hh
      exact hxA (List.mem_of_getElem? hh)
    have hA1 : insS x A = addS (pre ++ [x]) [] := by rw [addS_app, ← hA]; rfl
    have hlow := lowB_le x A
    have hAl1 : (insS x A).length = (pre ++ [x]).length := by rw [hins]; simp; omega
    have zz : (0 : Int) = ((0 : Nat) : Int) := rfl
    rw [w_loopb (c := lp310_0) (d := lb310_0) rfl]; unfold lb310_0
    simp (maxSteps := 1000000) (disch := first | omega | rfl | (simp only [zL, two63, room] <;> omega) | fail) only [↓reduceIte, ↓zP, zW, WOp, evOp, evBin, binI, binSh, binS, evNil, keyIs, keyEq, mkv, AV.cells, AV.sc, optv, bnd, env, put, Env.get, Env.set, Env.del, Env.dels, Env.init, res1, resL, resV, fillP, splice, newRow, Nat.reduceEqDiff, Nat.reduceLT, Nat.reduceLeDiff, Nat.reduceAdd, Nat.reduceMul, Nat.reduceSub, Nat.reduceBEq, reduceCtorEq, ↓zR, zQ, Tr, StA, StT, hlt, hr]
    rw [zz]
    refine lp_sh1 hs hsrt (by omega) (lowB x A) 0 (by omega) ?_
    have tail : ∀ (sv : AV), Slc 1 encS h sv (A.take (lowB x A)) → ∀ post : AV → AH → Prop, (∀ v2 h2, OwL 1 encS h h2 v2 (A.take (lowB x A)) → Pre h h2 → post v2 h2) → S 206 [sv] h post k := fun sv hsv post hpo => c_l1OwnS hsv (by simp; omega) hpo
    have hln1 : (A.take (lowB x A)).length = lowB x A := by rw [List.length_take]; omega
    have hln3 : (A.drop (lowB x A)).length = A.length - lowB x A := by rw [List.length_drop]
    have fin : ∀ v' h', Slc 1 encS h' v' (insS x A) → Pre h h' → Cx (.loop lp310_0) [(11, v'), (35, .slice r1 k1 o1 (pre.length + 1 + rest.length) 1), (36, .int .i64 ((pre.length + 1 + rest.length : Nat) : Int)), (37, .int .i64 ((pre ++ [x]).length : Nat))] h' R k k := fun v' h' q1 q2 =>
      ih (insS x A) v' h' (by rw [hpre]; simp) hA1 hAl1 q1 (hp.trans q2) hR
    rcases hs.cases with ⟨rfl, hAn⟩ | ⟨rfl, hAn⟩ | ⟨c, kk, off, hv⟩
    · have hz : lowB x A = 0 := by rw [hAn]; rfl
      rw [hz] at tail ⊢
      simp (maxSteps := 1000000) (disch := first | omega | rfl | (simp only [zL, two63, room] <;> omega) | fail) only [↓reduceIte, ↓zP, zW, WOp, evOp, evBin, binI, binSh, binS, evNil, keyIs, keyEq, mkv, AV.cells, AV.sc, optv, bnd, env, put, Env.get, Env.set, Env.del, Env.dels, Env.init, res1, resL, resV, fillP, splice, newRow, Nat.reduceEqDiff, Nat.reduceLT, Nat.reduceLeDiff, Nat.reduceAdd, Nat.reduceMul, Nat.reduceSub, Nat.reduceBEq, reduceCtorEq, ↓zR, zQ, Tr, StA, StT]
      refine tail .nilS (by rw [hAn]; exact ⟨rfl, rfl⟩) _ ?_
      intro v2 h2 ho2 hp2
      have hpx := Pre.push h2 (AO.row [.str x] 0 0 false)
      obtain ⟨v3, h3, ha3, ho3, hp3⟩ := apL hlS scS (ho2.pre hpx) (hp2.trans hpx) x (by rw [hAn]; simp)
      obtain ⟨v4, h4, ha4, ho4, hp4⟩ := apM hlS scS ho3 hp3 [] (by rw [hAn]; simp)
      simp only [List.flatMap_nil, List.length_nil] at ha4
      simp (maxSteps := 1000000) (disch := first | omega | rfl | (simp only [zL, two63, room] <;> omega) | fail) only [↓reduceIte, ↓zP, zW, WOp, evOp, evBin, binI, binSh, binS, evNil, keyIs, keyEq, mkv, AV.cells, AV.sc, optv, bnd, env, put, Env.get, Env.set, Env.del, Env.dels, Env.init, res1, resL, resV, fillP, splice, newRow, Nat.reduceEqDiff, Nat.reduceLT, Nat.reduceLeDiff, Nat.reduceAdd, Nat.reduceMul, Nat.reduceSub, Nat.reduceBEq, reduceCtorEq, ↓zR, zQ, Tr, StA, StT, ha3, ha4]
      simp (maxSteps := 1000000) (disch := first | omega | rfl | (simp only [zL, two63, room] <;> omega) | fail) only [↓reduceIte, ↓zP, zW, WOp, evOp, evBin, binI, binSh, binS, evNil, keyIs, keyEq, mkv, AV.cells, AV.sc, optv, bnd, env, put, Env.get, Env.set, Env.del, Env.dels, Env.init, res1, resL, resV, fillP, splice, newRow, Nat.reduceEqDiff, Nat.reduceLT, Nat.reduceLeDiff, Nat.reduceAdd, Nat.reduceMul, Nat.reduceSub, Nat.reduceBEq, reduceCtorEq, ↓zR, zQ, Tr, StA, StT, hw1]
      rw [w_loopn (c := lp310_0) rfl]
      simp (maxSteps := 1000000) (disch := first | omega | rfl | (simp only [zL, two63, room] <;> omega) | fail) only [↓reduceIte, ↓zP, zW, WOp, evOp, evBin, binI, binSh, binS, evNil, keyIs, keyEq, mkv, AV.cells, AV.sc, optv, bnd, env, put, Env.get, Env.set, Env.del, Env.dels, Env.init, res1, resL, resV, fillP, splice, newRow, Nat.reduceEqDiff, Nat.reduceLT, Nat.reduceLeDiff, Nat.reduceAdd, Nat.reduceMul, Nat.reduceSub, Nat.reduceBEq, reduceCtorEq, ↓zR, zQ, Tr, StA, StT]
      refine fin v4 h4 ?_ hp4
      rw [hins, hz]
      rw [hAn] at ho4 ⊢
      simpa using ho4.slc
    · have hz : lowB x A = 0 := by rw [hAn]; rfl
      rw [hz] at tail ⊢
      simp (maxSteps := 1000000) (disch := first | omega | rfl | (simp only [zL, two63, room] <;> omega) | fail) only [↓reduceIte, ↓zP, zW, WOp, evOp, evBin, binI, binSh, binS, evNil, keyIs, keyEq, mkv, AV.cells, AV.sc, optv, bnd, env, put, Env.get, Env.set, Env.del, Env.dels, Env.init, res1, resL, resV, fillP, splice, newRow, Nat.reduceEqDiff, Nat.reduceLT, Nat.reduceLeDiff, Nat.reduceAdd, Nat.reduceMul, Nat.reduceSub, Nat.reduceBEq, reduceCtorEq, ↓zR, zQ, Tr, StA, StT]
      refine tail .empS (by rw [hAn]; exact ⟨rfl, rfl⟩) _ ?_
      intro v2 h2 ho2 hp2
      have hpx := Pre.push h2 (AO.row [.str x] 0 0 false)
      obtain ⟨v3, h3, ha3, ho3, hp3⟩ := apL hlS scS (ho2.pre hpx) (hp2.trans hpx) x (by rw [hAn]; simp)
      obtain ⟨v4, h4, ha4, ho4, hp4⟩ := apM hlS scS ho3 hp3 [] (by rw [hAn]; simp)
      simp only [List.flatMap_nil, List.length_nil] at ha4
      simp (maxSteps := 1000000) (disch := first | omega | rfl | (simp only [zL, two63, room] <;> omega) | fail) only [↓reduceIte, ↓zP, zW, WOp, evOp, evBin, binI, binSh, binS, evNil, keyIs, keyEq, mkv, AV.cells, AV.sc, optv, bnd, env, put, Env.get, Env.set, Env.del, Env.dels, Env.init, res1, resL, resV, fillP, splice, newRow, Nat.reduceEqDiff, Nat.reduceLT, Nat.reduceLeDiff, Nat.reduceAdd, Nat.reduceMul, Nat.reduceSub, Nat.reduceBEq, reduceCtorEq, ↓zR, zQ, Tr, StA, StT, ha3, ha4]
      simp (maxSteps := 1000000) (disch := first | omega | rfl | (simp only [zL, two63, room] <;> omega) | fail) only [↓reduceIte, ↓zP, zW, WOp, evOp, evBin, binI, binSh, binS, evNil, keyIs, keyEq, mkv, AV.cells, AV.sc, optv, bnd, env, put, Env.get, Env.set, Env.del, Env.dels, Env.init, res1, resL, resV, fillP, splice, newRow, Nat.reduceEqDiff, Nat.reduceLT, Nat.reduceLeDiff, Nat.reduceAdd, Nat.reduceMul, Nat.reduceSub, Nat.reduceBEq, reduceCtorEq, ↓zR, zQ, Tr, StA, StT, hw1]
      rw [w_loopn (c := lp310_0) rfl]
      simp (maxSteps := 1000000) (disch := first | omega | rfl | (simp only [zL, two63, room] <;> omega) | fail) only [↓reduceIte, ↓zP, zW, WOp, evOp, evBin, binI, binSh, binS, evNil, keyIs, keyEq, mkv, AV.cells, AV.sc, optv, bnd, env, put, Env.get, Env.set, Env.del, Env.dels, Env.init, res1, resL, resV, fillP, splice, newRow, Nat.reduceEqDiff, Nat.reduceLT, Nat.reduceLeDiff, Nat.reduceAdd, Nat.reduceMul, Nat.reduceSub, Nat.reduceBEq, reduceCtorEq, ↓zR, zQ, Tr, StA, StT]
      refine fin v4 h4 ?_ hp4
      rw [hins, hz]
      rw [hAn] at ho4 ⊢
      simpa using ho4.slc
    · subst hv
      have hs2 : Slc 1 encS h (.slice c kk off A.length 1) (A.take (lowB x A) ++ A.drop (lowB x A)) := by rw [List.take_append_drop]; exact hs
      have hr1 := hs2.ahead hlS
      have hrb := hs2.behind hlS
      rw [hln1] at hr1 hrb
      rw [hln3] at hrb
      have hb1 : (lowB x A : Int) ≤ (A.length : Int) := by omega
      have hsv : Slc 1 encS h (.slice c kk (off + 0) (lowB x A - 0) 1) (A.take (lowB x A)) := by
        unfold Slc Sl
        refine ⟨rfl, by rw [hln1]; rfl, (flat_len hlS _).symm, ?_⟩
        rw [hln1]
        simpa using hr1
      simp (maxSteps := 1000000) (disch := first | omega | rfl | (simp only [zL, two63, room] <;> omega) | fail) only [↓reduceIte, ↓zP, zW, WOp, evOp, evBin, binI, binSh, binS, evNil, keyIs, keyEq, mkv, AV.cells, AV.sc, optv, bnd, env, put, Env.get, Env.set, Env.del, Env.dels, Env.init, res1, resL, resV, fillP, splice, newRow, Nat.reduceEqDiff, Nat.reduceLT, Nat.reduceLeDiff, Nat.reduceAdd, Nat.reduceMul, Nat.reduceSub, Nat.reduceBEq, reduceCtorEq, ↓zR, zQ, Tr, StA, StT, hb1, Nat.add_zero, Nat.sub_zero, Nat.zero_mul]
      refine tail _ (by simpa using hsv) _ ?_
      intro v2 h2 ho2 hp2
      have hpx := Pre.push h2 (AO.row [.str x] 0 0 false)
      obtain ⟨v3, h3, ha3, ho3, hp3⟩ := apL hlS scS (ho2.pre hpx) (hp2.trans hpx) x (by rw [hln1]; omega)
      obtain ⟨v4, h4, ha4, ho4, hp4⟩ := apM hlS scS ho3 hp3 (A.drop (lowB x A)) (by simp; omega)
      rw [hln3] at ha4
      have hr3 := rdRow_pre hp3 hrb
      simp (maxSteps := 1000000) (disch := first | omega | rfl | (simp only [zL, two63, room] <;> omega) | fail) only [↓reduceIte, ↓zP, zW, WOp, evOp, evBin, binI, binSh, binS, evNil, keyIs, keyEq, mkv, AV.cells, AV.sc, optv, bnd, env, put, Env.get, Env.set, Env.del, Env.dels, Env.init, res1, resL, resV, fillP, splice, newRow, Nat.reduceEqDiff, Nat.reduceLT, Nat.reduceLeDiff, Nat.reduceAdd, Nat.reduceMul, Nat.reduceSub, Nat.reduceBEq, reduceCtorEq, ↓zR, zQ, Tr, StA, StT, ha3, hb1, hr3, ha4, Nat.add_zero, Nat.sub_zero, Nat.zero_mul]
      simp (maxSteps := 1000000) (disch := first | omega | rfl | (simp only [zL, two63, room] <;> omega) | fail) only [↓reduceIte, ↓zP, zW, WOp, evOp, evBin, binI, binSh, binS, evNil, keyIs, keyEq, mkv, AV.cells, AV.sc, optv, bnd, env, put, Env.get, Env.set, Env.del, Env.dels, Env.init, res1, resL, resV, fillP, splice, newRow, Nat.reduceEqDiff, Nat.reduceLT, Nat.reduceLeDiff, Nat.reduceAdd, Nat.reduceMul, Nat.reduceSub, Nat.reduceBEq, reduceCtorEq, ↓zR, zQ, Tr, StA, StT, hw1]
      rw [w_loopn (c := lp310_0) rfl]
      simp (maxSteps := 1000000) (disch := first | omega | rfl | (simp only [zL, two63, room] <;> omega) | fail) only [↓reduceIte, ↓zP, zW, WOp, evOp, evBin, binI, binSh, binS, evNil, keyIs, keyEq, mkv, AV.cells, AV.sc, optv, bnd, env, put, Env.get, Env.set, Env.del, Env.dels, Env.init, res1, resL, resV, fillP, splice, newRow, Nat.reduceEqDiff, Nat.reduceLT, Nat.reduceLeDiff, Nat.reduceAdd, Nat.reduceMul, Nat.reduceSub, Nat.reduceBEq, reduceCtorEq, ↓zR, zQ, Tr, StA, StT]
      refine fin v4 h4 ?_ hp4
      rw [hins]
      simpa using ho4.slc
theorem c_sHalf (t g f : Int) {h : AH} {post : AV → AH → Prop} (hp : ∀ v' h', Slc 1 encS h' v' (if exB t g f then hfL t g f else []) → Pre h h' → post (.tup [v', .bool (exB t g f)]) h') : S 310 [.int .i64 t, .int .i64 g, .int .i64 f] h post k := by
  refine S_of rfl T310 ?_; unfold fi310
  simp (maxSteps := 1000000) (disch := first | omega | rfl | (simp only [zL, two63, room] <;> omega) | fail) only [↓reduceIte, ↓zP, zW, WOp, evOp, evBin, binI, binSh, binS, evNil, keyIs, keyEq, mkv, AV.cells, AV.sc, optv, bnd, env, put, Env.get, Env.set, Env.del, Env.dels, Env.init, res1, resL, resV, fillP, splice, newRow, Nat.reduceEqDiff, Nat.reduceLT, Nat.reduceLeDiff, Nat.reduceAdd, Nat.reduceMul, Nat.reduceSub, Nat.reduceBEq, reduceCtorEq, ↓zR, zQ, Tr, StA, StT]
  refine c_sExLen t g f ?_
  intro h0 hp0
  cases e : exB t g f
  · have hR := hp .nilS h0 (by rw [e]; exact ⟨rfl, rfl⟩) hp0
    rw [e] at hR
    simp (maxSteps := 1000000) (disch := first | omega | rfl | (simp only [zL, two63, room] <;> omega) | fail) only [↓reduceIte, ↓zP, zW, WOp, evOp, evBin, binI, binSh, binS, evNil, keyIs, keyEq, mkv, AV.cells, AV.sc, optv, bnd, env, put, Env.get, Env.set, Env.del, Env.dels, Env.init, res1, resL, resV, fillP, splice, newRow, Nat.reduceEqDiff, Nat.reduceLT, Nat.reduceLeDiff, Nat.reduceAdd, Nat.reduceMul, Nat.reduceSub, Nat.reduceBEq, reduceCtorEq, ↓zR, zQ, Tr, StA, StT]
    exact hR
  · obtain ⟨a, b, c, rfl, rfl, rfl, h1, h8, hN, hx⟩ := ex_ok e
    rw [e] at hp
    unfold hfL at hp
    rw [hN] at hp ⊢
    simp only [Int.toNat_natCast, if_true] at hp
    have hpos := (cE_iff _ _).2 ⟨_, hx⟩
    have hn100 := nm_le h8
    have hsg := lnF_signs a b c
    obtain ⟨q1, q2, q3, q4⟩ := lnF_count a b c
    have hok : OkW (lnL (lnF a b c)) (lnF a b c) := (firstOf_ok hsg (by omega)).2
    generalize hnn : b * (a + c) + a * c = n at *
    have p1 := Pre.push h0 (AO.row [.nilS, .nilS] 0 0 false)
    have hq : ((n : Nat) : Int).tdiv 2 = ((n / 2 : Nat) : Int) := by rw [Int.tdiv_eq_ediv_of_nonneg (by omega)]; omega
    have h20 : ¬ ((2 : Int) = 0) := by decide
    have hwr : IntKind.i64.wrap ((n / 2 : Nat) : Int) = ((n / 2 : Nat) : Int) := wrap_i (by omega)
    simp (maxSteps := 1000000) (disch := first | omega | rfl | (simp only [zL, two63, room] <;> omega) | fail) only [↓reduceIte, ↓zP, zW, WOp, evOp, evBin, binI, binSh, binS, evNil, keyIs, keyEq, mkv, AV.cells, AV.sc, optv, bnd, env, put, Env.get, Env.set, Env.del, Env.dels, Env.init, res1, resL, resV, fillP, splice, newRow, Nat.reduceEqDiff, Nat.reduceLT, Nat.reduceLeDiff, Nat.reduceAdd, Nat.reduceMul, Nat.reduceSub, Nat.reduceBEq, reduceCtorEq, ↓zR, zQ, Tr, StA, StT]
    refine c_swLive (gl := lnL (lnF a b c)) a b c hok (K := []) KW.new (fun h00 => by omega) ?_
    intro _ o h2 vs N hN0 hN1 hll hso hno hnv hk hf
    have hlt := lv_lt hx (i := n / 2) (by omega) hN0
    have hvl : vs.length = N := by have := hll.1; simpa [lvs] using this
    obtain ⟨r1, k1, o1, hv1, hr⟩ := hso.get hlV (i := n / 2) (by omega)
    have hr' : rdRow h2 r1 k1 (o1 + n / 2 * 1) 1 = some [vs[n / 2].1] := hr
    have hL2 : (lvs (lnL (lnF a b c)) (lnF a b c) N)[n / 2]? = some (lv (lnL (lnF a b c)) (lnF a b c) (n / 2)) := by unfold lvs; rw [List.getElem?_map, List.getElem?_range hlt]; rfl
    have hsu := (hll.2 (n / 2) vs[n / 2] _ (List.getElem?_eq_getElem (by omega)) hL2).1
    have hgd := lv_good hok (n / 2)
    have hfew := hgd.few
    have hadd := lyL_add hpos (n / 2)
    have hltI : ((n / 2 : Nat) : Int) < (vs.length : Int) := by omega
    have hP2 := hp0.trans hf.new
    subst hv1
    generalize vs[n / 2].1 = u at *
    have hvu := fun g => Slc.lenV (hsu) (g := g) (ρ := fun _ => _) (x := .t 0) rfl; simp only [evOp] at hvu
    simp (maxSteps := 1000000) (disch := first | omega | rfl | (simp only [zL, two63, room] <;> omega) | fail) only [↓reduceIte, ↓zP, zW, WOp, evOp, evBin, binI, binSh, binS, evNil, keyIs, keyEq, mkv, AV.cells, AV.sc, optv, bnd, env, put, Env.get, Env.set, Env.del, Env.dels, Env.init, res1, resL, resV, fillP, splice, newRow, Nat.reduceEqDiff, Nat.reduceLT, Nat.reduceLeDiff, Nat.reduceAdd, Nat.reduceMul, Nat.reduceSub, Nat.reduceBEq, reduceCtorEq, ↓zR, zQ, Tr, StA, StT, hq, h20, hwr, hltI, hr', hvu]
    refine lp_sh0 hgd.1 hfew hsu (lv (lnL (lnF a b c)) (lnF a b c) (n / 2)) [] [] .nilS h2 rfl rfl rfl ⟨rfl, rfl⟩ (Pre.refl _) ?_
    intro v' h3 hs3 hp3
    rw [hadd] at hs3
    have hR := hp v' h3 hs3 (hP2.trans hp3)
    simp (maxSteps := 1000000) (disch := first | omega | rfl | (simp only [zL, two63, room] <;> omega) | fail) only [↓reduceIte, ↓zP, zW, WOp, evOp, evBin, binI, binSh, binS, evNil, keyIs, keyEq, mkv, AV.cells, AV.sc, optv, bnd, env, put, Env.get, Env.set, Env.del, Env.dels, Env.init, res1, resL, resV, fillP, splice, newRow, Nat.reduceEqDiff, Nat.reduceLT, Nat.reduceLeDiff, Nat.reduceAdd, Nat.reduceMul, Nat.reduceSub, Nat.reduceBEq, reduceCtorEq, ↓zR, zQ, Tr, StA, StT]
    exact hR

/-! ### The law -/
theorem hf_len (t g f : Int) : (if exB t g f then hfL t g f else []).length ≤ 6561 := by
  cases e : exB t g f
  · simp
  · obtain ⟨a, b, c, rfl, rfl, rfl, h1, h8, hN, hx⟩ := ex_ok e
    have hsg := lnF_signs a b c
    obtain ⟨q1, q2, q3, q4⟩ := lnF_count a b c
    have hok : OkW (lnL (lnF a b c)) (lnF a b c) := (firstOf_ok hsg (by omega)).2
    simp only [if_true]
    unfold hfL
    simp only [Int.toNat_natCast]
    have : GoodW (lnL (lnF a b c)) (lyL (lnL (lnF a b c)) (lnF a b c) ((exN a b c).toNat / 2)) := by
      refine ⟨(lyL_srt _ _ _).nodup, fun x hx' => ?_⟩
      have hpos := (cE_iff _ _).2 ⟨_, hx⟩
      exact (lv_good hok _).2 x ((lv_mem hpos _ x).2 (lyL_mem.1 hx'))
    exact this.few
theorem law_LinesHalfway (t g f : Int) {h : AH} : S 309 [.int .i64 t, .int .i64 g, .int .i64 f] h (fun r _ => r = .bool true) k := by
  refine S_of rfl T309 ?_; unfold fi309
  simp (maxSteps := 1000000) (disch := first | omega | rfl | (simp only [zL, two63, room] <;> omega) | fail) only [↓reduceIte, ↓zP, zW, WOp, evOp, evBin, binI, binSh, binS, evNil, keyIs, keyEq, mkv, AV.cells, AV.sc, optv, bnd, env, put, Env.get, Env.set, Env.del, Env.dels, Env.init, res1, resL, resV, fillP, splice, newRow, Nat.reduceEqDiff, Nat.reduceLT, Nat.reduceLeDiff, Nat.reduceAdd, Nat.reduceMul, Nat.reduceSub, Nat.reduceBEq, reduceCtorEq, ↓zR, zQ, Tr, StA, StT]
  have hLn := hf_len t g f
  have cS := fun {h : AH} {post : AV → AH → Prop} => c_sHalf t g f (h := h) (post := post)
  have cI : ∀ {h : AH} {post : AV → AH → Prop}, (∀ v' h', OwL 1 encS h h' v' (if exB t g f then hfL t g f else []) → Pre h h' → post (.tup [v', .bool (exB t g f)]) h') → S 311 [.int .i64 t, .int .i64 g, .int .i64 f] h post k := by
    intro h post hp
    refine c_half t g f (fun e => ?_) fun e v' h' ho hpp => ?_
    · have := hp .nilS h (by rw [e]; exact OwL.nil) (Pre.refl _)
      rw [e] at this; exact this
    · have := hp v' h' (by rw [e]; exact ho) hpp
      rw [e] at this; exact this
  generalize hL : (if exB t g f then hfL t g f else []) = L at *
  generalize hB : exB t g f = B at *
  refine cS ?_
  intro w0 h1 hw0 p1
  simp (maxSteps := 1000000) (disch := first | omega | rfl | (simp only [zL, two63, room] <;> omega) | fail) only [↓reduceIte, ↓zP, zW, WOp, evOp, evBin, binI, binSh, binS, evNil, keyIs, keyEq, mkv, AV.cells, AV.sc, optv, bnd, env, put, Env.get, Env.set, Env.del, Env.dels, Env.init, res1, resL, resV, fillP, splice, newRow, Nat.reduceEqDiff, Nat.reduceLT, Nat.reduceLeDiff, Nat.reduceAdd, Nat.reduceMul, Nat.reduceSub, Nat.reduceBEq, reduceCtorEq, ↓zR, zQ, Tr, StA, StT]
  refine cI ?_
  intro g0 h2 hg0 p2
  simp (maxSteps := 1000000) (disch := first | omega | rfl | (simp only [zL, two63, room] <;> omega) | fail) only [↓reduceIte, ↓zP, zW, WOp, evOp, evBin, binI, binSh, binS, evNil, keyIs, keyEq, mkv, AV.cells, AV.sc, optv, bnd, env, put, Env.get, Env.set, Env.del, Env.dels, Env.init, res1, resL, resV, fillP, splice, newRow, Nat.reduceEqDiff, Nat.reduceLT, Nat.reduceLeDiff, Nat.reduceAdd, Nat.reduceMul, Nat.reduceSub, Nat.reduceBEq, reduceCtorEq, ↓zR, zQ, Tr, StA, StT]
  refine c_eqSS (L := L) (M := L) (by omega) hg0.slc (hw0.pre p2) ?_
  simp (maxSteps := 1000000) (disch := first | omega | rfl | (simp only [zL, two63, room] <;> omega) | fail) only [↓reduceIte, ↓zP, zW, WOp, evOp, evBin, binI, binSh, binS, evNil, keyIs, keyEq, mkv, AV.cells, AV.sc, optv, bnd, env, put, Env.get, Env.set, Env.del, Env.dels, Env.init, res1, resL, resV, fillP, splice, newRow, Nat.reduceEqDiff, Nat.reduceLT, Nat.reduceLeDiff, Nat.reduceAdd, Nat.reduceMul, Nat.reduceSub, Nat.reduceBEq, reduceCtorEq, ↓zR, zQ, Tr, StA, StT, bne_self_eq_false, beq_self_eq_true]
  refine c_markStringS hg0.w 1 (by omega) (by omega) ?_
  intro h3 hm3 v3
  have B3 := v3.keep hg0.w p2 (Nat.le_refl _)
  have hneg : ¬ (((1 + L.length : Nat) : Int) < 0) := by omega
  simp (maxSteps := 1000000) (disch := first | omega | rfl | (simp only [zL, two63, room] <;> omega) | fail) only [↓reduceIte, ↓zP, zW, WOp, evOp, evBin, binI, binSh, binS, evNil, keyIs, keyEq, mkv, AV.cells, AV.sc, optv, bnd, env, put, Env.get, Env.set, Env.del, Env.dels, Env.init, res1, resL, resV, fillP, splice, newRow, Nat.reduceEqDiff, Nat.reduceLT, Nat.reduceLeDiff, Nat.reduceAdd, Nat.reduceMul, Nat.reduceSub, Nat.reduceBEq, reduceCtorEq, ↓zR, zQ, Tr, StA, StT]
  refine c_heldStringS 1 L.length (by omega) (by omega) (hm3.slc hlS) ?_
  intro h4 p4
  have B4 := B3.trans p4
  simp (maxSteps := 1000000) (disch := first | omega | rfl | (simp only [zL, two63, room] <;> omega) | fail) only [↓reduceIte, ↓zP, zW, WOp, evOp, evBin, binI, binSh, binS, evNil, keyIs, keyEq, mkv, AV.cells, AV.sc, optv, bnd, env, put, Env.get, Env.set, Env.del, Env.dels, Env.init, res1, resL, resV, fillP, splice, newRow, Nat.reduceEqDiff, Nat.reduceLT, Nat.reduceLeDiff, Nat.reduceAdd, Nat.reduceMul, Nat.reduceSub, Nat.reduceBEq, reduceCtorEq, ↓zR, zQ, Tr, StA, StT, hneg, bne_self_eq_false]
  refine cI ?_
  intro u0 h5 hu0 p5
  simp (maxSteps := 1000000) (disch := first | omega | rfl | (simp only [zL, two63, room] <;> omega) | fail) only [↓reduceIte, ↓zP, zW, WOp, evOp, evBin, binI, binSh, binS, evNil, keyIs, keyEq, mkv, AV.cells, AV.sc, optv, bnd, env, put, Env.get, Env.set, Env.del, Env.dels, Env.init, res1, resL, resV, fillP, splice, newRow, Nat.reduceEqDiff, Nat.reduceLT, Nat.reduceLeDiff, Nat.reduceAdd, Nat.reduceMul, Nat.reduceSub, Nat.reduceBEq, reduceCtorEq, ↓zR, zQ, Tr, StA, StT]
  refine c_eqSS (L := L) (M := L) (by omega) hu0.slc (hw0.pre (B4.trans p5)) ?_
  simp (maxSteps := 1000000) (disch := first | omega | rfl | (simp only [zL, two63, room] <;> omega) | fail) only [↓reduceIte, ↓zP, zW, WOp, evOp, evBin, binI, binSh, binS, evNil, keyIs, keyEq, mkv, AV.cells, AV.sc, optv, bnd, env, put, Env.get, Env.set, Env.del, Env.dels, Env.init, res1, resL, resV, fillP, splice, newRow, Nat.reduceEqDiff, Nat.reduceLT, Nat.reduceLeDiff, Nat.reduceAdd, Nat.reduceMul, Nat.reduceSub, Nat.reduceBEq, reduceCtorEq, ↓zR, zQ, Tr, StA, StT, bne_self_eq_false, beq_self_eq_true]
  refine c_heldStringS 1 L.length (by omega) (by omega) ((hm3.pre (p4.trans p5)).slc hlS) ?_
  intro h6 p6
  simp (maxSteps := 1000000) (disch := first | omega | rfl | (simp only [zL, two63, room] <;> omega) | fail) only [↓reduceIte, ↓zP, zW, WOp, evOp, evBin, binI, binSh, binS, evNil, keyIs, keyEq, mkv, AV.cells, AV.sc, optv, bnd, env, put, Env.get, Env.set, Env.del, Env.dels, Env.init, res1, resL, resV, fillP, splice, newRow, Nat.reduceEqDiff, Nat.reduceLT, Nat.reduceLeDiff, Nat.reduceAdd, Nat.reduceMul, Nat.reduceSub, Nat.reduceBEq, reduceCtorEq, ↓zR, zQ, Tr, StA, StT, hneg, bne_self_eq_false]
end Go.Proofs.Ytcflenomogpdbaa.Ab

/- The law FnExactLinesHalfway of the given program returns true, whatever the input: no condition. -/
namespace Go.Proofs.Ytcflenomogpdbaa.fnExactLinesHalfway
open Go Go.ChangeShapes Go.WideShapes Go.ChangeAt Go.RowKit
set_option maxRecDepth 1000000

theorem own : ownKnob Try.prog.godebug = none := by kernel_rfl
theorem laidOut : laidOutB Try.prog = true := by kernel_rfl
theorem readable : ∀ t ∈ Try.f3.params.toList, Try.prog.readableRec t = true ∧ t < Try.prog.types.size := by
  rw [Try.params3]
  intro t ht
  simp only [List.mem_cons, List.not_mem_nil, or_false] at ht
  rcases ht with rfl | rfl | rfl
  · exact ⟨by kernel_rfl, of_decide_eq_true (by kernel_rfl)⟩
  · exact ⟨by kernel_rfl, of_decide_eq_true (by kernel_rfl)⟩
  · exact ⟨by kernel_rfl, of_decide_eq_true (by kernel_rfl)⟩
theorem contract (H : Type) (enc : TypeId × Value → H) (W : World) (base : Nat) (args : Array Value) (ds gs : List (DataW H)) (before : List MemPlace)
    (hval : ∀ (j : Nat) t v, Try.f3.params[j]? = some t → args[j]? = some v → Value.okWide Try.prog W .any base t v)
    (hW : DataW.Whole enc Try.prog Try.f3.params.toList Rows.fnExactLinesHalfwaySpec.vars false W args.toList ds gs before) :
    Calls Try.prog 3 args W fun e W' => ∃ v, e = .returned v ∧ Rows.fnExactLinesHalfwaySpec.post enc Try.prog Try.f3 false true false false W args v W' := by
  have hW' := hW
  obtain ⟨p, q, hA0, hV, rfl, hfz, hnd⟩ := hW
  obtain ⟨rfl, rfl⟩ := trodVars_none hV
  have hA : DataW.TrodAll enc Try.prog W 0 (fun _ => true) true Try.f3.params.toList args.toList ds p := hA0
  rw [Try.params3] at hA hval
  obtain ⟨v0, vs0, d0, ds0, p0, q0, hargs0, rfl, rfl, h0, r0⟩ := trodAll_cons hA
  obtain ⟨v1, vs1, d1, ds1, p1, q1, hargs1, rfl, rfl, h1, r1⟩ := trodAll_cons r0
  obtain ⟨v2, vs2, d2, ds2, p2, q2, hargs2, rfl, rfl, h2, r2⟩ := trodAll_cons r1
  obtain ⟨rfl, rfl, rfl⟩ := trodAll_nil r2
  obtain rfl : args = #[v0, v1, v2] := by cases args; simp_all
  obtain ⟨s0, hv0⟩ := okWide_int Try.underlying3 (hval 0 3 v0 rfl rfl)
  obtain ⟨s1, hv1⟩ := okWide_int Try.underlying3 (hval 1 3 v1 rfl rfl)
  obtain ⟨s2, hv2⟩ := okWide_int Try.underlying3 (hval 2 3 v2 rfl rfl)
  have hrel := Ab.rel_nothing Ab.F W
  generalize ([] : Ab.AH) = g at hrel
  generalize (⟨fun _ _ => none, fun _ => none⟩ : Ab.Emb) = m at hrel
  have hlaw := Ab.law_LinesHalfway s0 s1 s2 (h := g)
  have hargs : Ab.RelL Ab.F m [.int .i64 s0, .int .i64 s1, .int .i64 s2] (#[v0, v1, v2] : Array Value).toList := by
    simp only [Ab.RelL]
    exact ⟨v0, [v1, v2], rfl, by simpa only [Ab.RelV] using hv0, v1, [v2], rfl, by simpa only [Ab.RelV] using hv1, v2, [], rfl, by simpa only [Ab.RelV] using hv2, rfl⟩
  have hres : (Rows.fnExactLinesHalfwaySpec.fn H ([d0, d1, d2] ++ [])).results = [.lit (.bool true)] := rfl
  have hback : (Rows.fnExactLinesHalfwaySpec.fn H ([d0, d1, d2] ++ [])).args = [d0, d1, d2] := rfl
  refine (Ab.law_calls (P := Try.prog) (F := Ab.F) Ab.all_sound (f := 309) (h := g) hlaw hrel hargs).mono ?_
  rintro e W' ⟨rfl, hb⟩
  refine ⟨_, rfl, Ab.post_below (pa := p0 ++ (p1 ++ (p2 ++ []))) (pv := []) hW' (fun _ _ _ => ?_) (fun sp hsp => ?_) (fun _ _ => rfl) (by simp) hb (ok_one (by kernel_rfl) rfl (okWide_bool_mk Try.underlying4 _))⟩
  · rw [hres]
    exact trodAll_cons_mk (shut_bool Try.underlying4 _) trodAll_mk0
  · rw [hback]
    exact Ab.trodAll_stays laidOut hb readable hA0 (fun x hx => hW'.lt x (by simpa using hx)) (fun x hx => hsp x (by simpa using hx))

set_option maxRecDepth 100000 in
theorem lifted (os : Os) (started : os.Started) (H : Type) (enc : TypeId × Value → H) :
    ReturnsInHanded {} Try.checked os 3 .any (Rows.fnExactLinesHalfwaySpec.pre6 enc Try.prog Try.f3 Rows.fnExactLinesHalfwayRow.domain false) (Rows.fnExactLinesHalfwaySpec.post enc Try.prog Try.f3 false true false false) := by
  refine returnsInHanded_of_change (C := Try.checked) own started (by kernel_rfl) Try.func3
    (ChangeSpec.witness6 (enc := enc) (C := Try.checked) false ⟨#[], #[.int .i64 0, .int .i64 0, .int .i64 0], []⟩ 8 (by kernel_rfl) (by kernel_rfl) (by kernel_rfl) (by kernel_rfl)) ?_
  intro W base args ds gs before hval hW _ _
  exact contract H enc W base args ds gs before hval hW
theorem card : Rows.FnExactLinesHalfwaySaid :=
  OpenClaim.holds_of_wide 3 Try.f3 rfl rfl rfl rfl rfl rfl rfl ⟨rfl, rfl, rfl, rfl, rfl⟩ rfl rfl rfl rfl rfl (by kernel_rfl) Try.func3 (by kernel_rfl)
    (of_decide_eq_true (by kernel_rfl)) (by unfold Func.isWrapper; first | (rw [if_pos (by decide +kernel)]; kernel_rfl) | (rw [if_neg (by decide +kernel)]; exact ⟨rfl, rfl⟩))
    (fun os started H enc _ => lifted os started H enc)
end Go.Proofs.Ytcflenomogpdbaa.fnExactLinesHalfway
