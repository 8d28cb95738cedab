/- The proof that the law FnGamesWon of the given program returns true for every input; the condition: the tables that the row lists are laid as the program's text lays them. -/
import Derived.Test.YtejhhdpfndiliaaGreatDoorCards
import Derived.Test.YtejhhdpfndiliaaGreatDoorTie
import Derived.OpenShut
import Derived.Deep.DeepHandedRow
import Derived.Lib.LaidTab
import Derived.Test.YtejhhdpfndiliaaGreatDoorQ5
set_option linter.unusedSimpArgs false
set_option linter.unusedVariables false
/- LENGTHS of games, the reference's. -/
namespace Go.Proofs.YtejhhdpfndiliaaGreatDoor.Ab
open Go
set_option maxRecDepth 100000
set_option maxHeartbeats 4000000

abbrev encN (n : Nat) : List AV := [.int .i64 n]
theorem hlN (n : Nat) : (encN n).length = 1 := rfl
def KL (N c : Nat) (h : AH) (K : List (List UInt8)) (M : List (Nat × Nat × Nat)) : Prop := (∃ v0 v1 v2 v3, KS c h [v0, v1, v2, v3] [K.flatMap encS, (M.map (·.1)).flatMap encN, (M.map (·.2.1)).flatMap encN, (M.map (·.2.2)).flatMap encN]) ∧ K.length = M.length ∧ K.Nodup ∧
  (∀ x ∈ K, x.length = N ∧ ∀ b ∈ x, b ∈ alph) ∧ ∀ (i : Nat) x m, K[i]? = some x → M[i]? = some m → ∀ w t, OkS N ([w], t) → x = gaK ([w], t) → m = lnB w t
theorem KL.pre {N c : Nat} {h h' : AH} {K : List (List UInt8)} {M : List (Nat × Nat × Nat)} (hk : KL N c h K M) (hp : Pre h h') : KL N c h' K M := by
  obtain ⟨⟨v0, v1, v2, v3, h1⟩, h2⟩ := hk
  exact ⟨⟨v0, v1, v2, v3, h1.pre hp⟩, h2⟩
theorem KL.lt {N c : Nat} {h : AH} {K : List (List UInt8)} {M : List (Nat × Nat × Nat)} (hk : KL N c h K M) : c < h.length := by
  obtain ⟨⟨v0, v1, v2, v3, h1⟩, h2⟩ := hk
  exact h1.lt
theorem KL.few {N c : Nat} (hN : N ≤ 14) {h : AH} {K : List (List UInt8)} {M : List (Nat × Nat × Nat)} (hk : KL N c h K M) : K.length < 2 ^ 39 := by
  obtain ⟨_, _, hnd, hal, _⟩ := hk
  have h1 := nodup_bound hnd hal
  have h2 : (6 : Nat) ^ N ≤ 6 ^ 14 := Nat.pow_le_pow_right (by omega) hN
  have h3 : alph.length = 6 := rfl
  rw [h3] at h1
  have h4 : (6 : Nat) ^ 14 < 2 ^ 39 := by decide
  omega
theorem e_l1Most (a b : Int) {h : AH} {post : AV → AH → Prop} : S 455 [.int .i64 a, .int .i64 b] h post k = post (.int .i64 (if a > b then a else b)) h := S_eq fun _ hp => by
  refine S_of rfl T455 ?_; unfold fi455
  by_cases h0 : a > b
  · rw [if_pos h0] at hp
    simp (maxSteps := 1000000) (disch := first | omega | rfl | (simp only [zL, two63, room] <;> omega) | fail) only [↓reduceIte, ↓zP, zW, WOp, evOp, evBin, binI, binSh, binS, evNil, keyIs, keyEq, mkv, AV.cells, AV.sc, optv, bnd, env, put, Env.get, Env.set, Env.del, Env.dels, Env.init, res1, resL, resV, fillP, splice, newRow, Nat.reduceEqDiff, Nat.reduceLT, Nat.reduceLeDiff, Nat.reduceAdd, Nat.reduceMul, Nat.reduceSub, Nat.reduceBEq, reduceCtorEq, ↓zR, zQ, Tr, StA, StT, h0]
    exact hp
  · rw [if_neg h0] at hp
    simp (maxSteps := 1000000) (disch := first | omega | rfl | (simp only [zL, two63, room] <;> omega) | fail) only [↓reduceIte, ↓zP, zW, WOp, evOp, evBin, binI, binSh, binS, evNil, keyIs, keyEq, mkv, AV.cells, AV.sc, optv, bnd, env, put, Env.get, Env.set, Env.del, Env.dels, Env.init, res1, resL, resV, fillP, splice, newRow, Nat.reduceEqDiff, Nat.reduceLT, Nat.reduceLeDiff, Nat.reduceAdd, Nat.reduceMul, Nat.reduceSub, Nat.reduceBEq, reduceCtorEq, ↓zR, zQ, Tr, StA, StT, h0]
    exact hp
theorem most_max (a b : Nat) : (if (a : Int) > ((b : Nat) : Int) then (a : Int) else ((b : Nat) : Int)) = ((max a b : Nat) : Int) := by
  split <;> omega
theorem lp_gl0 {c : Nat} {h : AH} {v0 : AV} {K : List (List UInt8)} (hs : Slc 1 encS h v0 K) (hK : K.length < 2 ^ 39) (w t : AV) (key : List UInt8) {R : X → Env → AH → Prop} :
    ∀ (rest pre : List (List UInt8)), K = pre ++ rest → (∀ i : Nat, K[i]? = some key → R .ret [(6, .int .i64 i)] h) → (key ∉ rest → R (.exit 0) [(0, .ptr c 0 0 4), (1, w), (2, t), (7, .str key)] h) →
    Cx (.loop lp453_0) [(0, .ptr c 0 0 4), (1, w), (2, t), (7, .str key), (24, v0), (25, .int .i64 K.length), (26, .int .i64 pre.length)] h R k k
  | [], pre, hpre, hf, hR => by
    subst hpre
    rw [w_loopb (c := lp453_0) (d := lb453_0) rfl]; unfold lb453_0
    simp only [List.append_nil]
    simp (maxSteps := 1000000) (disch := first | omega | rfl | (simp only [zL, two63, room] <;> omega) | fail) only [↓reduceIte, ↓zP, zW, WOp, evOp, evBin, binI, binSh, binS, evNil, keyIs, keyEq, mkv, AV.cells, AV.sc, optv, bnd, env, put, Env.get, Env.set, Env.del, Env.dels, Env.init, res1, resL, resV, fillP, splice, newRow, Nat.reduceEqDiff, Nat.reduceLT, Nat.reduceLeDiff, Nat.reduceAdd, Nat.reduceMul, Nat.reduceSub, Nat.reduceBEq, reduceCtorEq, ↓zR, zQ, Tr, StA, StT]
    exact hR (by simp)
  | x :: rest, pre, hpre, hf, hR => by
    have ih := lp_gl0 (c := c) hs hK w t key (R := R) rest (pre ++ [x])
    subst hpre
    obtain ⟨r1, k1, o1, rfl, hr⟩ := hs.at hlS
    have hl : (pre ++ x :: rest).length = pre.length + 1 + rest.length := by simp; omega
    have hr' : rdRow h r1 k1 (o1 + pre.length * 1) 1 = some [.str x] := hr
    have hK' := hK
    rw [hl] at ih hK' ⊢
    have hlt : (pre.length : Int) < ((pre.length + 1 + rest.length : Nat) : Int) := by omega
    have hw : (pre.length : Int) + 1 = ((pre ++ [x]).length : Int) := by simp
    have hw2 : IntKind.i64.wrap ((pre ++ [x]).length : Int) = ((pre ++ [x]).length : Int) := wrap_i (by simp; omega)
    rw [w_loopb (c := lp453_0) (d := lb453_0) rfl]; unfold lb453_0
    cases e : (x == key)
    · simp (maxSteps := 1000000) (disch := first | omega | rfl | (simp only [zL, two63, room] <;> omega) | fail) only [↓reduceIte, ↓zP, zW, WOp, evOp, evBin, binI, binSh, binS, evNil, keyIs, keyEq, mkv, AV.cells, AV.sc, optv, bnd, env, put, Env.get, Env.set, Env.del, Env.dels, Env.init, res1, resL, resV, fillP, splice, newRow, Nat.reduceEqDiff, Nat.reduceLT, Nat.reduceLeDiff, Nat.reduceAdd, Nat.reduceMul, Nat.reduceSub, Nat.reduceBEq, reduceCtorEq, ↓zR, zQ, Tr, StA, StT, hlt, hr', e, hw, hw2]
      rw [w_loopn (c := lp453_0) rfl]
      simp (maxSteps := 1000000) (disch := first | omega | rfl | (simp only [zL, two63, room] <;> omega) | fail) only [↓reduceIte, ↓zP, zW, WOp, evOp, evBin, binI, binSh, binS, evNil, keyIs, keyEq, mkv, AV.cells, AV.sc, optv, bnd, env, put, Env.get, Env.set, Env.del, Env.dels, Env.init, res1, resL, resV, fillP, splice, newRow, Nat.reduceEqDiff, Nat.reduceLT, Nat.reduceLeDiff, Nat.reduceAdd, Nat.reduceMul, Nat.reduceSub, Nat.reduceBEq, reduceCtorEq, ↓zR, zQ, Tr, StA, StT]
      refine ih (by simp) hf ?_
      intro hn
      refine hR ?_
      rw [List.mem_cons]
      rintro (rfl | hn')
      · simp at e
      · exact hn hn'
    · simp (maxSteps := 1000000) (disch := first | omega | rfl | (simp only [zL, two63, room] <;> omega) | fail) only [↓reduceIte, ↓zP, zW, WOp, evOp, evBin, binI, binSh, binS, evNil, keyIs, keyEq, mkv, AV.cells, AV.sc, optv, bnd, env, put, Env.get, Env.set, Env.del, Env.dels, Env.init, res1, resL, resV, fillP, splice, newRow, Nat.reduceEqDiff, Nat.reduceLT, Nat.reduceLeDiff, Nat.reduceAdd, Nat.reduceMul, Nat.reduceSub, Nat.reduceBEq, reduceCtorEq, ↓zR, zQ, Tr, StA, StT, hlt, hr', e]
      rw [beq_iff_eq] at e
      subst e
      exact hf pre.length (by simp)
def LOf (N c n : Nat) : Prop := ∀ (w : List UInt8) (t : Bool) (h : AH) (K : List (List UInt8)) (M : List (Nat × Nat × Nat)), mu w < n → w.length + 2 = N → signs w → KL N c h K M → ∀ post : AV → AH → Prop,
  (∀ (h' : AH) (K' : List (List UInt8)) (M' : List (Nat × Nat × Nat)) (i : Nat), FrS c h h' → KL N c h' K' M' → Came N (mu w + 1) K K' → M'[i]? = some (lnB w t) → post (.int .i64 i) h') → S 453 [.ptr c 0 0 4, .str w, .bool t] h post k
theorem lp_gl1 {N c n : Nat} (ih : LOf N c n) (hN2 : N ≤ 12) {w : List UInt8} {t : Bool} (hn : mu w < n + 1) (hN : w.length + 2 = N) (hg : signs w) (key : AV) {vm : AV} (C0 : Nat) (hC0 : C0 ≤ 1) {h0 : AH} {K0 : List (List UInt8)} {R : X → Env → AH → Prop} :
    ∀ (rest pre : List (Int × Int)) (h : AH) (K : List (List UInt8)) (M : List (Nat × Nat × Nat)), movesB w (kindS t) = pre ++ rest → FrS c h0 h → KL N c h K M → Came N (mu w) K0 K → SlcS 2 encM c h vm (movesB w (kindS t)) →
    (∀ h' K' M', FrS c h0 h' → KL N c h' K' M' → Came N (mu w) K0 K' → R (.exit 2) [(0, .ptr c 0 0 4), (7, key), (10, .int .i64 (lnB w t).1), (11, .int .i64 (lnB w t).2.1), (12, .int .i64 ((C0 + acM w t (movesB w (kindS t)) : Nat) : Int))] h') →
    Cx (.loop lp453_1) [(0, .ptr c 0 0 4), (1, .str w), (2, .bool t), (7, key), (10, .int .i64 (acL w t pre)), (11, .int .i64 (acS w t pre)), (12, .int .i64 ((C0 + acM w t pre : Nat) : Int)), (44, vm), (45, .int .i64 (movesB w (kindS t)).length), (46, .int .i64 pre.length)] h R k k := by
  intro rest
  induction rest with
  | nil =>
    intro pre h K M hL hf hk hc hs hR
    have hll : (movesB w (kindS t)).length = pre.length := by rw [hL]; simp
    rw [hll]
    rw [List.append_nil] at hL
    have e1 := (ac_all w t).1
    have e2 := (ac_all w t).2.1
    rw [e1, e2] at hR
    rw [← hL]
    rw [w_loopb (c := lp453_1) (d := lb453_1) rfl]; unfold lb453_1
    simp (maxSteps := 1000000) (disch := first | omega | rfl | (simp only [zL, two63, room] <;> omega) | fail) only [↓reduceIte, ↓zP, zW, WOp, evOp, evBin, binI, binSh, binS, evNil, keyIs, keyEq, mkv, AV.cells, AV.sc, optv, bnd, env, put, Env.get, Env.set, Env.del, Env.dels, Env.init, res1, resL, resV, fillP, splice, newRow, Nat.reduceEqDiff, Nat.reduceLT, Nat.reduceLeDiff, Nat.reduceAdd, Nat.reduceMul, Nat.reduceSub, Nat.reduceBEq, reduceCtorEq, ↓zR, zQ, Tr, StA, StT]
    exact hR h K M hf hk hc
  | cons m rest ihl =>
    intro pre h K M hL hf hk hc hs hR
    have hl10 : w.length ≤ 10 := by omega
    have hmm : m ∈ movesB w (kindS t) := by rw [hL]; simp
    obtain ⟨b1, b2⟩ := ln_few hmm hl10
    have bM := acM_le (pre := pre ++ [m]) (rest := rest) (by rw [hL]; simp) hg hl10
    have eL : acL w t (pre ++ [m]) = max (acL w t pre) (ln1 w t m + 1) := by unfold acL; rw [List.map_append]; exact loF_snoc _ _
    have eM : acM w t (pre ++ [m]) = acM w t pre + ln3 w t m := by unfold acM; rw [List.map_append, List.sum_append]; simp
    obtain ⟨i, u, rfl, hmv⟩ := movesB_mv hmm
    have hlen := movesB_len w (kindS t)
    have hml : (movesB w (kindS t)).length = pre.length + 1 + rest.length := by rw [hL]; simp; omega
    have hs' := hs
    rw [hL] at hs'
    obtain ⟨r1, k1, o1, hv1, hr⟩ := hs'.1.at hlM
    rw [← hL, hml] at hv1
    subst hv1
    rw [hml] at ihl ⊢
    have hr' : rdRow h r1 k1 (o1 + pre.length * 2) 2 = some [.int .i64 i, .int .i64 u] := hr
    have hlt : (pre.length : Int) < ((pre.length + 1 + rest.length : Nat) : Int) := by omega
    have hw1 : (pre.length : Int) + 1 = ((pre ++ [(((i : Int), (u : Int)) : Int × Int)]).length : Int) := by simp
    have hw2 : IntKind.i64.wrap ((pre ++ [(((i : Int), (u : Int)) : Int × Int)]).length : Int) = ((pre ++ [(((i : Int), (u : Int)) : Int × Int)]).length : Int) := wrap_i (by simp; omega)
    have p1 := Pre.push h (AO.row [.int .i64 i, .int .i64 u] 0 0 false)
    have hcl := hk.lt
    have hmu := mu_made hmv
    rw [w_loopb (c := lp453_1) (d := lb453_1) rfl]; unfold lb453_1
    simp (maxSteps := 1000000) (disch := first | omega | rfl | (simp only [zL, two63, room] <;> omega) | fail) only [↓reduceIte, ↓zP, zW, WOp, evOp, evBin, binI, binSh, binS, evNil, keyIs, keyEq, mkv, AV.cells, AV.sc, optv, bnd, env, put, Env.get, Env.set, Env.del, Env.dels, Env.init, res1, resL, resV, fillP, splice, newRow, Nat.reduceEqDiff, Nat.reduceLT, Nat.reduceLeDiff, Nat.reduceAdd, Nat.reduceMul, Nat.reduceSub, Nat.reduceBEq, reduceCtorEq, ↓zR, zQ, Tr, StA, StT, hlt, hr']
    refine c_liMake w i u hmv.1 hmv.2.1 hmv.ne (by omega) ?_
    intro h2 hp2
    have p12 := p1.trans hp2
    simp (maxSteps := 1000000) (disch := first | omega | rfl | (simp only [zL, two63, room] <;> omega) | fail) only [↓reduceIte, ↓zP, zW, WOp, evOp, evBin, binI, binSh, binS, evNil, keyIs, keyEq, mkv, AV.cells, AV.sc, optv, bnd, env, put, Env.get, Env.set, Env.del, Env.dels, Env.init, res1, resL, resV, fillP, splice, newRow, Nat.reduceEqDiff, Nat.reduceLT, Nat.reduceLeDiff, Nat.reduceAdd, Nat.reduceMul, Nat.reduceSub, Nat.reduceBEq, reduceCtorEq, ↓zR, zQ, Tr, StA, StT]
    refine ih (madeB w i u) (!t) h2 K M (by omega) (by rw [madeB_length]; exact hN) (signs_madeG hg hmv.1) (hk.pre p12) _ ?_
    intro h3 K3 M3 j hf3 hk3 hc3 hj
    have hf03 := hf.trans ((p12.frs hcl).trans hf3)
    have hcc : Came N (mu w) K0 K3 := hc.trans (hc3.mono (by omega))
    have hs3 := hs.fr ((p12.frs hcl).trans hf3)
    have hk3' := hk3
    obtain ⟨⟨v0, v1, v2, v3, hks⟩, hlen3, _⟩ := hk3'
    have hjl : j < M3.length := (List.getElem?_eq_some_iff.1 hj).1
    have hKb := hk3.few (by omega)
    have d1 := hks.rd (j := 1) rfl
    have d2 := hks.rd (j := 2) rfl
    have d3 := hks.rd (j := 3) rfl
    obtain ⟨c1, q1, f1, rfl, x1⟩ := Slc.getK hlN (ks_own hlN (hks.2.2.1 1 _ _ rfl rfl)).slc (i := j) (x := ln1 w t ((i : Int), (u : Int))) (by rw [List.getElem?_map, hj]; rfl)
    obtain ⟨c2, q2, f2, rfl, x2⟩ := Slc.getK hlN (ks_own hlN (hks.2.2.1 2 _ _ rfl rfl)).slc (i := j) (x := ln2 w t ((i : Int), (u : Int))) (by rw [List.getElem?_map, hj]; rfl)
    obtain ⟨c3, q3, f3, rfl, x3⟩ := Slc.getK hlN (ks_own hlN (hks.2.2.1 3 _ _ rfl rfl)).slc (i := j) (x := ln3 w t ((i : Int), (u : Int))) (by rw [List.getElem?_map, hj]; rfl)
    rw [List.length_map] at d1 d2 d3
    have eS : acS w t (pre ++ [((i : Int), (u : Int))]) = if pre = [] then ln2 w t ((i : Int), (u : Int)) + 1 else min (acS w t pre) (ln2 w t ((i : Int), (u : Int)) + 1) := by
      unfold acS
      rw [List.map_append]
      split
      · rename_i h0; subst h0; rfl
      · rename_i h0; exact shF_snoc (by simpa using h0) _
    generalize ln1 w t ((i : Int), (u : Int)) = n1 at *
    generalize ln2 w t ((i : Int), (u : Int)) = n2 at *
    generalize ln3 w t ((i : Int), (u : Int)) = n3 at *
    have y1 : rdRow h3 c1 q1 (f1 + j * 1) 1 = some [.int .i64 n1] := x1
    have y2 : rdRow h3 c2 q2 (f2 + j * 1) 1 = some [.int .i64 n2] := x2
    have y3 : rdRow h3 c3 q3 (f3 + j * 1) 1 = some [.int .i64 n3] := x3
    have hjlt : (j : Int) < ((M3.length : Nat) : Int) := by omega
    have w1 : IntKind.i64.wrap ((n1 : Int) + 1) = ((n1 + 1 : Nat) : Int) := by rw [IntKind.wrap_i64]; omega
    have w2 : IntKind.i64.wrap ((n2 : Int) + 1) = ((n2 + 1 : Nat) : Int) := by rw [IntKind.wrap_i64]; omega
    have w3 : IntKind.i64.wrap (((C0 + acM w t pre : Nat) : Int) + (n3 : Int)) = ((C0 + acM w t (pre ++ [((i : Int), (u : Int))]) : Nat) : Int) := by rw [IntKind.wrap_i64, eM]; omega
    have fin : ∀ S' : Nat, S' = acS w t (pre ++ [((i : Int), (u : Int))]) → Cx (.loop lp453_1) [(0, .ptr c 0 0 4), (1, .str w), (2, .bool t), (7, key), (10, .int .i64 ((max (acL w t pre) (n1 + 1) : Nat) : Int)), (11, .int .i64 S'), (12, .int .i64 ((C0 + acM w t (pre ++ [((i : Int), (u : Int))]) : Nat) : Int)), (44, .slice r1 k1 o1 (pre.length + 1 + rest.length) 2), (45, .int .i64 ((pre.length + 1 + rest.length : Nat) : Int)), (46, .int .i64 (pre ++ [((i : Int), (u : Int))]).length)] h3 R k k := by
      rintro S' rfl
      rw [← eL]
      exact ihl (pre ++ [((i : Int), (u : Int))]) h3 K3 M3 (by rw [hL]; simp) hf03 hk3 hcc hs3 hR
    by_cases h0 : pre = []
    · have k0 : (((pre.length : Nat) : Int) == 0) = true := by rw [h0]; rfl
      simp (maxSteps := 1000000) (disch := first | omega | rfl | (simp only [zL, two63, room] <;> omega) | fail) only [↓reduceIte, ↓zP, zW, WOp, evOp, evBin, binI, binSh, binS, evNil, keyIs, keyEq, mkv, AV.cells, AV.sc, optv, bnd, env, put, Env.get, Env.set, Env.del, Env.dels, Env.init, res1, resL, resV, fillP, splice, newRow, Nat.reduceEqDiff, Nat.reduceLT, Nat.reduceLeDiff, Nat.reduceAdd, Nat.reduceMul, Nat.reduceSub, Nat.reduceBEq, reduceCtorEq, ↓zR, zQ, Tr, StA, StT, d1, d2, d3, y1, y2, y3, hjlt, w1, w2, w3, k0, e_l1Most, most_max, hw1, hw2]
      rw [w_loopn (c := lp453_1) rfl]
      simp (maxSteps := 1000000) (disch := first | omega | rfl | (simp only [zL, two63, room] <;> omega) | fail) only [↓reduceIte, ↓zP, zW, WOp, evOp, evBin, binI, binSh, binS, evNil, keyIs, keyEq, mkv, AV.cells, AV.sc, optv, bnd, env, put, Env.get, Env.set, Env.del, Env.dels, Env.init, res1, resL, resV, fillP, splice, newRow, Nat.reduceEqDiff, Nat.reduceLT, Nat.reduceLeDiff, Nat.reduceAdd, Nat.reduceMul, Nat.reduceSub, Nat.reduceBEq, reduceCtorEq, ↓zR, zQ, Tr, StA, StT]
      exact fin _ (by rw [eS, if_pos h0])
    · have k0 : (((pre.length : Nat) : Int) == 0) = false := by
        rw [beq_eq_false_iff_ne]
        intro hh
        exact h0 (List.eq_nil_of_length_eq_zero (by omega))
      by_cases h9 : n2 + 1 < acS w t pre
      · have k9 : ((n2 + 1 : Nat) : Int) < ((acS w t pre : Nat) : Int) := by omega
        simp (maxSteps := 1000000) (disch := first | omega | rfl | (simp only [zL, two63, room] <;> omega) | fail) only [↓reduceIte, ↓zP, zW, WOp, evOp, evBin, binI, binSh, binS, evNil, keyIs, keyEq, mkv, AV.cells, AV.sc, optv, bnd, env, put, Env.get, Env.set, Env.del, Env.dels, Env.init, res1, resL, resV, fillP, splice, newRow, Nat.reduceEqDiff, Nat.reduceLT, Nat.reduceLeDiff, Nat.reduceAdd, Nat.reduceMul, Nat.reduceSub, Nat.reduceBEq, reduceCtorEq, ↓zR, zQ, Tr, StA, StT, d1, d2, d3, y1, y2, y3, hjlt, w1, w2, w3, k0, k9, e_l1Most, most_max, hw1, hw2]
        rw [w_loopn (c := lp453_1) rfl]
        simp (maxSteps := 1000000) (disch := first | omega | rfl | (simp only [zL, two63, room] <;> omega) | fail) only [↓reduceIte, ↓zP, zW, WOp, evOp, evBin, binI, binSh, binS, evNil, keyIs, keyEq, mkv, AV.cells, AV.sc, optv, bnd, env, put, Env.get, Env.set, Env.del, Env.dels, Env.init, res1, resL, resV, fillP, splice, newRow, Nat.reduceEqDiff, Nat.reduceLT, Nat.reduceLeDiff, Nat.reduceAdd, Nat.reduceMul, Nat.reduceSub, Nat.reduceBEq, reduceCtorEq, ↓zR, zQ, Tr, StA, StT]
        exact fin _ (by rw [eS, if_neg h0]; omega)
      · have k9 : ¬ (((n2 + 1 : Nat) : Int) < ((acS w t pre : Nat) : Int)) := by omega
        simp (maxSteps := 1000000) (disch := first | omega | rfl | (simp only [zL, two63, room] <;> omega) | fail) only [↓reduceIte, ↓zP, zW, WOp, evOp, evBin, binI, binSh, binS, evNil, keyIs, keyEq, mkv, AV.cells, AV.sc, optv, bnd, env, put, Env.get, Env.set, Env.del, Env.dels, Env.init, res1, resL, resV, fillP, splice, newRow, Nat.reduceEqDiff, Nat.reduceLT, Nat.reduceLeDiff, Nat.reduceAdd, Nat.reduceMul, Nat.reduceSub, Nat.reduceBEq, reduceCtorEq, ↓zR, zQ, Tr, StA, StT, d1, d2, d3, y1, y2, y3, hjlt, w1, w2, w3, k0, k9, e_l1Most, most_max, hw1, hw2]
        rw [w_loopn (c := lp453_1) rfl]
        simp (maxSteps := 1000000) (disch := first | omega | rfl | (simp only [zL, two63, room] <;> omega) | fail) only [↓reduceIte, ↓zP, zW, WOp, evOp, evBin, binI, binSh, binS, evNil, keyIs, keyEq, mkv, AV.cells, AV.sc, optv, bnd, env, put, Env.get, Env.set, Env.del, Env.dels, Env.init, res1, resL, resV, fillP, splice, newRow, Nat.reduceEqDiff, Nat.reduceLT, Nat.reduceLeDiff, Nat.reduceAdd, Nat.reduceMul, Nat.reduceSub, Nat.reduceBEq, reduceCtorEq, ↓zR, zQ, Tr, StA, StT]
        exact fin _ (by rw [eS, if_neg h0]; omega)
theorem c_lof {N c : Nat} (hN2 : N ≤ 12) : ∀ n : Nat, LOf N c n
  | 0 => fun w t h K M hn _ _ _ _ _ => by omega
  | n + 1 => by
    intro w t h K M hn hN hg hk post hp
    have ih := c_lof hN2 (c := c) n
    have hok : OkS N ([w], t) := by rw [← hN]; exact ok1 t hg
    have hKb := hk.few (by omega)
    have hcl := hk.lt
    have hk0 := hk
    obtain ⟨⟨v0, v1, v2, v3, hks⟩, hlen, hnd, hal, hgood⟩ := hk
    have p1 := Pre.push h (AO.row [.str w] 0 0 false)
    have hks1 := hks.pre p1
    have d0 := hks1.rd (j := 0) rfl
    have s0 := (ks_own hlS (hks1.2.2.1 0 _ _ rfl rfl)).slc
    have hbl := movesB_len w (kindS t)
    refine S_of rfl T453 ?_; unfold fi453
    simp (maxSteps := 1000000) (disch := first | omega | rfl | (simp only [zL, two63, room] <;> omega) | fail) only [↓reduceIte, ↓zP, zW, WOp, evOp, evBin, binI, binSh, binS, evNil, keyIs, keyEq, mkv, AV.cells, AV.sc, optv, bnd, env, put, Env.get, Env.set, Env.del, Env.dels, Env.init, res1, resL, resV, fillP, splice, newRow, Nat.reduceEqDiff, Nat.reduceLT, Nat.reduceLeDiff, Nat.reduceAdd, Nat.reduceMul, Nat.reduceSub, Nat.reduceBEq, reduceCtorEq, ↓zR, zQ, Tr, StA, StT]
    refine c_gaKey t (slc1 h w) (by simp) (by simp [gaTail]; omega) ?_
    have l0 := fun g => Slc.lenV (s0) (g := g) (ρ := fun _ => _) (x := .t 0) rfl; simp only [evOp] at l0
    simp (maxSteps := 1000000) (disch := first | omega | rfl | (simp only [zL, two63, room] <;> omega) | fail) only [↓reduceIte, ↓zP, zW, WOp, evOp, evBin, binI, binSh, binS, evNil, keyIs, keyEq, mkv, AV.cells, AV.sc, optv, bnd, env, put, Env.get, Env.set, Env.del, Env.dels, Env.init, res1, resL, resV, fillP, splice, newRow, Nat.reduceEqDiff, Nat.reduceLT, Nat.reduceLeDiff, Nat.reduceAdd, Nat.reduceMul, Nat.reduceSub, Nat.reduceBEq, reduceCtorEq, ↓zR, zQ, Tr, StA, StT, d0, l0]
    refine lp_gl0 s0 hKb (.str w) (.bool t) (gaK ([w], t)) K [] rfl ?_ ?_
    · intro i hi
      have hil : i < M.length := by rw [← hlen]; exact (List.getElem?_eq_some_iff.1 hi).1
      have e := hgood i _ M[i] hi (by simp) w t hok rfl
      simp (maxSteps := 1000000) (disch := first | omega | rfl | (simp only [zL, two63, room] <;> omega) | fail) only [↓reduceIte, ↓zP, zW, WOp, evOp, evBin, binI, binSh, binS, evNil, keyIs, keyEq, mkv, AV.cells, AV.sc, optv, bnd, env, put, Env.get, Env.set, Env.del, Env.dels, Env.init, res1, resL, resV, fillP, splice, newRow, Nat.reduceEqDiff, Nat.reduceLT, Nat.reduceLeDiff, Nat.reduceAdd, Nat.reduceMul, Nat.reduceSub, Nat.reduceBEq, reduceCtorEq, ↓zR, zQ, Tr, StA, StT]
      exact hp _ K M i (p1.frs hcl) (hk0.pre p1) (Came.refl _ _ _) (by rw [← e]; simp)
    · intro hnot
      simp (maxSteps := 1000000) (disch := first | omega | rfl | (simp only [zL, two63, room] <;> omega) | fail) only [↓reduceIte, ↓zP, zW, WOp, evOp, evBin, binI, binSh, binS, evNil, keyIs, keyEq, mkv, AV.cells, AV.sc, optv, bnd, env, put, Env.get, Env.set, Env.del, Env.dels, Env.init, res1, resL, resV, fillP, splice, newRow, Nat.reduceEqDiff, Nat.reduceLT, Nat.reduceLeDiff, Nat.reduceAdd, Nat.reduceMul, Nat.reduceSub, Nat.reduceBEq, reduceCtorEq, ↓zR, zQ, Tr, StA, StT]
      refine c_liMoves w hg (by omega) t (!t) ?_
      intro vm h2 ho2 hp2
      rw [liMovesB_eq, kindsS_not] at ho2
      have hkA := (hk0.pre p1)
      have hsm : SlcS 2 encM c h2 vm (movesB w (kindS t)) := ⟨ho2.slc, fun r hr => hks1.fresh hp2 (own_ge ho2 hr)⟩
      have pA := p1.trans hp2
      have lv := fun g => Slc.lenV (hsm.1) (g := g) (ρ := fun _ => _) (x := .t 0) rfl; simp only [evOp] at lv
      have hC : ∃ C0 : Nat, C0 ≤ 1 ∧ C0 + acM w t (movesB w (kindS t)) = (lnB w t).2.2 ∧ (C0 : Int) = if movesB w (kindS t) = [] then 1 else 0 := by
        have e := (ac_all w t).2.2
        by_cases h0 : movesB w (kindS t) = []
        · rw [if_pos h0] at e
          exact ⟨1, Nat.le_refl _, by rw [e, h0]; rfl, by rw [if_pos h0]; rfl⟩
        · rw [if_neg h0] at e
          exact ⟨0, by omega, by rw [e, Nat.zero_add], by rw [if_neg h0]; rfl⟩
      obtain ⟨C0, hC1, hC2, hC3⟩ := hC
      have main : ∀ R : X → Env → AH → Prop, (∀ h' K' M', FrS c h2 h' → KL N c h' K' M' → Came N (mu w) K K' → R (.exit 2) [(0, .ptr c 0 0 4), (7, .str (gaK ([w], t))), (10, .int .i64 (lnB w t).1), (11, .int .i64 (lnB w t).2.1), (12, .int .i64 ((lnB w t).2.2 : Nat))] h') →
          Cx (.loop lp453_1) [(0, .ptr c 0 0 4), (1, .str w), (2, .bool t), (7, .str (gaK ([w], t))), (10, .int .i64 0), (11, .int .i64 0), (12, .int .i64 C0), (44, vm), (45, .int .i64 (movesB w (kindS t)).length), (46, .int .i64 0)] h2 R k k := by
        intro R hR
        have := lp_gl1 ih hN2 hn hN hg (.str (gaK ([w], t))) (vm := vm) C0 hC1 (h0 := h2) (K0 := K) (R := R) (movesB w (kindS t)) [] h2 K M rfl (FrS.refl _ _) (hkA.pre hp2) (Came.refl _ _ _) hsm (by rw [hC2]; exact hR)
        exact this
      have last : ∀ h3 K3 M3, FrS c h2 h3 → KL N c h3 K3 M3 → Came N (mu w) K K3 → ∃ n0 n1 n2 n3 g0 g1 g2 g3 u0 u1 u2 u3,
          (rdRow h3 c 0 0 1 = some [u0] ∧ apRow (h3 ++ [.row [.str (gaK ([w], t))] 0 0 false]) 1 u0 1 [.str (gaK ([w], t))] = some (n0, g0) ∧ n0.cells = [n0] ∧ wrRow g0 c 0 0 [n0] = some (g0.set c (.row [n0, u1, u2, u3] 0 0 false))) ∧
          (rdRow (g0.set c (.row [n0, u1, u2, u3] 0 0 false)) c 0 1 1 = some [u1] ∧ apRow (g0.set c (.row [n0, u1, u2, u3] 0 0 false) ++ [.row [.int .i64 (lnB w t).1] 0 0 false]) 1 u1 1 [.int .i64 (lnB w t).1] = some (n1, g1) ∧ n1.cells = [n1] ∧ wrRow g1 c 0 1 [n1] = some (g1.set c (.row [n0, n1, u2, u3] 0 0 false))) ∧
          (rdRow (g1.set c (.row [n0, n1, u2, u3] 0 0 false)) c 0 2 1 = some [u2] ∧ apRow (g1.set c (.row [n0, n1, u2, u3] 0 0 false) ++ [.row [.int .i64 (lnB w t).2.1] 0 0 false]) 1 u2 1 [.int .i64 (lnB w t).2.1] = some (n2, g2) ∧ n2.cells = [n2] ∧ wrRow g2 c 0 2 [n2] = some (g2.set c (.row [n0, n1, n2, u3] 0 0 false))) ∧
          (rdRow (g2.set c (.row [n0, n1, n2, u3] 0 0 false)) c 0 3 1 = some [u3] ∧ apRow (g2.set c (.row [n0, n1, n2, u3] 0 0 false) ++ [.row [.int .i64 ((lnB w t).2.2 : Nat)] 0 0 false]) 1 u3 1 [.int .i64 ((lnB w t).2.2 : Nat)] = some (n3, g3) ∧ n3.cells = [n3] ∧ wrRow g3 c 0 3 [n3] = some (g3.set c (.row [n0, n1, n2, n3] 0 0 false))) ∧
          rdRow (g3.set c (.row [n0, n1, n2, n3] 0 0 false)) c 0 0 1 = some [n0] ∧ Slc 1 encS (g3.set c (.row [n0, n1, n2, n3] 0 0 false)) n0 (K3 ++ [gaK ([w], t)]) ∧ FrS c h2 (g3.set c (.row [n0, n1, n2, n3] 0 0 false)) ∧
          KL N c (g3.set c (.row [n0, n1, n2, n3] 0 0 false)) (K3 ++ [gaK ([w], t)]) (M3 ++ [lnB w t]) ∧ Came N (mu w + 1) K (K3 ++ [gaK ([w], t)]) ∧ K3.length < 2 ^ 39 ∧ K3.length = M3.length := by
        intro h3 K3 M3 hf3 hk3 hc3
        have hKb3 := hk3.few (by omega)
        obtain ⟨⟨u0, u1, u2, u3, kq⟩, ql, qnd, qal, qgood⟩ := hk3
        have hnot2 : gaK ([w], t) ∉ K3 := by
          intro hin
          rcases hc3 _ hin with h1 | ⟨s, h1, h4, h5⟩
          · exact hnot h1
          · have := gaK_inj (s := ([w], t)) (s' := s) hok.1 h1.1 h5
            subst this
            rw [muL_one] at h4
            omega
        have lK := flat_len hlS K3
        have lA := flat_len hlN (M3.map (·.1))
        have lB := flat_len hlN (M3.map (·.2.1))
        have lC := flat_len hlN (M3.map (·.2.2))
        rw [Nat.mul_one] at lK
        rw [Nat.mul_one, List.length_map] at lA lB lC
        obtain ⟨n0, g0, a0, b0, _, e0, kq0, f0⟩ := kq.push (j := 0) rfl rfl (by omega) (x := .str (gaK ([w], t))) rfl
        simp only [List.set_cons_zero, List.set_cons_succ] at e0 kq0 f0
        obtain ⟨n1, g1, a1, b1, _, e1, kq1, f1⟩ := kq0.push (j := 1) rfl rfl (by omega) (x := .int .i64 (lnB w t).1) rfl
        simp only [List.set_cons_zero, List.set_cons_succ] at e1 kq1 f1
        obtain ⟨n2, g2, a2, b2, _, e2, kq2, f2⟩ := kq1.push (j := 2) rfl rfl (by omega) (x := .int .i64 (lnB w t).2.1) rfl
        simp only [List.set_cons_zero, List.set_cons_succ] at e2 kq2 f2
        obtain ⟨n3, g3, a3, b3, _, e3, kq3, f3⟩ := kq2.push (j := 3) rfl rfl (by omega) (x := .int .i64 ((lnB w t).2.2 : Nat)) rfl
        simp only [List.set_cons_zero, List.set_cons_succ] at e3 kq3 f3
        have eK : K3.flatMap encS ++ [AV.str (gaK ([w], t))] = (K3 ++ [gaK ([w], t)]).flatMap encS := by rw [List.flatMap_append]; rfl
        have eA : (M3.map (·.1)).flatMap encN ++ [AV.int .i64 ((lnB w t).1 : Nat)] = ((M3 ++ [lnB w t]).map (·.1)).flatMap encN := by rw [List.map_append, List.flatMap_append]; rfl
        have eB : (M3.map (·.2.1)).flatMap encN ++ [AV.int .i64 ((lnB w t).2.1 : Nat)] = ((M3 ++ [lnB w t]).map (·.2.1)).flatMap encN := by rw [List.map_append, List.flatMap_append]; rfl
        have eC : (M3.map (·.2.2)).flatMap encN ++ [AV.int .i64 ((lnB w t).2.2 : Nat)] = ((M3 ++ [lnB w t]).map (·.2.2)).flatMap encN := by rw [List.map_append, List.flatMap_append]; rfl
        have D0 := kq.rd (j := 0) rfl
        have D1 := kq0.rd (j := 1) rfl
        have D2 := kq1.rd (j := 2) rfl
        have D3 := kq2.rd (j := 3) rfl
        have D4 := kq3.rd (j := 0) rfl
        rw [eK, eA, eB, eC] at kq3
        refine ⟨n0, n1, n2, n3, g0, g1, g2, g3, u0, u1, u2, u3, ⟨D0, a0, b0, e0⟩, ⟨D1, a1, b1, e1⟩, ⟨D2, a2, b2, e2⟩, ⟨D3, a3, b3, e3⟩, D4, (ks_own hlS (kq3.2.2.1 0 _ _ rfl rfl)).slc, hf3.trans (f0.trans (f1.trans (f2.trans f3))), ⟨⟨n0, n1, n2, n3, kq3⟩, by simp [ql], ?_, ?_, ?_⟩, ?_, hKb3, ql⟩
        · rw [List.nodup_append]
          exact ⟨qnd, by simp, fun a ha b hb' => by simp at hb'; subst hb'; rintro rfl; exact hnot2 ha⟩
        · intro x hx
          rcases List.mem_append.1 hx with hx | hx
          · exact qal x hx
          · simp at hx; subst hx; exact ⟨hok.2, hok.alph⟩
        · intro i x b hx hb' w' t' hs' hxs
          by_cases hi : i < K3.length
          · rw [List.getElem?_append_left hi] at hx
            rw [List.getElem?_append_left (by omega)] at hb'
            exact qgood i x b hx hb' w' t' hs' hxs
          · have hi2 : i = K3.length := by
              have := (List.getElem?_eq_some_iff.1 hx).1
              simp at this; omega
            subst hi2
            rw [List.getElem?_append_right (Nat.le_refl _)] at hx
            rw [List.getElem?_append_right (by omega)] at hb'
            simp at hx
            rw [show K3.length - M3.length = 0 by omega] at hb'
            simp at hb'
            subst hb'
            have := gaK_inj (s := ([w], t)) (s' := ([w'], t')) hok.1 hs'.1 (hx.trans hxs)
            simp only [Prod.mk.injEq, List.cons.injEq, and_true] at this
            obtain ⟨rfl, rfl⟩ := this
            rfl
        · intro x hx
          rcases List.mem_append.1 hx with hx | hx
          · exact (hc3.mono (by omega)) x hx
          · simp at hx; subst hx; exact .inr ⟨([w], t), hok, by rw [muL_one]; omega, rfl⟩
      by_cases h0 : movesB w (kindS t) = []
      · have k0 : (((movesB w (kindS t)).length : Int) == 0) = true := by rw [h0]; rfl
        rw [if_pos h0] at hC3
        rw [hC3] at main
        simp (maxSteps := 1000000) (disch := first | omega | rfl | (simp only [zL, two63, room] <;> omega) | fail) only [↓reduceIte, ↓zP, zW, WOp, evOp, evBin, binI, binSh, binS, evNil, keyIs, keyEq, mkv, AV.cells, AV.sc, optv, bnd, env, put, Env.get, Env.set, Env.del, Env.dels, Env.init, res1, resL, resV, fillP, splice, newRow, Nat.reduceEqDiff, Nat.reduceLT, Nat.reduceLeDiff, Nat.reduceAdd, Nat.reduceMul, Nat.reduceSub, Nat.reduceBEq, reduceCtorEq, ↓zR, zQ, Tr, StA, StT, lv, k0]
        refine main _ ?_
        intro h3 K3 M3 hf3 hk3 hc3
        obtain ⟨n0, n1, n2, n3, g0, g1, g2, g3, u0, u1, u2, u3, ⟨D0, a0, b0, e0⟩, ⟨D1, a1, b1, e1⟩, ⟨D2, a2, b2, e2⟩, ⟨D3, a3, b3, e3⟩, D4, S4, F4, K4, C4, L4, Q4⟩ := last h3 K3 M3 hf3 hk3 hc3
        have l4 := fun g => Slc.lenV (S4) (g := g) (ρ := fun _ => _) (x := .t 0) rfl; simp only [evOp] at l4
        have wz : IntKind.i64.wrap (((K3 ++ [gaK ([w], t)]).length : Int) - 1) = (M3.length : Int) := by
          rw [List.length_append, IntKind.wrap_i64]
          simp only [List.length_cons, List.length_nil]
          omega
        simp only [AV.cells] at b0 b1 b2 b3
        simp (maxSteps := 1000000) (disch := first | omega | rfl | (simp only [zL, two63, room] <;> omega) | fail) only [↓reduceIte, ↓zP, zW, WOp, evOp, evBin, binI, binSh, binS, evNil, keyIs, keyEq, mkv, AV.cells, AV.sc, optv, bnd, env, put, Env.get, Env.set, Env.del, Env.dels, Env.init, res1, resL, resV, fillP, splice, newRow, Nat.reduceEqDiff, Nat.reduceLT, Nat.reduceLeDiff, Nat.reduceAdd, Nat.reduceMul, Nat.reduceSub, Nat.reduceBEq, reduceCtorEq, ↓zR, zQ, Tr, StA, StT, D0, D1, D2, D3, D4, a0, a1, a2, a3, b0, b1, b2, b3, e0, e1, e2, e3, l4, wz]
        exact hp _ _ _ M3.length ((pA.frs hcl).trans F4) K4 C4 (by rw [List.getElem?_append_right (Nat.le_refl _), Nat.sub_self]; rfl)
      · have k0 : (((movesB w (kindS t)).length : Int) == 0) = false := by
          rw [beq_eq_false_iff_ne]
          intro hh
          exact h0 (List.eq_nil_of_length_eq_zero (by omega))
        rw [if_neg h0] at hC3
        rw [hC3] at main
        simp (maxSteps := 1000000) (disch := first | omega | rfl | (simp only [zL, two63, room] <;> omega) | fail) only [↓reduceIte, ↓zP, zW, WOp, evOp, evBin, binI, binSh, binS, evNil, keyIs, keyEq, mkv, AV.cells, AV.sc, optv, bnd, env, put, Env.get, Env.set, Env.del, Env.dels, Env.init, res1, resL, resV, fillP, splice, newRow, Nat.reduceEqDiff, Nat.reduceLT, Nat.reduceLeDiff, Nat.reduceAdd, Nat.reduceMul, Nat.reduceSub, Nat.reduceBEq, reduceCtorEq, ↓zR, zQ, Tr, StA, StT, lv, k0]
        refine main _ ?_
        intro h3 K3 M3 hf3 hk3 hc3
        obtain ⟨n0, n1, n2, n3, g0, g1, g2, g3, u0, u1, u2, u3, ⟨D0, a0, b0, e0⟩, ⟨D1, a1, b1, e1⟩, ⟨D2, a2, b2, e2⟩, ⟨D3, a3, b3, e3⟩, D4, S4, F4, K4, C4, L4, Q4⟩ := last h3 K3 M3 hf3 hk3 hc3
        have l4 := fun g => Slc.lenV (S4) (g := g) (ρ := fun _ => _) (x := .t 0) rfl; simp only [evOp] at l4
        have wz : IntKind.i64.wrap (((K3 ++ [gaK ([w], t)]).length : Int) - 1) = (M3.length : Int) := by
          rw [List.length_append, IntKind.wrap_i64]
          simp only [List.length_cons, List.length_nil]
          omega
        simp only [AV.cells] at b0 b1 b2 b3
        simp (maxSteps := 1000000) (disch := first | omega | rfl | (simp only [zL, two63, room] <;> omega) | fail) only [↓reduceIte, ↓zP, zW, WOp, evOp, evBin, binI, binSh, binS, evNil, keyIs, keyEq, mkv, AV.cells, AV.sc, optv, bnd, env, put, Env.get, Env.set, Env.del, Env.dels, Env.init, res1, resL, resV, fillP, splice, newRow, Nat.reduceEqDiff, Nat.reduceLT, Nat.reduceLeDiff, Nat.reduceAdd, Nat.reduceMul, Nat.reduceSub, Nat.reduceBEq, reduceCtorEq, ↓zR, zQ, Tr, StA, StT, D0, D1, D2, D3, D4, a0, a1, a2, a3, b0, b1, b2, b3, e0, e1, e2, e3, l4, wz]
        exact hp _ _ _ M3.length ((pA.frs hcl).trans F4) K4 C4 (by rw [List.getElem?_append_right (Nat.le_refl _), Nat.sub_self]; rfl)
theorem KL.new {N : Nat} {h : AH} : KL N h.length (h ++ [.row [.nilS, .nilS, .nilS, .nilS] 0 0 false]) [] [] := by
  refine ⟨⟨.nilS, .nilS, .nilS, .nilS, by simp, rfl, ?_, ?_, ?_⟩, rfl, List.nodup_nil, fun x hx => by simp at hx, fun i x m hx => by simp at hx⟩
  · intro j v L hv hL
    have hj := (List.getElem?_eq_some_iff.1 hv).1
    simp only [List.length_cons, List.length_nil] at hj
    have : j = 0 ∨ j = 1 ∨ j = 2 ∨ j = 3 := by omega
    rcases this with rfl | rfl | rfl | rfl <;> (simp at hv hL; subst hv; subst hL; exact ⟨rfl, rfl⟩)
  · intro j v hv
    have := List.mem_of_getElem? hv
    simp at this
    subst this
    simp [rowOf]
  · intro i j u v r _ hu _ hr
    have := List.mem_of_getElem? hu
    simp at this
    subst this
    simp [rowOf] at hr
theorem ngs_old {h : AH} {r : Nat} (hr : r < h.length) : ¬ grS h.length (h ++ [.row [.nilS, .nilS, .nilS, .nilS] 0 0 false]) r := by
  rintro (rfl | ⟨vs, v, e1, e2, e3⟩)
  · exact Nat.lt_irrefl _ hr
  · simp at e1
    subst e1
    simp at e2
    subst e2
    simp [rowOf] at e3
theorem pre_newS {h h' : AH} (hf : FrS h.length (h ++ [.row [.nilS, .nilS, .nilS, .nilS] 0 0 false]) h') : Pre h h' := ⟨by have := hf.1; simp at this; omega, fun i hi => by rw [(hf.2 i (by simp; omega) (ngs_old hi)).1, List.getElem?_append_left hi]⟩
theorem c_sLongestGame (w : List UInt8) (t : Bool) (hw : w.length < 2 ^ 60) {h : AH} {post : AV → AH → Prop} (hp : ∀ h', Pre h h' → post (.tup [.int .i64 ((lnI w t).1 : Nat), .bool (plG10 w)]) h') : S 424 [.str w, .bool t] h post k := by
  unfold lnI at hp
  refine S_of rfl T424 ?_; unfold fi424
  cases e : plG10 w <;> rw [e] at hp
  · simp (maxSteps := 1000000) (disch := first | omega | rfl | (simp only [zL, two63, room] <;> omega) | fail) only [↓reduceIte, ↓zP, zW, WOp, evOp, evBin, binI, binSh, binS, evNil, keyIs, keyEq, mkv, AV.cells, AV.sc, optv, bnd, env, put, Env.get, Env.set, Env.del, Env.dels, Env.init, res1, resL, resV, fillP, splice, newRow, Nat.reduceEqDiff, Nat.reduceLT, Nat.reduceLeDiff, Nat.reduceAdd, Nat.reduceMul, Nat.reduceSub, Nat.reduceBEq, reduceCtorEq, ↓zR, zQ, Tr, StA, StT, e_gaFew w hw, e]
    exact hp h (Pre.refl h)
  · obtain ⟨h1, h2, h3⟩ := pl10 e
    simp (maxSteps := 1000000) (disch := first | omega | rfl | (simp only [zL, two63, room] <;> omega) | fail) only [↓reduceIte, ↓zP, zW, WOp, evOp, evBin, binI, binSh, binS, evNil, keyIs, keyEq, mkv, AV.cells, AV.sc, optv, bnd, env, put, Env.get, Env.set, Env.del, Env.dels, Env.init, res1, resL, resV, fillP, splice, newRow, Nat.reduceEqDiff, Nat.reduceLT, Nat.reduceLeDiff, Nat.reduceAdd, Nat.reduceMul, Nat.reduceSub, Nat.reduceBEq, reduceCtorEq, ↓zR, zQ, Tr, StA, StT, e_gaFew w hw, e]
    refine c_lof (N := w.length + 2) (by omega) (mu w + 1) w t _ [] [] (by omega) rfl h3 KL.new _ ?_
    intro h4 K4 M4 i hf4 hk4 _ hi
    have hk4' := hk4
    obtain ⟨⟨v0, v1, v2, v3, hks⟩, hlen, _⟩ := hk4'
    have hKb := hk4.few (by omega)
    have d := hks.rd (j := 1) rfl
    obtain ⟨c1, q1, f1, rfl, x1⟩ := Slc.getK hlN (ks_own hlN (hks.2.2.1 1 _ _ rfl rfl)).slc (i := i) (x := (lnB w t).1) (by rw [List.getElem?_map, hi]; rfl)
    rw [List.length_map] at d
    have hil : i < M4.length := (List.getElem?_eq_some_iff.1 hi).1
    have hilt : (i : Int) < ((M4.length : Nat) : Int) := by omega
    have y1 : rdRow h4 c1 q1 (f1 + i * 1) 1 = some [.int .i64 ((lnB w t).1 : Nat)] := x1
    simp (maxSteps := 1000000) (disch := first | omega | rfl | (simp only [zL, two63, room] <;> omega) | fail) only [↓reduceIte, ↓zP, zW, WOp, evOp, evBin, binI, binSh, binS, evNil, keyIs, keyEq, mkv, AV.cells, AV.sc, optv, bnd, env, put, Env.get, Env.set, Env.del, Env.dels, Env.init, res1, resL, resV, fillP, splice, newRow, Nat.reduceEqDiff, Nat.reduceLT, Nat.reduceLeDiff, Nat.reduceAdd, Nat.reduceMul, Nat.reduceSub, Nat.reduceBEq, reduceCtorEq, ↓zR, zQ, Tr, StA, StT, d, hilt, y1]
    exact hp h4 (pre_newS hf4)
theorem c_sShortestGame (w : List UInt8) (t : Bool) (hw : w.length < 2 ^ 60) {h : AH} {post : AV → AH → Prop} (hp : ∀ h', Pre h h' → post (.tup [.int .i64 ((lnI w t).2.1 : Nat), .bool (plG10 w)]) h') : S 426 [.str w, .bool t] h post k := by
  unfold lnI at hp
  refine S_of rfl T426 ?_; unfold fi426
  cases e : plG10 w <;> rw [e] at hp
  · simp (maxSteps := 1000000) (disch := first | omega | rfl | (simp only [zL, two63, room] <;> omega) | fail) only [↓reduceIte, ↓zP, zW, WOp, evOp, evBin, binI, binSh, binS, evNil, keyIs, keyEq, mkv, AV.cells, AV.sc, optv, bnd, env, put, Env.get, Env.set, Env.del, Env.dels, Env.init, res1, resL, resV, fillP, splice, newRow, Nat.reduceEqDiff, Nat.reduceLT, Nat.reduceLeDiff, Nat.reduceAdd, Nat.reduceMul, Nat.reduceSub, Nat.reduceBEq, reduceCtorEq, ↓zR, zQ, Tr, StA, StT, e_gaFew w hw, e]
    exact hp h (Pre.refl h)
  · obtain ⟨h1, h2, h3⟩ := pl10 e
    simp (maxSteps := 1000000) (disch := first | omega | rfl | (simp only [zL, two63, room] <;> omega) | fail) only [↓reduceIte, ↓zP, zW, WOp, evOp, evBin, binI, binSh, binS, evNil, keyIs, keyEq, mkv, AV.cells, AV.sc, optv, bnd, env, put, Env.get, Env.set, Env.del, Env.dels, Env.init, res1, resL, resV, fillP, splice, newRow, Nat.reduceEqDiff, Nat.reduceLT, Nat.reduceLeDiff, Nat.reduceAdd, Nat.reduceMul, Nat.reduceSub, Nat.reduceBEq, reduceCtorEq, ↓zR, zQ, Tr, StA, StT, e_gaFew w hw, e]
    refine c_lof (N := w.length + 2) (by omega) (mu w + 1) w t _ [] [] (by omega) rfl h3 KL.new _ ?_
    intro h4 K4 M4 i hf4 hk4 _ hi
    have hk4' := hk4
    obtain ⟨⟨v0, v1, v2, v3, hks⟩, hlen, _⟩ := hk4'
    have hKb := hk4.few (by omega)
    have d := hks.rd (j := 2) rfl
    obtain ⟨c1, q1, f1, rfl, x1⟩ := Slc.getK hlN (ks_own hlN (hks.2.2.1 2 _ _ rfl rfl)).slc (i := i) (x := (lnB w t).2.1) (by rw [List.getElem?_map, hi]; rfl)
    rw [List.length_map] at d
    have hil : i < M4.length := (List.getElem?_eq_some_iff.1 hi).1
    have hilt : (i : Int) < ((M4.length : Nat) : Int) := by omega
    have y1 : rdRow h4 c1 q1 (f1 + i * 1) 1 = some [.int .i64 ((lnB w t).2.1 : Nat)] := x1
    simp (maxSteps := 1000000) (disch := first | omega | rfl | (simp only [zL, two63, room] <;> omega) | fail) only [↓reduceIte, ↓zP, zW, WOp, evOp, evBin, binI, binSh, binS, evNil, keyIs, keyEq, mkv, AV.cells, AV.sc, optv, bnd, env, put, Env.get, Env.set, Env.del, Env.dels, Env.init, res1, resL, resV, fillP, splice, newRow, Nat.reduceEqDiff, Nat.reduceLT, Nat.reduceLeDiff, Nat.reduceAdd, Nat.reduceMul, Nat.reduceSub, Nat.reduceBEq, reduceCtorEq, ↓zR, zQ, Tr, StA, StT, d, hilt, y1]
    exact hp h4 (pre_newS hf4)
theorem c_sCountGames (w : List UInt8) (t : Bool) (hw : w.length < 2 ^ 60) {h : AH} {post : AV → AH → Prop} (hp : ∀ h', Pre h h' → post (.tup [.int .i64 ((lnI w t).2.2 : Nat), .bool (plG10 w)]) h') : S 428 [.str w, .bool t] h post k := by
  unfold lnI at hp
  refine S_of rfl T428 ?_; unfold fi428
  cases e : plG10 w <;> rw [e] at hp
  · simp (maxSteps := 1000000) (disch := first | omega | rfl | (simp only [zL, two63, room] <;> omega) | fail) only [↓reduceIte, ↓zP, zW, WOp, evOp, evBin, binI, binSh, binS, evNil, keyIs, keyEq, mkv, AV.cells, AV.sc, optv, bnd, env, put, Env.get, Env.set, Env.del, Env.dels, Env.init, res1, resL, resV, fillP, splice, newRow, Nat.reduceEqDiff, Nat.reduceLT, Nat.reduceLeDiff, Nat.reduceAdd, Nat.reduceMul, Nat.reduceSub, Nat.reduceBEq, reduceCtorEq, ↓zR, zQ, Tr, StA, StT, e_gaFew w hw, e]
    exact hp h (Pre.refl h)
  · obtain ⟨h1, h2, h3⟩ := pl10 e
    simp (maxSteps := 1000000) (disch := first | omega | rfl | (simp only [zL, two63, room] <;> omega) | fail) only [↓reduceIte, ↓zP, zW, WOp, evOp, evBin, binI, binSh, binS, evNil, keyIs, keyEq, mkv, AV.cells, AV.sc, optv, bnd, env, put, Env.get, Env.set, Env.del, Env.dels, Env.init, res1, resL, resV, fillP, splice, newRow, Nat.reduceEqDiff, Nat.reduceLT, Nat.reduceLeDiff, Nat.reduceAdd, Nat.reduceMul, Nat.reduceSub, Nat.reduceBEq, reduceCtorEq, ↓zR, zQ, Tr, StA, StT, e_gaFew w hw, e]
    refine c_lof (N := w.length + 2) (by omega) (mu w + 1) w t _ [] [] (by omega) rfl h3 KL.new _ ?_
    intro h4 K4 M4 i hf4 hk4 _ hi
    have hk4' := hk4
    obtain ⟨⟨v0, v1, v2, v3, hks⟩, hlen, _⟩ := hk4'
    have hKb := hk4.few (by omega)
    have d := hks.rd (j := 3) rfl
    obtain ⟨c1, q1, f1, rfl, x1⟩ := Slc.getK hlN (ks_own hlN (hks.2.2.1 3 _ _ rfl rfl)).slc (i := i) (x := (lnB w t).2.2) (by rw [List.getElem?_map, hi]; rfl)
    rw [List.length_map] at d
    have hil : i < M4.length := (List.getElem?_eq_some_iff.1 hi).1
    have hilt : (i : Int) < ((M4.length : Nat) : Int) := by omega
    have y1 : rdRow h4 c1 q1 (f1 + i * 1) 1 = some [.int .i64 ((lnB w t).2.2 : Nat)] := x1
    simp (maxSteps := 1000000) (disch := first | omega | rfl | (simp only [zL, two63, room] <;> omega) | fail) only [↓reduceIte, ↓zP, zW, WOp, evOp, evBin, binI, binSh, binS, evNil, keyIs, keyEq, mkv, AV.cells, AV.sc, optv, bnd, env, put, Env.get, Env.set, Env.del, Env.dels, Env.init, res1, resL, resV, fillP, splice, newRow, Nat.reduceEqDiff, Nat.reduceLT, Nat.reduceLeDiff, Nat.reduceAdd, Nat.reduceMul, Nat.reduceSub, Nat.reduceBEq, reduceCtorEq, ↓zR, zQ, Tr, StA, StT, d, hilt, y1]
    exact hp h4 (pre_newS hf4)
end Go.Proofs.YtejhhdpfndiliaaGreatDoor.Ab

/- GAMES won: the law's own helpers, what is drawn, plain facts. -/
namespace Go.Proofs.YtejhhdpfndiliaaGreatDoor.Ab
open Go
set_option maxRecDepth 100000
set_option maxHeartbeats 8000000

theorem lp_nMoves {v u : AV} {L : List (Int × Int)} (hlen : L.length < 2 ^ 30) {h : AH} (hs : Slc 2 encM h v L) (ht : Slc 2 encM h u L) {R : X → Env → AH → Prop} (hR : R (.exit 0) [] h) : ∀ (rest pre : List (Int × Int)), L = pre ++ rest →
    Cx (.loop lp429_0) [(0, v), (1, u), (12, .int .i64 L.length), (13, .int .i64 pre.length)] h R k k
  | [], pre, hL => by
    have hl : L.length = pre.length := by rw [hL]; simp
    rw [hl]
    rw [w_loopb (c := lp429_0) (d := lb429_0) rfl]; unfold lb429_0
    simp (maxSteps := 1000000) (disch := first | omega | rfl | (simp only [zL, two63, room] <;> omega) | fail) only [↓reduceIte, ↓zP, zW, WOp, evOp, evBin, binI, binSh, binS, evNil, keyIs, keyEq, mkv, AV.cells, AV.sc, optv, bnd, env, put, Env.get, Env.set, Env.del, Env.dels, Env.init, res1, resL, resV, fillP, splice, newRow, Nat.reduceEqDiff, Nat.reduceLT, Nat.reduceLeDiff, Nat.reduceAdd, Nat.reduceMul, Nat.reduceSub, Nat.reduceBEq, reduceCtorEq, ↓zR, zQ, Tr, StA, StT]
    exact hR
  | x :: rest, pre, hL => by
    have ih := lp_nMoves hlen hs ht (R := R) hR rest (pre ++ [x]) (by rw [hL]; simp)
    have hl : L.length = pre.length + 1 + rest.length := by rw [hL]; simp; omega
    have hs' := hs
    have ht' := ht
    rw [hL] at hs' ht'
    obtain ⟨r1, k1, o1, hve, hr⟩ := hs'.at hlM
    obtain ⟨r2, k2, o2, hue, hr2⟩ := ht'.at hlM
    rw [← hL, hl] at hve hue
    subst hve
    subst hue
    rw [hl] at ih ⊢
    have hr' : rdRow h r1 k1 (o1 + pre.length * 2) 2 = some [.int .i64 x.1, .int .i64 x.2] := hr
    have hr2' : rdRow h r2 k2 (o2 + pre.length * 2) 2 = some [.int .i64 x.1, .int .i64 x.2] := hr2
    have hlt : (pre.length : Int) < ((pre.length + 1 + rest.length : Nat) : Int) := by omega
    have hw1 : (pre.length : Int) + 1 = ((pre ++ [x]).length : Int) := by simp
    have hw2 : IntKind.i64.wrap ((pre ++ [x]).length : Int) = ((pre ++ [x]).length : Int) := wrap_i (by simp; omega)
    have hx : (((x.1, x.2) : Int × Int) == (x.1, x.2)) = true := by simp
    rw [w_loopb (c := lp429_0) (d := lb429_0) rfl]; unfold lb429_0
    simp (maxSteps := 1000000) (disch := first | omega | rfl | (simp only [zL, two63, room] <;> omega) | fail) only [↓reduceIte, ↓zP, zW, WOp, evOp, evBin, binI, binSh, binS, evNil, keyIs, keyEq, mkv, AV.cells, AV.sc, optv, bnd, env, put, Env.get, Env.set, Env.del, Env.dels, Env.init, res1, resL, resV, fillP, splice, newRow, Nat.reduceEqDiff, Nat.reduceLT, Nat.reduceLeDiff, Nat.reduceAdd, Nat.reduceMul, Nat.reduceSub, Nat.reduceBEq, reduceCtorEq, ↓zR, zQ, Tr, StA, StT, hlt, hr', hr2', seqM, hx, hw1, hw2]
    try refine w_drw ?_
    try (simp (maxSteps := 1000000) (disch := first | omega | rfl | (simp only [zL, two63, room] <;> omega) | fail) only [↓reduceIte, ↓zP, zW, WOp, evOp, evBin, binI, binSh, binS, evNil, keyIs, keyEq, mkv, AV.cells, AV.sc, optv, bnd, env, put, Env.get, Env.set, Env.del, Env.dels, Env.init, res1, resL, resV, fillP, splice, newRow, Nat.reduceEqDiff, Nat.reduceLT, Nat.reduceLeDiff, Nat.reduceAdd, Nat.reduceMul, Nat.reduceSub, Nat.reduceBEq, reduceCtorEq, ↓zR, zQ, Tr, StA, StT, hlt, hr', hr2', seqM, hx, hw1, hw2])
    rw [w_loopn (c := lp429_0) rfl]
    simp (maxSteps := 1000000) (disch := first | omega | rfl | (simp only [zL, two63, room] <;> omega) | fail) only [↓reduceIte, ↓zP, zW, WOp, evOp, evBin, binI, binSh, binS, evNil, keyIs, keyEq, mkv, AV.cells, AV.sc, optv, bnd, env, put, Env.get, Env.set, Env.del, Env.dels, Env.init, res1, resL, resV, fillP, splice, newRow, Nat.reduceEqDiff, Nat.reduceLT, Nat.reduceLeDiff, Nat.reduceAdd, Nat.reduceMul, Nat.reduceSub, Nat.reduceBEq, reduceCtorEq, ↓zR, zQ, Tr, StA, StT]
    exact ih
theorem c_nMoves {v u : AV} {L : List (Int × Int)} (hlen : L.length < 2 ^ 30) {h : AH} (hs : Slc 2 encM h v L) (ht : Slc 2 encM h u L) {post : AV → AH → Prop} (hp : post (.bool true) h) : S 429 [v, u] h post k := by
  refine S_of rfl T429 ?_; unfold fi429
  have hv := fun g => Slc.lenV (hs) (g := g) (ρ := fun _ => _) (x := .t 0) rfl; simp only [evOp] at hv
  have hu := fun g => Slc.lenV (ht) (g := g) (ρ := fun _ => _) (x := .t 0) rfl; simp only [evOp] at hu
  simp (maxSteps := 1000000) (disch := first | omega | rfl | (simp only [zL, two63, room] <;> omega) | fail) only [↓reduceIte, ↓zP, zW, WOp, evOp, evBin, binI, binSh, binS, evNil, keyIs, keyEq, mkv, AV.cells, AV.sc, optv, bnd, env, put, Env.get, Env.set, Env.del, Env.dels, Env.init, res1, resL, resV, fillP, splice, newRow, Nat.reduceEqDiff, Nat.reduceLT, Nat.reduceLeDiff, Nat.reduceAdd, Nat.reduceMul, Nat.reduceSub, Nat.reduceBEq, reduceCtorEq, ↓zR, zQ, Tr, StA, StT, hv, hu]
  refine lp_nMoves hlen hs ht ?_ L [] rfl
  simp (maxSteps := 1000000) (disch := first | omega | rfl | (simp only [zL, two63, room] <;> omega) | fail) only [↓reduceIte, ↓zP, zW, WOp, evOp, evBin, binI, binSh, binS, evNil, keyIs, keyEq, mkv, AV.cells, AV.sc, optv, bnd, env, put, Env.get, Env.set, Env.del, Env.dels, Env.init, res1, resL, resV, fillP, splice, newRow, Nat.reduceEqDiff, Nat.reduceLT, Nat.reduceLeDiff, Nat.reduceAdd, Nat.reduceMul, Nat.reduceSub, Nat.reduceBEq, reduceCtorEq, ↓zR, zQ, Tr, StA, StT]
  exact hp
theorem lp_nMove {v : AV} {L : List (Int × Int)} (hlen : L.length < 2 ^ 30) {b : AH} (hs : Slc 2 encM b v L) (p : Nat) (m : Int × Int) (hm : rdRow b p 0 0 2 = some [.int .i64 m.1, .int .i64 m.2]) {R : X → Env → AH → Prop} : ∀ (rest pre : List (Int × Int)) (h : AH), L = pre ++ rest → Pre b h →
    (∀ h', Pre b h' → rest.contains m = false → R (.exit 0) [] h') → (∀ h', Pre b h' → rest.contains m = true → R .ret [(4, .bool true)] h') →
    Cx (.loop lp35_0) [(3, .ptr p 0 0 2), (7, v), (8, .int .i64 L.length), (9, .int .i64 pre.length)] h R k k
  | [], pre, h, hL, hp, h1, h2 => by
    have hl : L.length = pre.length := by rw [hL]; simp
    rw [hl]
    rw [w_loopb (c := lp35_0) (d := lb35_0) rfl]; unfold lb35_0
    simp (maxSteps := 1000000) (disch := first | omega | rfl | (simp only [zL, two63, room] <;> omega) | fail) only [↓reduceIte, ↓zP, zW, WOp, evOp, evBin, binI, binSh, binS, evNil, keyIs, keyEq, mkv, AV.cells, AV.sc, optv, bnd, env, put, Env.get, Env.set, Env.del, Env.dels, Env.init, res1, resL, resV, fillP, splice, newRow, Nat.reduceEqDiff, Nat.reduceLT, Nat.reduceLeDiff, Nat.reduceAdd, Nat.reduceMul, Nat.reduceSub, Nat.reduceBEq, reduceCtorEq, ↓zR, zQ, Tr, StA, StT]
    exact h1 h hp rfl
  | x :: rest, pre, h, hL, hp, h1, h2 => by
    have ih := lp_nMove hlen hs p m hm (R := R) rest (pre ++ [x])
    have hl : L.length = pre.length + 1 + rest.length := by rw [hL]; simp; omega
    have hs' := hs.pre hp
    rw [hL] at hs'
    obtain ⟨r1, k1, o1, hve, hr⟩ := hs'.at hlM
    rw [← hL, hl] at hve
    subst hve
    rw [hl] at ih ⊢
    have hr' : rdRow h r1 k1 (o1 + pre.length * 2) 2 = some [.int .i64 x.1, .int .i64 x.2] := hr
    have hp2 : Pre b (h ++ [AO.row [AV.int .i64 x.1, AV.int .i64 x.2] 0 0 false]) := hp.trans (Pre.push _ _)
    have hm2 := rdRow_pre hp2 hm
    have hm3 := rdRow_pre hp hm
    have hpl := rd_lt hm3
    have hlt : (pre.length : Int) < ((pre.length + 1 + rest.length : Nat) : Int) := by omega
    have hw1 : (pre.length : Int) + 1 = ((pre ++ [x]).length : Int) := by simp
    have hw2 : IntKind.i64.wrap ((pre ++ [x]).length : Int) = ((pre ++ [x]).length : Int) := wrap_i (by simp; omega)
    rw [w_loopb (c := lp35_0) (d := lb35_0) rfl]; unfold lb35_0
    cases e : (((x.1, x.2) : Int × Int) == (m.1, m.2))
    · simp (maxSteps := 1000000) (disch := first | omega | rfl | (simp only [zL, two63, room] <;> omega) | fail) only [↓reduceIte, ↓zP, zW, WOp, evOp, evBin, binI, binSh, binS, evNil, keyIs, keyEq, mkv, AV.cells, AV.sc, optv, bnd, env, put, Env.get, Env.set, Env.del, Env.dels, Env.init, res1, resL, resV, fillP, splice, newRow, Nat.reduceEqDiff, Nat.reduceLT, Nat.reduceLeDiff, Nat.reduceAdd, Nat.reduceMul, Nat.reduceSub, Nat.reduceBEq, reduceCtorEq, ↓zR, zQ, Tr, StA, StT, hlt, hr', hm2, hm3, hpl, seqM, e, hw1, hw2]
      rw [w_loopn (c := lp35_0) rfl]
      simp (maxSteps := 1000000) (disch := first | omega | rfl | (simp only [zL, two63, room] <;> omega) | fail) only [↓reduceIte, ↓zP, zW, WOp, evOp, evBin, binI, binSh, binS, evNil, keyIs, keyEq, mkv, AV.cells, AV.sc, optv, bnd, env, put, Env.get, Env.set, Env.del, Env.dels, Env.init, res1, resL, resV, fillP, splice, newRow, Nat.reduceEqDiff, Nat.reduceLT, Nat.reduceLeDiff, Nat.reduceAdd, Nat.reduceMul, Nat.reduceSub, Nat.reduceBEq, reduceCtorEq, ↓zR, zQ, Tr, StA, StT]
      have hc : (x :: rest).contains m = rest.contains m := by
        rw [List.contains_cons, show (m == x) = (x == m) from BEq.comm, show (x == m) = false from e]; rfl
      refine ih _ (by rw [hL]; simp) hp2 (fun h' q1 q2 => h1 h' q1 (by rw [hc]; exact q2)) (fun h' q1 q2 => h2 h' q1 (by rw [hc]; exact q2))
    · simp (maxSteps := 1000000) (disch := first | omega | rfl | (simp only [zL, two63, room] <;> omega) | fail) only [↓reduceIte, ↓zP, zW, WOp, evOp, evBin, binI, binSh, binS, evNil, keyIs, keyEq, mkv, AV.cells, AV.sc, optv, bnd, env, put, Env.get, Env.set, Env.del, Env.dels, Env.init, res1, resL, resV, fillP, splice, newRow, Nat.reduceEqDiff, Nat.reduceLT, Nat.reduceLeDiff, Nat.reduceAdd, Nat.reduceMul, Nat.reduceSub, Nat.reduceBEq, reduceCtorEq, ↓zR, zQ, Tr, StA, StT, hlt, hr', hm2, hm3, hpl, seqM, e]
      refine h2 _ hp2 ?_
      rw [List.contains_cons, show (m == x) = (x == m) from BEq.comm, show (x == m) = true from e]; rfl
theorem c_nMove {v : AV} {L : List (Int × Int)} (hlen : L.length < 2 ^ 30) (i t : Int) {h : AH} (hs : Slc 2 encM h v L) {post : AV → AH → Prop} (hp : ∀ h', Pre h h' → post (.bool (L.contains (i, t))) h') : S 35 [v, mvV i t] h post k := by
  obtain ⟨q, -, -⟩ := mvRow h i t
  refine S_of rfl T35 ?_; unfold fi35
  have hs2 := hs.pre (Pre.push h (AO.row [AV.int .i64 i, AV.int .i64 t] 0 0 false))
  have hv := fun g => Slc.lenV (hs2) (g := g) (ρ := fun _ => _) (x := .t 0) rfl; simp only [evOp] at hv
  simp (maxSteps := 1000000) (disch := first | omega | rfl | (simp only [zL, two63, room] <;> omega) | fail) only [↓reduceIte, ↓zP, zW, WOp, evOp, evBin, binI, binSh, binS, evNil, keyIs, keyEq, mkv, AV.cells, AV.sc, optv, bnd, env, put, Env.get, Env.set, Env.del, Env.dels, Env.init, res1, resL, resV, fillP, splice, newRow, Nat.reduceEqDiff, Nat.reduceLT, Nat.reduceLeDiff, Nat.reduceAdd, Nat.reduceMul, Nat.reduceSub, Nat.reduceBEq, reduceCtorEq, ↓zR, zQ, Tr, StA, StT, hv]
  refine lp_nMove hlen hs2 h.length (i, t) q L [] _ rfl (Pre.refl _) ?_ ?_
  · intro h' hp' e
    rw [e] at hp
    simp (maxSteps := 1000000) (disch := first | omega | rfl | (simp only [zL, two63, room] <;> omega) | fail) only [↓reduceIte, ↓zP, zW, WOp, evOp, evBin, binI, binSh, binS, evNil, keyIs, keyEq, mkv, AV.cells, AV.sc, optv, bnd, env, put, Env.get, Env.set, Env.del, Env.dels, Env.init, res1, resL, resV, fillP, splice, newRow, Nat.reduceEqDiff, Nat.reduceLT, Nat.reduceLeDiff, Nat.reduceAdd, Nat.reduceMul, Nat.reduceSub, Nat.reduceBEq, reduceCtorEq, ↓zR, zQ, Tr, StA, StT]
    exact hp h' ((Pre.push _ _).trans hp')
  · intro h' hp' e
    rw [e] at hp
    simp (maxSteps := 1000000) (disch := first | omega | rfl | (simp only [zL, two63, room] <;> omega) | fail) only [↓reduceIte, ↓zP, zW, WOp, evOp, evBin, binI, binSh, binS, evNil, keyIs, keyEq, mkv, AV.cells, AV.sc, optv, bnd, env, put, Env.get, Env.set, Env.del, Env.dels, Env.init, res1, resL, resV, fillP, splice, newRow, Nat.reduceEqDiff, Nat.reduceLT, Nat.reduceLeDiff, Nat.reduceAdd, Nat.reduceMul, Nat.reduceSub, Nat.reduceBEq, reduceCtorEq, ↓zR, zQ, Tr, StA, StT]
    exact hp h' ((Pre.push _ _).trans hp')
theorem c_nMoveV {v : AV} {L : List (Int × Int)} (hlen : L.length < 2 ^ 30) (i t : Int) {bb : Bool} (hb : L.contains (i, t) = bb) {h : AH} (hs : Slc 2 encM h v L) {post : AV → AH → Prop} (hp : ∀ h', Pre h h' → post (.bool bb) h') : S 35 [v, mvV i t] h post k := c_nMove hlen i t hs (by rw [hb]; exact hp)
theorem c_drplayed {b : AH} {cv : AV} {bs : List UInt8} {K : Nat} {h : AH} {post : AV → AH → Prop} (hc : Cur b cv bs K h) (hK : K < 2 ^ 47) (hp : ∀ w h', w.length ≤ 13 → Cur b cv bs (K + 40) h' → PreX b.length h h' → post (.str w) h') : S 454 [.ptr b.length 0 0 3] h post k := by
  refine S_of rfl T454 ?_; unfold fi454
  simp (maxSteps := 1000000) (disch := first | omega | rfl | (simp only [zL, two63, room] <;> omega) | fail) only [↓reduceIte, ↓zP, zW, WOp, evOp, evBin, binI, binSh, binS, evNil, keyIs, keyEq, mkv, AV.cells, AV.sc, optv, bnd, env, put, Env.get, Env.set, Env.del, Env.dels, Env.init, res1, resL, resV, fillP, splice, newRow, Nat.reduceEqDiff, Nat.reduceLT, Nat.reduceLeDiff, Nat.reduceAdd, Nat.reduceMul, Nat.reduceSub, Nat.reduceBEq, reduceCtorEq, ↓zR, zQ, Tr, StA, StT]
  refine c_pick hc (by omega) 16 (by omega) ?_
  intro x h2 hx hc2 hp2
  by_cases hx0 : x = 0
  · subst hx0
    simp (maxSteps := 1000000) (disch := first | omega | rfl | (simp only [zL, two63, room] <;> omega) | fail) only [↓reduceIte, ↓zP, zW, WOp, evOp, evBin, binI, binSh, binS, evNil, keyIs, keyEq, mkv, AV.cells, AV.sc, optv, bnd, env, put, Env.get, Env.set, Env.del, Env.dels, Env.init, res1, resL, resV, fillP, splice, newRow, Nat.reduceEqDiff, Nat.reduceLT, Nat.reduceLeDiff, Nat.reduceAdd, Nat.reduceMul, Nat.reduceSub, Nat.reduceBEq, reduceCtorEq, ↓zR, zQ, Tr, StA, StT]
    refine c_of (hc2.pre (Pre.push _ _)) (by omega) (slc_litS h2 [[], [120], [84, 84, 84, 46, 46, 46, 46, 70, 70, 70], [84, 84, 46, 84, 46, 70, 46, 70, 46, 70, 70], [46]]) (fun r hr => by cases hr; have := hc2.lt; omega) (by simp) (by simp) ?_
    intro x hx h3 hc3 hp3
    simp (maxSteps := 1000000) (disch := first | omega | rfl | (simp only [zL, two63, room] <;> omega) | fail) only [↓reduceIte, ↓zP, zW, WOp, evOp, evBin, binI, binSh, binS, evNil, keyIs, keyEq, mkv, AV.cells, AV.sc, optv, bnd, env, put, Env.get, Env.set, Env.del, Env.dels, Env.init, res1, resL, resV, fillP, splice, newRow, Nat.reduceEqDiff, Nat.reduceLT, Nat.reduceLeDiff, Nat.reduceAdd, Nat.reduceMul, Nat.reduceSub, Nat.reduceBEq, reduceCtorEq, ↓zR, zQ, Tr, StA, StT]
    refine hp x h3 ?_ (hc3.le (by omega)) (hp2.trans ((Pre.push _ _).x2 hp3))
    simp only [List.mem_cons, List.not_mem_nil, or_false] at hx
    rcases hx with rfl | rfl | rfl | rfl | rfl <;> simp
  by_cases hx3 : x ≤ 3
  · have ww : ∀ y : Nat, y ≤ 2 → IntKind.i64.wrap (1 + (y : Int)) = ((y + 1 : Nat) : Int) := fun y hy => by rw [IntKind.wrap_i64]; omega
    have fin : ∀ (y1 y2 y3 : Nat) g, y1 ≤ 2 → y2 ≤ 2 → y3 ≤ 2 → Cur b cv bs (K + 8) g → PreX b.length h g → post (.str (List.replicate (y1 + 1) 84 ++ List.replicate (y2 + 1) 46 ++ List.replicate (y3 + 1) 70)) g := by
      intro y1 y2 y3 g h1 h2 h3 h4 h5
      exact hp _ g (by simp; omega) (h4.le (by omega)) h5
    obtain rfl | rfl | rfl : x = 1 ∨ x = 2 ∨ x = 3 := by omega
    all_goals
      simp (maxSteps := 1000000) (disch := first | omega | rfl | (simp only [zL, two63, room] <;> omega) | fail) only [↓reduceIte, ↓zP, zW, WOp, evOp, evBin, binI, binSh, binS, evNil, keyIs, keyEq, mkv, AV.cells, AV.sc, optv, bnd, env, put, Env.get, Env.set, Env.del, Env.dels, Env.init, res1, resL, resV, fillP, splice, newRow, Nat.reduceEqDiff, Nat.reduceLT, Nat.reduceLeDiff, Nat.reduceAdd, Nat.reduceMul, Nat.reduceSub, Nat.reduceBEq, reduceCtorEq, ↓zR, zQ, Tr, StA, StT]
      refine c_pick hc2 (by omega) 3 (by omega) ?_
      intro y1 g1 hy1 hg1 hpg1
      have y1' : y1 ≤ 2 := by omega
      simp (maxSteps := 1000000) (disch := first | omega | rfl | (simp only [zL, two63, room] <;> omega) | fail) only [↓reduceIte, ↓zP, zW, WOp, evOp, evBin, binI, binSh, binS, evNil, keyIs, keyEq, mkv, AV.cells, AV.sc, optv, bnd, env, put, Env.get, Env.set, Env.del, Env.dels, Env.init, res1, resL, resV, fillP, splice, newRow, Nat.reduceEqDiff, Nat.reduceLT, Nat.reduceLeDiff, Nat.reduceAdd, Nat.reduceMul, Nat.reduceSub, Nat.reduceBEq, reduceCtorEq, ↓zR, zQ, Tr, StA, StT, ww y1 y1']
      refine c_pick hg1 (by omega) 2 (by omega) ?_
      intro y2 g2 hy2 hg2 hpg2
      have y2' : y2 ≤ 2 := by omega
      simp (maxSteps := 1000000) (disch := first | omega | rfl | (simp only [zL, two63, room] <;> omega) | fail) only [↓reduceIte, ↓zP, zW, WOp, evOp, evBin, binI, binSh, binS, evNil, keyIs, keyEq, mkv, AV.cells, AV.sc, optv, bnd, env, put, Env.get, Env.set, Env.del, Env.dels, Env.init, res1, resL, resV, fillP, splice, newRow, Nat.reduceEqDiff, Nat.reduceLT, Nat.reduceLeDiff, Nat.reduceAdd, Nat.reduceMul, Nat.reduceSub, Nat.reduceBEq, reduceCtorEq, ↓zR, zQ, Tr, StA, StT, ww y2 y2']
      refine c_pick hg2 (by omega) 3 (by omega) ?_
      intro y3 g3 hy3 hg3 hpg3
      have y3' : y3 ≤ 2 := by omega
      simp (maxSteps := 1000000) (disch := first | omega | rfl | (simp only [zL, two63, room] <;> omega) | fail) only [↓reduceIte, ↓zP, zW, WOp, evOp, evBin, binI, binSh, binS, evNil, keyIs, keyEq, mkv, AV.cells, AV.sc, optv, bnd, env, put, Env.get, Env.set, Env.del, Env.dels, Env.init, res1, resL, resV, fillP, splice, newRow, Nat.reduceEqDiff, Nat.reduceLT, Nat.reduceLeDiff, Nat.reduceAdd, Nat.reduceMul, Nat.reduceSub, Nat.reduceBEq, reduceCtorEq, ↓zR, zQ, Tr, StA, StT, ww y3 y3', e_liFirstG (y1 + 1) (y2 + 1) (y3 + 1) (by omega) (by omega) (by omega)]
      exact fin y1 y2 y3 g3 y1' y2' y3' (hg3.le (by omega)) (hp2.trans (hpg1.trans (hpg2.trans hpg3)))
  · have n0 : ((x : Int) == 0) = false := by simp; omega
    have n1 : ((x : Int) == 1) = false := by simp; omega
    have n2 : ((x : Int) == 2) = false := by simp; omega
    have n3 : ((x : Int) == 3) = false := by simp; omega
    simp (maxSteps := 1000000) (disch := first | omega | rfl | (simp only [zL, two63, room] <;> omega) | fail) only [↓reduceIte, ↓zP, zW, WOp, evOp, evBin, binI, binSh, binS, evNil, keyIs, keyEq, mkv, AV.cells, AV.sc, optv, bnd, env, put, Env.get, Env.set, Env.del, Env.dels, Env.init, res1, resL, resV, fillP, splice, newRow, Nat.reduceEqDiff, Nat.reduceLT, Nat.reduceLeDiff, Nat.reduceAdd, Nat.reduceMul, Nat.reduceSub, Nat.reduceBEq, reduceCtorEq, ↓zR, zQ, Tr, StA, StT, n0, n1, n2, n3]
    refine c_sureLine hc2 8 (by omega) (by omega) (by omega) ?_
    intro w h3 h1 h4 _ hc3 hp3
    simp (maxSteps := 1000000) (disch := first | omega | rfl | (simp only [zL, two63, room] <;> omega) | fail) only [↓reduceIte, ↓zP, zW, WOp, evOp, evBin, binI, binSh, binS, evNil, keyIs, keyEq, mkv, AV.cells, AV.sc, optv, bnd, env, put, Env.get, Env.set, Env.del, Env.dels, Env.init, res1, resL, resV, fillP, splice, newRow, Nat.reduceEqDiff, Nat.reduceLT, Nat.reduceLeDiff, Nat.reduceAdd, Nat.reduceMul, Nat.reduceSub, Nat.reduceBEq, reduceCtorEq, ↓zR, zQ, Tr, StA, StT]
    exact hp w h3 (by omega) (hc3.le (by omega)) (hp2.trans hp3)
theorem c_DrawWinsMoving {cv : AV} {bs : List UInt8} {h : AH} (hs : Slc 1 encU h cv bs) (hb : bs.length < 2 ^ 40) {post : AV → AH → Prop} (hp : ∀ w t h', w.length ≤ 13 → Pre h h' → post (.tup [.str w, .bool t]) h') : S 433 [cv] h post k := by
  refine S_of rfl T433 ?_; unfold fi433
  have hc := Cur.new hs hb
  rcases hs.cases with ⟨rfl, _⟩ | ⟨rfl, _⟩ | ⟨c, kk, off, rfl⟩
  all_goals
    simp (maxSteps := 1000000) (disch := first | omega | rfl | (simp only [zL, two63, room] <;> omega) | fail) only [↓reduceIte, ↓zP, zW, WOp, evOp, evBin, binI, binSh, binS, evNil, keyIs, keyEq, mkv, AV.cells, AV.sc, optv, bnd, env, put, Env.get, Env.set, Env.del, Env.dels, Env.init, res1, resL, resV, fillP, splice, newRow, Nat.reduceEqDiff, Nat.reduceLT, Nat.reduceLeDiff, Nat.reduceAdd, Nat.reduceMul, Nat.reduceSub, Nat.reduceBEq, reduceCtorEq, ↓zR, zQ, Tr, StA, StT]
    refine c_drplayed hc (by omega) ?_
    intro w h1 hw hc1 _
    simp (maxSteps := 1000000) (disch := first | omega | rfl | (simp only [zL, two63, room] <;> omega) | fail) only [↓reduceIte, ↓zP, zW, WOp, evOp, evBin, binI, binSh, binS, evNil, keyIs, keyEq, mkv, AV.cells, AV.sc, optv, bnd, env, put, Env.get, Env.set, Env.del, Env.dels, Env.init, res1, resL, resV, fillP, splice, newRow, Nat.reduceEqDiff, Nat.reduceLT, Nat.reduceLeDiff, Nat.reduceAdd, Nat.reduceMul, Nat.reduceSub, Nat.reduceBEq, reduceCtorEq, ↓zR, zQ, Tr, StA, StT]
    refine c_one hc1 (by omega) 2 (by omega) ?_
    intro o h2 hc2 _
    simp (maxSteps := 1000000) (disch := first | omega | rfl | (simp only [zL, two63, room] <;> omega) | fail) only [↓reduceIte, ↓zP, zW, WOp, evOp, evBin, binI, binSh, binS, evNil, keyIs, keyEq, mkv, AV.cells, AV.sc, optv, bnd, env, put, Env.get, Env.set, Env.del, Env.dels, Env.init, res1, resL, resV, fillP, splice, newRow, Nat.reduceEqDiff, Nat.reduceLT, Nat.reduceLeDiff, Nat.reduceAdd, Nat.reduceMul, Nat.reduceSub, Nat.reduceBEq, reduceCtorEq, ↓zR, zQ, Tr, StA, StT]
    exact hp w o h2 hw hc2.done

/-! ### Plain facts -/
theorem gw_other {w : List UInt8} (h : plG10 w = true) (t : Bool) : plG10 (otherL w) = true ∧ wnG (otherL w) (!t) = winB w t ∧ othG w = otherL w := by
  obtain ⟨h1, h2, h3⟩ := pl10 h
  have hg : goodLine w = true := by rw [pl10_good, Bool.and_eq_true] at h; exact h.1
  have hl := otherL_len w
  have ho : plG10 (otherL w) = true := by rw [pl10_good, good_other hg, Bool.true_and, decide_eq_true_eq]; omega
  refine ⟨ho, ?_, by unfold othG; rw [if_pos hg]⟩
  unfold wnG
  rw [ho, Bool.true_and]
  exact win_other _ w t (Nat.lt_succ_self _)
theorem gw_made {w : List UInt8} (h : plG10 w = true) {i u : Nat} (hm : Mv w i u) : plG10 (madeB w i u) = true := by
  rw [pl10_good, Bool.and_eq_true, decide_eq_true_eq] at h ⊢
  rw [madeB_length]
  exact ⟨good_made h.1 hm, h.2⟩
theorem best_has {w : List UInt8} {t : Bool} {i u : Nat} (hm : ((i : Int), (u : Int)) ∈ movesB w (kindS t)) : (bestB w t).contains (((i : Int), (u : Int)) : Int × Int) = !winB (madeB w i u) (!t) := by
  rw [Bool.eq_iff_iff, List.contains_iff_mem]
  unfold bestB
  rw [List.mem_filter]
  exact ⟨fun h => h.2, fun h => ⟨hm, h⟩⟩
structure GwF (w : List UInt8) (t : Bool) : Prop where
  good : goodLine w = true
  len : w.length ≤ 10
  wn : wnG w t = winB w t
  wn' : wnG w (!t) = winB w (!t)
  oc : ocG w = outcS (winB w true) (winB w false)
  bm : bmG w t = bestB w t
  gp : gpG w t = plyB w t
  mv : mvG10 w t = gmB w t
  ln : lnI w t = lnB w t
  best : decide (((bestB w t).length : Int) > 0) = winB w t
  par : (((plyB w t).length : Int).tmod 2 == 1) = winB w t
  lo : ¬ (((plyB w t).length : Int) > ((lnB w t).1 : Int))
  sh : ¬ (((plyB w t).length : Int) < ((lnB w t).2.1 : Int))
  sl : ¬ (((lnB w t).2.1 : Int) > ((lnB w t).1 : Int))
  cn : ¬ (((lnB w t).2.2 : Int) < 1)
  zz : (((lnB w t).1 : Int) == 0) = (((plyB w t).length : Int) == 0)
  so : decide (((plyB w t).length : Int) > 0) = (gmB w t).isSome
  ba : ¬ (((bestB w t).length : Int) > ((movesB w (kindS t)).length : Int))
  sm : decide (((movesB w (kindS t)).length : Int) > 0) = (gmB w t).isSome
  mt : mvG [84] w = movesB w [84]
  mf : mvG [70] w = movesB w [70]
theorem gw_facts {w : List UInt8} (t : Bool) (h : plG10 w = true) : GwF w t := by
  obtain ⟨h1, h2, h3⟩ := pl10 h
  have hg : goodLine w = true := by rw [pl10_good, Bool.and_eq_true] at h; exact h.1
  obtain ⟨f1, f2, f3⟩ := ply_facts _ w t (Nat.lt_succ_self _)
  have f4 := sh_lo w t
  obtain ⟨f5, f6⟩ := ply_zero w t
  have f7 := (games_lt t h3 h2).1
  have f8 : (bestB w t).length ≤ (movesB w (kindS t)).length := List.length_filter_le _ _
  have f9 : (gmB w t).isSome = decide (movesB w (kindS t) ≠ []) := by
    cases e : gmB w t with
    | none => rw [gmB_none e]; rfl
    | some m =>
      have := gmB_mem e
      symm
      rw [Option.isSome_some, decide_eq_true_eq]
      intro h0; rw [h0] at this; simp at this
  refine ⟨hg, h2, by unfold wnG; rw [h]; rfl, by unfold wnG; rw [h]; rfl, by unfold ocG; rw [if_pos h], by unfold bmG; rw [if_pos h], by unfold gpG; rw [if_pos h], by unfold mvG10; rw [if_pos h], by unfold lnI; rw [if_pos h], ?_, ?_, by omega, by omega, by omega, by omega, ?_, ?_, by omega, ?_, by unfold mvG; rw [if_pos hg], by unfold mvG; rw [if_pos hg]⟩
  · rw [win_best, decide_eq_decide]; omega
  · rw [← f1, Bool.eq_iff_iff, beq_iff_eq, decide_eq_true_eq, Int.tmod_eq_emod_of_nonneg (by omega)]; omega
  · rw [Bool.eq_iff_iff, beq_iff_eq, beq_iff_eq]; omega
  · rw [f9, decide_eq_decide, ne_eq, ← f6]; omega
  · rw [f9, decide_eq_decide, ne_eq, ← List.length_eq_zero_iff]; omega
end Go.Proofs.YtejhhdpfndiliaaGreatDoor.Ab

/- THE LAWS OF GAMES won. -/
namespace Go.Proofs.YtejhhdpfndiliaaGreatDoor.Ab
open Go
set_option maxRecDepth 100000
set_option maxHeartbeats 16000000

theorem lp_GamesWon {w : List UInt8} {t : Bool} (h10 : plG10 w = true) {vb vm cw cnt : AV} {b : AH} (sb : Slc 2 encM b vb (bestB w t)) (sm : Slc 2 encM b vm (movesB w (kindS t))) {R : X → Env → AH → Prop} (hR : ∀ h', Pre b h' → R (.exit 0) [(5, .str w), (6, .bool t), (7, cw), (31, cnt), (42, vm), (44, .int .i64 (acM w t (movesB w (kindS t))))] h') :
    ∀ (rest pre : List (Int × Int)) (h : AH), movesB w (kindS t) = pre ++ rest → Pre b h →
    Cx (.loop lp432_0) [(5, .str w), (6, .bool t), (7, cw), (11, vb), (31, cnt), (42, vm), (44, .int .i64 (acM w t pre)), (396, vm), (397, .int .i64 (movesB w (kindS t)).length), (398, .int .i64 pre.length)] h R k k := by
  intro rest
  induction rest with
  | nil =>
    intro pre h hL hp
    have hll : (movesB w (kindS t)).length = pre.length := by rw [hL]; simp
    rw [hll]
    rw [List.append_nil] at hL
    rw [hL] at hR
    rw [w_loopb (c := lp432_0) (d := lb432_0) rfl]; unfold lb432_0
    simp (maxSteps := 1000000) (disch := first | omega | rfl | (simp only [zL, two63, room] <;> omega) | fail) only [↓reduceIte, ↓zP, zW, WOp, evOp, evBin, binI, binSh, binS, evNil, keyIs, keyEq, mkv, AV.cells, AV.sc, optv, bnd, env, put, Env.get, Env.set, Env.del, Env.dels, Env.init, res1, resL, resV, fillP, splice, newRow, Nat.reduceEqDiff, Nat.reduceLT, Nat.reduceLeDiff, Nat.reduceAdd, Nat.reduceMul, Nat.reduceSub, Nat.reduceBEq, reduceCtorEq, ↓zR, zQ, Tr, StA, StT]
    exact hR h hp
  | cons m rest ih =>
    intro pre h hL hp
    obtain ⟨a1, a2, a3⟩ := pl10 h10
    have hg : goodLine w = true := by rw [pl10_good, Bool.and_eq_true] at h10; exact h10.1
    have hmm : m ∈ movesB w (kindS t) := by rw [hL]; simp
    have bM := acM_le (pre := pre ++ [m]) (rest := rest) (by rw [hL]; simp) a3 a2
    have eM : acM w t (pre ++ [m]) = acM w t pre + ln3 w t m := by unfold acM; rw [List.map_append, List.sum_append]; simp
    obtain ⟨i, u, rfl, hmv⟩ := movesB_mv hmm
    have hlen := movesB_len w (kindS t)
    have hbl : (bestB w t).length ≤ (movesB w (kindS t)).length := List.length_filter_le _ _
    have hml : (movesB w (kindS t)).length = pre.length + 1 + rest.length := by rw [hL]; simp; omega
    have hs' := sm.pre hp
    rw [hL] at hs'
    obtain ⟨r1, k1, o1, hv1, hr⟩ := hs'.at hlM
    rw [← hL, hml] at hv1
    subst hv1
    rw [hml] at ih ⊢
    have hr' : rdRow h r1 k1 (o1 + pre.length * 2) 2 = some [.int .i64 i, .int .i64 u] := hr
    have hlt : (pre.length : Int) < ((pre.length + 1 + rest.length : Nat) : Int) := by omega
    have hw1 : (pre.length : Int) + 1 = ((pre ++ [(((i : Int), (u : Int)) : Int × Int)]).length : Int) := by simp
    have hw2 : IntKind.i64.wrap ((pre ++ [(((i : Int), (u : Int)) : Int × Int)]).length : Int) = ((pre ++ [(((i : Int), (u : Int)) : Int × Int)]).length : Int) := wrap_i (by simp; omega)
    have hok : okG w ((i : Int), (u : Int)) = true := by
      unfold okG canB
      rw [hg]
      simp only [Bool.true_and, decide_eq_true_eq, Int.toNat_natCast]
      exact ⟨by omega, by omega, hmv⟩
    have hmk : mkG w ((i : Int), (u : Int)) = madeB w i u := by unfold mkG; rw [hok]; simp
    have hmd := gw_made h10 hmv
    have hml2 := madeB_length w i u
    have hwn : wnG (madeB w i u) (!t) = winB (madeB w i u) (!t) := by unfold wnG; rw [hmd]; rfl
    have hln : (lnI (madeB w i u) (!t)).2.2 = ln3 w t ((i : Int), (u : Int)) := by unfold lnI; rw [if_pos hmd]; rfl
    have hbh := best_has hmm
    have wS : IntKind.i64.wrap (((acM w t pre : Nat) : Int) + ((ln3 w t ((i : Int), (u : Int)) : Nat) : Int)) = ((acM w t (pre ++ [((i : Int), (u : Int))]) : Nat) : Int) := by rw [IntKind.wrap_i64, eM]; omega
    obtain ⟨q, qa, qb⟩ := mvRow h i u
    have hpR : Pre b (h ++ [AO.row [AV.int .i64 i, AV.int .i64 u] 0 0 false]) := hp.trans (Pre.push _ _)
    rw [w_loopb (c := lp432_0) (d := lb432_0) rfl]; unfold lb432_0
    simp (maxSteps := 1000000) (disch := first | omega | rfl | (simp only [zL, two63, room] <;> omega) | fail) only [↓reduceIte, ↓zP, zW, WOp, evOp, evBin, binI, binSh, binS, evNil, keyIs, keyEq, mkv, AV.cells, AV.sc, optv, bnd, env, put, Env.get, Env.set, Env.del, Env.dels, Env.init, res1, resL, resV, fillP, splice, newRow, Nat.reduceEqDiff, Nat.reduceLT, Nat.reduceLeDiff, Nat.reduceAdd, Nat.reduceMul, Nat.reduceSub, Nat.reduceBEq, reduceCtorEq, ↓zR, zQ, Tr, StA, StT, hlt, hr']
    refine c_MakeMove w i u (by omega) ?_
    intro h2 hp2
    have q2 := rdRow_pre hp2 q
    simp (maxSteps := 1000000) (disch := first | omega | rfl | (simp only [zL, two63, room] <;> omega) | fail) only [↓reduceIte, ↓zP, zW, WOp, evOp, evBin, binI, binSh, binS, evNil, keyIs, keyEq, mkv, AV.cells, AV.sc, optv, bnd, env, put, Env.get, Env.set, Env.del, Env.dels, Env.init, res1, resL, resV, fillP, splice, newRow, Nat.reduceEqDiff, Nat.reduceLT, Nat.reduceLeDiff, Nat.reduceAdd, Nat.reduceMul, Nat.reduceSub, Nat.reduceBEq, reduceCtorEq, ↓zR, zQ, Tr, StA, StT, q2, hok, hmk]
    refine c_WinsMoving (madeB w i u) (!t) (by omega) ?_
    intro h3 hp3
    have q3 := rdRow_pre hp3 q2
    simp (maxSteps := 1000000) (disch := first | omega | rfl | (simp only [zL, two63, room] <;> omega) | fail) only [↓reduceIte, ↓zP, zW, WOp, evOp, evBin, binI, binSh, binS, evNil, keyIs, keyEq, mkv, AV.cells, AV.sc, optv, bnd, env, put, Env.get, Env.set, Env.del, Env.dels, Env.init, res1, resL, resV, fillP, splice, newRow, Nat.reduceEqDiff, Nat.reduceLT, Nat.reduceLeDiff, Nat.reduceAdd, Nat.reduceMul, Nat.reduceSub, Nat.reduceBEq, reduceCtorEq, ↓zR, zQ, Tr, StA, StT, q3, hwn, hmd]
    refine c_CountGames (madeB w i u) (!t) (by omega) ?_
    intro h4 hp4
    have q4 := rdRow_pre hp4 q3
    simp (maxSteps := 1000000) (disch := first | omega | rfl | (simp only [zL, two63, room] <;> omega) | fail) only [↓reduceIte, ↓zP, zW, WOp, evOp, evBin, binI, binSh, binS, evNil, keyIs, keyEq, mkv, AV.cells, AV.sc, optv, bnd, env, put, Env.get, Env.set, Env.del, Env.dels, Env.init, res1, resL, resV, fillP, splice, newRow, Nat.reduceEqDiff, Nat.reduceLT, Nat.reduceLeDiff, Nat.reduceAdd, Nat.reduceMul, Nat.reduceSub, Nat.reduceBEq, reduceCtorEq, ↓zR, zQ, Tr, StA, StT, q4, hmd, hln]
    refine c_nMoveV (by omega) i u hbh (sb.pre (hpR.trans (hp2.trans (hp3.trans hp4)))) ?_
    intro h5 hp5
    cases ew : winB (madeB w i u) (!t)
    all_goals
      simp (maxSteps := 1000000) (disch := first | omega | rfl | (simp only [zL, two63, room] <;> omega) | fail) only [↓reduceIte, ↓zP, zW, WOp, evOp, evBin, binI, binSh, binS, evNil, keyIs, keyEq, mkv, AV.cells, AV.sc, optv, bnd, env, put, Env.get, Env.set, Env.del, Env.dels, Env.init, res1, resL, resV, fillP, splice, newRow, Nat.reduceEqDiff, Nat.reduceLT, Nat.reduceLeDiff, Nat.reduceAdd, Nat.reduceMul, Nat.reduceSub, Nat.reduceBEq, reduceCtorEq, ↓zR, zQ, Tr, StA, StT, ew, wS, hw1, hw2]
      rw [w_loopn (c := lp432_0) rfl]
      simp (maxSteps := 1000000) (disch := first | omega | rfl | (simp only [zL, two63, room] <;> omega) | fail) only [↓reduceIte, ↓zP, zW, WOp, evOp, evBin, binI, binSh, binS, evNil, keyIs, keyEq, mkv, AV.cells, AV.sc, optv, bnd, env, put, Env.get, Env.set, Env.del, Env.dels, Env.init, res1, resL, resV, fillP, splice, newRow, Nat.reduceEqDiff, Nat.reduceLT, Nat.reduceLeDiff, Nat.reduceAdd, Nat.reduceMul, Nat.reduceSub, Nat.reduceBEq, reduceCtorEq, ↓zR, zQ, Tr, StA, StT]
      exact ih (pre ++ [((i : Int), (u : Int))]) h5 (by rw [hL]; simp) (hpR.trans (hp2.trans (hp3.trans (hp4.trans hp5))))
theorem law_GamesWon_of {cv mv : AV} {cs ms : List UInt8} {h : AH} (hs : Slc 1 encU h cv cs) (ht : Slc 1 encU h mv ms) {post : AV → AH → Prop} (hp : ∀ h', post (.bool true) h') : S 432 [cv, mv] h post k := by
  refine S_of rfl T432 ?_; unfold fi432
  simp (maxSteps := 1000000) (disch := first | omega | rfl | (simp only [zL, two63, room] <;> omega) | fail) only [↓reduceIte, ↓zP, zW, WOp, evOp, evBin, binI, binSh, binS, evNil, keyIs, keyEq, mkv, AV.cells, AV.sc, optv, bnd, env, put, Env.get, Env.set, Env.del, Env.dels, Env.init, res1, resL, resV, fillP, splice, newRow, Nat.reduceEqDiff, Nat.reduceLT, Nat.reduceLeDiff, Nat.reduceAdd, Nat.reduceMul, Nat.reduceSub, Nat.reduceBEq, reduceCtorEq, ↓zR, zQ, Tr, StA, StT]
  refine c_big hs ht ?_
  intro bg hbg
  cases bg
  case true =>
    simp (maxSteps := 1000000) (disch := first | omega | rfl | (simp only [zL, two63, room] <;> omega) | fail) only [↓reduceIte, ↓zP, zW, WOp, evOp, evBin, binI, binSh, binS, evNil, keyIs, keyEq, mkv, AV.cells, AV.sc, optv, bnd, env, put, Env.get, Env.set, Env.del, Env.dels, Env.init, res1, resL, resV, fillP, splice, newRow, Nat.reduceEqDiff, Nat.reduceLT, Nat.reduceLeDiff, Nat.reduceAdd, Nat.reduceMul, Nat.reduceSub, Nat.reduceBEq, reduceCtorEq, ↓zR, zQ, Tr, StA, StT]
    exact hp h
  obtain ⟨hl1, hl2⟩ := hbg rfl
  clear hbg
  simp (maxSteps := 1000000) (disch := first | omega | rfl | (simp only [zL, two63, room] <;> omega) | fail) only [↓reduceIte, ↓zP, zW, WOp, evOp, evBin, binI, binSh, binS, evNil, keyIs, keyEq, mkv, AV.cells, AV.sc, optv, bnd, env, put, Env.get, Env.set, Env.del, Env.dels, Env.init, res1, resL, resV, fillP, splice, newRow, Nat.reduceEqDiff, Nat.reduceLT, Nat.reduceLeDiff, Nat.reduceAdd, Nat.reduceMul, Nat.reduceSub, Nat.reduceBEq, reduceCtorEq, ↓zR, zQ, Tr, StA, StT]
  refine c_DrawWinsMoving hs (by omega) ?_
  intro w t h0 hw _
  simp (maxSteps := 1000000) (disch := first | omega | rfl | (simp only [zL, two63, room] <;> omega) | fail) only [↓reduceIte, ↓zP, zW, WOp, evOp, evBin, binI, binSh, binS, evNil, keyIs, keyEq, mkv, AV.cells, AV.sc, optv, bnd, env, put, Env.get, Env.set, Env.del, Env.dels, Env.init, res1, resL, resV, fillP, splice, newRow, Nat.reduceEqDiff, Nat.reduceLT, Nat.reduceLeDiff, Nat.reduceAdd, Nat.reduceMul, Nat.reduceSub, Nat.reduceBEq, reduceCtorEq, ↓zR, zQ, Tr, StA, StT]
  refine c_WinsMoving w t (by omega) ?_
  intro h1 p1
  simp (maxSteps := 1000000) (disch := first | omega | rfl | (simp only [zL, two63, room] <;> omega) | fail) only [↓reduceIte, ↓zP, zW, WOp, evOp, evBin, binI, binSh, binS, evNil, keyIs, keyEq, mkv, AV.cells, AV.sc, optv, bnd, env, put, Env.get, Env.set, Env.del, Env.dels, Env.init, res1, resL, resV, fillP, splice, newRow, Nat.reduceEqDiff, Nat.reduceLT, Nat.reduceLeDiff, Nat.reduceAdd, Nat.reduceMul, Nat.reduceSub, Nat.reduceBEq, reduceCtorEq, ↓zR, zQ, Tr, StA, StT]
  refine c_sWinsMoving w t (by omega) ?_
  intro h2 p2
  simp (maxSteps := 1000000) (disch := first | omega | rfl | (simp only [zL, two63, room] <;> omega) | fail) only [↓reduceIte, ↓zP, zW, WOp, evOp, evBin, binI, binSh, binS, evNil, keyIs, keyEq, mkv, AV.cells, AV.sc, optv, bnd, env, put, Env.get, Env.set, Env.del, Env.dels, Env.init, res1, resL, resV, fillP, splice, newRow, Nat.reduceEqDiff, Nat.reduceLT, Nat.reduceLeDiff, Nat.reduceAdd, Nat.reduceMul, Nat.reduceSub, Nat.reduceBEq, reduceCtorEq, ↓zR, zQ, Tr, StA, StT]
  refine c_BestMoves w t (by omega) ?_
  intro v3 h3 s3 p3
  simp (maxSteps := 1000000) (disch := first | omega | rfl | (simp only [zL, two63, room] <;> omega) | fail) only [↓reduceIte, ↓zP, zW, WOp, evOp, evBin, binI, binSh, binS, evNil, keyIs, keyEq, mkv, AV.cells, AV.sc, optv, bnd, env, put, Env.get, Env.set, Env.del, Env.dels, Env.init, res1, resL, resV, fillP, splice, newRow, Nat.reduceEqDiff, Nat.reduceLT, Nat.reduceLeDiff, Nat.reduceAdd, Nat.reduceMul, Nat.reduceSub, Nat.reduceBEq, reduceCtorEq, ↓zR, zQ, Tr, StA, StT]
  refine c_sBestMoves w t (by omega) ?_
  intro v4 h4 s4 p4
  simp (maxSteps := 1000000) (disch := first | omega | rfl | (simp only [zL, two63, room] <;> omega) | fail) only [↓reduceIte, ↓zP, zW, WOp, evOp, evBin, binI, binSh, binS, evNil, keyIs, keyEq, mkv, AV.cells, AV.sc, optv, bnd, env, put, Env.get, Env.set, Env.del, Env.dels, Env.init, res1, resL, resV, fillP, splice, newRow, Nat.reduceEqDiff, Nat.reduceLT, Nat.reduceLeDiff, Nat.reduceAdd, Nat.reduceMul, Nat.reduceSub, Nat.reduceBEq, reduceCtorEq, ↓zR, zQ, Tr, StA, StT]
  refine c_GameMove w t (by omega) ?_
  intro h5 p5
  simp (maxSteps := 1000000) (disch := first | omega | rfl | (simp only [zL, two63, room] <;> omega) | fail) only [↓reduceIte, ↓zP, zW, WOp, evOp, evBin, binI, binSh, binS, evNil, keyIs, keyEq, mkv, AV.cells, AV.sc, optv, bnd, env, put, Env.get, Env.set, Env.del, Env.dels, Env.init, res1, resL, resV, fillP, splice, newRow, Nat.reduceEqDiff, Nat.reduceLT, Nat.reduceLeDiff, Nat.reduceAdd, Nat.reduceMul, Nat.reduceSub, Nat.reduceBEq, reduceCtorEq, ↓zR, zQ, Tr, StA, StT]
  refine c_sGameMove w t (by omega) ?_
  intro h6 p6
  simp (maxSteps := 1000000) (disch := first | omega | rfl | (simp only [zL, two63, room] <;> omega) | fail) only [↓reduceIte, ↓zP, zW, WOp, evOp, evBin, binI, binSh, binS, evNil, keyIs, keyEq, mkv, AV.cells, AV.sc, optv, bnd, env, put, Env.get, Env.set, Env.del, Env.dels, Env.init, res1, resL, resV, fillP, splice, newRow, Nat.reduceEqDiff, Nat.reduceLT, Nat.reduceLeDiff, Nat.reduceAdd, Nat.reduceMul, Nat.reduceSub, Nat.reduceBEq, reduceCtorEq, ↓zR, zQ, Tr, StA, StT]
  refine c_GamePlay w t (by omega) ?_
  intro v7 h7 s7 p7
  simp (maxSteps := 1000000) (disch := first | omega | rfl | (simp only [zL, two63, room] <;> omega) | fail) only [↓reduceIte, ↓zP, zW, WOp, evOp, evBin, binI, binSh, binS, evNil, keyIs, keyEq, mkv, AV.cells, AV.sc, optv, bnd, env, put, Env.get, Env.set, Env.del, Env.dels, Env.init, res1, resL, resV, fillP, splice, newRow, Nat.reduceEqDiff, Nat.reduceLT, Nat.reduceLeDiff, Nat.reduceAdd, Nat.reduceMul, Nat.reduceSub, Nat.reduceBEq, reduceCtorEq, ↓zR, zQ, Tr, StA, StT]
  refine c_sGamePlay w t (by omega) ?_
  intro v8 h8 s8 p8
  simp (maxSteps := 1000000) (disch := first | omega | rfl | (simp only [zL, two63, room] <;> omega) | fail) only [↓reduceIte, ↓zP, zW, WOp, evOp, evBin, binI, binSh, binS, evNil, keyIs, keyEq, mkv, AV.cells, AV.sc, optv, bnd, env, put, Env.get, Env.set, Env.del, Env.dels, Env.init, res1, resL, resV, fillP, splice, newRow, Nat.reduceEqDiff, Nat.reduceLT, Nat.reduceLeDiff, Nat.reduceAdd, Nat.reduceMul, Nat.reduceSub, Nat.reduceBEq, reduceCtorEq, ↓zR, zQ, Tr, StA, StT]
  refine c_LongestGame w t (by omega) ?_
  intro h9 p9
  simp (maxSteps := 1000000) (disch := first | omega | rfl | (simp only [zL, two63, room] <;> omega) | fail) only [↓reduceIte, ↓zP, zW, WOp, evOp, evBin, binI, binSh, binS, evNil, keyIs, keyEq, mkv, AV.cells, AV.sc, optv, bnd, env, put, Env.get, Env.set, Env.del, Env.dels, Env.init, res1, resL, resV, fillP, splice, newRow, Nat.reduceEqDiff, Nat.reduceLT, Nat.reduceLeDiff, Nat.reduceAdd, Nat.reduceMul, Nat.reduceSub, Nat.reduceBEq, reduceCtorEq, ↓zR, zQ, Tr, StA, StT]
  refine c_sLongestGame w t (by omega) ?_
  intro hA pA
  simp (maxSteps := 1000000) (disch := first | omega | rfl | (simp only [zL, two63, room] <;> omega) | fail) only [↓reduceIte, ↓zP, zW, WOp, evOp, evBin, binI, binSh, binS, evNil, keyIs, keyEq, mkv, AV.cells, AV.sc, optv, bnd, env, put, Env.get, Env.set, Env.del, Env.dels, Env.init, res1, resL, resV, fillP, splice, newRow, Nat.reduceEqDiff, Nat.reduceLT, Nat.reduceLeDiff, Nat.reduceAdd, Nat.reduceMul, Nat.reduceSub, Nat.reduceBEq, reduceCtorEq, ↓zR, zQ, Tr, StA, StT]
  refine c_ShortestGame w t (by omega) ?_
  intro hB pB
  simp (maxSteps := 1000000) (disch := first | omega | rfl | (simp only [zL, two63, room] <;> omega) | fail) only [↓reduceIte, ↓zP, zW, WOp, evOp, evBin, binI, binSh, binS, evNil, keyIs, keyEq, mkv, AV.cells, AV.sc, optv, bnd, env, put, Env.get, Env.set, Env.del, Env.dels, Env.init, res1, resL, resV, fillP, splice, newRow, Nat.reduceEqDiff, Nat.reduceLT, Nat.reduceLeDiff, Nat.reduceAdd, Nat.reduceMul, Nat.reduceSub, Nat.reduceBEq, reduceCtorEq, ↓zR, zQ, Tr, StA, StT]
  refine c_sShortestGame w t (by omega) ?_
  intro hC pC
  simp (maxSteps := 1000000) (disch := first | omega | rfl | (simp only [zL, two63, room] <;> omega) | fail) only [↓reduceIte, ↓zP, zW, WOp, evOp, evBin, binI, binSh, binS, evNil, keyIs, keyEq, mkv, AV.cells, AV.sc, optv, bnd, env, put, Env.get, Env.set, Env.del, Env.dels, Env.init, res1, resL, resV, fillP, splice, newRow, Nat.reduceEqDiff, Nat.reduceLT, Nat.reduceLeDiff, Nat.reduceAdd, Nat.reduceMul, Nat.reduceSub, Nat.reduceBEq, reduceCtorEq, ↓zR, zQ, Tr, StA, StT]
  refine c_CountGames w t (by omega) ?_
  intro hD pD
  simp (maxSteps := 1000000) (disch := first | omega | rfl | (simp only [zL, two63, room] <;> omega) | fail) only [↓reduceIte, ↓zP, zW, WOp, evOp, evBin, binI, binSh, binS, evNil, keyIs, keyEq, mkv, AV.cells, AV.sc, optv, bnd, env, put, Env.get, Env.set, Env.del, Env.dels, Env.init, res1, resL, resV, fillP, splice, newRow, Nat.reduceEqDiff, Nat.reduceLT, Nat.reduceLeDiff, Nat.reduceAdd, Nat.reduceMul, Nat.reduceSub, Nat.reduceBEq, reduceCtorEq, ↓zR, zQ, Tr, StA, StT]
  refine c_sCountGames w t (by omega) ?_
  intro hE pE
  have pZ := p9.trans (pA.trans (pB.trans (pC.trans (pD.trans pE))))
  have p6' := (Pre.push h6 (AO.row (encM (gmP (mvG10 w t))) 0 0 false)).trans (p7.trans (p8.trans pZ))
  have p5' := (Pre.push h5 (AO.row (encM (gmP (mvG10 w t))) 0 0 false)).trans (p6.trans p6')
  have t3 := s3.pre (p4.trans (p5.trans p5'))
  have t4 := s4.pre (p5.trans p5')
  have t7 := s7.pre (p8.trans pZ)
  have t8 := s8.pre pZ
  have q13 := rdRow_pre (p6.trans p6') (mvRow h5 (gmP (mvG10 w t)).1 (gmP (mvG10 w t)).2).1
  have q15 := rdRow_pre (p7.trans (p8.trans pZ)) (mvRow h6 (gmP (mvG10 w t)).1 (gmP (mvG10 w t)).2).1
  clear s3 s4 s7 s8 p1 p2 p3 p4 p5 p6 p7 p8 p9 pA pB pC pD pE pZ p5' p6'
  cases e : plG10 w
  · have e1 : wnG w t = false := by unfold wnG; rw [e]; rfl
    have e2 : bmG w t = [] := by unfold bmG; rw [e]; rfl
    have e3 : gpG w t = [] := by unfold gpG; rw [e]; rfl
    have e4 : mvG10 w t = none := by unfold mvG10; rw [e]; rfl
    rw [e2] at t3 t4
    rw [e3] at t7 t8
    rw [e4] at q13 q15
    simp only [e4, gmP, Option.isSome_none] at q13 q15 ⊢
    simp (maxSteps := 1000000) (disch := first | omega | rfl | (simp only [zL, two63, room] <;> omega) | fail) only [↓reduceIte, ↓zP, zW, WOp, evOp, evBin, binI, binSh, binS, evNil, keyIs, keyEq, mkv, AV.cells, AV.sc, optv, bnd, env, put, Env.get, Env.set, Env.del, Env.dels, Env.init, res1, resL, resV, fillP, splice, newRow, Nat.reduceEqDiff, Nat.reduceLT, Nat.reduceLeDiff, Nat.reduceAdd, Nat.reduceMul, Nat.reduceSub, Nat.reduceBEq, reduceCtorEq, ↓zR, zQ, Tr, StA, StT, e1, q13, q15]
    refine c_nMoves (by simp) t3 t4 ?_
    simp (maxSteps := 1000000) (disch := first | omega | rfl | (simp only [zL, two63, room] <;> omega) | fail) only [↓reduceIte, ↓zP, zW, WOp, evOp, evBin, binI, binSh, binS, evNil, keyIs, keyEq, mkv, AV.cells, AV.sc, optv, bnd, env, put, Env.get, Env.set, Env.del, Env.dels, Env.init, res1, resL, resV, fillP, splice, newRow, Nat.reduceEqDiff, Nat.reduceLT, Nat.reduceLeDiff, Nat.reduceAdd, Nat.reduceMul, Nat.reduceSub, Nat.reduceBEq, reduceCtorEq, ↓zR, zQ, Tr, StA, StT, e1, q13, q15, seqM]
    refine c_nMoves (by simp) t7 t8 ?_
    simp (maxSteps := 1000000) (disch := first | omega | rfl | (simp only [zL, two63, room] <;> omega) | fail) only [↓reduceIte, ↓zP, zW, WOp, evOp, evBin, binI, binSh, binS, evNil, keyIs, keyEq, mkv, AV.cells, AV.sc, optv, bnd, env, put, Env.get, Env.set, Env.del, Env.dels, Env.init, res1, resL, resV, fillP, splice, newRow, Nat.reduceEqDiff, Nat.reduceLT, Nat.reduceLeDiff, Nat.reduceAdd, Nat.reduceMul, Nat.reduceSub, Nat.reduceBEq, reduceCtorEq, ↓zR, zQ, Tr, StA, StT, e1, q13, q15, seqM]
    exact hp _
  · have f := gw_facts t e
    obtain ⟨g1, g2, g3⟩ := gw_other e t
    have hol := otherL_len w
    have hl10 := f.len
    have hml := movesB_len w (kindS t)
    have hba := f.ba
    have hlo := f.lo
    have hfew := mu_leG w
    have hlm := lo_le _ w t (Nat.lt_succ_self _)
    have hll : w.length * w.length ≤ 10 * 10 := Nat.mul_le_mul hl10 hl10
    rw [f.bm] at t3 t4
    rw [f.gp] at t7 t8
    rw [f.mv] at q13 q15
    simp only [f.mv] at q13 q15 ⊢
    generalize hgm : gmP (gmB w t) = mm at q13 q15
    obtain ⟨m1, m2⟩ := mm
    have hmm : (((m1, m2) : Int × Int) == (m1, m2)) = true := by simp
    have l3 := fun g => Slc.lenV (t3) (g := g) (ρ := fun _ => _) (x := .t 0) rfl; simp only [evOp] at l3
    have l7 := fun g => Slc.lenV (t7) (g := g) (ρ := fun _ => _) (x := .t 0) rfl; simp only [evOp] at l7
    have n2 : ¬ ((2 : Int) = 0) := by omega
    simp (maxSteps := 1000000) (disch := first | omega | rfl | (simp only [zL, two63, room] <;> omega) | fail) only [↓reduceIte, ↓zP, zW, WOp, evOp, evBin, binI, binSh, binS, evNil, keyIs, keyEq, mkv, AV.cells, AV.sc, optv, bnd, env, put, Env.get, Env.set, Env.del, Env.dels, Env.init, res1, resL, resV, fillP, splice, newRow, Nat.reduceEqDiff, Nat.reduceLT, Nat.reduceLeDiff, Nat.reduceAdd, Nat.reduceMul, Nat.reduceSub, Nat.reduceBEq, reduceCtorEq, ↓zR, zQ, Tr, StA, StT, f.wn, f.ln, q13, q15]
    refine c_nMoves (by omega) t3 t4 ?_
    cases eS : (gmB w t).isSome
    · simp (maxSteps := 1000000) (disch := first | omega | rfl | (simp only [zL, two63, room] <;> omega) | fail) only [↓reduceIte, ↓zP, zW, WOp, evOp, evBin, binI, binSh, binS, evNil, keyIs, keyEq, mkv, AV.cells, AV.sc, optv, bnd, env, put, Env.get, Env.set, Env.del, Env.dels, Env.init, res1, resL, resV, fillP, splice, newRow, Nat.reduceEqDiff, Nat.reduceLT, Nat.reduceLeDiff, Nat.reduceAdd, Nat.reduceMul, Nat.reduceSub, Nat.reduceBEq, reduceCtorEq, ↓zR, zQ, Tr, StA, StT, eS, f.wn, f.ln, q13, q15, seqM, hmm]
      refine c_nMoves (by omega) t7 t8 ?_
      simp (maxSteps := 1000000) (disch := first | omega | rfl | (simp only [zL, two63, room] <;> omega) | fail) only [↓reduceIte, ↓zP, zW, WOp, evOp, evBin, binI, binSh, binS, evNil, keyIs, keyEq, mkv, AV.cells, AV.sc, optv, bnd, env, put, Env.get, Env.set, Env.del, Env.dels, Env.init, res1, resL, resV, fillP, splice, newRow, Nat.reduceEqDiff, Nat.reduceLT, Nat.reduceLeDiff, Nat.reduceAdd, Nat.reduceMul, Nat.reduceSub, Nat.reduceBEq, reduceCtorEq, ↓zR, zQ, Tr, StA, StT, eS, f.wn, f.ln, q13, q15, seqM, hmm]
      refine c_OutcomeOf w (by omega) ?_
      intro hF pF
      simp (maxSteps := 1000000) (disch := first | omega | rfl | (simp only [zL, two63, room] <;> omega) | fail) only [↓reduceIte, ↓zP, zW, WOp, evOp, evBin, binI, binSh, binS, evNil, keyIs, keyEq, mkv, AV.cells, AV.sc, optv, bnd, env, put, Env.get, Env.set, Env.del, Env.dels, Env.init, res1, resL, resV, fillP, splice, newRow, Nat.reduceEqDiff, Nat.reduceLT, Nat.reduceLeDiff, Nat.reduceAdd, Nat.reduceMul, Nat.reduceSub, Nat.reduceBEq, reduceCtorEq, ↓zR, zQ, Tr, StA, StT, e]
      refine c_WinsMoving w (!t) (by omega) ?_
      intro hG pG
      simp (maxSteps := 1000000) (disch := first | omega | rfl | (simp only [zL, two63, room] <;> omega) | fail) only [↓reduceIte, ↓zP, zW, WOp, evOp, evBin, binI, binSh, binS, evNil, keyIs, keyEq, mkv, AV.cells, AV.sc, optv, bnd, env, put, Env.get, Env.set, Env.del, Env.dels, Env.init, res1, resL, resV, fillP, splice, newRow, Nat.reduceEqDiff, Nat.reduceLT, Nat.reduceLeDiff, Nat.reduceAdd, Nat.reduceMul, Nat.reduceSub, Nat.reduceBEq, reduceCtorEq, ↓zR, zQ, Tr, StA, StT, e, f.wn']
      refine c_IsNothing w (by omega) ?_
      intro hH pH
      have pFH := pF.trans (pG.trans pH)
      have u3 := t3.pre pFH
      have k13 := rdRow_pre pFH q13
      try have kP := rdRow_pre pFH rP'
      try simp only [Nat.zero_mul, Nat.add_zero] at rP
      try refine w_drw ?_
      have b1 := f.best
      have b2 := f.par
      have b4 := f.lo
      have b5 := f.sh
      have b6 := f.sl
      have b7 := f.cn
      have b8 := f.zz
      have b9 := f.so
      first
        | simp (maxSteps := 1000000) (disch := first | omega | rfl | (simp only [zL, two63, room] <;> omega) | fail) only [↓reduceIte, ↓zP, zW, WOp, evOp, evBin, binI, binSh, binS, evNil, keyIs, keyEq, mkv, AV.cells, AV.sc, optv, bnd, env, put, Env.get, Env.set, Env.del, Env.dels, Env.init, res1, resL, resV, fillP, splice, newRow, Nat.reduceEqDiff, Nat.reduceLT, Nat.reduceLeDiff, Nat.reduceAdd, Nat.reduceMul, Nat.reduceSub, Nat.reduceBEq, reduceCtorEq, ↓zR, zQ, Tr, StA, StT, e, eS, f.wn, f.ln, l3, l7, n2, k13, kP, z2, Nat.add_zero, hpos, seqM, hmm, b1, b2, b4, b5, b6, b7, b8, b9]
        | simp (maxSteps := 1000000) (disch := first | omega | rfl | (simp only [zL, two63, room] <;> omega) | fail) only [↓reduceIte, ↓zP, zW, WOp, evOp, evBin, binI, binSh, binS, evNil, keyIs, keyEq, mkv, AV.cells, AV.sc, optv, bnd, env, put, Env.get, Env.set, Env.del, Env.dels, Env.init, res1, resL, resV, fillP, splice, newRow, Nat.reduceEqDiff, Nat.reduceLT, Nat.reduceLeDiff, Nat.reduceAdd, Nat.reduceMul, Nat.reduceSub, Nat.reduceBEq, reduceCtorEq, ↓zR, zQ, Tr, StA, StT, e, eS, f.wn, f.ln, l3, l7, n2, k13, seqM, hmm, b1, b2, b4, b5, b6, b7, b8, b9]
      have foc := f.oc
      have fmt := f.mt
      have fmf := f.mf
      have fba := f.ba
      have fsm := f.sm
      have hAC := ac_all w t
      have o11 : outcS true true = [49] := rfl
      have o10 : outcS true false = [84] := rfl
      have o01 : outcS false true = [70] := rfl
      have o00 : outcS false false = [50] := rfl
      have fgood := f.good
      cases t
      · simp only [Bool.not_false] at g2
        cases e1 : winB w true <;> cases e2 : winB w false
        all_goals
          rw [e1, e2] at foc
          try rw [e2] at g2
          simp (maxSteps := 1000000) (disch := first | omega | rfl | (simp only [zL, two63, room] <;> omega) | fail) only [↓reduceIte, ↓zP, zW, WOp, evOp, evBin, binI, binSh, binS, evNil, keyIs, keyEq, mkv, AV.cells, AV.sc, optv, bnd, env, put, Env.get, Env.set, Env.del, Env.dels, Env.init, res1, resL, resV, fillP, splice, newRow, Nat.reduceEqDiff, Nat.reduceLT, Nat.reduceLeDiff, Nat.reduceAdd, Nat.reduceMul, Nat.reduceSub, Nat.reduceBEq, reduceCtorEq, ↓zR, zQ, Tr, StA, StT, e1, e2, foc, o11, o10, o01, o00, Bool.not_true, Bool.not_false]
          refine c_ToadMoves w (by omega) ?_
          intro vT hI oT pI
          simp (maxSteps := 1000000) (disch := first | omega | rfl | (simp only [zL, two63, room] <;> omega) | fail) only [↓reduceIte, ↓zP, zW, WOp, evOp, evBin, binI, binSh, binS, evNil, keyIs, keyEq, mkv, AV.cells, AV.sc, optv, bnd, env, put, Env.get, Env.set, Env.del, Env.dels, Env.init, res1, resL, resV, fillP, splice, newRow, Nat.reduceEqDiff, Nat.reduceLT, Nat.reduceLeDiff, Nat.reduceAdd, Nat.reduceMul, Nat.reduceSub, Nat.reduceBEq, reduceCtorEq, ↓zR, zQ, Tr, StA, StT, fgood]
          refine c_FrogMoves w (by omega) ?_
          intro vm hJ oF pJ
          have um : Slc 2 encM hJ vm (movesB w (kindS false)) := by
            have := oF.slc
            rw [fmf] at this
            exact this
          have w3 := u3.pre (pI.trans pJ)
          have lm := fun g => Slc.lenV (um) (g := g) (ρ := fun _ => _) (x := .t 0) rfl; simp only [evOp] at lm
          simp (maxSteps := 1000000) (disch := first | omega | rfl | (simp only [zL, two63, room] <;> omega) | fail) only [↓reduceIte, ↓zP, zW, WOp, evOp, evBin, binI, binSh, binS, evNil, keyIs, keyEq, mkv, AV.cells, AV.sc, optv, bnd, env, put, Env.get, Env.set, Env.del, Env.dels, Env.init, res1, resL, resV, fillP, splice, newRow, Nat.reduceEqDiff, Nat.reduceLT, Nat.reduceLeDiff, Nat.reduceAdd, Nat.reduceMul, Nat.reduceSub, Nat.reduceBEq, reduceCtorEq, ↓zR, zQ, Tr, StA, StT, fgood, lm, l3, fba, fsm, eS]
          refine lp_GamesWon e w3 um ?_ _ [] _ rfl (Pre.refl _)
          intro hK pK
          by_cases h0 : (movesB w (kindS false)).length = 0
          · have k1 : ¬ ((((movesB w (kindS false)).length : Nat) : Int) > 0) := by rw [h0]; omega
            have k2 : ((((movesB w (kindS false)).length : Nat) : Int) == 0) = true := by rw [h0]; rfl
            have k3 : (((lnB w false).2.2 : Nat) : Int) = 1 := by rw [hAC.2.2, if_pos (List.eq_nil_of_length_eq_zero h0)]; rfl
            simp (maxSteps := 1000000) (disch := first | omega | rfl | (simp only [zL, two63, room] <;> omega) | fail) only [↓reduceIte, ↓zP, zW, WOp, evOp, evBin, binI, binSh, binS, evNil, keyIs, keyEq, mkv, AV.cells, AV.sc, optv, bnd, env, put, Env.get, Env.set, Env.del, Env.dels, Env.init, res1, resL, resV, fillP, splice, newRow, Nat.reduceEqDiff, Nat.reduceLT, Nat.reduceLeDiff, Nat.reduceAdd, Nat.reduceMul, Nat.reduceSub, Nat.reduceBEq, reduceCtorEq, ↓zR, zQ, Tr, StA, StT, lm, k1, k2, k3]
            refine c_OtherLine w (by omega) ?_
            intro hL pL
            simp (maxSteps := 1000000) (disch := first | omega | rfl | (simp only [zL, two63, room] <;> omega) | fail) only [↓reduceIte, ↓zP, zW, WOp, evOp, evBin, binI, binSh, binS, evNil, keyIs, keyEq, mkv, AV.cells, AV.sc, optv, bnd, env, put, Env.get, Env.set, Env.del, Env.dels, Env.init, res1, resL, resV, fillP, splice, newRow, Nat.reduceEqDiff, Nat.reduceLT, Nat.reduceLeDiff, Nat.reduceAdd, Nat.reduceMul, Nat.reduceSub, Nat.reduceBEq, reduceCtorEq, ↓zR, zQ, Tr, StA, StT, fgood, g3]
            refine c_WinsMoving (otherL w) _ (by omega) ?_
            intro hM pM
            simp (maxSteps := 1000000) (disch := first | omega | rfl | (simp only [zL, two63, room] <;> omega) | fail) only [↓reduceIte, ↓zP, zW, WOp, evOp, evBin, binI, binSh, binS, evNil, keyIs, keyEq, mkv, AV.cells, AV.sc, optv, bnd, env, put, Env.get, Env.set, Env.del, Env.dels, Env.init, res1, resL, resV, fillP, splice, newRow, Nat.reduceEqDiff, Nat.reduceLT, Nat.reduceLeDiff, Nat.reduceAdd, Nat.reduceMul, Nat.reduceSub, Nat.reduceBEq, reduceCtorEq, ↓zR, zQ, Tr, StA, StT, g1, g2, e1, e2]
            exact hp _
          · have k1 : (((movesB w (kindS false)).length : Nat) : Int) > 0 := by omega
            have k2 : ((((movesB w (kindS false)).length : Nat) : Int) == 0) = false := by rw [beq_eq_false_iff_ne]; omega
            have k3 : ((acM w false (movesB w (kindS false)) : Nat) : Int) = (((lnB w false).2.2 : Nat) : Int) := by rw [hAC.2.2, if_neg (fun hh => h0 (by rw [hh]; rfl))]
            simp (maxSteps := 1000000) (disch := first | omega | rfl | (simp only [zL, two63, room] <;> omega) | fail) only [↓reduceIte, ↓zP, zW, WOp, evOp, evBin, binI, binSh, binS, evNil, keyIs, keyEq, mkv, AV.cells, AV.sc, optv, bnd, env, put, Env.get, Env.set, Env.del, Env.dels, Env.init, res1, resL, resV, fillP, splice, newRow, Nat.reduceEqDiff, Nat.reduceLT, Nat.reduceLeDiff, Nat.reduceAdd, Nat.reduceMul, Nat.reduceSub, Nat.reduceBEq, reduceCtorEq, ↓zR, zQ, Tr, StA, StT, lm, k1, k2, k3]
            refine c_OtherLine w (by omega) ?_
            intro hL pL
            simp (maxSteps := 1000000) (disch := first | omega | rfl | (simp only [zL, two63, room] <;> omega) | fail) only [↓reduceIte, ↓zP, zW, WOp, evOp, evBin, binI, binSh, binS, evNil, keyIs, keyEq, mkv, AV.cells, AV.sc, optv, bnd, env, put, Env.get, Env.set, Env.del, Env.dels, Env.init, res1, resL, resV, fillP, splice, newRow, Nat.reduceEqDiff, Nat.reduceLT, Nat.reduceLeDiff, Nat.reduceAdd, Nat.reduceMul, Nat.reduceSub, Nat.reduceBEq, reduceCtorEq, ↓zR, zQ, Tr, StA, StT, fgood, g3]
            refine c_WinsMoving (otherL w) _ (by omega) ?_
            intro hM pM
            simp (maxSteps := 1000000) (disch := first | omega | rfl | (simp only [zL, two63, room] <;> omega) | fail) only [↓reduceIte, ↓zP, zW, WOp, evOp, evBin, binI, binSh, binS, evNil, keyIs, keyEq, mkv, AV.cells, AV.sc, optv, bnd, env, put, Env.get, Env.set, Env.del, Env.dels, Env.init, res1, resL, resV, fillP, splice, newRow, Nat.reduceEqDiff, Nat.reduceLT, Nat.reduceLeDiff, Nat.reduceAdd, Nat.reduceMul, Nat.reduceSub, Nat.reduceBEq, reduceCtorEq, ↓zR, zQ, Tr, StA, StT, g1, g2, e1, e2]
            exact hp _
      · simp only [Bool.not_true] at g2
        cases e1 : winB w true <;> cases e2 : winB w false
        all_goals
          rw [e1, e2] at foc
          try rw [e1] at g2
          simp (maxSteps := 1000000) (disch := first | omega | rfl | (simp only [zL, two63, room] <;> omega) | fail) only [↓reduceIte, ↓zP, zW, WOp, evOp, evBin, binI, binSh, binS, evNil, keyIs, keyEq, mkv, AV.cells, AV.sc, optv, bnd, env, put, Env.get, Env.set, Env.del, Env.dels, Env.init, res1, resL, resV, fillP, splice, newRow, Nat.reduceEqDiff, Nat.reduceLT, Nat.reduceLeDiff, Nat.reduceAdd, Nat.reduceMul, Nat.reduceSub, Nat.reduceBEq, reduceCtorEq, ↓zR, zQ, Tr, StA, StT, e1, e2, foc, o11, o10, o01, o00, Bool.not_true, Bool.not_false]
          refine c_ToadMoves w (by omega) ?_
          intro vm hJ oF pJ
          have um : Slc 2 encM hJ vm (movesB w (kindS true)) := by
            have := oF.slc
            rw [fmt] at this
            exact this
          have w3 := u3.pre pJ
          have lm := fun g => Slc.lenV (um) (g := g) (ρ := fun _ => _) (x := .t 0) rfl; simp only [evOp] at lm
          simp (maxSteps := 1000000) (disch := first | omega | rfl | (simp only [zL, two63, room] <;> omega) | fail) only [↓reduceIte, ↓zP, zW, WOp, evOp, evBin, binI, binSh, binS, evNil, keyIs, keyEq, mkv, AV.cells, AV.sc, optv, bnd, env, put, Env.get, Env.set, Env.del, Env.dels, Env.init, res1, resL, resV, fillP, splice, newRow, Nat.reduceEqDiff, Nat.reduceLT, Nat.reduceLeDiff, Nat.reduceAdd, Nat.reduceMul, Nat.reduceSub, Nat.reduceBEq, reduceCtorEq, ↓zR, zQ, Tr, StA, StT, fgood, lm, l3, fba, fsm, eS]
          refine lp_GamesWon e w3 um ?_ _ [] _ rfl (Pre.refl _)
          intro hK pK
          by_cases h0 : (movesB w (kindS true)).length = 0
          · have k1 : ¬ ((((movesB w (kindS true)).length : Nat) : Int) > 0) := by rw [h0]; omega
            have k2 : ((((movesB w (kindS true)).length : Nat) : Int) == 0) = true := by rw [h0]; rfl
            have k3 : (((lnB w true).2.2 : Nat) : Int) = 1 := by rw [hAC.2.2, if_pos (List.eq_nil_of_length_eq_zero h0)]; rfl
            simp (maxSteps := 1000000) (disch := first | omega | rfl | (simp only [zL, two63, room] <;> omega) | fail) only [↓reduceIte, ↓zP, zW, WOp, evOp, evBin, binI, binSh, binS, evNil, keyIs, keyEq, mkv, AV.cells, AV.sc, optv, bnd, env, put, Env.get, Env.set, Env.del, Env.dels, Env.init, res1, resL, resV, fillP, splice, newRow, Nat.reduceEqDiff, Nat.reduceLT, Nat.reduceLeDiff, Nat.reduceAdd, Nat.reduceMul, Nat.reduceSub, Nat.reduceBEq, reduceCtorEq, ↓zR, zQ, Tr, StA, StT, lm, k1, k2, k3]
            refine c_OtherLine w (by omega) ?_
            intro hL pL
            simp (maxSteps := 1000000) (disch := first | omega | rfl | (simp only [zL, two63, room] <;> omega) | fail) only [↓reduceIte, ↓zP, zW, WOp, evOp, evBin, binI, binSh, binS, evNil, keyIs, keyEq, mkv, AV.cells, AV.sc, optv, bnd, env, put, Env.get, Env.set, Env.del, Env.dels, Env.init, res1, resL, resV, fillP, splice, newRow, Nat.reduceEqDiff, Nat.reduceLT, Nat.reduceLeDiff, Nat.reduceAdd, Nat.reduceMul, Nat.reduceSub, Nat.reduceBEq, reduceCtorEq, ↓zR, zQ, Tr, StA, StT, fgood, g3]
            refine c_WinsMoving (otherL w) _ (by omega) ?_
            intro hM pM
            simp (maxSteps := 1000000) (disch := first | omega | rfl | (simp only [zL, two63, room] <;> omega) | fail) only [↓reduceIte, ↓zP, zW, WOp, evOp, evBin, binI, binSh, binS, evNil, keyIs, keyEq, mkv, AV.cells, AV.sc, optv, bnd, env, put, Env.get, Env.set, Env.del, Env.dels, Env.init, res1, resL, resV, fillP, splice, newRow, Nat.reduceEqDiff, Nat.reduceLT, Nat.reduceLeDiff, Nat.reduceAdd, Nat.reduceMul, Nat.reduceSub, Nat.reduceBEq, reduceCtorEq, ↓zR, zQ, Tr, StA, StT, g1, g2, e1, e2]
            exact hp _
          · have k1 : (((movesB w (kindS true)).length : Nat) : Int) > 0 := by omega
            have k2 : ((((movesB w (kindS true)).length : Nat) : Int) == 0) = false := by rw [beq_eq_false_iff_ne]; omega
            have k3 : ((acM w true (movesB w (kindS true)) : Nat) : Int) = (((lnB w true).2.2 : Nat) : Int) := by rw [hAC.2.2, if_neg (fun hh => h0 (by rw [hh]; rfl))]
            simp (maxSteps := 1000000) (disch := first | omega | rfl | (simp only [zL, two63, room] <;> omega) | fail) only [↓reduceIte, ↓zP, zW, WOp, evOp, evBin, binI, binSh, binS, evNil, keyIs, keyEq, mkv, AV.cells, AV.sc, optv, bnd, env, put, Env.get, Env.set, Env.del, Env.dels, Env.init, res1, resL, resV, fillP, splice, newRow, Nat.reduceEqDiff, Nat.reduceLT, Nat.reduceLeDiff, Nat.reduceAdd, Nat.reduceMul, Nat.reduceSub, Nat.reduceBEq, reduceCtorEq, ↓zR, zQ, Tr, StA, StT, lm, k1, k2, k3]
            refine c_OtherLine w (by omega) ?_
            intro hL pL
            simp (maxSteps := 1000000) (disch := first | omega | rfl | (simp only [zL, two63, room] <;> omega) | fail) only [↓reduceIte, ↓zP, zW, WOp, evOp, evBin, binI, binSh, binS, evNil, keyIs, keyEq, mkv, AV.cells, AV.sc, optv, bnd, env, put, Env.get, Env.set, Env.del, Env.dels, Env.init, res1, resL, resV, fillP, splice, newRow, Nat.reduceEqDiff, Nat.reduceLT, Nat.reduceLeDiff, Nat.reduceAdd, Nat.reduceMul, Nat.reduceSub, Nat.reduceBEq, reduceCtorEq, ↓zR, zQ, Tr, StA, StT, fgood, g3]
            refine c_WinsMoving (otherL w) _ (by omega) ?_
            intro hM pM
            simp (maxSteps := 1000000) (disch := first | omega | rfl | (simp only [zL, two63, room] <;> omega) | fail) only [↓reduceIte, ↓zP, zW, WOp, evOp, evBin, binI, binSh, binS, evNil, keyIs, keyEq, mkv, AV.cells, AV.sc, optv, bnd, env, put, Env.get, Env.set, Env.del, Env.dels, Env.init, res1, resL, resV, fillP, splice, newRow, Nat.reduceEqDiff, Nat.reduceLT, Nat.reduceLeDiff, Nat.reduceAdd, Nat.reduceMul, Nat.reduceSub, Nat.reduceBEq, reduceCtorEq, ↓zR, zQ, Tr, StA, StT, g1, g2, e1, e2]
            exact hp _
    · have hm0 : gmB w t = some (m1, m2) := by
        rw [Option.isSome_iff_exists] at eS
        obtain ⟨m', hm'⟩ := eS
        rw [hm'] at hgm
        rw [hm', ← hgm]; rfl
      have hpl := plyB_some hm0
      have hpos : (0 : Int) < ((plyB w t).length : Int) := by rw [hpl, List.length_cons]; omega
      obtain ⟨cP, kP, oP, rfl, rP⟩ := Slc.getK hlM t7 (i := 0) (x := (m1, m2)) (by rw [hpl]; rfl)
      have z2 : (0 : Int).toNat * 2 = 0 := rfl
      have rP' : rdRow hE cP kP oP 2 = some [.int .i64 m1, .int .i64 m2] := by simpa using rP
      simp (maxSteps := 1000000) (disch := first | omega | rfl | (simp only [zL, two63, room] <;> omega) | fail) only [↓reduceIte, ↓zP, zW, WOp, evOp, evBin, binI, binSh, binS, evNil, keyIs, keyEq, mkv, AV.cells, AV.sc, optv, bnd, env, put, Env.get, Env.set, Env.del, Env.dels, Env.init, res1, resL, resV, fillP, splice, newRow, Nat.reduceEqDiff, Nat.reduceLT, Nat.reduceLeDiff, Nat.reduceAdd, Nat.reduceMul, Nat.reduceSub, Nat.reduceBEq, reduceCtorEq, ↓zR, zQ, Tr, StA, StT, eS, f.wn, f.ln, q13, q15, seqM, hmm]
      refine c_nMoves (by omega) t7 t8 ?_
      simp (maxSteps := 1000000) (disch := first | omega | rfl | (simp only [zL, two63, room] <;> omega) | fail) only [↓reduceIte, ↓zP, zW, WOp, evOp, evBin, binI, binSh, binS, evNil, keyIs, keyEq, mkv, AV.cells, AV.sc, optv, bnd, env, put, Env.get, Env.set, Env.del, Env.dels, Env.init, res1, resL, resV, fillP, splice, newRow, Nat.reduceEqDiff, Nat.reduceLT, Nat.reduceLeDiff, Nat.reduceAdd, Nat.reduceMul, Nat.reduceSub, Nat.reduceBEq, reduceCtorEq, ↓zR, zQ, Tr, StA, StT, eS, f.wn, f.ln, q13, q15, seqM, hmm]
      refine c_OutcomeOf w (by omega) ?_
      intro hF pF
      simp (maxSteps := 1000000) (disch := first | omega | rfl | (simp only [zL, two63, room] <;> omega) | fail) only [↓reduceIte, ↓zP, zW, WOp, evOp, evBin, binI, binSh, binS, evNil, keyIs, keyEq, mkv, AV.cells, AV.sc, optv, bnd, env, put, Env.get, Env.set, Env.del, Env.dels, Env.init, res1, resL, resV, fillP, splice, newRow, Nat.reduceEqDiff, Nat.reduceLT, Nat.reduceLeDiff, Nat.reduceAdd, Nat.reduceMul, Nat.reduceSub, Nat.reduceBEq, reduceCtorEq, ↓zR, zQ, Tr, StA, StT, e]
      refine c_WinsMoving w (!t) (by omega) ?_
      intro hG pG
      simp (maxSteps := 1000000) (disch := first | omega | rfl | (simp only [zL, two63, room] <;> omega) | fail) only [↓reduceIte, ↓zP, zW, WOp, evOp, evBin, binI, binSh, binS, evNil, keyIs, keyEq, mkv, AV.cells, AV.sc, optv, bnd, env, put, Env.get, Env.set, Env.del, Env.dels, Env.init, res1, resL, resV, fillP, splice, newRow, Nat.reduceEqDiff, Nat.reduceLT, Nat.reduceLeDiff, Nat.reduceAdd, Nat.reduceMul, Nat.reduceSub, Nat.reduceBEq, reduceCtorEq, ↓zR, zQ, Tr, StA, StT, e, f.wn']
      refine c_IsNothing w (by omega) ?_
      intro hH pH
      have pFH := pF.trans (pG.trans pH)
      have u3 := t3.pre pFH
      have k13 := rdRow_pre pFH q13
      try have kP := rdRow_pre pFH rP'
      try simp only [Nat.zero_mul, Nat.add_zero] at rP
      try refine w_drw ?_
      have b1 := f.best
      have b2 := f.par
      have b4 := f.lo
      have b5 := f.sh
      have b6 := f.sl
      have b7 := f.cn
      have b8 := f.zz
      have b9 := f.so
      first
        | simp (maxSteps := 1000000) (disch := first | omega | rfl | (simp only [zL, two63, room] <;> omega) | fail) only [↓reduceIte, ↓zP, zW, WOp, evOp, evBin, binI, binSh, binS, evNil, keyIs, keyEq, mkv, AV.cells, AV.sc, optv, bnd, env, put, Env.get, Env.set, Env.del, Env.dels, Env.init, res1, resL, resV, fillP, splice, newRow, Nat.reduceEqDiff, Nat.reduceLT, Nat.reduceLeDiff, Nat.reduceAdd, Nat.reduceMul, Nat.reduceSub, Nat.reduceBEq, reduceCtorEq, ↓zR, zQ, Tr, StA, StT, e, eS, f.wn, f.ln, l3, l7, n2, k13, kP, z2, Nat.add_zero, hpos, seqM, hmm, b1, b2, b4, b5, b6, b7, b8, b9]
        | simp (maxSteps := 1000000) (disch := first | omega | rfl | (simp only [zL, two63, room] <;> omega) | fail) only [↓reduceIte, ↓zP, zW, WOp, evOp, evBin, binI, binSh, binS, evNil, keyIs, keyEq, mkv, AV.cells, AV.sc, optv, bnd, env, put, Env.get, Env.set, Env.del, Env.dels, Env.init, res1, resL, resV, fillP, splice, newRow, Nat.reduceEqDiff, Nat.reduceLT, Nat.reduceLeDiff, Nat.reduceAdd, Nat.reduceMul, Nat.reduceSub, Nat.reduceBEq, reduceCtorEq, ↓zR, zQ, Tr, StA, StT, e, eS, f.wn, f.ln, l3, l7, n2, k13, seqM, hmm, b1, b2, b4, b5, b6, b7, b8, b9]
      have foc := f.oc
      have fmt := f.mt
      have fmf := f.mf
      have fba := f.ba
      have fsm := f.sm
      have hAC := ac_all w t
      have o11 : outcS true true = [49] := rfl
      have o10 : outcS true false = [84] := rfl
      have o01 : outcS false true = [70] := rfl
      have o00 : outcS false false = [50] := rfl
      have fgood := f.good
      cases t
      · simp only [Bool.not_false] at g2
        cases e1 : winB w true <;> cases e2 : winB w false
        all_goals
          rw [e1, e2] at foc
          try rw [e2] at g2
          simp (maxSteps := 1000000) (disch := first | omega | rfl | (simp only [zL, two63, room] <;> omega) | fail) only [↓reduceIte, ↓zP, zW, WOp, evOp, evBin, binI, binSh, binS, evNil, keyIs, keyEq, mkv, AV.cells, AV.sc, optv, bnd, env, put, Env.get, Env.set, Env.del, Env.dels, Env.init, res1, resL, resV, fillP, splice, newRow, Nat.reduceEqDiff, Nat.reduceLT, Nat.reduceLeDiff, Nat.reduceAdd, Nat.reduceMul, Nat.reduceSub, Nat.reduceBEq, reduceCtorEq, ↓zR, zQ, Tr, StA, StT, e1, e2, foc, o11, o10, o01, o00, Bool.not_true, Bool.not_false]
          refine c_ToadMoves w (by omega) ?_
          intro vT hI oT pI
          simp (maxSteps := 1000000) (disch := first | omega | rfl | (simp only [zL, two63, room] <;> omega) | fail) only [↓reduceIte, ↓zP, zW, WOp, evOp, evBin, binI, binSh, binS, evNil, keyIs, keyEq, mkv, AV.cells, AV.sc, optv, bnd, env, put, Env.get, Env.set, Env.del, Env.dels, Env.init, res1, resL, resV, fillP, splice, newRow, Nat.reduceEqDiff, Nat.reduceLT, Nat.reduceLeDiff, Nat.reduceAdd, Nat.reduceMul, Nat.reduceSub, Nat.reduceBEq, reduceCtorEq, ↓zR, zQ, Tr, StA, StT, fgood]
          refine c_FrogMoves w (by omega) ?_
          intro vm hJ oF pJ
          have um : Slc 2 encM hJ vm (movesB w (kindS false)) := by
            have := oF.slc
            rw [fmf] at this
            exact this
          have w3 := u3.pre (pI.trans pJ)
          have lm := fun g => Slc.lenV (um) (g := g) (ρ := fun _ => _) (x := .t 0) rfl; simp only [evOp] at lm
          simp (maxSteps := 1000000) (disch := first | omega | rfl | (simp only [zL, two63, room] <;> omega) | fail) only [↓reduceIte, ↓zP, zW, WOp, evOp, evBin, binI, binSh, binS, evNil, keyIs, keyEq, mkv, AV.cells, AV.sc, optv, bnd, env, put, Env.get, Env.set, Env.del, Env.dels, Env.init, res1, resL, resV, fillP, splice, newRow, Nat.reduceEqDiff, Nat.reduceLT, Nat.reduceLeDiff, Nat.reduceAdd, Nat.reduceMul, Nat.reduceSub, Nat.reduceBEq, reduceCtorEq, ↓zR, zQ, Tr, StA, StT, fgood, lm, l3, fba, fsm, eS]
          refine lp_GamesWon e w3 um ?_ _ [] _ rfl (Pre.refl _)
          intro hK pK
          by_cases h0 : (movesB w (kindS false)).length = 0
          · have k1 : ¬ ((((movesB w (kindS false)).length : Nat) : Int) > 0) := by rw [h0]; omega
            have k2 : ((((movesB w (kindS false)).length : Nat) : Int) == 0) = true := by rw [h0]; rfl
            have k3 : (((lnB w false).2.2 : Nat) : Int) = 1 := by rw [hAC.2.2, if_pos (List.eq_nil_of_length_eq_zero h0)]; rfl
            simp (maxSteps := 1000000) (disch := first | omega | rfl | (simp only [zL, two63, room] <;> omega) | fail) only [↓reduceIte, ↓zP, zW, WOp, evOp, evBin, binI, binSh, binS, evNil, keyIs, keyEq, mkv, AV.cells, AV.sc, optv, bnd, env, put, Env.get, Env.set, Env.del, Env.dels, Env.init, res1, resL, resV, fillP, splice, newRow, Nat.reduceEqDiff, Nat.reduceLT, Nat.reduceLeDiff, Nat.reduceAdd, Nat.reduceMul, Nat.reduceSub, Nat.reduceBEq, reduceCtorEq, ↓zR, zQ, Tr, StA, StT, lm, k1, k2, k3]
            refine c_OtherLine w (by omega) ?_
            intro hL pL
            simp (maxSteps := 1000000) (disch := first | omega | rfl | (simp only [zL, two63, room] <;> omega) | fail) only [↓reduceIte, ↓zP, zW, WOp, evOp, evBin, binI, binSh, binS, evNil, keyIs, keyEq, mkv, AV.cells, AV.sc, optv, bnd, env, put, Env.get, Env.set, Env.del, Env.dels, Env.init, res1, resL, resV, fillP, splice, newRow, Nat.reduceEqDiff, Nat.reduceLT, Nat.reduceLeDiff, Nat.reduceAdd, Nat.reduceMul, Nat.reduceSub, Nat.reduceBEq, reduceCtorEq, ↓zR, zQ, Tr, StA, StT, fgood, g3]
            refine c_WinsMoving (otherL w) _ (by omega) ?_
            intro hM pM
            simp (maxSteps := 1000000) (disch := first | omega | rfl | (simp only [zL, two63, room] <;> omega) | fail) only [↓reduceIte, ↓zP, zW, WOp, evOp, evBin, binI, binSh, binS, evNil, keyIs, keyEq, mkv, AV.cells, AV.sc, optv, bnd, env, put, Env.get, Env.set, Env.del, Env.dels, Env.init, res1, resL, resV, fillP, splice, newRow, Nat.reduceEqDiff, Nat.reduceLT, Nat.reduceLeDiff, Nat.reduceAdd, Nat.reduceMul, Nat.reduceSub, Nat.reduceBEq, reduceCtorEq, ↓zR, zQ, Tr, StA, StT, g1, g2, e1, e2]
            exact hp _
          · have k1 : (((movesB w (kindS false)).length : Nat) : Int) > 0 := by omega
            have k2 : ((((movesB w (kindS false)).length : Nat) : Int) == 0) = false := by rw [beq_eq_false_iff_ne]; omega
            have k3 : ((acM w false (movesB w (kindS false)) : Nat) : Int) = (((lnB w false).2.2 : Nat) : Int) := by rw [hAC.2.2, if_neg (fun hh => h0 (by rw [hh]; rfl))]
            simp (maxSteps := 1000000) (disch := first | omega | rfl | (simp only [zL, two63, room] <;> omega) | fail) only [↓reduceIte, ↓zP, zW, WOp, evOp, evBin, binI, binSh, binS, evNil, keyIs, keyEq, mkv, AV.cells, AV.sc, optv, bnd, env, put, Env.get, Env.set, Env.del, Env.dels, Env.init, res1, resL, resV, fillP, splice, newRow, Nat.reduceEqDiff, Nat.reduceLT, Nat.reduceLeDiff, Nat.reduceAdd, Nat.reduceMul, Nat.reduceSub, Nat.reduceBEq, reduceCtorEq, ↓zR, zQ, Tr, StA, StT, lm, k1, k2, k3]
            refine c_OtherLine w (by omega) ?_
            intro hL pL
            simp (maxSteps := 1000000) (disch := first | omega | rfl | (simp only [zL, two63, room] <;> omega) | fail) only [↓reduceIte, ↓zP, zW, WOp, evOp, evBin, binI, binSh, binS, evNil, keyIs, keyEq, mkv, AV.cells, AV.sc, optv, bnd, env, put, Env.get, Env.set, Env.del, Env.dels, Env.init, res1, resL, resV, fillP, splice, newRow, Nat.reduceEqDiff, Nat.reduceLT, Nat.reduceLeDiff, Nat.reduceAdd, Nat.reduceMul, Nat.reduceSub, Nat.reduceBEq, reduceCtorEq, ↓zR, zQ, Tr, StA, StT, fgood, g3]
            refine c_WinsMoving (otherL w) _ (by omega) ?_
            intro hM pM
            simp (maxSteps := 1000000) (disch := first | omega | rfl | (simp only [zL, two63, room] <;> omega) | fail) only [↓reduceIte, ↓zP, zW, WOp, evOp, evBin, binI, binSh, binS, evNil, keyIs, keyEq, mkv, AV.cells, AV.sc, optv, bnd, env, put, Env.get, Env.set, Env.del, Env.dels, Env.init, res1, resL, resV, fillP, splice, newRow, Nat.reduceEqDiff, Nat.reduceLT, Nat.reduceLeDiff, Nat.reduceAdd, Nat.reduceMul, Nat.reduceSub, Nat.reduceBEq, reduceCtorEq, ↓zR, zQ, Tr, StA, StT, g1, g2, e1, e2]
            exact hp _
      · simp only [Bool.not_true] at g2
        cases e1 : winB w true <;> cases e2 : winB w false
        all_goals
          rw [e1, e2] at foc
          try rw [e1] at g2
          simp (maxSteps := 1000000) (disch := first | omega | rfl | (simp only [zL, two63, room] <;> omega) | fail) only [↓reduceIte, ↓zP, zW, WOp, evOp, evBin, binI, binSh, binS, evNil, keyIs, keyEq, mkv, AV.cells, AV.sc, optv, bnd, env, put, Env.get, Env.set, Env.del, Env.dels, Env.init, res1, resL, resV, fillP, splice, newRow, Nat.reduceEqDiff, Nat.reduceLT, Nat.reduceLeDiff, Nat.reduceAdd, Nat.reduceMul, Nat.reduceSub, Nat.reduceBEq, reduceCtorEq, ↓zR, zQ, Tr, StA, StT, e1, e2, foc, o11, o10, o01, o00, Bool.not_true, Bool.not_false]
          refine c_ToadMoves w (by omega) ?_
          intro vm hJ oF pJ
          have um : Slc 2 encM hJ vm (movesB w (kindS true)) := by
            have := oF.slc
            rw [fmt] at this
            exact this
          have w3 := u3.pre pJ
          have lm := fun g => Slc.lenV (um) (g := g) (ρ := fun _ => _) (x := .t 0) rfl; simp only [evOp] at lm
          simp (maxSteps := 1000000) (disch := first | omega | rfl | (simp only [zL, two63, room] <;> omega) | fail) only [↓reduceIte, ↓zP, zW, WOp, evOp, evBin, binI, binSh, binS, evNil, keyIs, keyEq, mkv, AV.cells, AV.sc, optv, bnd, env, put, Env.get, Env.set, Env.del, Env.dels, Env.init, res1, resL, resV, fillP, splice, newRow, Nat.reduceEqDiff, Nat.reduceLT, Nat.reduceLeDiff, Nat.reduceAdd, Nat.reduceMul, Nat.reduceSub, Nat.reduceBEq, reduceCtorEq, ↓zR, zQ, Tr, StA, StT, fgood, lm, l3, fba, fsm, eS]
          refine lp_GamesWon e w3 um ?_ _ [] _ rfl (Pre.refl _)
          intro hK pK
          by_cases h0 : (movesB w (kindS true)).length = 0
          · have k1 : ¬ ((((movesB w (kindS true)).length : Nat) : Int) > 0) := by rw [h0]; omega
            have k2 : ((((movesB w (kindS true)).length : Nat) : Int) == 0) = true := by rw [h0]; rfl
            have k3 : (((lnB w true).2.2 : Nat) : Int) = 1 := by rw [hAC.2.2, if_pos (List.eq_nil_of_length_eq_zero h0)]; rfl
            simp (maxSteps := 1000000) (disch := first | omega | rfl | (simp only [zL, two63, room] <;> omega) | fail) only [↓reduceIte, ↓zP, zW, WOp, evOp, evBin, binI, binSh, binS, evNil, keyIs, keyEq, mkv, AV.cells, AV.sc, optv, bnd, env, put, Env.get, Env.set, Env.del, Env.dels, Env.init, res1, resL, resV, fillP, splice, newRow, Nat.reduceEqDiff, Nat.reduceLT, Nat.reduceLeDiff, Nat.reduceAdd, Nat.reduceMul, Nat.reduceSub, Nat.reduceBEq, reduceCtorEq, ↓zR, zQ, Tr, StA, StT, lm, k1, k2, k3]
            refine c_OtherLine w (by omega) ?_
            intro hL pL
            simp (maxSteps := 1000000) (disch := first | omega | rfl | (simp only [zL, two63, room] <;> omega) | fail) only [↓reduceIte, ↓zP, zW, WOp, evOp, evBin, binI, binSh, binS, evNil, keyIs, keyEq, mkv, AV.cells, AV.sc, optv, bnd, env, put, Env.get, Env.set, Env.del, Env.dels, Env.init, res1, resL, resV, fillP, splice, newRow, Nat.reduceEqDiff, Nat.reduceLT, Nat.reduceLeDiff, Nat.reduceAdd, Nat.reduceMul, Nat.reduceSub, Nat.reduceBEq, reduceCtorEq, ↓zR, zQ, Tr, StA, StT, fgood, g3]
            refine c_WinsMoving (otherL w) _ (by omega) ?_
            intro hM pM
            simp (maxSteps := 1000000) (disch := first | omega | rfl | (simp only [zL, two63, room] <;> omega) | fail) only [↓reduceIte, ↓zP, zW, WOp, evOp, evBin, binI, binSh, binS, evNil, keyIs, keyEq, mkv, AV.cells, AV.sc, optv, bnd, env, put, Env.get, Env.set, Env.del, Env.dels, Env.init, res1, resL, resV, fillP, splice, newRow, Nat.reduceEqDiff, Nat.reduceLT, Nat.reduceLeDiff, Nat.reduceAdd, Nat.reduceMul, Nat.reduceSub, Nat.reduceBEq, reduceCtorEq, ↓zR, zQ, Tr, StA, StT, g1, g2, e1, e2]
            exact hp _
          · have k1 : (((movesB w (kindS true)).length : Nat) : Int) > 0 := by omega
            have k2 : ((((movesB w (kindS true)).length : Nat) : Int) == 0) = false := by rw [beq_eq_false_iff_ne]; omega
            have k3 : ((acM w true (movesB w (kindS true)) : Nat) : Int) = (((lnB w true).2.2 : Nat) : Int) := by rw [hAC.2.2, if_neg (fun hh => h0 (by rw [hh]; rfl))]
            simp (maxSteps := 1000000) (disch := first | omega | rfl | (simp only [zL, two63, room] <;> omega) | fail) only [↓reduceIte, ↓zP, zW, WOp, evOp, evBin, binI, binSh, binS, evNil, keyIs, keyEq, mkv, AV.cells, AV.sc, optv, bnd, env, put, Env.get, Env.set, Env.del, Env.dels, Env.init, res1, resL, resV, fillP, splice, newRow, Nat.reduceEqDiff, Nat.reduceLT, Nat.reduceLeDiff, Nat.reduceAdd, Nat.reduceMul, Nat.reduceSub, Nat.reduceBEq, reduceCtorEq, ↓zR, zQ, Tr, StA, StT, lm, k1, k2, k3]
            refine c_OtherLine w (by omega) ?_
            intro hL pL
            simp (maxSteps := 1000000) (disch := first | omega | rfl | (simp only [zL, two63, room] <;> omega) | fail) only [↓reduceIte, ↓zP, zW, WOp, evOp, evBin, binI, binSh, binS, evNil, keyIs, keyEq, mkv, AV.cells, AV.sc, optv, bnd, env, put, Env.get, Env.set, Env.del, Env.dels, Env.init, res1, resL, resV, fillP, splice, newRow, Nat.reduceEqDiff, Nat.reduceLT, Nat.reduceLeDiff, Nat.reduceAdd, Nat.reduceMul, Nat.reduceSub, Nat.reduceBEq, reduceCtorEq, ↓zR, zQ, Tr, StA, StT, fgood, g3]
            refine c_WinsMoving (otherL w) _ (by omega) ?_
            intro hM pM
            simp (maxSteps := 1000000) (disch := first | omega | rfl | (simp only [zL, two63, room] <;> omega) | fail) only [↓reduceIte, ↓zP, zW, WOp, evOp, evBin, binI, binSh, binS, evNil, keyIs, keyEq, mkv, AV.cells, AV.sc, optv, bnd, env, put, Env.get, Env.set, Env.del, Env.dels, Env.init, res1, resL, resV, fillP, splice, newRow, Nat.reduceEqDiff, Nat.reduceLT, Nat.reduceLeDiff, Nat.reduceAdd, Nat.reduceMul, Nat.reduceSub, Nat.reduceBEq, reduceCtorEq, ↓zR, zQ, Tr, StA, StT, g1, g2, e1, e2]
            exact hp _
theorem law_GamesWon {cv mv : AV} {cs ms : List UInt8} {h : AH} (hs : Slc 1 encU h cv cs) (ht : Slc 1 encU h mv ms) : S 432 [cv, mv] h (fun r _ => r = .bool true) k := law_GamesWon_of hs ht fun _ => rfl
end Go.Proofs.YtejhhdpfndiliaaGreatDoor.Ab

/- The law FnGamesWon of the given program returns true, whatever the input: its tied card. Condition: what the row lists of package-level tables is laid as the program's text lays it. -/
namespace Go.Proofs.YtejhhdpfndiliaaGreatDoor.fnGamesWon
open Go Go.ChangeShapes Go.WideShapes Go.ChangeAt Go.RowKit
set_option maxRecDepth 1000000

theorem own : ownKnob Tryz.prog.godebug = none := by kernel_rfl
theorem laidOut : laidOutB Tryz.prog = true := by kernel_rfl
theorem readable : ∀ t ∈ Tryz.f5.params.toList, Tryz.prog.readableRec t = true ∧ t < Tryz.prog.types.size := by
  rw [Tryz.params5]
  intro t ht
  simp only [List.mem_cons, List.not_mem_nil, or_false] at ht
  rcases ht with rfl | rfl
  · exact ⟨by kernel_rfl, of_decide_eq_true (by kernel_rfl)⟩
  · exact ⟨by kernel_rfl, of_decide_eq_true (by kernel_rfl)⟩
theorem contract (H : Type) (enc : TypeId × Value → H) (W : World) (base : Nat) (args : Array Value) (ds gs : List (DataW H)) (before : List MemPlace)
    (hval : ∀ (j : Nat) t v, Tryz.f5.params[j]? = some t → args[j]? = some v → Value.okWide Tryz.prog W .any base t v)
    (hW : DataW.Whole enc Tryz.prog Tryz.f5.params.toList Rows.fnGamesWonSpec.vars false W args.toList ds gs before) :
    Calls Tryz.prog 5 args W fun e W' => ∃ v, e = .returned v ∧ Rows.fnGamesWonSpec.post enc Tryz.prog Tryz.f5 false true false false W args v W' := by
  have hW' := hW
  obtain ⟨p, q, hA0, hV, rfl, hfz, hnd⟩ := hW
  obtain ⟨rfl, rfl⟩ := trodVars_none hV
  have hA : DataW.TrodAll enc Tryz.prog W 0 (fun _ => true) true Tryz.f5.params.toList args.toList ds p := hA0
  rw [Tryz.params5] at hA hval
  obtain ⟨v0, vs0, d0, ds0, p0, q0, hargs0, rfl, rfl, h0, r0⟩ := trodAll_cons hA
  obtain ⟨v1, vs1, d1, ds1, p1, q1, hargs1, rfl, rfl, h1, r1⟩ := trodAll_cons r0
  obtain ⟨rfl, rfl, rfl⟩ := trodAll_nil r1
  obtain rfl : args = #[v0, v1] := by cases args; simp_all
  obtain ⟨s0, m0, g0, a0, _, _, sl0, hv0, rel0⟩ := Ab.open_bytes (F := Ab.F) (Ab.rel_nothing Ab.F W) Tryz.underlying22 Tryz.underlying5 (by kernel_rfl) (hval 0 22 v0 rfl rfl) h0
  obtain ⟨s1, m, g, a1, le1, pre1, sl1, hv1, hrel⟩ := Ab.open_bytes (F := Ab.F) rel0 Tryz.underlying22 Tryz.underlying5 (by kernel_rfl) (hval 1 22 v1 rfl rfl) h1
  have hlaw := Ab.law_GamesWon (sl0.pre pre1) sl1
  have hargs : Ab.RelL Ab.F m [a0, a1] (#[v0, v1] : Array Value).toList := by
    simp only [Ab.RelL]
    exact ⟨v0, [v1], rfl, Ab.RelV.mono le1 _ _ hv0, v1, [], rfl, hv1, rfl⟩
  have hres : (Rows.fnGamesWonSpec.fn H ([d0, d1] ++ [])).results = [.lit (.bool true)] := rfl
  have hback : (Rows.fnGamesWonSpec.fn H ([d0, d1] ++ [])).args = [d0, d1] := rfl
  refine (Ab.law_calls (P := Tryz.prog) (F := Ab.F) Ab.all_sound (f := 432) (h := g) hlaw hrel hargs).mono ?_
  rintro e W' ⟨rfl, hb⟩
  refine ⟨_, rfl, Ab.post_below (pa := p0 ++ (p1 ++ [])) (pv := []) hW' (fun _ _ _ => ?_) (fun sp hsp => ?_) (fun _ _ => rfl) (by simp) hb (ok_one (by kernel_rfl) rfl (okWide_bool_mk Tryz.underlying4 _))⟩
  · rw [hres]
    exact trodAll_cons_mk (shut_bool Tryz.underlying4 _) trodAll_mk0
  · rw [hback]
    exact Ab.trodAll_stays laidOut hb readable hA0 (fun x hx => hW'.lt x (by simpa using hx)) (fun x hx => hsp x (by simpa using hx))

/-- A WORLD FOR THE WITNESS: the settled one, the tables holding what is laid. -/
def lits : List (DataW Unit) → List Value
  | [] => []
  | .lit (.int kd n) :: l => .int kd n :: lits l
  | _ :: l => lits l
def cellsT : DataW Unit → List Value
  | .agg l => l.flatMap fun
    | .lit (.int kd n) => [.int kd n]
    | .agg l' => lits l'
    | _ => []
  | _ => []
def setCells (cs : List Value) : Obj → Obj
  | .cells _ t frozen => .cells cs.toArray t frozen
  | o => o
noncomputable def laidWorld (os : Os) : World :=
  { World.holding Tryz.prog os ⟨#[], #[], []⟩ with heap := ((World.holding Tryz.prog os ⟨#[], #[], []⟩).heap.modify 1 (setCells (cellsT Rows.laid_unicode_utf8_first))).modify 2 (setCells (cellsT Rows.laid_unicode_utf8_acceptRanges)) }
theorem laid_met (os : Os) : laidMet Tryz.prog Rows.fnGamesWonRow.laid ((laidWorld os).forCall (fun _ _ => 0) ⟨#[], #[.slice none 0 0, .slice none 0 0], []⟩).memory :=
  laidMet_of_run' 8 (by kernel_rfl) (by kernel_rfl)
theorem reads (os : Os) {H : Type} (enc : TypeId × Value → H) : ∃ places, DataW.whole enc Tryz.prog ((laidWorld os).forCall (fun _ _ => 0) ⟨#[], #[.slice none 0 0, .slice none 0 0], []⟩).memory Tryz.f5.params.toList Rows.fnGamesWonSpec.vars false (#[.slice none 0 0, .slice none 0 0] : Array Value).toList 8 = some ([.nil, .nil], [], places) :=
  ⟨[], by kernel_rfl⟩

theorem lifted (os : Os) (started : os.Started) (H : Type) (enc : TypeId × Value → H) (F : Stop.Interp) :
    ReturnsInHanded {} Tryz.checked os 5 .any ((OpenSpec.ofChange Rows.fnGamesWonSpec).preRow enc Tryz.prog Tryz.f5 Rows.fnGamesWonRow.domain false Rows.fnGamesWonRow.laid) (((OpenSpec.ofChange Rows.fnGamesWonSpec).at F).post enc Tryz.prog Tryz.f5 false true false false) := by
  obtain ⟨places, hx⟩ := reads os enc
  refine returnsInHanded_of_row (C := Tryz.checked) (s := OpenSpec.ofChange Rows.fnGamesWonSpec) own started (by kernel_rfl) Tryz.func5
    (witness_row_at (enc := enc) (C := Tryz.checked) false (laidWorld os) #[.slice none 0 0, .slice none 0 0] rfl (by kernel_rfl) (by kernel_rfl) (by kernel_rfl)
      (OpenSpec.preRow_of_cond 8 hx (by kernel_rfl) (fun k hk => by cases hk) (by kernel_rfl) (laid_met os))) ?_
  intro W base args ds gs before hval hW _ _ _ _ _ _
  exact contract H enc W base args ds gs before hval hW

theorem said : Rows.FnGamesWonSaid :=
  OpenClaim.holds_of_cond 5 Tryz.f5 rfl rfl rfl rfl rfl rfl rfl ⟨rfl, rfl, rfl, rfl, rfl⟩ rfl rfl rfl rfl rfl (by kernel_rfl) Tryz.func5 (by kernel_rfl)
    (of_decide_eq_true (by kernel_rfl)) (by unfold Func.isWrapper; first | (rw [if_pos (by decide +kernel)]; kernel_rfl) | (rw [if_neg (by decide +kernel)]; exact ⟨rfl, rfl⟩))
    (fun os started H enc _ F => by rw [OpenClaim.pre_eq_preRow]; exact lifted os started H enc F)

/-- No parameter wants a stand-in; the program's own looks are off: what the card asks. -/
theorem plain (f : FuncId) (fn : Func) (hf : Tryz.pinned.checked.prog.funcNamed "loop.example/g01271/laws.FnGamesWon" = some f) (hfn : Tryz.pinned.checked.prog.funcs[f]? = some fn) :
    false = Tryz.pinned.checked.prog.looks [] ∧ ∀ (j : Nat) t, fn.params[j]? = some t → Tryz.pinned.checked.prog.wantsStandIn t = false := by
  obtain rfl : f = 5 := Option.some.inj ((show Tryz.prog.funcNamed "loop.example/g01271/laws.FnGamesWon" = some 5 by kernel_rfl).symm.trans hf) |>.symm
  obtain rfl : fn = Tryz.f5 := (Option.some.inj (Tryz.func5.symm.trans hfn)).symm
  refine ⟨by kernel_rfl, fun j t ht => ?_⟩
  rw [Tryz.params5] at ht
  have hm : t ∈ ([22, 22] : List Nat) := by
    have := Array.mem_of_getElem? ht
    simpa using this
  simp only [List.mem_cons, List.not_mem_nil, or_false] at hm
  rcases hm with rfl | rfl
  · exact (show Tryz.prog.wantsStandIn 22 = false by kernel_rfl)
  · exact (show Tryz.prog.wantsStandIn 22 = false by kernel_rfl)
theorem card : Rows.FnGamesWonCardSaid :=
  Claim7.holds_tied_plain_at .later [] _ _ _ _ said (fun _ h => by cases h) (by kernel_rfl) (fun _ h => by cases h) fnGamesWon_row_tie rfl ⟨rfl, rfl⟩ (by kernel_rfl) rfl plain (by kernel_rfl)
end Go.Proofs.YtejhhdpfndiliaaGreatDoor.fnGamesWon
