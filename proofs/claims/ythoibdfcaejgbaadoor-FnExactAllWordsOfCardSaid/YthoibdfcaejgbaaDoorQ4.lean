/- The proof that the law FnExactAllWordsOf of the given program returns true for every input; the condition: the tables that the row lists are laid as the program's text lays them. -/
import Derived.Test.YthoibdfcaejgbaaDoorCards
import Derived.Test.YthoibdfcaejgbaaDoorTie
import Derived.OpenShut
import Derived.Deep.DeepHandedRow
import Derived.Lib.LaidTab
import Derived.Test.YthoibdfcaejgbaaDoorQ3
set_option linter.unusedSimpArgs false
set_option linter.unusedVariables false
/- WORDS told by the program: a closure that calls itself. -/
namespace Go.Proofs.YthoibdfcaejgbaaDoor.Ab
open Go
set_option maxRecDepth 100000
set_option maxHeartbeats 4000000

theorem c_kindMoves (w kinds : Ln) (hw : w.length < 2 ^ 30) {h : AH} {post : AV → AH → Prop} (hp : ∀ v h', Own 2 h h' v (movesB w kinds).length (mcells (movesB w kinds)) → Pre h h' → post v h') : S 122 [.str w, .str kinds] h post k := by
  refine S_of rfl T122 ?_; unfold fi122
  simp (maxSteps := 1000000) (disch := first | omega | rfl | (simp only [zL, two63, room] <;> omega) | fail) only [↓reduceIte, ↓zP, zW, WOp, evOp, evBin, binI, binSh, binS, evNil, keyIs, keyEq, mkv, AV.cells, AV.sc, optv, bnd, env, put, Env.get, Env.set, Env.del, Env.dels, Env.init, res1, resL, resV, fillP, splice, newRow, Nat.reduceEqDiff, Nat.reduceLT, Nat.reduceLeDiff, Nat.reduceAdd, Nat.reduceMul, Nat.reduceSub, Nat.reduceBEq, reduceCtorEq, ↓zR, zQ, Tr, StA, StT]
  refine c_moves w kinds hw ?_
  intro v h' ho hp'
  simp (maxSteps := 1000000) (disch := first | omega | rfl | (simp only [zL, two63, room] <;> omega) | fail) only [↓reduceIte, ↓zP, zW, WOp, evOp, evBin, binI, binSh, binS, evNil, keyIs, keyEq, mkv, AV.cells, AV.sc, optv, bnd, env, put, Env.get, Env.set, Env.del, Env.dels, Env.init, res1, resL, resV, fillP, splice, newRow, Nat.reduceEqDiff, Nat.reduceLT, Nat.reduceLeDiff, Nat.reduceAdd, Nat.reduceMul, Nat.reduceSub, Nat.reduceBEq, reduceCtorEq, ↓zR, zQ, Tr, StA, StT]
  exact hp v h' ho hp'
/-- What the closure leans on. -/
structure PC where
  c : Nat
  ro : Nat
  rm : Nat
  rc : Nat
  rp : Nat
  b : AH
  mv : Nat
  hc : c < b.length
  hm : rm < b.length ∧ rm ≠ ro ∧ rm ≠ c
  hrc : rc < b.length ∧ rc ≠ ro ∧ rc ≠ c
  hp : rp < b.length ∧ rp ≠ ro ∧ rp ≠ c
  hmv : mv ≤ 40
def PC.caps (x : PC) : List AV := [.ptr x.rm 0 0 1, .ptr x.ro 0 0 1, .ptr x.rc 0 0 1, .ptr x.rp 0 0 1]
structure PI (x : PC) (h : AH) (l : List Ln) : Prop where
  hb : x.b.length ≤ h.length
  mm : Mh ofK ofV x.c h
  oo : OutP 1 encS x.ro x.b h l
  r1 : rdRow h x.rm 0 0 1 = some [.int .i64 x.mv]
  r2 : rdRow h x.rc 0 0 1 = some [.map x.c]
  r3 : rdRow h x.rp 0 0 1 = some [.fn 96 x.caps]
section
variable {x : PC} {h h' : AH} {l : List Ln}
theorem PI.pre (hi : PI x h l) (hp : Pre h h') : PI x h' l := ⟨Nat.le_trans hi.hb hp.1, hi.mm.pre hp, hi.oo.pre hp, rdRow_pre hp hi.r1, rdRow_pre hp hi.r2, rdRow_pre hp hi.r3⟩
theorem PI.ne (hi : PI x h l) : x.ro ≠ x.c := by
  obtain ⟨es, h1, _⟩ := hi.mm
  obtain ⟨vo, h2, _⟩ := hi.oo
  intro e
  rw [e, h1] at h2; cases h2
theorem PI.prex (hi : PI x h l) (hp : PreX x.c h h') (hm : Mh ofK ofV x.c h') : PI x h' l := by
  obtain ⟨es, h1, _⟩ := hi.mm
  exact ⟨Nat.le_trans hi.hb hp.1, hm, (hi.oo.prex h1 hp).1, rdRow_prex hp x.hm.2.2 hi.r1, rdRow_prex hp x.hrc.2.2 hi.r2, rdRow_prex hp x.hp.2.2 hi.r3⟩
theorem PI.grc (hi : PI x h l) {i : Nat} (hib : i < x.b.length) (hne : i ≠ x.ro) : ¬ grc x.ro h i := by
  obtain ⟨vo, h1, h2, h3⟩ := hi.oo
  rintro (e | ⟨cs, ver, fl, ro, h4, v, hv, h5⟩)
  · exact hne e
  · rw [h1] at h4
    simp only [Option.some.injEq, AO.row.injEq] at h4
    obtain ⟨rfl, _⟩ := h4
    simp at hv
    subst hv
    have := own_ge h2 h5
    omega
theorem PI.out (hi : PI x h l) {l' : List Ln} (ho : OutP 1 encS x.ro x.b h' l') (hf : FrC x.ro h h') : PI x h' l' := by
  refine ⟨Nat.le_trans hi.hb hf.1, ?_, ho, rd_frc hf (hi.grc x.hm.1 x.hm.2.1) hi.r1, rd_frc hf (hi.grc x.hrc.1 x.hrc.2.1) hi.r2, rd_frc hf (hi.grc x.hp.1 x.hp.2.1) hi.r3⟩
  obtain ⟨es, h1, h2⟩ := hi.mm
  exact ⟨es, by rw [(hf.2 x.c (Nat.lt_of_lt_of_le x.hc hi.hb) (hi.grc x.hc (Ne.symm hi.ne))).1]; exact h1, h2⟩
end
def PutAt (j : Nat) : Prop := ∀ (x : PC) (w s : Ln) (h : AH) (l : List Ln), oneGap w → w.length ≤ 10 → s.length + j = x.mv → l.length + cntP j w ≤ 300 → PI x h l → ∀ post : AV → AH → Prop, (∀ h', FrW x.c x.ro h h' → PI x h' (l ++ (words j w).map (s ++ ·)) → post (.tup []) h') →
  S 96 [.str w, .str s, .ptr x.rm 0 0 1, .ptr x.ro 0 0 1, .ptr x.rc 0 0 1, .ptr x.rp 0 0 1] h post k
def pcsW (s : Ln) (s0 : UInt8) (j : Nat) (v : Ln) : List Ln := (words j v).map fun y => s ++ s0 :: y
theorem lp_put1 {j : Nat} (ih : PutAt j) {x : PC} {w s : Ln} {s0 : UInt8} (hs0 : s0 = 84 ∨ s0 = 70) (hg : oneGap w) (hw : w.length ≤ 10) (hsj : s.length + (j + 1) = x.mv) {vk vm t22 t23 : AV} {R : X → Env → AH → Prop} :
    ∀ (mr mp : List (Int × Int)) (h : AH) (l : List Ln), movesB w [s0] = mp ++ mr → PI x h l → SlcW 2 encM x.c x.ro h vm (movesB w [s0]) → l.length + ((mr.map (mkM w)).flatMap (pcsW s s0 j)).length ≤ 300 →
    (∀ h', FrW x.c x.ro h h' → PI x h' (l ++ (mr.map (mkM w)).flatMap (pcsW s s0 j)) → R (.exit 2) [(0, .str w), (1, .str s), (2, .ptr x.rm 0 0 1), (4, .ptr x.rc 0 0 1), (5, .ptr x.rp 0 0 1), (21, vk), (22, t22), (23, t23)] h') →
    Cx (.loop lp96_1) [(0, .str w), (1, .str s), (2, .ptr x.rm 0 0 1), (4, .ptr x.rc 0 0 1), (5, .ptr x.rp 0 0 1), (9, .str [s0]), (21, vk), (22, t22), (23, t23), (29, vm), (30, .int .i64 (movesB w [s0]).length), (31, .int .i64 mp.length)] h R k k
  | [], mp, h, l, hmp, hi, hsm, hal, hR => by
    have hl : (movesB w [s0]).length = mp.length := by rw [hmp]; simp
    rw [w_loopb (c := lp96_1) (d := lb96_1) rfl]; unfold lb96_1
    rw [hl]
    simp (maxSteps := 1000000) (disch := first | omega | rfl | (simp only [zL, two63, room] <;> omega) | fail) only [↓reduceIte, ↓zP, zW, WOp, evOp, evBin, binI, binSh, binS, evNil, keyIs, keyEq, mkv, AV.cells, AV.sc, optv, bnd, env, put, Env.get, Env.set, Env.del, Env.dels, Env.init, res1, resL, resV, fillP, splice, newRow, Nat.reduceEqDiff, Nat.reduceLT, Nat.reduceLeDiff, Nat.reduceAdd, Nat.reduceMul, Nat.reduceSub, Nat.reduceBEq, reduceCtorEq, ↓zR, zQ, Tr, StA, StT]
    exact hR h FrW.refl (by simpa using hi)
  | m :: mr, mp, h, l, hmp, hi, hsm, hal, hR => by
    have ihl := lp_put1 ih hs0 hg hw hsj (vk := vk) (vm := vm) (t22 := t22) (t23 := t23) (R := R) mr (mp ++ [m])
    have hmm : m ∈ movesB w [s0] := by rw [hmp]; simp
    have hml : (movesB w [s0]).length = mp.length + 1 + mr.length := by rw [hmp]; simp; omega
    have hbd := movesB_len w [s0]
    have hm' := hsm.1
    rw [hmp] at hm'
    obtain ⟨r1, k1, o1, hv1, hr⟩ := hm'.at hlM
    rw [← hmp, hml] at hv1
    obtain ⟨i', t', rfl, hmv⟩ := movesB_mv hmm
    subst hv1
    rw [hml] at ihl ⊢
    have hlt : (mp.length : Int) < ((mp.length + 1 + mr.length : Nat) : Int) := by omega
    have hw1 : (mp.length : Int) + 1 = ((mp ++ [((i' : Int), (t' : Int))]).length : Int) := by simp
    have hmv40 := x.hmv
    have hsub : (x.mv : Int) - (s.length : Int) - 1 = (j : Int) := by omega
    have hgn : oneGap (madeB w i' t') := ⟨signs_made hmv hg.1, (count_made hmv).trans hg.2⟩
    have hlw := hi.oo.lt
    have hne := hi.ne
    simp only [List.map_cons, List.flatMap_cons, List.length_append] at hal hR
    have hmk : mkM w ((i' : Int), (t' : Int)) = madeB w i' t' := rfl
    rw [hmk] at hal hR
    have hpl : (pcsW s s0 j (madeB w i' t')).length = cntP j (madeB w i' t') := by unfold pcsW; rw [List.length_map, words_len]
    rw [w_loopb (c := lp96_1) (d := lb96_1) rfl]; unfold lb96_1
    simp (maxSteps := 1000000) (disch := first | omega | rfl | (simp only [zL, two63, room] <;> omega) | fail) only [↓reduceIte, ↓zP, zW, WOp, evOp, evBin, binI, binSh, binS, evNil, keyIs, keyEq, mkv, AV.cells, AV.sc, optv, bnd, env, put, Env.get, Env.set, Env.del, Env.dels, Env.init, res1, resL, resV, fillP, splice, newRow, Nat.reduceEqDiff, Nat.reduceLT, Nat.reduceLeDiff, Nat.reduceAdd, Nat.reduceMul, Nat.reduceSub, Nat.reduceBEq, reduceCtorEq, ↓zR, zQ, Tr, StA, StT, hlt, hr]
    refine c_made w i' t' hmv.fst hmv.snd (by omega) ?_
    intro h2 hp2
    have hp1 := (Pre.push h (AO.row (encM ((i' : Int), (t' : Int))) 0 0 false)).trans hp2
    have hi2 := hi.pre hp1
    have hf2 : FrW x.c x.ro h h2 := hp1.frw hlw
    simp (maxSteps := 1000000) (disch := first | omega | rfl | (simp only [zL, two63, room] <;> omega) | fail) only [↓reduceIte, ↓zP, zW, WOp, evOp, evBin, binI, binSh, binS, evNil, keyIs, keyEq, mkv, AV.cells, AV.sc, optv, bnd, env, put, Env.get, Env.set, Env.del, Env.dels, Env.init, res1, resL, resV, fillP, splice, newRow, Nat.reduceEqDiff, Nat.reduceLT, Nat.reduceLeDiff, Nat.reduceAdd, Nat.reduceMul, Nat.reduceSub, Nat.reduceBEq, reduceCtorEq, ↓zR, zQ, Tr, StA, StT, hi2.r1, hi2.r2, hsub]
    refine c_of j (madeB w i' t') x.c h2 hgn (by rw [madeB_length]; exact hw) (by omega) hi2.mm _ ?_
    intro h3 hp3 hm3
    have hi3 := hi2.prex hp3 hm3
    have hf3 := hf2.trans (hp3.frw hi2.oo.lt hne)
    by_cases hpos : (0 : Int) < (cntP j (madeB w i' t') : Nat)
    · have hrp := hi3.r3
      unfold PC.caps at hrp
      have h63 : s.length + ([s0] : Ln).length ≤ two63 := by simp only [List.length_cons, List.length_nil, two63]; omega
      simp (maxSteps := 1000000) (disch := first | omega | rfl | (simp only [zL, two63, room] <;> omega) | fail) only [↓reduceIte, ↓zP, zW, WOp, evOp, evBin, binI, binSh, binS, evNil, keyIs, keyEq, mkv, AV.cells, AV.sc, optv, bnd, env, put, Env.get, Env.set, Env.del, Env.dels, Env.init, res1, resL, resV, fillP, splice, newRow, Nat.reduceEqDiff, Nat.reduceLT, Nat.reduceLeDiff, Nat.reduceAdd, Nat.reduceMul, Nat.reduceSub, Nat.reduceBEq, reduceCtorEq, ↓zR, zQ, Tr, StA, StT, hpos, hi3.r1, hi3.r2, hrp, h63]
      refine ih x (madeB w i' t') (s ++ [s0]) h3 l hgn (by rw [madeB_length]; exact hw) (by simp; omega) (by omega) hi3 _ ?_
      intro h4 hf4 hi4
      simp (maxSteps := 1000000) (disch := first | omega | rfl | (simp only [zL, two63, room] <;> omega) | fail) only [↓reduceIte, ↓zP, zW, WOp, evOp, evBin, binI, binSh, binS, evNil, keyIs, keyEq, mkv, AV.cells, AV.sc, optv, bnd, env, put, Env.get, Env.set, Env.del, Env.dels, Env.init, res1, resL, resV, fillP, splice, newRow, Nat.reduceEqDiff, Nat.reduceLT, Nat.reduceLeDiff, Nat.reduceAdd, Nat.reduceMul, Nat.reduceSub, Nat.reduceBEq, reduceCtorEq, ↓zR, zQ, Tr, StA, StT, hw1]
      rw [w_loopn (c := lp96_1) rfl]
      simp (maxSteps := 1000000) (disch := first | omega | rfl | (simp only [zL, two63, room] <;> omega) | fail) only [↓reduceIte, ↓zP, zW, WOp, evOp, evBin, binI, binSh, binS, evNil, keyIs, keyEq, mkv, AV.cells, AV.sc, optv, bnd, env, put, Env.get, Env.set, Env.del, Env.dels, Env.init, res1, resL, resV, fillP, splice, newRow, Nat.reduceEqDiff, Nat.reduceLT, Nat.reduceLeDiff, Nat.reduceAdd, Nat.reduceMul, Nat.reduceSub, Nat.reduceBEq, reduceCtorEq, ↓zR, zQ, Tr, StA, StT]
      have hl4 : (words j (madeB w i' t')).map ((s ++ [s0]) ++ ·) = pcsW s s0 j (madeB w i' t') := by unfold pcsW; exact List.map_congr_left fun y _ => by simp
      rw [hl4] at hi4
      have hf := hf3.trans hf4
      refine ihl h4 _ (by rw [hmp]; simp) hi4 (hsm.fr hf) (by rw [List.length_append]; omega) ?_
      intro h5 hf5 hi5
      exact hR h5 (hf.trans hf5) (by simpa using hi5)
    · have hz : cntP j (madeB w i' t') = 0 := by omega
      have hnil : pcsW s s0 j (madeB w i' t') = [] := List.eq_nil_of_length_eq_zero (by rw [hpl, hz])
      rw [hnil] at hR
      simp (maxSteps := 1000000) (disch := first | omega | rfl | (simp only [zL, two63, room] <;> omega) | fail) only [↓reduceIte, ↓zP, zW, WOp, evOp, evBin, binI, binSh, binS, evNil, keyIs, keyEq, mkv, AV.cells, AV.sc, optv, bnd, env, put, Env.get, Env.set, Env.del, Env.dels, Env.init, res1, resL, resV, fillP, splice, newRow, Nat.reduceEqDiff, Nat.reduceLT, Nat.reduceLeDiff, Nat.reduceAdd, Nat.reduceMul, Nat.reduceSub, Nat.reduceBEq, reduceCtorEq, ↓zR, zQ, Tr, StA, StT, hpos, hw1]
      rw [w_loopn (c := lp96_1) rfl]
      simp (maxSteps := 1000000) (disch := first | omega | rfl | (simp only [zL, two63, room] <;> omega) | fail) only [↓reduceIte, ↓zP, zW, WOp, evOp, evBin, binI, binSh, binS, evNil, keyIs, keyEq, mkv, AV.cells, AV.sc, optv, bnd, env, put, Env.get, Env.set, Env.del, Env.dels, Env.init, res1, resL, resV, fillP, splice, newRow, Nat.reduceEqDiff, Nat.reduceLT, Nat.reduceLeDiff, Nat.reduceAdd, Nat.reduceMul, Nat.reduceSub, Nat.reduceBEq, reduceCtorEq, ↓zR, zQ, Tr, StA, StT]
      refine ihl h3 l (by rw [hmp]; simp) hi3 (hsm.fr hf3) (by rw [hpl] at hal; omega) ?_
      intro h5 hf5 hi5
      exact hR h5 (hf3.trans hf5) (by simpa using hi5)
theorem words_map (s : Ln) (j : Nat) (w : Ln) : (words (j + 1) w).map (s ++ ·) = (nextB w [70]).flatMap (pcsW s 70 j) ++ (nextB w [84]).flatMap (pcsW s 84 j) := by
  have : ∀ (s0 : UInt8) (l : List Ln), (l.flatMap fun v => (words j v).map (s0 :: ·)).map (s ++ ·) = l.flatMap (pcsW s s0 j) := by
    intro s0 l
    rw [List.map_flatMap]
    refine congrArg (fun f => l.flatMap f) (funext fun v => ?_)
    unfold pcsW
    rw [List.map_map]; rfl
  unfold words
  rw [List.map_append, this, this]
theorem c_put : ∀ j : Nat, PutAt j
  | 0 => by
    intro x w s h l hg hw hsj hal hi post hp
    have hls : (((s.length : Nat) : Int) == (x.mv : Int)) = true := by rw [beq_iff_eq]; omega
    have hc1 : cntP 0 w = 1 := rfl
    obtain ⟨vo, v', h3, a1, a2, a3, a4, a5, a6, a7, a8⟩ := hi.oo.push hlS scS hi.hb s (by omega)
    have a2' : rdRow (h ++ [AO.row [.str s] 0 0 false]) h.length 0 0 1 = some [.str s] := a2
    have a3' : apRow (h ++ [AO.row [.str s] 0 0 false]) 1 vo 1 [.str s] = some (v', h3) := a3
    have hw0 : (words 0 w).map (s ++ ·) = [s] := by simp [words]
    rw [hw0] at hp
    have hsc := a5
    unfold AV.sc at hsc
    have hce := a4
    simp only [AV.cells] at hce
    refine S_of rfl T96 ?_; unfold fi96
    simp (maxSteps := 1000000) (disch := first | omega | rfl | (simp only [zL, two63, room] <;> omega) | fail) only [↓reduceIte, ↓zP, zW, WOp, evOp, evBin, binI, binSh, binS, evNil, keyIs, keyEq, mkv, AV.cells, AV.sc, optv, bnd, env, put, Env.get, Env.set, Env.del, Env.dels, Env.init, res1, resL, resV, fillP, splice, newRow, Nat.reduceEqDiff, Nat.reduceLT, Nat.reduceLeDiff, Nat.reduceAdd, Nat.reduceMul, Nat.reduceSub, Nat.reduceBEq, reduceCtorEq, ↓zR, zQ, Tr, StA, StT, hi.r1, hls, a1, a3', hce, hsc, a6]
    exact hp _ a8.frw (hi.out a7 a8)
  | j + 1 => by
    intro x w s h l hg hw hsj hal hi post hp
    have ih := c_put j
    have hls : (((s.length : Nat) : Int) == (x.mv : Int)) = false := by rw [beq_eq_false_iff_ne]; omega
    have hlen : ((words (j + 1) w).map (s ++ ·)).length = cntP (j + 1) w := by rw [List.length_map, words_len]
    rw [words_map] at hlen hp
    rw [List.length_append] at hlen
    have p1 := Pre.push h (AO.row [.str [70], .str [84]] 0 0 false)
    have rd0 : rdRow (h ++ [AO.row [.str [70], .str [84]] 0 0 false]) h.length 0 0 1 = some [.str [70]] := by rw [rd_last, if_pos (by simp)]; simp
    have rd1 : rdRow (h ++ [AO.row [.str [70], .str [84]] 0 0 false]) h.length 0 1 1 = some [.str [84]] := by rw [rd_last, if_pos (by simp)]; simp
    have hlw := hi.oo.lt
    have hcl := hi.mm.lt
    have hk : h.length ≠ x.c ∧ ¬ grc x.ro h h.length := ⟨by omega, fun hgr => by have := hi.oo.grc_lt hgr; omega⟩
    have hk1 : ¬ grc x.ro (h ++ [AO.row [.str [70], .str [84]] 0 0 false]) h.length := by rw [grc_pre p1 hlw]; exact hk.2
    have round : ∀ (s0 : UInt8), (s0 = 84 ∨ s0 = 70) → ∀ (i : Nat) (h1 : AH) (l1 : List Ln), i < 2 → FrW x.c x.ro (h ++ [AO.row [.str [70], .str [84]] 0 0 false]) h1 → rdRow h1 h.length 0 i 1 = some [.str [s0]] → l1.length + ((nextB w [s0]).flatMap (pcsW s s0 j)).length ≤ 300 → PI x h1 l1 → ∀ R : X → Env → AH → Prop,
        (∀ h', FrW x.c x.ro (h ++ [AO.row [.str [70], .str [84]] 0 0 false]) h' → PI x h' (l1 ++ (nextB w [s0]).flatMap (pcsW s s0 j)) → Cx (.loop lp96_0) [(0, .str w), (1, .str s), (2, .ptr x.rm 0 0 1), (4, .ptr x.rc 0 0 1), (5, .ptr x.rp 0 0 1), (21, .slice h.length 0 0 2 1), (22, .int .i64 2), (23, .int .i64 ((i : Int) + 1))] h' R k k) →
        Cx (.loop lp96_0) [(0, .str w), (1, .str s), (2, .ptr x.rm 0 0 1), (4, .ptr x.rc 0 0 1), (5, .ptr x.rp 0 0 1), (21, .slice h.length 0 0 2 1), (22, .int .i64 2), (23, .int .i64 (i : Int))] h1 R k k := by
      intro s0 hs0 i h1 l1 hi2 hf1 hr hal1 hi1 R hR
      have hlt : (i : Int) < 2 := by omega
      have hr' : rdRow h1 h.length 0 (i * 1) 1 = some [.str [s0]] := by rw [Nat.mul_one]; exact hr
      rw [w_loopb (c := lp96_0) (d := lb96_0) rfl]; unfold lb96_0
      simp (maxSteps := 1000000) (disch := first | omega | rfl | (simp only [zL, two63, room] <;> omega) | fail) only [↓reduceIte, ↓zP, zW, WOp, evOp, evBin, binI, binSh, binS, evNil, keyIs, keyEq, mkv, AV.cells, AV.sc, optv, bnd, env, put, Env.get, Env.set, Env.del, Env.dels, Env.init, res1, resL, resV, fillP, splice, newRow, Nat.reduceEqDiff, Nat.reduceLT, Nat.reduceLeDiff, Nat.reduceAdd, Nat.reduceMul, Nat.reduceSub, Nat.reduceBEq, reduceCtorEq, ↓zR, zQ, Tr, StA, StT, hlt, hr']
      refine c_kindMoves w [s0] (by omega) ?_
      intro vm h2 ho2 hp2
      have hsm : OwL 2 encM h1 h2 vm (movesB w [s0]) := ho2
      have hvm := fun g => Slc.lenV (hsm.slc) (g := g) (ρ := fun _ => _) (x := .t 0) rfl; simp only [evOp] at hvm
      simp (maxSteps := 1000000) (disch := first | omega | rfl | (simp only [zL, two63, room] <;> omega) | fail) only [↓reduceIte, ↓zP, zW, WOp, evOp, evBin, binI, binSh, binS, evNil, keyIs, keyEq, mkv, AV.cells, AV.sc, optv, bnd, env, put, Env.get, Env.set, Env.del, Env.dels, Env.init, res1, resL, resV, fillP, splice, newRow, Nat.reduceEqDiff, Nat.reduceLT, Nat.reduceLeDiff, Nat.reduceAdd, Nat.reduceMul, Nat.reduceSub, Nat.reduceBEq, reduceCtorEq, ↓zR, zQ, Tr, StA, StT, hvm]
      refine lp_put1 ih hs0 hg hw hsj (vm := vm) (movesB w [s0]) [] h2 l1 rfl (hi1.pre hp2) (hi1.oo.slcW hi1.mm.lt hsm hp2) hal1 ?_
      intro h3 hf3 hi3
      simp (maxSteps := 1000000) (disch := first | omega | rfl | (simp only [zL, two63, room] <;> omega) | fail) only [↓reduceIte, ↓zP, zW, WOp, evOp, evBin, binI, binSh, binS, evNil, keyIs, keyEq, mkv, AV.cells, AV.sc, optv, bnd, env, put, Env.get, Env.set, Env.del, Env.dels, Env.init, res1, resL, resV, fillP, splice, newRow, Nat.reduceEqDiff, Nat.reduceLT, Nat.reduceLeDiff, Nat.reduceAdd, Nat.reduceMul, Nat.reduceSub, Nat.reduceBEq, reduceCtorEq, ↓zR, zQ, Tr, StA, StT]
      rw [w_loopn (c := lp96_0) rfl]
      simp (maxSteps := 1000000) (disch := first | omega | rfl | (simp only [zL, two63, room] <;> omega) | fail) only [↓reduceIte, ↓zP, zW, WOp, evOp, evBin, binI, binSh, binS, evNil, keyIs, keyEq, mkv, AV.cells, AV.sc, optv, bnd, env, put, Env.get, Env.set, Env.del, Env.dels, Env.init, res1, resL, resV, fillP, splice, newRow, Nat.reduceEqDiff, Nat.reduceLT, Nat.reduceLeDiff, Nat.reduceAdd, Nat.reduceMul, Nat.reduceSub, Nat.reduceBEq, reduceCtorEq, ↓zR, zQ, Tr, StA, StT]
      exact hR h3 (hf1.trans ((hp2.frw hi1.oo.lt).trans hf3)) hi3
    refine S_of rfl T96 ?_; unfold fi96
    simp (maxSteps := 1000000) (disch := first | omega | rfl | (simp only [zL, two63, room] <;> omega) | fail) only [↓reduceIte, ↓zP, zW, WOp, evOp, evBin, binI, binSh, binS, evNil, keyIs, keyEq, mkv, AV.cells, AV.sc, optv, bnd, env, put, Env.get, Env.set, Env.del, Env.dels, Env.init, res1, resL, resV, fillP, splice, newRow, Nat.reduceEqDiff, Nat.reduceLT, Nat.reduceLeDiff, Nat.reduceAdd, Nat.reduceMul, Nat.reduceSub, Nat.reduceBEq, reduceCtorEq, ↓zR, zQ, Tr, StA, StT, hi.r1, hls]
    refine round 70 (.inr rfl) 0 _ l (by omega) FrW.refl rd0 (by omega) (hi.pre p1) _ ?_
    intro h1 hf1 hi1
    refine round 84 (.inl rfl) 1 h1 _ (by omega) hf1 (rd_frw hf1 hk.1 hk1 rd1) (by rw [List.length_append]; omega) hi1 _ ?_
    intro h2 hf2 hi2
    rw [w_loopb (c := lp96_0) (d := lb96_0) rfl]; unfold lb96_0
    simp (maxSteps := 1000000) (disch := first | omega | rfl | (simp only [zL, two63, room] <;> omega) | fail) only [↓reduceIte, ↓zP, zW, WOp, evOp, evBin, binI, binSh, binS, evNil, keyIs, keyEq, mkv, AV.cells, AV.sc, optv, bnd, env, put, Env.get, Env.set, Env.del, Env.dels, Env.init, res1, resL, resV, fillP, splice, newRow, Nat.reduceEqDiff, Nat.reduceLT, Nat.reduceLeDiff, Nat.reduceAdd, Nat.reduceMul, Nat.reduceSub, Nat.reduceBEq, reduceCtorEq, ↓zR, zQ, Tr, StA, StT]
    exact hp h2 ((p1.frw hlw).trans hf2) (by simpa using hi2)
end Go.Proofs.YthoibdfcaejgbaaDoor.Ab

/- MARKS on texts; the law of Solutions. -/
namespace Go.Proofs.YthoibdfcaejgbaaDoor.Ab
open Go
set_option maxRecDepth 100000
set_option maxHeartbeats 4000000

theorem lp_eqSS {v u : AV} {L M : List (List UInt8)} (hlen : L.length < 2 ^ 40) {h : AH} (hs : Slc 1 encS h v L) (ht : Slc 1 encS h u M) (hll : L.length = M.length) {R : X → Env → AH → Prop} : ∀ (rest rest' pre pre' : List (List UInt8)), L = pre ++ rest → M = pre' ++ rest' → pre.length = pre'.length →
    ((rest == rest') = true → R (.exit 0) [] h) → ((rest == rest') = false → R .ret [(4, .bool false)] h) → Cx (.loop lp48_0) [(0, v), (1, u), (5, .int .i64 pre.length)] h R k k
  | [], rest', pre, pre', hL, hM, hpp, h1, h2 => by
    have : rest' = [] := by
      have e1 := congrArg List.length hL
      have e2 := congrArg List.length hM
      simp at e1 e2
      exact List.eq_nil_of_length_eq_zero (by omega)
    subst this
    rw [w_loopb (c := lp48_0) (d := lb48_0) rfl]; unfold lb48_0
    have hv := fun g => Slc.lenV (hs) (g := g) (ρ := fun _ => _) (x := .t 0) rfl; simp only [evOp] at hv
    have hl : L.length = pre.length := by rw [hL]; simp
    simp (maxSteps := 1000000) (disch := first | omega | rfl | (simp only [zL, two63, room] <;> omega) | fail) only [↓reduceIte, ↓zP, zW, WOp, evOp, evBin, binI, binSh, binS, evNil, keyIs, keyEq, mkv, AV.cells, AV.sc, optv, bnd, env, put, Env.get, Env.set, Env.del, Env.dels, Env.init, res1, resL, resV, fillP, splice, newRow, Nat.reduceEqDiff, Nat.reduceLT, Nat.reduceLeDiff, Nat.reduceAdd, Nat.reduceMul, Nat.reduceSub, Nat.reduceBEq, reduceCtorEq, ↓zR, zQ, Tr, StA, StT, hv, hl]
    exact h1 rfl
  | x :: rest, [], pre, pre', hL, hM, hpp, h1, h2 => by
    have e1 := congrArg List.length hL
    have e2 := congrArg List.length hM
    simp at e1 e2
    omega
  | x :: rest, y :: rest', pre, pre', hL, hM, hpp, h1, h2 => by
    have ih := lp_eqSS hlen hs ht hll (R := R) rest rest' (pre ++ [x]) (pre' ++ [y])
    have hv := fun g => Slc.lenV (hs) (g := g) (ρ := fun _ => _) (x := .t 0) rfl; simp only [evOp] at hv
    have hl : L.length = pre.length + 1 + rest.length := by rw [hL]; simp; omega
    have hm : M.length = pre.length + 1 + rest'.length := by rw [hM, hpp]; simp; omega
    have hs' := hs
    have ht' := ht
    rw [hL] at hs'
    rw [hM] at ht'
    obtain ⟨r1, k1, o1, hve, hr⟩ := hs'.at hlS
    obtain ⟨r2, k2, o2, hue, hr2⟩ := ht'.at hlS
    rw [← hL, hl] at hve
    rw [← hM, hm] at hue
    rw [← hpp] at hr2
    subst hve
    subst hue
    have hlt : (pre.length : Int) < ((pre.length + 1 + rest.length : Nat) : Int) := by omega
    have hlt2 : (pre.length : Int) < ((pre.length + 1 + rest'.length : Nat) : Int) := by omega
    have hw1 : (pre.length : Int) + 1 = ((pre ++ [x]).length : Int) := by simp
    rw [w_loopb (c := lp48_0) (d := lb48_0) rfl]; unfold lb48_0
    cases e : (x == y)
    · have en : (x != y) = true := by simp only [bne, e]; rfl
      simp (maxSteps := 1000000) (disch := first | omega | rfl | (simp only [zL, two63, room] <;> omega) | fail) only [↓reduceIte, ↓zP, zW, WOp, evOp, evBin, binI, binSh, binS, evNil, keyIs, keyEq, mkv, AV.cells, AV.sc, optv, bnd, env, put, Env.get, Env.set, Env.del, Env.dels, Env.init, res1, resL, resV, fillP, splice, newRow, Nat.reduceEqDiff, Nat.reduceLT, Nat.reduceLeDiff, Nat.reduceAdd, Nat.reduceMul, Nat.reduceSub, Nat.reduceBEq, reduceCtorEq, ↓zR, zQ, Tr, StA, StT, hlt, hlt2, hr, hr2, en, e]
      exact h2 (by rw [beq_cc, e]; rfl)
    · have en : (x != y) = false := by simp only [bne, e]; rfl
      simp (maxSteps := 1000000) (disch := first | omega | rfl | (simp only [zL, two63, room] <;> omega) | fail) only [↓reduceIte, ↓zP, zW, WOp, evOp, evBin, binI, binSh, binS, evNil, keyIs, keyEq, mkv, AV.cells, AV.sc, optv, bnd, env, put, Env.get, Env.set, Env.del, Env.dels, Env.init, res1, resL, resV, fillP, splice, newRow, Nat.reduceEqDiff, Nat.reduceLT, Nat.reduceLeDiff, Nat.reduceAdd, Nat.reduceMul, Nat.reduceSub, Nat.reduceBEq, reduceCtorEq, ↓zR, zQ, Tr, StA, StT, hlt, hlt2, hr, hr2, en, e]
      simp (maxSteps := 1000000) (disch := first | omega | rfl | (simp only [zL, two63, room] <;> omega) | fail) only [↓reduceIte, ↓zP, zW, WOp, evOp, evBin, binI, binSh, binS, evNil, keyIs, keyEq, mkv, AV.cells, AV.sc, optv, bnd, env, put, Env.get, Env.set, Env.del, Env.dels, Env.init, res1, resL, resV, fillP, splice, newRow, Nat.reduceEqDiff, Nat.reduceLT, Nat.reduceLeDiff, Nat.reduceAdd, Nat.reduceMul, Nat.reduceSub, Nat.reduceBEq, reduceCtorEq, ↓zR, zQ, Tr, StA, StT, hw1]
      rw [w_loopn (c := lp48_0) rfl]
      simp (maxSteps := 1000000) (disch := first | omega | rfl | (simp only [zL, two63, room] <;> omega) | fail) only [↓reduceIte, ↓zP, zW, WOp, evOp, evBin, binI, binSh, binS, evNil, keyIs, keyEq, mkv, AV.cells, AV.sc, optv, bnd, env, put, Env.get, Env.set, Env.del, Env.dels, Env.init, res1, resL, resV, fillP, splice, newRow, Nat.reduceEqDiff, Nat.reduceLT, Nat.reduceLeDiff, Nat.reduceAdd, Nat.reduceMul, Nat.reduceSub, Nat.reduceBEq, reduceCtorEq, ↓zR, zQ, Tr, StA, StT]
      exact ih (by rw [hL]; simp) (by rw [hM]; simp) (by simp [hpp]) (fun q => h1 (by rw [beq_cc, e, q]; rfl)) (fun q => h2 (by rw [beq_cc, e, q]; rfl))
theorem c_eqSS {v u : AV} {L M : List (List UInt8)} (hlen : L.length < 2 ^ 40) {h : AH} (hs : Slc 1 encS h v L) (ht : Slc 1 encS h u M) {post : AV → AH → Prop} (hp : post (.bool (L == M)) h) : S 48 [v, u] h post k := by
  refine S_of rfl T48 ?_; unfold fi48
  have hv := fun g => Slc.lenV (hs) (g := g) (ρ := fun _ => _) (x := .t 0) rfl; simp only [evOp] at hv
  have hu := fun g => Slc.lenV (ht) (g := g) (ρ := fun _ => _) (x := .t 0) rfl; simp only [evOp] at hu
  by_cases hl : L.length = M.length
  · simp (maxSteps := 1000000) (disch := first | omega | rfl | (simp only [zL, two63, room] <;> omega) | fail) only [↓reduceIte, ↓zP, zW, WOp, evOp, evBin, binI, binSh, binS, evNil, keyIs, keyEq, mkv, AV.cells, AV.sc, optv, bnd, env, put, Env.get, Env.set, Env.del, Env.dels, Env.init, res1, resL, resV, fillP, splice, newRow, Nat.reduceEqDiff, Nat.reduceLT, Nat.reduceLeDiff, Nat.reduceAdd, Nat.reduceMul, Nat.reduceSub, Nat.reduceBEq, reduceCtorEq, ↓zR, zQ, Tr, StA, StT, hv, hu, hl]
    refine lp_eqSS hlen hs ht hl L M [] [] rfl rfl rfl ?_ ?_
    · intro e
      simp (maxSteps := 1000000) (disch := first | omega | rfl | (simp only [zL, two63, room] <;> omega) | fail) only [↓reduceIte, ↓zP, zW, WOp, evOp, evBin, binI, binSh, binS, evNil, keyIs, keyEq, mkv, AV.cells, AV.sc, optv, bnd, env, put, Env.get, Env.set, Env.del, Env.dels, Env.init, res1, resL, resV, fillP, splice, newRow, Nat.reduceEqDiff, Nat.reduceLT, Nat.reduceLeDiff, Nat.reduceAdd, Nat.reduceMul, Nat.reduceSub, Nat.reduceBEq, reduceCtorEq, ↓zR, zQ, Tr, StA, StT]
      exact e ▸ hp
    · intro e
      simp (maxSteps := 1000000) (disch := first | omega | rfl | (simp only [zL, two63, room] <;> omega) | fail) only [↓reduceIte, ↓zP, zW, WOp, evOp, evBin, binI, binSh, binS, evNil, keyIs, keyEq, mkv, AV.cells, AV.sc, optv, bnd, env, put, Env.get, Env.set, Env.del, Env.dels, Env.init, res1, resL, resV, fillP, splice, newRow, Nat.reduceEqDiff, Nat.reduceLT, Nat.reduceLeDiff, Nat.reduceAdd, Nat.reduceMul, Nat.reduceSub, Nat.reduceBEq, reduceCtorEq, ↓zR, zQ, Tr, StA, StT]
      exact e ▸ hp
  · have hne : ((L.length : Int) != (M.length : Int)) = true := by simp; omega
    simp (maxSteps := 1000000) (disch := first | omega | rfl | (simp only [zL, two63, room] <;> omega) | fail) only [↓reduceIte, ↓zP, zW, WOp, evOp, evBin, binI, binSh, binS, evNil, keyIs, keyEq, mkv, AV.cells, AV.sc, optv, bnd, env, put, Env.get, Env.set, Env.del, Env.dels, Env.init, res1, resL, resV, fillP, splice, newRow, Nat.reduceEqDiff, Nat.reduceLT, Nat.reduceLeDiff, Nat.reduceAdd, Nat.reduceMul, Nat.reduceSub, Nat.reduceBEq, reduceCtorEq, ↓zR, zQ, Tr, StA, StT, hv, hu, hne]
    have : (L == M) = false := by
      rw [beq_eq_false_iff_ne]; rintro rfl; exact hl rfl
    exact this ▸ hp

/-! ### The text of a mark -/
def mdig (k : Nat) (out : List UInt8) : List UInt8 := if h : k = 0 then out else mdig (k / 10) (UInt8.ofNat (48 + k % 10) :: out)
termination_by k
decreasing_by omega
def mtxt (q : Nat) : List UInt8 := 109 :: mdig q []
theorem wrap_d : ∀ d, d < 10 → IntKind.u8.wrap (48 + ((d : Nat) : Int)) = ((UInt8.ofNat (48 + d)).toNat : Int) := by decide
theorem lp_markText {b : AH} {R : X → Env → AH → Prop} : ∀ (d k : Nat) (out : List UInt8) (h : AH), k ≤ d → out.length + k < 2 ^ 35 → Pre b h →
    (∀ h', Pre b h' → (mdig k out).length < 2 ^ 35 → R (.exit 0) [(3, .str (mdig k out))] h') → Cx (.loop lp98_0) [(0, .int .i64 (k : Nat)), (3, .str out)] h R Ab.k Ab.k
  | d, 0, out, h, hd, hb, hp, hR => by
    rw [mdig] at hR
    have hz : ¬ (((0 : Nat) : Int) > 0) := by omega
    rw [w_loopb (c := lp98_0) (d := lb98_0) rfl]; unfold lb98_0
    simp (maxSteps := 1000000) (disch := first | omega | rfl | (simp only [zL, two63, room] <;> omega) | fail) only [↓reduceIte, ↓zP, zW, WOp, evOp, evBin, binI, binSh, binS, evNil, keyIs, keyEq, mkv, AV.cells, AV.sc, optv, bnd, env, put, Env.get, Env.set, Env.del, Env.dels, Env.init, res1, resL, resV, fillP, splice, newRow, Nat.reduceEqDiff, Nat.reduceLT, Nat.reduceLeDiff, Nat.reduceAdd, Nat.reduceMul, Nat.reduceSub, Nat.reduceBEq, reduceCtorEq, ↓zR, zQ, Tr, StA, StT, hz]
    exact hR h hp (by simp; omega)
  | 0, k + 1, out, h, hd, hb, hp, hR => by omega
  | d + 1, k + 1, out, h, hd, hb, hp, hR => by
    have ih := lp_markText (b := b) (R := R) d ((k + 1) / 10) (UInt8.ofNat (48 + (k + 1) % 10) :: out)
    rw [mdig] at hR
    rw [dif_neg (by omega)] at hR
    generalize hk : k + 1 = n at *
    have hz : ((n : Nat) : Int) > 0 := by omega
    have hm : ((n : Nat) : Int).tmod 10 = ((n % 10 : Nat) : Int) := by rw [Int.tmod_eq_emod_of_nonneg (by omega)]; omega
    have hq : ((n : Nat) : Int).tdiv 10 = ((n / 10 : Nat) : Int) := by rw [Int.tdiv_eq_ediv_of_nonneg (by omega)]; omega
    have hwd := wrap_d (n % 10) (by omega)
    have hw1 : IntKind.i64.wrap (48 + ((n % 10 : Nat) : Int)) = 48 + ((n % 10 : Nat) : Int) := wrap_i (by omega)
    have hw2 : IntKind.i64.wrap ((n / 10 : Nat) : Int) = ((n / 10 : Nat) : Int) := wrap_i (by omega)
    generalize UInt8.ofNat (48 + n % 10) = c at *
    have hbl : bytesL [AV.int .u8 (c.toNat : Int)] = some [c] := bytesL_map [c]
    rw [w_loopb (c := lp98_0) (d := lb98_0) rfl]; unfold lb98_0
    have h10 : ¬ ((10 : Int) = 0) := by decide
    simp (maxSteps := 1000000) (disch := first | omega | rfl | (simp only [zL, two63, room] <;> omega) | fail) only [↓reduceIte, ↓zP, zW, WOp, evOp, evBin, binI, binSh, binS, evNil, keyIs, keyEq, mkv, AV.cells, AV.sc, optv, bnd, env, put, Env.get, Env.set, Env.del, Env.dels, Env.init, res1, resL, resV, fillP, splice, newRow, Nat.reduceEqDiff, Nat.reduceLT, Nat.reduceLeDiff, Nat.reduceAdd, Nat.reduceMul, Nat.reduceSub, Nat.reduceBEq, reduceCtorEq, ↓zR, zQ, Tr, StA, StT, hz, hm, hq, hw1, hwd, hw2, hbl, h10]
    rw [w_loopn (c := lp98_0) rfl]
    simp (maxSteps := 1000000) (disch := first | omega | rfl | (simp only [zL, two63, room] <;> omega) | fail) only [↓reduceIte, ↓zP, zW, WOp, evOp, evBin, binI, binSh, binS, evNil, keyIs, keyEq, mkv, AV.cells, AV.sc, optv, bnd, env, put, Env.get, Env.set, Env.del, Env.dels, Env.init, res1, resL, resV, fillP, splice, newRow, Nat.reduceEqDiff, Nat.reduceLT, Nat.reduceLeDiff, Nat.reduceAdd, Nat.reduceMul, Nat.reduceSub, Nat.reduceBEq, reduceCtorEq, ↓zR, zQ, Tr, StA, StT]
    exact ih _ (by omega) (by simp; omega) (hp.trans (Pre.push _ _)) hR
theorem c_markText (q : Nat) (hq : 1 ≤ q ∧ q < 2 ^ 34) {h : AH} {post : AV → AH → Prop} (hp : ∀ h', Pre h h' → post (.str (mtxt q)) h') : S 98 [.int .i64 q] h post k := by
  have hz : ¬ ((q : Int) ≤ 0) := by omega
  refine S_of rfl T98 ?_; unfold fi98
  simp (maxSteps := 1000000) (disch := first | omega | rfl | (simp only [zL, two63, room] <;> omega) | fail) only [↓reduceIte, ↓zP, zW, WOp, evOp, evBin, binI, binSh, binS, evNil, keyIs, keyEq, mkv, AV.cells, AV.sc, optv, bnd, env, put, Env.get, Env.set, Env.del, Env.dels, Env.init, res1, resL, resV, fillP, splice, newRow, Nat.reduceEqDiff, Nat.reduceLT, Nat.reduceLeDiff, Nat.reduceAdd, Nat.reduceMul, Nat.reduceSub, Nat.reduceBEq, reduceCtorEq, ↓zR, zQ, Tr, StA, StT, hz]
  refine lp_markText (b := h) q q [] h (Nat.le_refl _) (by simp; omega) (Pre.refl _) ?_
  intro h' hp' hl
  simp (maxSteps := 1000000) (disch := first | omega | rfl | (simp only [zL, two63, room] <;> omega) | fail) only [↓reduceIte, ↓zP, zW, WOp, evOp, evBin, binI, binSh, binS, evNil, keyIs, keyEq, mkv, AV.cells, AV.sc, optv, bnd, env, put, Env.get, Env.set, Env.del, Env.dels, Env.init, res1, resL, resV, fillP, splice, newRow, Nat.reduceEqDiff, Nat.reduceLT, Nat.reduceLeDiff, Nat.reduceAdd, Nat.reduceMul, Nat.reduceSub, Nat.reduceBEq, reduceCtorEq, ↓zR, zQ, Tr, StA, StT]
  exact hp h' hp'
def mtL : Nat → Nat → List (List UInt8)
  | _, 0 => []
  | q, n + 1 => mtxt q :: mtL (q + 1) n
theorem mtL_len : ∀ (n q : Nat), (mtL q n).length = n
  | 0, _ => rfl
  | n + 1, q => by simp [mtL, mtL_len n]
theorem lp_markStringS {b : AH} {v : AV} {R : X → Env → AH → Prop} : ∀ (rest pre : List (List UInt8)) (q : Nat) (h : AH), OwW 1 encS b h v (pre ++ rest) → pre.length + rest.length < 2 ^ 30 → 1 ≤ q → q + rest.length < 2 ^ 33 →
    (∀ h', OwW 1 encS b h' v (pre ++ mtL q rest.length) → PreV v h h' → R (.exit 0) [(1, .int .i64 ((q + rest.length : Nat) : Int))] h') → Cx (.loop lp50_0) [(0, v), (1, .int .i64 q), (5, .int .i64 pre.length)] h R k k
  | [], pre, q, h, ho, hb, h0, hq, hR => by
    rw [w_loopb (c := lp50_0) (d := lb50_0) rfl]; unfold lb50_0
    have hv := fun g => Slc.lenV ((ho.slc hlS)) (g := g) (ρ := fun _ => _) (x := .t 0) rfl; simp only [evOp] at hv
    simp only [List.append_nil] at hv
    simp (maxSteps := 1000000) (disch := first | omega | rfl | (simp only [zL, two63, room] <;> omega) | fail) only [↓reduceIte, ↓zP, zW, WOp, evOp, evBin, binI, binSh, binS, evNil, keyIs, keyEq, mkv, AV.cells, AV.sc, optv, bnd, env, put, Env.get, Env.set, Env.del, Env.dels, Env.init, res1, resL, resV, fillP, splice, newRow, Nat.reduceEqDiff, Nat.reduceLT, Nat.reduceLeDiff, Nat.reduceAdd, Nat.reduceMul, Nat.reduceSub, Nat.reduceBEq, reduceCtorEq, ↓zR, zQ, Tr, StA, StT, hv]
    have := hR h ho (PreV.refl _ _)
    simpa using this
  | x :: rest, pre, q, h, ho, hb, h0, hq, hR => by
    have ih := lp_markStringS (b := b) (v := v) (R := R) rest (pre ++ [mtxt q]) (q + 1)
    have hl : (pre ++ x :: rest).length = pre.length + 1 + rest.length := by simp; omega
    have hv := fun g => Slc.lenV ((ho.slc hlS)) (g := g) (ρ := fun _ => _) (x := .t 0) rfl; simp only [evOp] at hv
    obtain ⟨c, kk, off, hve, _⟩ := (ho.slc hlS).at hlS
    rw [hl] at hve hv
    subst hve
    simp only [List.length_cons] at hb hq
    have hlt : (pre.length : Int) < ((pre.length + 1 + rest.length : Nat) : Int) := by omega
    have hw1 : (pre.length : Int) + 1 = ((pre ++ [mtxt q]).length : Int) := by simp
    have hw2 : (q : Int) + 1 = ((q + 1 : Nat) : Int) := by omega
    rw [w_loopb (c := lp50_0) (d := lb50_0) rfl]; unfold lb50_0
    simp (maxSteps := 1000000) (disch := first | omega | rfl | (simp only [zL, two63, room] <;> omega) | fail) only [↓reduceIte, ↓zP, zW, WOp, evOp, evBin, binI, binSh, binS, evNil, keyIs, keyEq, mkv, AV.cells, AV.sc, optv, bnd, env, put, Env.get, Env.set, Env.del, Env.dels, Env.init, res1, resL, resV, fillP, splice, newRow, Nat.reduceEqDiff, Nat.reduceLT, Nat.reduceLeDiff, Nat.reduceAdd, Nat.reduceMul, Nat.reduceSub, Nat.reduceBEq, reduceCtorEq, ↓zR, zQ, Tr, StA, StT, hv, hlt]
    refine c_markText q ⟨h0, by omega⟩ ?_
    intro h1 hp1
    obtain ⟨c', kk', off', h', hve, hw, ho', hpv⟩ := (ho.pre hp1).store hlS (mtxt q) 0 [.str (mtxt q)] (by simp) rfl rfl
    simp only [AV.slice.injEq] at hve
    obtain ⟨rfl, rfl, rfl, -⟩ := hve
    rw [Nat.add_zero] at hw
    simp (maxSteps := 1000000) (disch := first | omega | rfl | (simp only [zL, two63, room] <;> omega) | fail) only [↓reduceIte, ↓zP, zW, WOp, evOp, evBin, binI, binSh, binS, evNil, keyIs, keyEq, mkv, AV.cells, AV.sc, optv, bnd, env, put, Env.get, Env.set, Env.del, Env.dels, Env.init, res1, resL, resV, fillP, splice, newRow, Nat.reduceEqDiff, Nat.reduceLT, Nat.reduceLeDiff, Nat.reduceAdd, Nat.reduceMul, Nat.reduceSub, Nat.reduceBEq, reduceCtorEq, ↓zR, zQ, Tr, StA, StT, hw, hlt]
    simp (maxSteps := 1000000) (disch := first | omega | rfl | (simp only [zL, two63, room] <;> omega) | fail) only [↓reduceIte, ↓zP, zW, WOp, evOp, evBin, binI, binSh, binS, evNil, keyIs, keyEq, mkv, AV.cells, AV.sc, optv, bnd, env, put, Env.get, Env.set, Env.del, Env.dels, Env.init, res1, resL, resV, fillP, splice, newRow, Nat.reduceEqDiff, Nat.reduceLT, Nat.reduceLeDiff, Nat.reduceAdd, Nat.reduceMul, Nat.reduceSub, Nat.reduceBEq, reduceCtorEq, ↓zR, zQ, Tr, StA, StT, hw1, hw2]
    rw [w_loopn (c := lp50_0) rfl]
    simp (maxSteps := 1000000) (disch := first | omega | rfl | (simp only [zL, two63, room] <;> omega) | fail) only [↓reduceIte, ↓zP, zW, WOp, evOp, evBin, binI, binSh, binS, evNil, keyIs, keyEq, mkv, AV.cells, AV.sc, optv, bnd, env, put, Env.get, Env.set, Env.del, Env.dels, Env.init, res1, resL, resV, fillP, splice, newRow, Nat.reduceEqDiff, Nat.reduceLT, Nat.reduceLeDiff, Nat.reduceAdd, Nat.reduceMul, Nat.reduceSub, Nat.reduceBEq, reduceCtorEq, ↓zR, zQ, Tr, StA, StT]
    refine ih h' (by simpa using ho') (by simp; omega) (by omega) (by omega) ?_
    intro h2 ho2 hpv2
    have := hR h2 (by simpa [mtL] using ho2) (((hp1.v _).trans hpv).trans hpv2)
    rw [show q + (x :: rest).length = q + 1 + rest.length by simp; omega] at this
    exact this
theorem c_markStringS {b h : AH} {v : AV} {L : List (List UInt8)} (ho : OwW 1 encS b h v L) (q : Nat) (hL : L.length < 2 ^ 30) (hq : 1 ≤ q ∧ q < 2 ^ 30) {post : AV → AH → Prop} (hp : ∀ h', OwW 1 encS b h' v (mtL q L.length) → PreV v h h' → post (.int .i64 ((q + L.length : Nat) : Int)) h') : S 50 [v, .int .i64 q] h post k := by
  refine S_of rfl T50 ?_; unfold fi50
  simp (maxSteps := 1000000) (disch := first | omega | rfl | (simp only [zL, two63, room] <;> omega) | fail) only [↓reduceIte, ↓zP, zW, WOp, evOp, evBin, binI, binSh, binS, evNil, keyIs, keyEq, mkv, AV.cells, AV.sc, optv, bnd, env, put, Env.get, Env.set, Env.del, Env.dels, Env.init, res1, resL, resV, fillP, splice, newRow, Nat.reduceEqDiff, Nat.reduceLT, Nat.reduceLeDiff, Nat.reduceAdd, Nat.reduceMul, Nat.reduceSub, Nat.reduceBEq, reduceCtorEq, ↓zR, zQ, Tr, StA, StT]
  refine lp_markStringS (b := b) L [] q h ho (by simpa using hL) hq.1 (by omega) ?_
  intro h' ho' hpv
  simp (maxSteps := 1000000) (disch := first | omega | rfl | (simp only [zL, two63, room] <;> omega) | fail) only [↓reduceIte, ↓zP, zW, WOp, evOp, evBin, binI, binSh, binS, evNil, keyIs, keyEq, mkv, AV.cells, AV.sc, optv, bnd, env, put, Env.get, Env.set, Env.del, Env.dels, Env.init, res1, resL, resV, fillP, splice, newRow, Nat.reduceEqDiff, Nat.reduceLT, Nat.reduceLeDiff, Nat.reduceAdd, Nat.reduceMul, Nat.reduceSub, Nat.reduceBEq, reduceCtorEq, ↓zR, zQ, Tr, StA, StT]
  exact hp h' ho' hpv
theorem lp_heldStringS {v : AV} {b : AH} {n : Nat} (hn : n < 2 ^ 30) {R : X → Env → AH → Prop} : ∀ (d : Nat) (pre : List (List UInt8)) (q : Nat) (h : AH), Slc 1 encS h v (pre ++ mtL q d) → pre.length + d = n → 1 ≤ q → q + d < 2 ^ 33 → Pre b h →
    (∀ h', Pre b h' → R (.exit 0) [(1, .int .i64 ((q + d : Nat) : Int))] h') → Cx (.loop lp47_0) [(0, v), (1, .int .i64 q), (5, .int .i64 pre.length)] h R k k
  | 0, pre, q, h, hs, hd, h0, hq, hp, hR => by
    rw [w_loopb (c := lp47_0) (d := lb47_0) rfl]; unfold lb47_0
    have hv := fun g => Slc.lenV (hs) (g := g) (ρ := fun _ => _) (x := .t 0) rfl; simp only [evOp] at hv
    simp only [mtL, List.append_nil] at hv
    simp (maxSteps := 1000000) (disch := first | omega | rfl | (simp only [zL, two63, room] <;> omega) | fail) only [↓reduceIte, ↓zP, zW, WOp, evOp, evBin, binI, binSh, binS, evNil, keyIs, keyEq, mkv, AV.cells, AV.sc, optv, bnd, env, put, Env.get, Env.set, Env.del, Env.dels, Env.init, res1, resL, resV, fillP, splice, newRow, Nat.reduceEqDiff, Nat.reduceLT, Nat.reduceLeDiff, Nat.reduceAdd, Nat.reduceMul, Nat.reduceSub, Nat.reduceBEq, reduceCtorEq, ↓zR, zQ, Tr, StA, StT, hv]
    simpa using hR h hp
  | d + 1, pre, q, h, hs, hd, h0, hq, hp, hR => by
    have ih := lp_heldStringS (v := v) (b := b) hn (R := R) d (pre ++ [mtxt q]) (q + 1)
    have hv := fun g => Slc.lenV (hs) (g := g) (ρ := fun _ => _) (x := .t 0) rfl; simp only [evOp] at hv
    simp only [mtL] at hs hv
    have hl : (pre ++ mtxt q :: mtL (q + 1) d).length = pre.length + 1 + d := by simp [mtL_len]; omega
    obtain ⟨c, kk, off, hve, hr⟩ := hs.at hlS
    rw [hl] at hve hv
    subst hve
    have hlt : (pre.length : Int) < ((pre.length + 1 + d : Nat) : Int) := by omega
    have hw1 : (pre.length : Int) + 1 = ((pre ++ [mtxt q]).length : Int) := by simp
    have hw2 : (q : Int) + 1 = ((q + 1 : Nat) : Int) := by omega
    rw [w_loopb (c := lp47_0) (d := lb47_0) rfl]; unfold lb47_0
    simp (maxSteps := 1000000) (disch := first | omega | rfl | (simp only [zL, two63, room] <;> omega) | fail) only [↓reduceIte, ↓zP, zW, WOp, evOp, evBin, binI, binSh, binS, evNil, keyIs, keyEq, mkv, AV.cells, AV.sc, optv, bnd, env, put, Env.get, Env.set, Env.del, Env.dels, Env.init, res1, resL, resV, fillP, splice, newRow, Nat.reduceEqDiff, Nat.reduceLT, Nat.reduceLeDiff, Nat.reduceAdd, Nat.reduceMul, Nat.reduceSub, Nat.reduceBEq, reduceCtorEq, ↓zR, zQ, Tr, StA, StT, hv, hlt]
    refine w_drw ?_
    simp (maxSteps := 1000000) (disch := first | omega | rfl | (simp only [zL, two63, room] <;> omega) | fail) only [↓reduceIte, ↓zP, zW, WOp, evOp, evBin, binI, binSh, binS, evNil, keyIs, keyEq, mkv, AV.cells, AV.sc, optv, bnd, env, put, Env.get, Env.set, Env.del, Env.dels, Env.init, res1, resL, resV, fillP, splice, newRow, Nat.reduceEqDiff, Nat.reduceLT, Nat.reduceLeDiff, Nat.reduceAdd, Nat.reduceMul, Nat.reduceSub, Nat.reduceBEq, reduceCtorEq, ↓zR, zQ, Tr, StA, StT, hr, hlt]
    refine c_markText q ⟨h0, by omega⟩ ?_
    intro h1 hp1
    have hr1 := rdRow_pre hp1 hr
    simp (maxSteps := 1000000) (disch := first | omega | rfl | (simp only [zL, two63, room] <;> omega) | fail) only [↓reduceIte, ↓zP, zW, WOp, evOp, evBin, binI, binSh, binS, evNil, keyIs, keyEq, mkv, AV.cells, AV.sc, optv, bnd, env, put, Env.get, Env.set, Env.del, Env.dels, Env.init, res1, resL, resV, fillP, splice, newRow, Nat.reduceEqDiff, Nat.reduceLT, Nat.reduceLeDiff, Nat.reduceAdd, Nat.reduceMul, Nat.reduceSub, Nat.reduceBEq, reduceCtorEq, ↓zR, zQ, Tr, StA, StT, hr, hr1, hlt, bne_self_eq_false]
    simp (maxSteps := 1000000) (disch := first | omega | rfl | (simp only [zL, two63, room] <;> omega) | fail) only [↓reduceIte, ↓zP, zW, WOp, evOp, evBin, binI, binSh, binS, evNil, keyIs, keyEq, mkv, AV.cells, AV.sc, optv, bnd, env, put, Env.get, Env.set, Env.del, Env.dels, Env.init, res1, resL, resV, fillP, splice, newRow, Nat.reduceEqDiff, Nat.reduceLT, Nat.reduceLeDiff, Nat.reduceAdd, Nat.reduceMul, Nat.reduceSub, Nat.reduceBEq, reduceCtorEq, ↓zR, zQ, Tr, StA, StT, hw1, hw2]
    rw [w_loopn (c := lp47_0) rfl]
    simp (maxSteps := 1000000) (disch := first | omega | rfl | (simp only [zL, two63, room] <;> omega) | fail) only [↓reduceIte, ↓zP, zW, WOp, evOp, evBin, binI, binSh, binS, evNil, keyIs, keyEq, mkv, AV.cells, AV.sc, optv, bnd, env, put, Env.get, Env.set, Env.del, Env.dels, Env.init, res1, resL, resV, fillP, splice, newRow, Nat.reduceEqDiff, Nat.reduceLT, Nat.reduceLeDiff, Nat.reduceAdd, Nat.reduceMul, Nat.reduceSub, Nat.reduceBEq, reduceCtorEq, ↓zR, zQ, Tr, StA, StT]
    refine ih h1 (by simpa using hs.pre hp1) (by simp; omega) (by omega) (by omega) (hp.trans hp1) ?_
    rw [show q + 1 + d = q + (d + 1) by omega]
    exact hR
theorem c_heldStringS {h : AH} {v : AV} (q : Nat) (n : Nat) (hn : n < 2 ^ 30) (hq : 1 ≤ q ∧ q < 2 ^ 30) (hs : Slc 1 encS h v (mtL q n)) {post : AV → AH → Prop} (hp : ∀ h', Pre h h' → post (.int .i64 ((q + n : Nat) : Int)) h') : S 47 [v, .int .i64 q] h post k := by
  refine S_of rfl T47 ?_; unfold fi47
  simp (maxSteps := 1000000) (disch := first | omega | rfl | (simp only [zL, two63, room] <;> omega) | fail) only [↓reduceIte, ↓zP, zW, WOp, evOp, evBin, binI, binSh, binS, evNil, keyIs, keyEq, mkv, AV.cells, AV.sc, optv, bnd, env, put, Env.get, Env.set, Env.del, Env.dels, Env.init, res1, resL, resV, fillP, splice, newRow, Nat.reduceEqDiff, Nat.reduceLT, Nat.reduceLeDiff, Nat.reduceAdd, Nat.reduceMul, Nat.reduceSub, Nat.reduceBEq, reduceCtorEq, ↓zR, zQ, Tr, StA, StT]
  refine lp_heldStringS (b := h) hn n [] q h hs (by simp) hq.1 (by omega) (Pre.refl _) ?_
  intro h' hp'
  simp (maxSteps := 1000000) (disch := first | omega | rfl | (simp only [zL, two63, room] <;> omega) | fail) only [↓reduceIte, ↓zP, zW, WOp, evOp, evBin, binI, binSh, binS, evNil, keyIs, keyEq, mkv, AV.cells, AV.sc, optv, bnd, env, put, Env.get, Env.set, Env.del, Env.dels, Env.init, res1, resL, resV, fillP, splice, newRow, Nat.reduceEqDiff, Nat.reduceLT, Nat.reduceLeDiff, Nat.reduceAdd, Nat.reduceMul, Nat.reduceSub, Nat.reduceBEq, reduceCtorEq, ↓zR, zQ, Tr, StA, StT]
  exact hp h' hp'

theorem solP_len (n : Int) (cs : List Clu) : (solP n cs).length ≤ 243 := by
  unfold solP
  cases e : goodP n cs
  · simp
  · obtain ⟨m, rfl, m1, m5, _⟩ := goodP_iff e
    have h1 := List.length_filter_le (fun w => cs.all fun c => fitB c w) (allL m)
    have h2 := allL_length m
    have h3 : 3 ^ m ≤ 3 ^ 5 := Nat.pow_le_pow_right (by omega) m5
    have h4 : (solN (m : Int) cs).length ≤ (allL m).length := h1
    simp only [if_true]
    omega
end Go.Proofs.YthoibdfcaejgbaaDoor.Ab

/- WORDS: all of them, both sides and the law. -/
namespace Go.Proofs.YthoibdfcaejgbaaDoor.Ab
open Go
set_option maxRecDepth 100000
set_option maxHeartbeats 4000000

def awG (w : Ln) (mv : Int) : Bool := oneB w && decide (0 ≤ mv ∧ mv ≤ 40)
def awB (w : Ln) (mv : Int) : Bool := awG w mv && decide ((cntP mv.toNat w : Int) ≤ 300)
def aw (w : Ln) (mv : Int) : List Ln := if awB w mv then words mv.toNat w else []
theorem aw_len (w : Ln) (mv : Int) : (aw w mv).length ≤ 300 := by
  unfold aw
  split
  · rename_i h
    simp only [awB, Bool.and_eq_true, decide_eq_true_eq] at h
    rw [words_len]; omega
  · simp
theorem cnt62 {w : Ln} (hg : oneGap w) {j : Nat} (hj : j ≤ 40) : cntP j w ≤ 1099511627776 := Nat.le_trans (cntP_le j hg) (pow40 hj)
theorem c_sAllWordsOf (w : Ln) (mv : Int) (hs : w.length < 2 ^ 60) {h : AH} {post : AV → AH → Prop} (hp : ∀ v' h', OwL 1 encS h h' v' (aw w mv) → Pre h h' → post (.tup [v', .bool (awB w mv)]) h') : S 51 [.str w, .int .i64 mv] h post k := by
  unfold aw awB awG at hp
  refine S_of rfl T51 ?_; unfold fi51
  simp (maxSteps := 1000000) (disch := first | omega | rfl | (simp only [zL, two63, room] <;> omega) | fail) only [↓reduceIte, ↓zP, zW, WOp, evOp, evBin, binI, binSh, binS, evNil, keyIs, keyEq, mkv, AV.cells, AV.sc, optv, bnd, env, put, Env.get, Env.set, Env.del, Env.dels, Env.init, res1, resL, resV, fillP, splice, newRow, Nat.reduceEqDiff, Nat.reduceLT, Nat.reduceLeDiff, Nat.reduceAdd, Nat.reduceMul, Nat.reduceSub, Nat.reduceBEq, reduceCtorEq, ↓zR, zQ, Tr, StA, StT, e_woOne w hs]
  cases e1 : oneB w
  · rw [e1] at hp
    simp (maxSteps := 1000000) (disch := first | omega | rfl | (simp only [zL, two63, room] <;> omega) | fail) only [↓reduceIte, ↓zP, zW, WOp, evOp, evBin, binI, binSh, binS, evNil, keyIs, keyEq, mkv, AV.cells, AV.sc, optv, bnd, env, put, Env.get, Env.set, Env.del, Env.dels, Env.init, res1, resL, resV, fillP, splice, newRow, Nat.reduceEqDiff, Nat.reduceLT, Nat.reduceLeDiff, Nat.reduceAdd, Nat.reduceMul, Nat.reduceSub, Nat.reduceBEq, reduceCtorEq, ↓zR, zQ, Tr, StA, StT]
    exact hp .nilS h OwL.nil (Pre.refl _)
  obtain ⟨hg, hw⟩ := oneB_iff e1
  by_cases hmv : 0 ≤ mv ∧ mv ≤ 40
  case neg =>
    simp only [e1, hmv, decide_false, Bool.and_false, Bool.false_and, Bool.false_eq_true, if_false] at hp
    simp (maxSteps := 1000000) (disch := first | omega | rfl | (simp only [zL, two63, room] <;> omega) | fail) only [↓reduceIte, ↓zP, zW, WOp, evOp, evBin, binI, binSh, binS, evNil, keyIs, keyEq, mkv, AV.cells, AV.sc, optv, bnd, env, put, Env.get, Env.set, Env.del, Env.dels, Env.init, res1, resL, resV, fillP, splice, newRow, Nat.reduceEqDiff, Nat.reduceLT, Nat.reduceLeDiff, Nat.reduceAdd, Nat.reduceMul, Nat.reduceSub, Nat.reduceBEq, reduceCtorEq, ↓zR, zQ, Tr, StA, StT, e_l1In, hmv]
    exact hp .nilS h OwL.nil (Pre.refl _)
  obtain ⟨M, rfl⟩ : ∃ M : Nat, mv = M := ⟨mv.toNat, by omega⟩
  have hM : M ≤ 40 := by omega
  simp only [e1, hmv, decide_true, Bool.and_true, Bool.true_and, Int.toNat_natCast] at hp
  simp (maxSteps := 1000000) (disch := first | omega | rfl | (simp only [zL, two63, room] <;> omega) | fail) only [↓reduceIte, ↓zP, zW, WOp, evOp, evBin, binI, binSh, binS, evNil, keyIs, keyEq, mkv, AV.cells, AV.sc, optv, bnd, env, put, Env.get, Env.set, Env.del, Env.dels, Env.init, res1, resL, resV, fillP, splice, newRow, Nat.reduceEqDiff, Nat.reduceLT, Nat.reduceLeDiff, Nat.reduceAdd, Nat.reduceMul, Nat.reduceSub, Nat.reduceBEq, reduceCtorEq, ↓zR, zQ, Tr, StA, StT, e_l1In, hmv]
  refine c_woCount w hg.1 hw M (by omega) (fun j hj => Nat.lt_of_le_of_lt (cnt62 hg (show j ≤ 40 by omega)) (by decide)) ?_
  intro h2 hp2
  by_cases hc : (cntP M w : Int) ≤ 300
  · simp only [hc, decide_true, if_true] at hp
    have hgt : ¬ (300 : Int) < (cntP M w : Int) := by omega
    simp (maxSteps := 1000000) (disch := first | omega | rfl | (simp only [zL, two63, room] <;> omega) | fail) only [↓reduceIte, ↓zP, zW, WOp, evOp, evBin, binI, binSh, binS, evNil, keyIs, keyEq, mkv, AV.cells, AV.sc, optv, bnd, env, put, Env.get, Env.set, Env.del, Env.dels, Env.init, res1, resL, resV, fillP, splice, newRow, Nat.reduceEqDiff, Nat.reduceLT, Nat.reduceLeDiff, Nat.reduceAdd, Nat.reduceMul, Nat.reduceSub, Nat.reduceBEq, reduceCtorEq, ↓zR, zQ, Tr, StA, StT, hgt]
    refine c_woAll M w h2 hg hw hM (by omega) _ ?_
    intro v' h3 ho hp3
    simp (maxSteps := 1000000) (disch := first | omega | rfl | (simp only [zL, two63, room] <;> omega) | fail) only [↓reduceIte, ↓zP, zW, WOp, evOp, evBin, binI, binSh, binS, evNil, keyIs, keyEq, mkv, AV.cells, AV.sc, optv, bnd, env, put, Env.get, Env.set, Env.del, Env.dels, Env.init, res1, resL, resV, fillP, splice, newRow, Nat.reduceEqDiff, Nat.reduceLT, Nat.reduceLeDiff, Nat.reduceAdd, Nat.reduceMul, Nat.reduceSub, Nat.reduceBEq, reduceCtorEq, ↓zR, zQ, Tr, StA, StT]
    exact hp v' h3 (ho.old hp2.1) (hp2.trans hp3)
  · simp only [hc, decide_false, Bool.false_eq_true, if_false] at hp
    have hgt : (300 : Int) < (cntP M w : Int) := by omega
    simp (maxSteps := 1000000) (disch := first | omega | rfl | (simp only [zL, two63, room] <;> omega) | fail) only [↓reduceIte, ↓zP, zW, WOp, evOp, evBin, binI, binSh, binS, evNil, keyIs, keyEq, mkv, AV.cells, AV.sc, optv, bnd, env, put, Env.get, Env.set, Env.del, Env.dels, Env.init, res1, resL, resV, fillP, splice, newRow, Nat.reduceEqDiff, Nat.reduceLT, Nat.reduceLeDiff, Nat.reduceAdd, Nat.reduceMul, Nat.reduceSub, Nat.reduceBEq, reduceCtorEq, ↓zR, zQ, Tr, StA, StT, hgt]
    exact hp .nilS h2 OwL.nil hp2
theorem c_CountWordsOf (w : Ln) (mv : Int) (hs : w.length < 2 ^ 60) {h : AH} {post : AV → AH → Prop} (hp : ∀ h', Pre h h' → post (.tup [.int .i64 (if awG w mv then (cntP mv.toNat w : Int) else 0), .bool (awG w mv)]) h') : S 97 [.str w, .int .i64 mv] h post k := by
  unfold awG at hp
  refine S_of rfl T97 ?_; unfold fi97
  simp (maxSteps := 1000000) (disch := first | omega | rfl | (simp only [zL, two63, room] <;> omega) | fail) only [↓reduceIte, ↓zP, zW, WOp, evOp, evBin, binI, binSh, binS, evNil, keyIs, keyEq, mkv, AV.cells, AV.sc, optv, bnd, env, put, Env.get, Env.set, Env.del, Env.dels, Env.init, res1, resL, resV, fillP, splice, newRow, Nat.reduceEqDiff, Nat.reduceLT, Nat.reduceLeDiff, Nat.reduceAdd, Nat.reduceMul, Nat.reduceSub, Nat.reduceBEq, reduceCtorEq, ↓zR, zQ, Tr, StA, StT, e_hasOneGap w hs]
  cases e1 : oneB w
  · rw [e1] at hp
    simp (maxSteps := 1000000) (disch := first | omega | rfl | (simp only [zL, two63, room] <;> omega) | fail) only [↓reduceIte, ↓zP, zW, WOp, evOp, evBin, binI, binSh, binS, evNil, keyIs, keyEq, mkv, AV.cells, AV.sc, optv, bnd, env, put, Env.get, Env.set, Env.del, Env.dels, Env.init, res1, resL, resV, fillP, splice, newRow, Nat.reduceEqDiff, Nat.reduceLT, Nat.reduceLeDiff, Nat.reduceAdd, Nat.reduceMul, Nat.reduceSub, Nat.reduceBEq, reduceCtorEq, ↓zR, zQ, Tr, StA, StT]
    exact hp h (Pre.refl _)
  obtain ⟨hg, hw⟩ := oneB_iff e1
  by_cases hmv : 0 ≤ mv ∧ mv ≤ 40
  case neg =>
    simp only [e1, hmv, decide_false, Bool.and_false, Bool.false_eq_true, if_false] at hp
    simp (maxSteps := 1000000) (disch := first | omega | rfl | (simp only [zL, two63, room] <;> omega) | fail) only [↓reduceIte, ↓zP, zW, WOp, evOp, evBin, binI, binSh, binS, evNil, keyIs, keyEq, mkv, AV.cells, AV.sc, optv, bnd, env, put, Env.get, Env.set, Env.del, Env.dels, Env.init, res1, resL, resV, fillP, splice, newRow, Nat.reduceEqDiff, Nat.reduceLT, Nat.reduceLeDiff, Nat.reduceAdd, Nat.reduceMul, Nat.reduceSub, Nat.reduceBEq, reduceCtorEq, ↓zR, zQ, Tr, StA, StT, e_within, hmv]
    exact hp h (Pre.refl _)
  obtain ⟨M, rfl⟩ : ∃ M : Nat, mv = M := ⟨mv.toNat, by omega⟩
  simp only [e1, hmv, decide_true, Bool.and_true, Int.toNat_natCast, if_true] at hp
  simp (maxSteps := 1000000) (disch := first | omega | rfl | (simp only [zL, two63, room] <;> omega) | fail) only [↓reduceIte, ↓zP, zW, WOp, evOp, evBin, binI, binSh, binS, evNil, keyIs, keyEq, mkv, AV.cells, AV.sc, optv, bnd, env, put, Env.get, Env.set, Env.del, Env.dels, Env.init, res1, resL, resV, fillP, splice, newRow, Nat.reduceEqDiff, Nat.reduceLT, Nat.reduceLeDiff, Nat.reduceAdd, Nat.reduceMul, Nat.reduceSub, Nat.reduceBEq, reduceCtorEq, ↓zR, zQ, Tr, StA, StT, e_within, hmv]
  refine c_of M w h.length _ hg hw (by omega) Mh.new _ ?_
  intro h2 hp2 _
  simp (maxSteps := 1000000) (disch := first | omega | rfl | (simp only [zL, two63, room] <;> omega) | fail) only [↓reduceIte, ↓zP, zW, WOp, evOp, evBin, binI, binSh, binS, evNil, keyIs, keyEq, mkv, AV.cells, AV.sc, optv, bnd, env, put, Env.get, Env.set, Env.del, Env.dels, Env.init, res1, resL, resV, fillP, splice, newRow, Nat.reduceEqDiff, Nat.reduceLT, Nat.reduceLeDiff, Nat.reduceAdd, Nat.reduceMul, Nat.reduceSub, Nat.reduceBEq, reduceCtorEq, ↓zR, zQ, Tr, StA, StT]
  exact hp h2 ⟨by have := hp2.1; simp at this; omega, fun i hi => by rw [hp2.2 i (by simp; omega) (by omega)]; exact (Pre.push h (.map [])).2 i hi⟩
theorem c_AllWordsOf (w : Ln) (mv : Int) (hs : w.length < 2 ^ 60) {h : AH} {post : AV → AH → Prop} (hp : ∀ v' h', OwL 1 encS h h' v' (aw w mv) → Pre h h' → post (.tup [v', .bool (awB w mv)]) h') : S 49 [.str w, .int .i64 mv] h post k := by
  have p0 := Pre.push h (AO.row [.int .i64 mv] 0 0 false)
  have r0 : rdRow (h ++ [AO.row [.int .i64 mv] 0 0 false]) h.length 0 0 1 = some [.int .i64 mv] := by rw [rd_last, if_pos (by simp)]; simp
  refine S_of rfl T49 ?_; unfold fi49
  simp (maxSteps := 1000000) (disch := first | omega | rfl | (simp only [zL, two63, room] <;> omega) | fail) only [↓reduceIte, ↓zP, zW, WOp, evOp, evBin, binI, binSh, binS, evNil, keyIs, keyEq, mkv, AV.cells, AV.sc, optv, bnd, env, put, Env.get, Env.set, Env.del, Env.dels, Env.init, res1, resL, resV, fillP, splice, newRow, Nat.reduceEqDiff, Nat.reduceLT, Nat.reduceLeDiff, Nat.reduceAdd, Nat.reduceMul, Nat.reduceSub, Nat.reduceBEq, reduceCtorEq, ↓zR, zQ, Tr, StA, StT]
  refine c_CountWordsOf w mv hs ?_
  intro h2 hp2
  have q0 := rdRow_pre hp2 r0
  unfold aw awB at hp
  cases e1 : awG w mv
  · rw [e1] at hp
    simp (maxSteps := 1000000) (disch := first | omega | rfl | (simp only [zL, two63, room] <;> omega) | fail) only [↓reduceIte, ↓zP, zW, WOp, evOp, evBin, binI, binSh, binS, evNil, keyIs, keyEq, mkv, AV.cells, AV.sc, optv, bnd, env, put, Env.get, Env.set, Env.del, Env.dels, Env.init, res1, resL, resV, fillP, splice, newRow, Nat.reduceEqDiff, Nat.reduceLT, Nat.reduceLeDiff, Nat.reduceAdd, Nat.reduceMul, Nat.reduceSub, Nat.reduceBEq, reduceCtorEq, ↓zR, zQ, Tr, StA, StT]
    exact hp .nilS h2 OwL.nil (p0.trans hp2)
  have e1' := e1
  unfold awG at e1'
  simp only [Bool.and_eq_true, decide_eq_true_eq] at e1'
  obtain ⟨e2, hmv⟩ := e1'
  obtain ⟨hg, hw⟩ := oneB_iff e2
  obtain ⟨M, rfl⟩ : ∃ M : Nat, mv = M := ⟨mv.toNat, by omega⟩
  simp only [e1, Bool.true_and, Int.toNat_natCast] at hp
  by_cases hc : (cntP M w : Int) ≤ 300
  case neg =>
    simp only [hc, decide_false, Bool.false_eq_true, if_false] at hp
    have hgt : (300 : Int) < (cntP M w : Int) := by omega
    simp (maxSteps := 1000000) (disch := first | omega | rfl | (simp only [zL, two63, room] <;> omega) | fail) only [↓reduceIte, ↓zP, zW, WOp, evOp, evBin, binI, binSh, binS, evNil, keyIs, keyEq, mkv, AV.cells, AV.sc, optv, bnd, env, put, Env.get, Env.set, Env.del, Env.dels, Env.init, res1, resL, resV, fillP, splice, newRow, Nat.reduceEqDiff, Nat.reduceLT, Nat.reduceLeDiff, Nat.reduceAdd, Nat.reduceMul, Nat.reduceSub, Nat.reduceBEq, reduceCtorEq, ↓zR, zQ, Tr, StA, StT, hgt]
    exact hp .nilS h2 OwL.nil (p0.trans hp2)
  simp only [hc, decide_true, if_true] at hp
  have hgt : ¬ (300 : Int) < (cntP M w : Int) := by omega
  simp (maxSteps := 1000000) (disch := first | omega | rfl | (simp only [zL, two63, room] <;> omega) | fail) only [↓reduceIte, ↓zP, zW, WOp, evOp, evBin, binI, binSh, binS, evNil, keyIs, keyEq, mkv, AV.cells, AV.sc, optv, bnd, env, put, Env.get, Env.set, Env.del, Env.dels, Env.init, res1, resL, resV, fillP, splice, newRow, Nat.reduceEqDiff, Nat.reduceLT, Nat.reduceLeDiff, Nat.reduceAdd, Nat.reduceMul, Nat.reduceSub, Nat.reduceBEq, reduceCtorEq, ↓zR, zQ, Tr, StA, StT, hgt]
  have hL1 : (h2 ++ [AO.map []] ++ [AO.row [AV.nilM] 0 0 false]).length = (h2 ++ [AO.map []] ++ [AO.row [AV.map h2.length] 0 0 false]).length := by simp
  rw [hL1]
  simp (maxSteps := 1000000) (disch := first | omega | rfl | (simp only [zL, two63, room] <;> omega) | fail) only [↓reduceIte, ↓zP, zW, WOp, evOp, evBin, binI, binSh, binS, evNil, keyIs, keyEq, mkv, AV.cells, AV.sc, optv, bnd, env, put, Env.get, Env.set, Env.del, Env.dels, Env.init, res1, resL, resV, fillP, splice, newRow, Nat.reduceEqDiff, Nat.reduceLT, Nat.reduceLeDiff, Nat.reduceAdd, Nat.reduceMul, Nat.reduceSub, Nat.reduceBEq, reduceCtorEq, ↓zR, zQ, Tr, StA, StT]
  generalize hG : h2 ++ [AO.map []] ++ [AO.row [AV.map h2.length] 0 0 false] ++ [AO.row [AV.empS] 0 0 false] = G0 at *
  generalize hc9 : (h2 ++ [AO.map []] ++ [AO.row [AV.map h2.length] 0 0 false]).length = r9 at *
  generalize hc8 : (h2 ++ [AO.map []]).length = r8 at *
  have hlh : h.length + 1 ≤ h2.length := by have := hp2.1; simpa using this
  have l8 : r8 = h2.length + 1 := by rw [← hc8]; simp
  have l9 : r9 = h2.length + 2 := by rw [← hc9]; simp
  have lG : G0.length = h2.length + 3 := by rw [← hG]; simp
  have m1 : Mh ofK ofV h2.length (h2 ++ [AO.map []]) := Mh.new
  have g1 := Pre.push h2 (AO.map [])
  have g2 := Pre.push (h2 ++ [AO.map []]) (AO.row [AV.map h2.length] 0 0 false)
  have g3 := Pre.push (h2 ++ [AO.map []] ++ [AO.row [AV.map h2.length] 0 0 false]) (AO.row [AV.empS] 0 0 false)
  have g4 := Pre.push G0 (AO.row [AV.fn 96 [AV.ptr h.length 0 0 1, AV.ptr r9 0 0 1, AV.ptr r8 0 0 1, AV.ptr G0.length 0 0 1]] 0 0 false)
  have k8 : rdRow (h2 ++ [AO.map []] ++ [AO.row [AV.map h2.length] 0 0 false]) r8 0 0 1 = some [.map h2.length] := by rw [← hc8, rd_last, if_pos (by simp)]; rfl
  have k9 : (h2 ++ [AO.map []] ++ [AO.row [AV.map h2.length] 0 0 false] ++ [AO.row [AV.empS] 0 0 false])[r9]? = some (AO.row [AV.empS] 0 0 false) := by rw [← hc9]; simp
  rw [hG] at g3 k9
  have kG : rdRow (G0 ++ [AO.row [AV.fn 96 [AV.ptr h.length 0 0 1, AV.ptr r9 0 0 1, AV.ptr r8 0 0 1, AV.ptr G0.length 0 0 1]] 0 0 false]) G0.length 0 0 1 = some [AV.fn 96 [AV.ptr h.length 0 0 1, AV.ptr r9 0 0 1, AV.ptr r8 0 0 1, AV.ptr G0.length 0 0 1]] := by rw [rd_last, if_pos (by simp)]; rfl
  have lb : (G0 ++ [AO.row [AV.fn 96 [AV.ptr h.length 0 0 1, AV.ptr r9 0 0 1, AV.ptr r8 0 0 1, AV.ptr G0.length 0 0 1]] 0 0 false]).length = h2.length + 4 := by simp; omega
  generalize hB : G0 ++ [AO.row [AV.fn 96 [AV.ptr h.length 0 0 1, AV.ptr r9 0 0 1, AV.ptr r8 0 0 1, AV.ptr G0.length 0 0 1]] 0 0 false] = B at *
  have k9B : B[r9]? = some (AO.row [AV.empS] 0 0 false) := by rw [g4.2 r9 (by omega)]; exact k9
  have hPI : PI ⟨h2.length, r9, h.length, r8, G0.length, B, M, by omega, ⟨by omega, by omega, by omega⟩, ⟨by omega, by omega, by omega⟩, ⟨by omega, by omega, by omega⟩, by omega⟩ B [] :=
    ⟨Nat.le_refl _, m1.pre (g2.trans (g3.trans g4)), ⟨.empS, k9B, OwL.emp, by simp [rowOf]⟩, rdRow_pre (g1.trans (g2.trans (g3.trans g4))) q0, rdRow_pre (g3.trans g4) k8, kG⟩
  have pB : Pre h B := (p0.trans hp2).trans (g1.trans (g2.trans (g3.trans g4)))
  refine c_put M ⟨h2.length, r9, h.length, r8, G0.length, B, M, by omega, ⟨by omega, by omega, by omega⟩, ⟨by omega, by omega, by omega⟩, ⟨by omega, by omega, by omega⟩, by omega⟩ w [] B [] hg hw (by simp) (by simpa using Int.ofNat_le.1 hc) hPI _ ?_
  intro h5 hf5 hi5
  obtain ⟨vo, hv1, hv2⟩ := hi5.oo.rd
  simp only at hv1 hv2 hf5
  simp (maxSteps := 1000000) (disch := first | omega | rfl | (simp only [zL, two63, room] <;> omega) | fail) only [↓reduceIte, ↓zP, zW, WOp, evOp, evBin, binI, binSh, binS, evNil, keyIs, keyEq, mkv, AV.cells, AV.sc, optv, bnd, env, put, Env.get, Env.set, Env.del, Env.dels, Env.init, res1, resL, resV, fillP, splice, newRow, Nat.reduceEqDiff, Nat.reduceLT, Nat.reduceLeDiff, Nat.reduceAdd, Nat.reduceMul, Nat.reduceSub, Nat.reduceBEq, reduceCtorEq, ↓zR, zQ, Tr, StA, StT, hv1]
  have hl5 : ([] : List Ln) ++ (words M w).map (([] : Ln) ++ ·) = words M w := by simp
  rw [hl5] at hv2
  refine hp vo h5 (hv2.old pB.1) ⟨Nat.le_trans pB.1 hf5.1, fun i hi => ?_⟩
  rw [(hf5.2 i (by omega) (by omega) (hPI.grc (by show i < B.length; omega) (by show i ≠ r9; omega))).1]
  exact pB.2 i hi
theorem law_AllWordsOf (w : Ln) (mv : Int) (hl63 : w.length < 2 ^ 63) {h : AH} : S 52 [.str w, .int .i64 mv] h (fun r _ => r = .bool true) k := by
  refine S_of rfl T52 ?_; unfold fi52
  by_cases hl : (1048576 : Int) < (w.length : Int)
  · simp (maxSteps := 1000000) (disch := first | omega | rfl | (simp only [zL, two63, room] <;> omega) | fail) only [↓reduceIte, ↓zP, zW, WOp, evOp, evBin, binI, binSh, binS, evNil, keyIs, keyEq, mkv, AV.cells, AV.sc, optv, bnd, env, put, Env.get, Env.set, Env.del, Env.dels, Env.init, res1, resL, resV, fillP, splice, newRow, Nat.reduceEqDiff, Nat.reduceLT, Nat.reduceLeDiff, Nat.reduceAdd, Nat.reduceMul, Nat.reduceSub, Nat.reduceBEq, reduceCtorEq, ↓zR, zQ, Tr, StA, StT, hl]
  have hlen : w.length < 2 ^ 60 := by omega
  simp (maxSteps := 1000000) (disch := first | omega | rfl | (simp only [zL, two63, room] <;> omega) | fail) only [↓reduceIte, ↓zP, zW, WOp, evOp, evBin, binI, binSh, binS, evNil, keyIs, keyEq, mkv, AV.cells, AV.sc, optv, bnd, env, put, Env.get, Env.set, Env.del, Env.dels, Env.init, res1, resL, resV, fillP, splice, newRow, Nat.reduceEqDiff, Nat.reduceLT, Nat.reduceLeDiff, Nat.reduceAdd, Nat.reduceMul, Nat.reduceSub, Nat.reduceBEq, reduceCtorEq, ↓zR, zQ, Tr, StA, StT, hl]
  refine c_sAllWordsOf w mv hlen ?_
  intro w0 h1 hw0 p1
  simp (maxSteps := 1000000) (disch := first | omega | rfl | (simp only [zL, two63, room] <;> omega) | fail) only [↓reduceIte, ↓zP, zW, WOp, evOp, evBin, binI, binSh, binS, evNil, keyIs, keyEq, mkv, AV.cells, AV.sc, optv, bnd, env, put, Env.get, Env.set, Env.del, Env.dels, Env.init, res1, resL, resV, fillP, splice, newRow, Nat.reduceEqDiff, Nat.reduceLT, Nat.reduceLeDiff, Nat.reduceAdd, Nat.reduceMul, Nat.reduceSub, Nat.reduceBEq, reduceCtorEq, ↓zR, zQ, Tr, StA, StT]
  refine c_AllWordsOf w mv hlen ?_
  intro g0 h2 hg0 p2
  have hLn := aw_len w mv
  generalize hL : aw w mv = L at *
  generalize hB : awB w mv = B at *
  simp (maxSteps := 1000000) (disch := first | omega | rfl | (simp only [zL, two63, room] <;> omega) | fail) only [↓reduceIte, ↓zP, zW, WOp, evOp, evBin, binI, binSh, binS, evNil, keyIs, keyEq, mkv, AV.cells, AV.sc, optv, bnd, env, put, Env.get, Env.set, Env.del, Env.dels, Env.init, res1, resL, resV, fillP, splice, newRow, Nat.reduceEqDiff, Nat.reduceLT, Nat.reduceLeDiff, Nat.reduceAdd, Nat.reduceMul, Nat.reduceSub, Nat.reduceBEq, reduceCtorEq, ↓zR, zQ, Tr, StA, StT]
  refine c_eqSS (L := L) (M := L) (by omega) hg0.slc (hw0.slc.pre p2) ?_
  simp (maxSteps := 1000000) (disch := first | omega | rfl | (simp only [zL, two63, room] <;> omega) | fail) only [↓reduceIte, ↓zP, zW, WOp, evOp, evBin, binI, binSh, binS, evNil, keyIs, keyEq, mkv, AV.cells, AV.sc, optv, bnd, env, put, Env.get, Env.set, Env.del, Env.dels, Env.init, res1, resL, resV, fillP, splice, newRow, Nat.reduceEqDiff, Nat.reduceLT, Nat.reduceLeDiff, Nat.reduceAdd, Nat.reduceMul, Nat.reduceSub, Nat.reduceBEq, reduceCtorEq, ↓zR, zQ, Tr, StA, StT, bne_self_eq_false, beq_self_eq_true]
  refine c_markStringS hg0.w 1 (by omega) (by omega) ?_
  intro h3 hm3 v3
  have B3 := v3.keep hg0.w p2 (Nat.le_refl _)
  have hneg : ¬ (((1 + L.length : Nat) : Int) < 0) := by omega
  simp (maxSteps := 1000000) (disch := first | omega | rfl | (simp only [zL, two63, room] <;> omega) | fail) only [↓reduceIte, ↓zP, zW, WOp, evOp, evBin, binI, binSh, binS, evNil, keyIs, keyEq, mkv, AV.cells, AV.sc, optv, bnd, env, put, Env.get, Env.set, Env.del, Env.dels, Env.init, res1, resL, resV, fillP, splice, newRow, Nat.reduceEqDiff, Nat.reduceLT, Nat.reduceLeDiff, Nat.reduceAdd, Nat.reduceMul, Nat.reduceSub, Nat.reduceBEq, reduceCtorEq, ↓zR, zQ, Tr, StA, StT]
  refine c_heldStringS 1 L.length (by omega) (by omega) (hm3.slc hlS) ?_
  intro h4 p4
  have B4 := B3.trans p4
  simp (maxSteps := 1000000) (disch := first | omega | rfl | (simp only [zL, two63, room] <;> omega) | fail) only [↓reduceIte, ↓zP, zW, WOp, evOp, evBin, binI, binSh, binS, evNil, keyIs, keyEq, mkv, AV.cells, AV.sc, optv, bnd, env, put, Env.get, Env.set, Env.del, Env.dels, Env.init, res1, resL, resV, fillP, splice, newRow, Nat.reduceEqDiff, Nat.reduceLT, Nat.reduceLeDiff, Nat.reduceAdd, Nat.reduceMul, Nat.reduceSub, Nat.reduceBEq, reduceCtorEq, ↓zR, zQ, Tr, StA, StT, hneg, bne_self_eq_false]
  refine c_AllWordsOf w mv hlen ?_
  intro u0 h5 hu0 p5
  rw [hL] at hu0
  rw [hB]
  simp (maxSteps := 1000000) (disch := first | omega | rfl | (simp only [zL, two63, room] <;> omega) | fail) only [↓reduceIte, ↓zP, zW, WOp, evOp, evBin, binI, binSh, binS, evNil, keyIs, keyEq, mkv, AV.cells, AV.sc, optv, bnd, env, put, Env.get, Env.set, Env.del, Env.dels, Env.init, res1, resL, resV, fillP, splice, newRow, Nat.reduceEqDiff, Nat.reduceLT, Nat.reduceLeDiff, Nat.reduceAdd, Nat.reduceMul, Nat.reduceSub, Nat.reduceBEq, reduceCtorEq, ↓zR, zQ, Tr, StA, StT]
  refine c_eqSS (L := L) (M := L) (by omega) hu0.slc (hw0.slc.pre (B4.trans p5)) ?_
  simp (maxSteps := 1000000) (disch := first | omega | rfl | (simp only [zL, two63, room] <;> omega) | fail) only [↓reduceIte, ↓zP, zW, WOp, evOp, evBin, binI, binSh, binS, evNil, keyIs, keyEq, mkv, AV.cells, AV.sc, optv, bnd, env, put, Env.get, Env.set, Env.del, Env.dels, Env.init, res1, resL, resV, fillP, splice, newRow, Nat.reduceEqDiff, Nat.reduceLT, Nat.reduceLeDiff, Nat.reduceAdd, Nat.reduceMul, Nat.reduceSub, Nat.reduceBEq, reduceCtorEq, ↓zR, zQ, Tr, StA, StT, bne_self_eq_false, beq_self_eq_true]
  refine c_heldStringS 1 L.length (by omega) (by omega) ((hm3.pre (p4.trans p5)).slc hlS) ?_
  intro h6 p6
  simp (maxSteps := 1000000) (disch := first | omega | rfl | (simp only [zL, two63, room] <;> omega) | fail) only [↓reduceIte, ↓zP, zW, WOp, evOp, evBin, binI, binSh, binS, evNil, keyIs, keyEq, mkv, AV.cells, AV.sc, optv, bnd, env, put, Env.get, Env.set, Env.del, Env.dels, Env.init, res1, resL, resV, fillP, splice, newRow, Nat.reduceEqDiff, Nat.reduceLT, Nat.reduceLeDiff, Nat.reduceAdd, Nat.reduceMul, Nat.reduceSub, Nat.reduceBEq, reduceCtorEq, ↓zR, zQ, Tr, StA, StT, hneg, bne_self_eq_false]
end Go.Proofs.YthoibdfcaejgbaaDoor.Ab

/- The law FnExactAllWordsOf of the given program returns true, whatever the input: its tied card. Condition: what the row lists of package-level tables is laid as the program's text lays it. -/
namespace Go.Proofs.YthoibdfcaejgbaaDoor.fnExactAllWordsOf
open Go Go.ChangeShapes Go.WideShapes Go.ChangeAt Go.RowKit
set_option maxRecDepth 1000000

theorem own : ownKnob Tryd.prog.godebug = none := by kernel_rfl
theorem laidOut : laidOutB Tryd.prog = true := by kernel_rfl
theorem readable : ∀ t ∈ Tryd.f3.params.toList, Tryd.prog.readableRec t = true ∧ t < Tryd.prog.types.size := by
  rw [Tryd.params3]
  intro t ht
  simp only [List.mem_cons, List.not_mem_nil, or_false] at ht
  rcases ht with rfl | rfl
  · exact ⟨by kernel_rfl, of_decide_eq_true (by kernel_rfl)⟩
  · exact ⟨by kernel_rfl, of_decide_eq_true (by kernel_rfl)⟩
theorem contract (H : Type) (enc : TypeId × Value → H) (W : World) (base : Nat) (args : Array Value) (ds gs : List (DataW H)) (before : List MemPlace)
    (hval : ∀ (j : Nat) t v, Tryd.f3.params[j]? = some t → args[j]? = some v → Value.okWide Tryd.prog W .any base t v)
    (hW : DataW.Whole enc Tryd.prog Tryd.f3.params.toList Rows.fnExactAllWordsOfSpec.vars false W args.toList ds gs before) :
    Calls Tryd.prog 3 args W fun e W' => ∃ v, e = .returned v ∧ Rows.fnExactAllWordsOfSpec.post enc Tryd.prog Tryd.f3 false true false false W args v W' := by
  have hW' := hW
  obtain ⟨p, q, hA0, hV, rfl, hfz, hnd⟩ := hW
  obtain ⟨rfl, rfl⟩ := trodVars_none hV
  have hA : DataW.TrodAll enc Tryd.prog W 0 (fun _ => true) true Tryd.f3.params.toList args.toList ds p := hA0
  rw [Tryd.params3] at hA hval
  obtain ⟨v0, vs0, d0, ds0, p0, q0, hargs0, rfl, rfl, h0, r0⟩ := trodAll_cons hA
  obtain ⟨v1, vs1, d1, ds1, p1, q1, hargs1, rfl, rfl, h1, r1⟩ := trodAll_cons r0
  obtain ⟨rfl, rfl, rfl⟩ := trodAll_nil r1
  obtain rfl : args = #[v0, v1] := by cases args; simp_all
  obtain ⟨s0, hv0, hlen0⟩ := Ab.open_str Tryd.underlying9 (hval 0 9 v0 rfl rfl) h0
  obtain ⟨s1, hv1⟩ := okWide_int Tryd.underlying3 (hval 1 3 v1 rfl rfl)
  have hrel := Ab.rel_nothing Ab.F W
  generalize ([] : Ab.AH) = g at hrel
  generalize (⟨fun _ _ => none, fun _ => none⟩ : Ab.Emb) = m at hrel
  have hlaw := Ab.law_AllWordsOf s0 s1 hlen0 (h := g)
  have hargs : Ab.RelL Ab.F m [.str s0, .int .i64 s1] (#[v0, v1] : Array Value).toList := by
    simp only [Ab.RelL]
    exact ⟨v0, [v1], rfl, by simpa only [Ab.RelV] using hv0, v1, [], rfl, by simpa only [Ab.RelV] using hv1, rfl⟩
  have hres : (Rows.fnExactAllWordsOfSpec.fn H ([d0, d1] ++ [])).results = [.lit (.bool true)] := rfl
  have hback : (Rows.fnExactAllWordsOfSpec.fn H ([d0, d1] ++ [])).args = [d0, d1] := rfl
  refine (Ab.law_calls (P := Tryd.prog) (F := Ab.F) Ab.all_sound (f := 52) (h := g) hlaw hrel hargs).mono ?_
  rintro e W' ⟨rfl, hb⟩
  refine ⟨_, rfl, Ab.post_below (pa := p0 ++ (p1 ++ [])) (pv := []) hW' (fun _ _ _ => ?_) (fun sp hsp => ?_) (fun _ _ => rfl) (by simp) hb (ok_one (by kernel_rfl) rfl (okWide_bool_mk Tryd.underlying4 _))⟩
  · rw [hres]
    exact trodAll_cons_mk (shut_bool Tryd.underlying4 _) trodAll_mk0
  · rw [hback]
    exact Ab.trodAll_stays laidOut hb readable hA0 (fun x hx => hW'.lt x (by simpa using hx)) (fun x hx => hsp x (by simpa using hx))

/-- A WORLD FOR THE WITNESS: the settled one, the tables holding what is laid. -/
def lits : List (DataW Unit) → List Value
  | [] => []
  | .lit (.int kd n) :: l => .int kd n :: lits l
  | _ :: l => lits l
def cellsT : DataW Unit → List Value
  | .agg l => l.flatMap fun
    | .lit (.int kd n) => [.int kd n]
    | .agg l' => lits l'
    | _ => []
  | _ => []
def setCells (cs : List Value) : Obj → Obj
  | .cells _ t frozen => .cells cs.toArray t frozen
  | o => o
noncomputable def laidWorld (os : Os) : World :=
  { World.holding Tryd.prog os ⟨#[], #[], []⟩ with heap := ((World.holding Tryd.prog os ⟨#[], #[], []⟩).heap.modify 1 (setCells (cellsT Rows.laid_unicode_utf8_first))).modify 2 (setCells (cellsT Rows.laid_unicode_utf8_acceptRanges)) }
theorem laid_met (os : Os) : laidMet Tryd.prog Rows.fnExactAllWordsOfRow.laid ((laidWorld os).forCall (fun _ _ => 0) ⟨#[], #[.string ⟨#[]⟩, .int .i64 0], []⟩).memory :=
  laidMet_of_run' 8 (by kernel_rfl) (by kernel_rfl)
theorem reads (os : Os) {H : Type} (enc : TypeId × Value → H) : ∃ places, DataW.whole enc Tryd.prog ((laidWorld os).forCall (fun _ _ => 0) ⟨#[], #[.string ⟨#[]⟩, .int .i64 0], []⟩).memory Tryd.f3.params.toList Rows.fnExactAllWordsOfSpec.vars false (#[.string ⟨#[]⟩, .int .i64 0] : Array Value).toList 8 = some ([.lit (.string []), .lit (.int .i64 0)], [], places) :=
  ⟨[], by kernel_rfl⟩

theorem lifted (os : Os) (started : os.Started) (H : Type) (enc : TypeId × Value → H) (F : Stop.Interp) :
    ReturnsInHanded {} Tryd.checked os 3 .any ((OpenSpec.ofChange Rows.fnExactAllWordsOfSpec).preRow enc Tryd.prog Tryd.f3 Rows.fnExactAllWordsOfRow.domain false Rows.fnExactAllWordsOfRow.laid) (((OpenSpec.ofChange Rows.fnExactAllWordsOfSpec).at F).post enc Tryd.prog Tryd.f3 false true false false) := by
  obtain ⟨places, hx⟩ := reads os enc
  refine returnsInHanded_of_row (C := Tryd.checked) (s := OpenSpec.ofChange Rows.fnExactAllWordsOfSpec) own started (by kernel_rfl) Tryd.func3
    (witness_row_at (enc := enc) (C := Tryd.checked) false (laidWorld os) #[.string ⟨#[]⟩, .int .i64 0] rfl (by kernel_rfl) (by kernel_rfl) (by kernel_rfl)
      (OpenSpec.preRow_of_cond 8 hx (by kernel_rfl) (fun k hk => by cases hk) (by kernel_rfl) (laid_met os))) ?_
  intro W base args ds gs before hval hW _ _ _ _ _ _
  exact contract H enc W base args ds gs before hval hW

theorem said : Rows.FnExactAllWordsOfSaid :=
  OpenClaim.holds_of_cond 3 Tryd.f3 rfl rfl rfl rfl rfl rfl rfl ⟨rfl, rfl, rfl, rfl, rfl⟩ rfl rfl rfl rfl rfl (by kernel_rfl) Tryd.func3 (by kernel_rfl)
    (of_decide_eq_true (by kernel_rfl)) (by unfold Func.isWrapper; first | (rw [if_pos (by decide +kernel)]; kernel_rfl) | (rw [if_neg (by decide +kernel)]; exact ⟨rfl, rfl⟩))
    (fun os started H enc _ F => by rw [OpenClaim.pre_eq_preRow]; exact lifted os started H enc F)

/-- No parameter wants a stand-in; the program's own looks are off: what the card asks. -/
theorem plain (f : FuncId) (fn : Func) (hf : Tryd.pinned.checked.prog.funcNamed "loop.example/g01271/laws.FnExactAllWordsOf" = some f) (hfn : Tryd.pinned.checked.prog.funcs[f]? = some fn) :
    false = Tryd.pinned.checked.prog.looks [] ∧ ∀ (j : Nat) t, fn.params[j]? = some t → Tryd.pinned.checked.prog.wantsStandIn t = false := by
  obtain rfl : f = 3 := Option.some.inj ((show Tryd.prog.funcNamed "loop.example/g01271/laws.FnExactAllWordsOf" = some 3 by kernel_rfl).symm.trans hf) |>.symm
  obtain rfl : fn = Tryd.f3 := (Option.some.inj (Tryd.func3.symm.trans hfn)).symm
  refine ⟨by kernel_rfl, fun j t ht => ?_⟩
  rw [Tryd.params3] at ht
  have hm : t ∈ ([9, 3] : List Nat) := by
    have := Array.mem_of_getElem? ht
    simpa using this
  simp only [List.mem_cons, List.not_mem_nil, or_false] at hm
  rcases hm with rfl | rfl
  · exact (show Tryd.prog.wantsStandIn 9 = false by kernel_rfl)
  · exact (show Tryd.prog.wantsStandIn 3 = false by kernel_rfl)
theorem card : Rows.FnExactAllWordsOfCardSaid :=
  Claim7.holds_tied_plain_at .later [] _ _ _ _ said (fun _ h => by cases h) (by kernel_rfl) (fun _ h => by cases h) fnExactAllWordsOf_row_tie rfl ⟨rfl, rfl⟩ (by kernel_rfl) rfl plain (by kernel_rfl)
end Go.Proofs.YthoibdfcaejgbaaDoor.fnExactAllWordsOf
