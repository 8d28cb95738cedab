/- Part 5 of the proof of a law of the given program: the rules that it leans on, and what the functions that it reaches answer; the conditions stand with each theorem. -/
import Derived.Test.YtmlmfjjfciiblaaGreatDoorQ3
set_option linter.unusedSimpArgs false
set_option linter.unusedVariables false
/- PUZZLES: all lines, and those that fit. -/
namespace Go.Proofs.YtmlmfjjfciiblaaGreatDoor.Ab
open Go
set_option maxRecDepth 100000
set_option maxHeartbeats 4000000

theorem dec3 (i : Nat) (h : i < 3) : dec [46, 70, 84] i = (((([46, 70, 84] : List UInt8).getD i 0).toNat : Int), 1) := dec_low h (by
  have : ∀ i, i < 3 → (([46, 70, 84] : List UInt8).getD i 0).toNat < 128 := by decide
  exact this i h)
theorem enc3 : ∀ b : UInt8, b = 46 ∨ b = 70 ∨ b = 84 → (Utf8.encode (b.toNat : Int)).data.toList = [b] := by
  rintro b (rfl | rfl | rfl) <;> decide +kernel
theorem own_ne_iter {esz : Nat} {b h : AH} {v : AV} {n : Nat} {cs : List AV} (ho : Own esz b h v n cs) {c : Nat} {s : List UInt8} {p : Nat} (hc : h[c]? = some (.iter s p)) : rowOf v ≠ some c := by
  unfold Own at ho
  intro hr
  cases v <;> simp only [rowOf] at ho hr <;> first
    | (cases hr; done)
    | (cases hr
       obtain ⟨_, _, _, _, cells, fl, h5, _⟩ := ho
       rw [hc] at h5; cases h5)
theorem lp_hidden2 (w : List UInt8) (hw : w.length < 2 ^ 20) (b : AH) (c : Nat) (hcb : b.length ≤ c) (n10 i11 v14 n15 i16 : AV) {R : X → Env → AH → Prop} : ∀ (d i : Nat) (o : AV) (l : List (List UInt8)) (h : AH), i + d = 3 → OwL 1 encS b h o l → h[c]? = some (.iter [46, 70, 84] i) → l.length + d ≤ 2 ^ 33 →
    (∀ o' h', OwL 1 encS b h' o' (l ++ (([46, 70, 84] : List UInt8).drop i).map fun x => w ++ [x]) → Ag b.length h h' → R (.exit 4) [(4, o'), (10, n10), (11, i11), (14, v14), (15, n15), (16, i16)] h') →
    Cx (.loop lp178_2) [(4, o), (6, .str w), (10, n10), (11, i11), (14, v14), (15, n15), (16, i16), (20, .iter c)] h R k k
  | 0, i, o, l, h, hd, ho, hc, hl, hR => by
    obtain rfl : i = 3 := by omega
    rw [w_loopb (c := lp178_2) (d := lb178_2) rfl]; unfold lb178_2
    simp (maxSteps := 1000000) (disch := first | omega | rfl | (simp only [zL, two63, room] <;> omega) | fail) only [↓reduceIte, ↓zP, zW, WOp, evOp, evBin, binI, binSh, binS, evNil, keyIs, keyEq, mkv, AV.cells, AV.sc, optv, bnd, env, put, Env.get, Env.set, Env.del, Env.dels, Env.init, res1, resL, resV, fillP, splice, newRow, Nat.reduceEqDiff, Nat.reduceLT, Nat.reduceLeDiff, Nat.reduceAdd, Nat.reduceMul, Nat.reduceSub, Nat.reduceBEq, reduceCtorEq, ↓zR, zQ, Tr, StA, StT, hc]
    exact hR o h (by simpa using ho) (Ag.refl _ _)
  | d + 1, i, o, l, h, hd, ho, hc, hl, hR => by
    have ih := lp_hidden2 w hw b c hcb n10 i11 v14 n15 i16 (R := R) d (i + 1)
    have hi : i < 3 := by omega
    have hdec := dec3 i hi
    have hd1 : (dec [46, 70, 84] i).1 = (((([46, 70, 84] : List UInt8).getD i 0).toNat : Int)) := by rw [hdec]
    have hd2 : (dec [46, 70, 84] i).2 = 1 := by rw [hdec]
    have hx : ([46, 70, 84] : List UInt8).getD i 0 = 46 ∨ ([46, 70, 84] : List UInt8).getD i 0 = 70 ∨ ([46, 70, 84] : List UInt8).getD i 0 = 84 := by
      have : ∀ i, i < 3 → ([46, 70, 84] : List UInt8).getD i 0 = 46 ∨ ([46, 70, 84] : List UInt8).getD i 0 = 70 ∨ ([46, 70, 84] : List UInt8).getD i 0 = 84 := by decide
      exact this i hi
    have hdrop : ([46, 70, 84] : List UInt8).drop i = ([46, 70, 84] : List UInt8).getD i 0 :: ([46, 70, 84] : List UInt8).drop (i + 1) := by
      have : ∀ i, i < 3 → ([46, 70, 84] : List UInt8).drop i = ([46, 70, 84] : List UInt8).getD i 0 :: ([46, 70, 84] : List UInt8).drop (i + 1) := by decide
      exact this i hi
    rw [hdrop] at hR
    generalize ([46, 70, 84] : List UInt8).getD i 0 = x at *
    have henc := enc3 x hx
    have hlt : i < ([46, 70, 84] : List UInt8).length := hi
    have hcl := (List.getElem?_eq_some_iff.1 hc).1
    obtain ⟨o2, h3, ha, ho3, hag⟩ := apA hlS scS ((show OwL 1 encS b (h.set c (.iter [46, 70, 84] (i + 1))) o l from own_iter ho hc).pre (Pre.push (h.set c (.iter [46, 70, 84] (i + 1))) (AO.row [.str (w ++ [x])] 0 0 false))) (by simp; omega) (w ++ [x]) (by omega)
    rw [w_loopb (c := lp178_2) (d := lb178_2) rfl]; unfold lb178_2
    simp (maxSteps := 1000000) (disch := first | omega | rfl | (simp only [zL, two63, room] <;> omega) | fail) only [↓reduceIte, ↓zP, zW, WOp, evOp, evBin, binI, binSh, binS, evNil, keyIs, keyEq, mkv, AV.cells, AV.sc, optv, bnd, env, put, Env.get, Env.set, Env.del, Env.dels, Env.init, res1, resL, resV, fillP, splice, newRow, Nat.reduceEqDiff, Nat.reduceLT, Nat.reduceLeDiff, Nat.reduceAdd, Nat.reduceMul, Nat.reduceSub, Nat.reduceBEq, reduceCtorEq, ↓zR, zQ, Tr, StA, StT, hc, hi, hd1, hd2, henc, ha]
    rw [w_loopn (c := lp178_2) rfl]
    simp (maxSteps := 1000000) (disch := first | omega | rfl | (simp only [zL, two63, room] <;> omega) | fail) only [↓reduceIte, ↓zP, zW, WOp, evOp, evBin, binI, binSh, binS, evNil, keyIs, keyEq, mkv, AV.cells, AV.sc, optv, bnd, env, put, Env.get, Env.set, Env.del, Env.dels, Env.init, res1, resL, resV, fillP, splice, newRow, Nat.reduceEqDiff, Nat.reduceLT, Nat.reduceLeDiff, Nat.reduceAdd, Nat.reduceMul, Nat.reduceSub, Nat.reduceBEq, reduceCtorEq, ↓zR, zQ, Tr, StA, StT]
    have hpush := Pre.push (h.set c (.iter [46, 70, 84] (i + 1))) (AO.row [.str (w ++ [x])] 0 0 false)
    have hag2 : Ag b.length h h3 := ((Ag.refl b.length h).set hcb).trans ((hpush.ag (by simp; omega)).trans hag)
    refine ih o2 (l ++ [w ++ [x]]) h3 (by omega) ho3 ?_ (by simp; omega) ?_
    · have ho2 : OwL 1 encS b (h.set c (.iter [46, 70, 84] (i + 1))) o l := own_iter ho hc
      have hc2 : (h.set c (.iter [46, 70, 84] (i + 1)))[c]? = some (.iter [46, 70, 84] (i + 1)) := by rw [List.getElem?_set, if_pos rfl, if_pos hcl]
      rw [(apRow_fr ha).1 c (by simp; omega) (own_ne_iter ho2 hc2), hpush.2 c (by simpa using hcl), hc2]
    · intro o' h' ho' ha'
      exact hR o' h' (by simpa using ho') (hag2.trans ha')

theorem lp_hidden1 (b : AH) (n10 i11 : AV) {v : AV} {L : List (List UInt8)} (hL : L.length < 2 ^ 30) (hw : ∀ w ∈ L, w.length < 2 ^ 20) (hs : Slc 1 encS b v L) {R : X → Env → AH → Prop} : ∀ (rest pre : List (List UInt8)) (o : AV) (l : List (List UInt8)) (h : AH), L = pre ++ rest → OwL 1 encS b h o l → Ag b.length b h → l.length = 3 * pre.length →
    (∀ o' h', OwL 1 encS b h' o' (l ++ rest.flatMap ext3) → Ag b.length b h' → R (.exit 2) [(4, o'), (10, n10), (11, i11)] h') →
    Cx (.loop lp178_1) [(4, o), (10, n10), (11, i11), (14, v), (15, .int .i64 L.length), (16, .int .i64 pre.length)] h R k k
  | [], pre, o, l, h, hpre, ho, hag, hl, hR => by
    subst hpre
    rw [w_loopb (c := lp178_1) (d := lb178_1) rfl]; unfold lb178_1
    simp only [List.append_nil]
    simp (maxSteps := 1000000) (disch := first | omega | rfl | (simp only [zL, two63, room] <;> omega) | fail) only [↓reduceIte, ↓zP, zW, WOp, evOp, evBin, binI, binSh, binS, evNil, keyIs, keyEq, mkv, AV.cells, AV.sc, optv, bnd, env, put, Env.get, Env.set, Env.del, Env.dels, Env.init, res1, resL, resV, fillP, splice, newRow, Nat.reduceEqDiff, Nat.reduceLT, Nat.reduceLeDiff, Nat.reduceAdd, Nat.reduceMul, Nat.reduceSub, Nat.reduceBEq, reduceCtorEq, ↓zR, zQ, Tr, StA, StT]
    exact hR o h (by simpa using ho) hag
  | w :: rest, pre, o, l, h, hpre, ho, hag, hl, hR => by
    have ih := lp_hidden1 b n10 i11 hL hw hs (R := R) rest (pre ++ [w])
    have hlen : L.length = pre.length + 1 + rest.length := by rw [hpre]; simp; omega
    have hww := hw w (by rw [hpre]; simp)
    have hs' := hs.pre (hag.pre (Nat.le_refl _))
    rw [hpre] at hs'
    obtain ⟨c, kk, off, hv, hr⟩ := hs'.at hlS
    rw [← hpre, hlen] at hv
    subst hv
    rw [hlen] at ih hL ⊢
    have hlt : (pre.length : Int) < ((pre.length + 1 + rest.length : Nat) : Int) := by omega
    have hw1 : (pre.length : Int) + 1 = ((pre ++ [w]).length : Int) := by simp
    rw [w_loopb (c := lp178_1) (d := lb178_1) rfl]; unfold lb178_1
    simp (maxSteps := 1000000) (disch := first | omega | rfl | (simp only [zL, two63, room] <;> omega) | fail) only [↓reduceIte, ↓zP, zW, WOp, evOp, evBin, binI, binSh, binS, evNil, keyIs, keyEq, mkv, AV.cells, AV.sc, optv, bnd, env, put, Env.get, Env.set, Env.del, Env.dels, Env.init, res1, resL, resV, fillP, splice, newRow, Nat.reduceEqDiff, Nat.reduceLT, Nat.reduceLeDiff, Nat.reduceAdd, Nat.reduceMul, Nat.reduceSub, Nat.reduceBEq, reduceCtorEq, ↓zR, zQ, Tr, StA, StT, hlt, hr]
    refine lp_hidden2 w hww b h.length hag.1 _ _ _ _ _ 3 0 o l _ (by omega) (ho.pre (Pre.push _ _)) (by simp) (by omega) ?_
    intro o2 h2 ho2 hag2
    simp (maxSteps := 1000000) (disch := first | omega | rfl | (simp only [zL, two63, room] <;> omega) | fail) only [↓reduceIte, ↓zP, zW, WOp, evOp, evBin, binI, binSh, binS, evNil, keyIs, keyEq, mkv, AV.cells, AV.sc, optv, bnd, env, put, Env.get, Env.set, Env.del, Env.dels, Env.init, res1, resL, resV, fillP, splice, newRow, Nat.reduceEqDiff, Nat.reduceLT, Nat.reduceLeDiff, Nat.reduceAdd, Nat.reduceMul, Nat.reduceSub, Nat.reduceBEq, reduceCtorEq, ↓zR, zQ, Tr, StA, StT, hw1]
    rw [w_loopn (c := lp178_1) rfl]
    simp (maxSteps := 1000000) (disch := first | omega | rfl | (simp only [zL, two63, room] <;> omega) | fail) only [↓reduceIte, ↓zP, zW, WOp, evOp, evBin, binI, binSh, binS, evNil, keyIs, keyEq, mkv, AV.cells, AV.sc, optv, bnd, env, put, Env.get, Env.set, Env.del, Env.dels, Env.init, res1, resL, resV, fillP, splice, newRow, Nat.reduceEqDiff, Nat.reduceLT, Nat.reduceLeDiff, Nat.reduceAdd, Nat.reduceMul, Nat.reduceSub, Nat.reduceBEq, reduceCtorEq, ↓zR, zQ, Tr, StA, StT]
    refine ih o2 _ h2 (by rw [hpre]; simp) ho2 ((hag.trans ((Pre.push h (.iter [46, 70, 84] 0)).ag hag.1)).trans hag2) (by simp; omega) ?_
    intro o' h' ho' ha'
    exact hR o' h' (by simpa [ext3] using ho') ha'
theorem lp_hidden0 (n : Nat) (hn : n ≤ 5) (h0 : AH) {R : X → Env → AH → Prop} : ∀ (d i : Nat) (v : AV) (h : AH), i + d = n → OwL 1 encS h0 h v (allL i) → Pre h0 h →
    (∀ v' h', OwL 1 encS h0 h' v' (allL n) → Pre h0 h' → R (.exit 0) [(3, v')] h') →
    Cx (.loop lp178_0) [(3, v), (10, .int .i64 n), (11, .int .i64 i)] h R k k
  | 0, i, v, h, hi, ho, hp, hR => by
    obtain rfl : i = n := by omega
    rw [w_loopb (c := lp178_0) (d := lb178_0) rfl]; unfold lb178_0
    simp (maxSteps := 1000000) (disch := first | omega | rfl | (simp only [zL, two63, room] <;> omega) | fail) only [↓reduceIte, ↓zP, zW, WOp, evOp, evBin, binI, binSh, binS, evNil, keyIs, keyEq, mkv, AV.cells, AV.sc, optv, bnd, env, put, Env.get, Env.set, Env.del, Env.dels, Env.init, res1, resL, resV, fillP, splice, newRow, Nat.reduceEqDiff, Nat.reduceLT, Nat.reduceLeDiff, Nat.reduceAdd, Nat.reduceMul, Nat.reduceSub, Nat.reduceBEq, reduceCtorEq, ↓zR, zQ, Tr, StA, StT]
    exact hR v h ho hp
  | d + 1, i, v, h, hi, ho, hp, hR => by
    have ih := lp_hidden0 n hn h0 (R := R) d (i + 1)
    have hlt : (i : Int) < (n : Int) := by omega
    have hw1 : (i : Int) + 1 = ((i + 1 : Nat) : Int) := by omega
    have hlen := allL_length i
    have hpow : 3 ^ i ≤ 3 ^ 5 := Nat.pow_le_pow_right (by omega) (by omega)
    rw [w_loopb (c := lp178_0) (d := lb178_0) rfl]; unfold lb178_0
    have hv := fun g => Slc.lenV (ho.slc) (g := g) (ρ := fun _ => _) (x := .t 0) rfl; simp only [evOp] at hv
    simp (maxSteps := 1000000) (disch := first | omega | rfl | (simp only [zL, two63, room] <;> omega) | fail) only [↓reduceIte, ↓zP, zW, WOp, evOp, evBin, binI, binSh, binS, evNil, keyIs, keyEq, mkv, AV.cells, AV.sc, optv, bnd, env, put, Env.get, Env.set, Env.del, Env.dels, Env.init, res1, resL, resV, fillP, splice, newRow, Nat.reduceEqDiff, Nat.reduceLT, Nat.reduceLeDiff, Nat.reduceAdd, Nat.reduceMul, Nat.reduceSub, Nat.reduceBEq, reduceCtorEq, ↓zR, zQ, Tr, StA, StT, hlt, hv]
    refine lp_hidden1 h _ _ (by rw [hlen]; omega) (fun w hw => by rw [(allL_good i w hw).1]; omega) ho.slc (allL i) [] .empS [] h rfl OwL.emp (Ag.refl _ _) rfl ?_
    intro o2 h2 ho2 hag
    simp (maxSteps := 1000000) (disch := first | omega | rfl | (simp only [zL, two63, room] <;> omega) | fail) only [↓reduceIte, ↓zP, zW, WOp, evOp, evBin, binI, binSh, binS, evNil, keyIs, keyEq, mkv, AV.cells, AV.sc, optv, bnd, env, put, Env.get, Env.set, Env.del, Env.dels, Env.init, res1, resL, resV, fillP, splice, newRow, Nat.reduceEqDiff, Nat.reduceLT, Nat.reduceLeDiff, Nat.reduceAdd, Nat.reduceMul, Nat.reduceSub, Nat.reduceBEq, reduceCtorEq, ↓zR, zQ, Tr, StA, StT, hw1]
    rw [w_loopn (c := lp178_0) rfl]
    simp (maxSteps := 1000000) (disch := first | omega | rfl | (simp only [zL, two63, room] <;> omega) | fail) only [↓reduceIte, ↓zP, zW, WOp, evOp, evBin, binI, binSh, binS, evNil, keyIs, keyEq, mkv, AV.cells, AV.sc, optv, bnd, env, put, Env.get, Env.set, Env.del, Env.dels, Env.init, res1, resL, resV, fillP, splice, newRow, Nat.reduceEqDiff, Nat.reduceLT, Nat.reduceLeDiff, Nat.reduceAdd, Nat.reduceMul, Nat.reduceSub, Nat.reduceBEq, reduceCtorEq, ↓zR, zQ, Tr, StA, StT]
    exact ih o2 h2 (by omega) (OwL.old ho2 hp.1) (hp.trans (hag.pre (Nat.le_refl _))) hR
theorem c_hidden (n : Nat) (hn : n ≤ 5) {h : AH} {post : AV → AH → Prop} (hp : ∀ v h', OwL 1 encS h h' v (allL n) → Pre h h' → post v h') : S 178 [.int .i64 n] h post k := by
  refine S_of rfl T178 ?_; unfold fi178
  simp (maxSteps := 1000000) (disch := first | omega | rfl | (simp only [zL, two63, room] <;> omega) | fail) only [↓reduceIte, ↓zP, zW, WOp, evOp, evBin, binI, binSh, binS, evNil, keyIs, keyEq, mkv, AV.cells, AV.sc, optv, bnd, env, put, Env.get, Env.set, Env.del, Env.dels, Env.init, res1, resL, resV, fillP, splice, newRow, Nat.reduceEqDiff, Nat.reduceLT, Nat.reduceLeDiff, Nat.reduceAdd, Nat.reduceMul, Nat.reduceSub, Nat.reduceBEq, reduceCtorEq, ↓zR, zQ, Tr, StA, StT]
  refine lp_hidden0 n hn h n 0 _ _ (by omega) ?_ (Pre.push _ _) ?_
  · unfold OwL Own
    exact ⟨rfl, rfl, rfl, Nat.le_refl _, [.str []], 0, by simp, Nat.le_refl _, rfl, rfl⟩
  · intro v' h' ho hp'
    simp (maxSteps := 1000000) (disch := first | omega | rfl | (simp only [zL, two63, room] <;> omega) | fail) only [↓reduceIte, ↓zP, zW, WOp, evOp, evBin, binI, binSh, binS, evNil, keyIs, keyEq, mkv, AV.cells, AV.sc, optv, bnd, env, put, Env.get, Env.set, Env.del, Env.dels, Env.init, res1, resL, resV, fillP, splice, newRow, Nat.reduceEqDiff, Nat.reduceLT, Nat.reduceLeDiff, Nat.reduceAdd, Nat.reduceMul, Nat.reduceSub, Nat.reduceBEq, reduceCtorEq, ↓zR, zQ, Tr, StA, StT]
    exact hp v' h' ho hp'

abbrev Clu := Int × Int × Int
theorem c_solve1 (c : Clu) (x : List UInt8) (hs : x.all isSign = true) (hl : 1 ≤ x.length ∧ x.length ≤ 5) (hc : clueOk x.length c = true) {r : Nat} {h : AH} (hr : rdRow h r 0 0 3 = some (encC c)) {post : AV → AH → Prop} (hp : ∀ h', Pre h h' → post (.bool (!fitB c x)) h') : S 179 [.str x, .ptr r 0 0 3] h post k := by
  refine S_of rfl T179 ?_; unfold fi179
  simp (maxSteps := 1000000) (disch := first | omega | rfl | (simp only [zL, two63, room] <;> omega) | fail) only [↓reduceIte, ↓zP, zW, WOp, evOp, evBin, binI, binSh, binS, evNil, keyIs, keyEq, mkv, AV.cells, AV.sc, optv, bnd, env, put, Env.get, Env.set, Env.del, Env.dels, Env.init, res1, resL, resV, fillP, splice, newRow, Nat.reduceEqDiff, Nat.reduceLT, Nat.reduceLeDiff, Nat.reduceAdd, Nat.reduceMul, Nat.reduceSub, Nat.reduceBEq, reduceCtorEq, ↓zR, zQ, Tr, StA, StT, hr]
  refine c_DoesFit c.1 c.2.1 c.2.2 x hs hl hc ?_
  intro h2 hp2
  simp (maxSteps := 1000000) (disch := first | omega | rfl | (simp only [zL, two63, room] <;> omega) | fail) only [↓reduceIte, ↓zP, zW, WOp, evOp, evBin, binI, binSh, binS, evNil, keyIs, keyEq, mkv, AV.cells, AV.sc, optv, bnd, env, put, Env.get, Env.set, Env.del, Env.dels, Env.init, res1, resL, resV, fillP, splice, newRow, Nat.reduceEqDiff, Nat.reduceLT, Nat.reduceLeDiff, Nat.reduceAdd, Nat.reduceMul, Nat.reduceSub, Nat.reduceBEq, reduceCtorEq, ↓zR, zQ, Tr, StA, StT]
  exact hp h2 hp2
/-- All lines that fit. -/
def fitL (n : Nat) (cs : List Clu) : List (List UInt8) := (allL n).filter fun w => cs.all fun c => fitB c w
theorem lp_solve (n : Nat) (hn : 1 ≤ n ∧ n ≤ 5) {v : AV} {cs : List Clu} (hlen : cs.length < 2 ^ 30) (hok : ∀ c ∈ cs, clueOk n c = true) {h0 : AH} (hs : Slc 3 encC h0 v cs) {R : X → Env → AH → Prop} : ∀ (rest pre : List Clu) (o : AV) (h : AH), cs = pre ++ rest → OwW 1 encS h0 h o ((allL n).filter fun w => pre.all fun c => fitB c w) → Pre h0 h →
    (∀ o' h', OwW 1 encS h0 h' o' (fitL n cs) → Pre h0 h' → R (.exit 0) [(5, o')] h') →
    Cx (.loop lp167_0) [(5, o), (10, v), (11, .int .i64 cs.length), (12, .int .i64 pre.length)] h R k k
  | [], pre, o, h, hpre, ho, hp, hR => by
    subst hpre
    rw [w_loopb (c := lp167_0) (d := lb167_0) rfl]; unfold lb167_0
    simp only [List.append_nil]
    simp (maxSteps := 1000000) (disch := first | omega | rfl | (simp only [zL, two63, room] <;> omega) | fail) only [↓reduceIte, ↓zP, zW, WOp, evOp, evBin, binI, binSh, binS, evNil, keyIs, keyEq, mkv, AV.cells, AV.sc, optv, bnd, env, put, Env.get, Env.set, Env.del, Env.dels, Env.init, res1, resL, resV, fillP, splice, newRow, Nat.reduceEqDiff, Nat.reduceLT, Nat.reduceLeDiff, Nat.reduceAdd, Nat.reduceMul, Nat.reduceSub, Nat.reduceBEq, reduceCtorEq, ↓zR, zQ, Tr, StA, StT]
    exact hR o h (by simpa [fitL] using ho) hp
  | c :: rest, pre, o, h, hpre, ho, hp, hR => by
    have ih := lp_solve n hn hlen hok hs (R := R) rest (pre ++ [c])
    have hll : cs.length = pre.length + 1 + rest.length := by rw [hpre]; simp; omega
    have hck := hok c (by rw [hpre]; simp)
    have hs' := hs.pre hp
    rw [hpre] at hs'
    obtain ⟨r1, k1, o1, hv, hr⟩ := hs'.at hlC
    rw [← hpre, hll] at hv
    subst hv
    rw [hll] at ih hlen ⊢
    have hlt : (pre.length : Int) < ((pre.length + 1 + rest.length : Nat) : Int) := by omega
    have hw1 : (pre.length : Int) + 1 = ((pre ++ [c]).length : Int) := by simp
    have hpow : 3 ^ n ≤ 3 ^ 5 := Nat.pow_le_pow_right (by omega) hn.2
    have hal := allL_length n
    have hpush := Pre.push h (AO.row (encC c) 0 0 false)
    have hrd : rdRow (h ++ [AO.row (encC c) 0 0 false]) h.length 0 0 3 = some (encC c) := rd_lasT ⟨by simp, by simp, by simp⟩
    rw [w_loopb (c := lp167_0) (d := lb167_0) rfl]; unfold lb167_0
    simp (maxSteps := 1000000) (disch := first | omega | rfl | (simp only [zL, two63, room] <;> omega) | fail) only [↓reduceIte, ↓zP, zW, WOp, evOp, evBin, binI, binSh, binS, evNil, keyIs, keyEq, mkv, AV.cells, AV.sc, optv, bnd, env, put, Env.get, Env.set, Env.del, Env.dels, Env.init, res1, resL, resV, fillP, splice, newRow, Nat.reduceEqDiff, Nat.reduceLT, Nat.reduceLeDiff, Nat.reduceAdd, Nat.reduceMul, Nat.reduceSub, Nat.reduceBEq, reduceCtorEq, ↓zR, zQ, Tr, StA, StT, hlt, hr]
    refine c_DeleteFuncS _ _ (fun w => !fitB c w) (ho.pre hpush) ?_ ?_ ?_
    · have := List.length_filter_le (fun w => pre.all fun c => fitB c w) (allL n)
      omega
    · intro x hx h' hpv post hpost
      have hxg := allL_good n x (List.mem_filter.1 hx).1
      have hrd2 : rdRow h' h.length 0 0 3 = some (encC c) := by
        unfold rdRow at hrd ⊢
        rw [hpv.2 h.length (by simp) ?_]
        · exact hrd
        · rintro c' k' o' n' e' rfl
          unfold OwW at ho
          obtain ⟨_, _, _, A, Z, fl, h4, _⟩ := ho
          have := (List.getElem?_eq_some_iff.1 h4).1
          omega
      exact c_solve1 c x hxg.2 (by rw [hxg.1]; exact hn) (by rw [hxg.1]; exact hck) hrd2 hpost
    · intro o2 h2 ho2 hpv2
      have hf : ((allL n).filter fun w => pre.all fun c => fitB c w).filter (fun x => !!fitB c x) = (allL n).filter fun w => (pre ++ [c]).all fun c => fitB c w := by
        rw [List.filter_filter]
        apply List.filter_congr
        intro w _
        simp [Bool.and_comm]
      rw [hf] at ho2
      simp (maxSteps := 1000000) (disch := first | omega | rfl | (simp only [zL, two63, room] <;> omega) | fail) only [↓reduceIte, ↓zP, zW, WOp, evOp, evBin, binI, binSh, binS, evNil, keyIs, keyEq, mkv, AV.cells, AV.sc, optv, bnd, env, put, Env.get, Env.set, Env.del, Env.dels, Env.init, res1, resL, resV, fillP, splice, newRow, Nat.reduceEqDiff, Nat.reduceLT, Nat.reduceLeDiff, Nat.reduceAdd, Nat.reduceMul, Nat.reduceSub, Nat.reduceBEq, reduceCtorEq, ↓zR, zQ, Tr, StA, StT, hw1]
      rw [w_loopn (c := lp167_0) rfl]
      simp (maxSteps := 1000000) (disch := first | omega | rfl | (simp only [zL, two63, room] <;> omega) | fail) only [↓reduceIte, ↓zP, zW, WOp, evOp, evBin, binI, binSh, binS, evNil, keyIs, keyEq, mkv, AV.cells, AV.sc, optv, bnd, env, put, Env.get, Env.set, Env.del, Env.dels, Env.init, res1, resL, resV, fillP, splice, newRow, Nat.reduceEqDiff, Nat.reduceLT, Nat.reduceLeDiff, Nat.reduceAdd, Nat.reduceMul, Nat.reduceSub, Nat.reduceBEq, reduceCtorEq, ↓zR, zQ, Tr, StA, StT]
      refine ih o2 h2 (by rw [hpre]; simp) ho2 ?_ hR
      refine ⟨Nat.le_trans hp.1 (Nat.le_trans hpush.1 hpv2.1), fun i hi => ?_⟩
      rw [hpv2.2 i (by have := hp.1; simp; omega) ?_, hpush.2 i (Nat.lt_of_lt_of_le hi hp.1), hp.2 i hi]
      rintro c' k' o' n' e' rfl
      unfold OwW at ho
      obtain ⟨_, _, h3, _⟩ := ho
      omega
theorem c_solve (n : Nat) (hn : 1 ≤ n ∧ n ≤ 5) {v : AV} {cs : List Clu} (hlen : cs.length < 2 ^ 30) (hok : ∀ c ∈ cs, clueOk n c = true) {h : AH} (hs : Slc 3 encC h v cs) {post : AV → AH → Prop} (hp : ∀ o' h', OwW 1 encS h h' o' (fitL n cs) → Pre h h' → post o' h') : S 167 [.int .i64 n, v] h post k := by
  refine S_of rfl T167 ?_; unfold fi167
  simp (maxSteps := 1000000) (disch := first | omega | rfl | (simp only [zL, two63, room] <;> omega) | fail) only [↓reduceIte, ↓zP, zW, WOp, evOp, evBin, binI, binSh, binS, evNil, keyIs, keyEq, mkv, AV.cells, AV.sc, optv, bnd, env, put, Env.get, Env.set, Env.del, Env.dels, Env.init, res1, resL, resV, fillP, splice, newRow, Nat.reduceEqDiff, Nat.reduceLT, Nat.reduceLeDiff, Nat.reduceAdd, Nat.reduceMul, Nat.reduceSub, Nat.reduceBEq, reduceCtorEq, ↓zR, zQ, Tr, StA, StT]
  refine c_hidden n hn.2 ?_
  intro o h2 ho hp2
  have hv := fun g => Slc.lenV (hs) (g := g) (ρ := fun _ => _) (x := .t 0) rfl; simp only [evOp] at hv
  simp (maxSteps := 1000000) (disch := first | omega | rfl | (simp only [zL, two63, room] <;> omega) | fail) only [↓reduceIte, ↓zP, zW, WOp, evOp, evBin, binI, binSh, binS, evNil, keyIs, keyEq, mkv, AV.cells, AV.sc, optv, bnd, env, put, Env.get, Env.set, Env.del, Env.dels, Env.init, res1, resL, resV, fillP, splice, newRow, Nat.reduceEqDiff, Nat.reduceLT, Nat.reduceLeDiff, Nat.reduceAdd, Nat.reduceMul, Nat.reduceSub, Nat.reduceBEq, reduceCtorEq, ↓zR, zQ, Tr, StA, StT, hv]
  refine lp_solve n hn hlen hok hs cs [] o h2 rfl ?_ hp2 ?_
  · have : ((allL n).filter fun w => ([] : List Clu).all fun c => fitB c w) = allL n := List.filter_eq_self.2 (by simp)
    rw [this]
    exact ho.w
  · intro o' h' ho' hp'
    simp (maxSteps := 1000000) (disch := first | omega | rfl | (simp only [zL, two63, room] <;> omega) | fail) only [↓reduceIte, ↓zP, zW, WOp, evOp, evBin, binI, binSh, binS, evNil, keyIs, keyEq, mkv, AV.cells, AV.sc, optv, bnd, env, put, Env.get, Env.set, Env.del, Env.dels, Env.init, res1, resL, resV, fillP, splice, newRow, Nat.reduceEqDiff, Nat.reduceLT, Nat.reduceLeDiff, Nat.reduceAdd, Nat.reduceMul, Nat.reduceSub, Nat.reduceBEq, reduceCtorEq, ↓zR, zQ, Tr, StA, StT]
    exact hp o' h' ho' hp'

/-! ### The reference's search -/
theorem lp_pzLook0 {v : AV} {cs : List Clu} {h0 : AH} (hs : Slc 3 encC h0 v cs) (hlen : cs.length < 2 ^ 30) (w : List UInt8) (hw : w.all isSign = true) (hl : w.length ≤ 12) (hok : ∀ c ∈ cs, clueOk w.length c = true) (p : AV) {R : X → Env → AH → Prop} : ∀ (rest pre : List Clu) (h : AH), cs = pre ++ rest → Pre h0 h →
    (∀ h', Pre h0 h' → (rest.all fun c => fitB c w) = true → R (.exit 0) [(2, .str w), (3, p)] h') → (∀ h', Pre h0 h' → (rest.all fun c => fitB c w) = false → R .ret [] h') →
    Cx (.loop lp173_0) [(2, .str w), (3, p), (16, v), (17, .int .i64 cs.length), (18, .int .i64 pre.length)] h R k k
  | [], pre, h, hpre, hp, h1, h2 => by
    subst hpre
    rw [w_loopb (c := lp173_0) (d := lb173_0) rfl]; unfold lb173_0
    simp only [List.append_nil]
    simp (maxSteps := 1000000) (disch := first | omega | rfl | (simp only [zL, two63, room] <;> omega) | fail) only [↓reduceIte, ↓zP, zW, WOp, evOp, evBin, binI, binSh, binS, evNil, keyIs, keyEq, mkv, AV.cells, AV.sc, optv, bnd, env, put, Env.get, Env.set, Env.del, Env.dels, Env.init, res1, resL, resV, fillP, splice, newRow, Nat.reduceEqDiff, Nat.reduceLT, Nat.reduceLeDiff, Nat.reduceAdd, Nat.reduceMul, Nat.reduceSub, Nat.reduceBEq, reduceCtorEq, ↓zR, zQ, Tr, StA, StT]
    exact h1 h hp rfl
  | c :: rest, pre, h, hpre, hp, h1, h2 => by
    have ih := lp_pzLook0 hs hlen w hw hl hok p (R := R) rest (pre ++ [c])
    have hll : cs.length = pre.length + 1 + rest.length := by rw [hpre]; simp; omega
    have hck := hok c (by rw [hpre]; simp)
    have hs' := hs.pre hp
    rw [hpre] at hs'
    obtain ⟨r1, k1, o1, hv, hr⟩ := hs'.at hlC
    rw [← hpre, hll] at hv
    subst hv
    rw [hll] at ih hlen ⊢
    have hlt : (pre.length : Int) < ((pre.length + 1 + rest.length : Nat) : Int) := by omega
    have hw1 : (pre.length : Int) + 1 = ((pre ++ [c]).length : Int) := by simp
    have hcell : c.1 = 0 → 0 ≤ c.2.1 ∧ c.2.1 < w.length := by
      intro e
      simp only [clueOk, if_pos e, Bool.and_eq_true, decide_eq_true_eq] at hck
      omega
    have hpush := Pre.push h (AO.row (encC c) 0 0 false)
    rw [w_loopb (c := lp173_0) (d := lb173_0) rfl]; unfold lb173_0
    simp (maxSteps := 1000000) (disch := first | omega | rfl | (simp only [zL, two63, room] <;> omega) | fail) only [↓reduceIte, ↓zP, zW, WOp, evOp, evBin, binI, binSh, binS, evNil, keyIs, keyEq, mkv, AV.cells, AV.sc, optv, bnd, env, put, Env.get, Env.set, Env.del, Env.dels, Env.init, res1, resL, resV, fillP, splice, newRow, Nat.reduceEqDiff, Nat.reduceLT, Nat.reduceLeDiff, Nat.reduceAdd, Nat.reduceMul, Nat.reduceSub, Nat.reduceBEq, reduceCtorEq, ↓zR, zQ, Tr, StA, StT, hlt, hr]
    refine c_pzFits c.1 c.2.1 c.2.2 w hw hl hcell ?_
    intro h3 hp3
    have hpp : Pre h0 h3 := hp.trans (hpush.trans hp3)
    cases e : fitB c w
    · simp (maxSteps := 1000000) (disch := first | omega | rfl | (simp only [zL, two63, room] <;> omega) | fail) only [↓reduceIte, ↓zP, zW, WOp, evOp, evBin, binI, binSh, binS, evNil, keyIs, keyEq, mkv, AV.cells, AV.sc, optv, bnd, env, put, Env.get, Env.set, Env.del, Env.dels, Env.init, res1, resL, resV, fillP, splice, newRow, Nat.reduceEqDiff, Nat.reduceLT, Nat.reduceLeDiff, Nat.reduceAdd, Nat.reduceMul, Nat.reduceSub, Nat.reduceBEq, reduceCtorEq, ↓zR, zQ, Tr, StA, StT, e]
      exact h2 h3 hpp (by rw [List.all_cons, e]; rfl)
    · simp (maxSteps := 1000000) (disch := first | omega | rfl | (simp only [zL, two63, room] <;> omega) | fail) only [↓reduceIte, ↓zP, zW, WOp, evOp, evBin, binI, binSh, binS, evNil, keyIs, keyEq, mkv, AV.cells, AV.sc, optv, bnd, env, put, Env.get, Env.set, Env.del, Env.dels, Env.init, res1, resL, resV, fillP, splice, newRow, Nat.reduceEqDiff, Nat.reduceLT, Nat.reduceLeDiff, Nat.reduceAdd, Nat.reduceMul, Nat.reduceSub, Nat.reduceBEq, reduceCtorEq, ↓zR, zQ, Tr, StA, StT, e, hw1]
      rw [w_loopn (c := lp173_0) rfl]
      simp (maxSteps := 1000000) (disch := first | omega | rfl | (simp only [zL, two63, room] <;> omega) | fail) only [↓reduceIte, ↓zP, zW, WOp, evOp, evBin, binI, binSh, binS, evNil, keyIs, keyEq, mkv, AV.cells, AV.sc, optv, bnd, env, put, Env.get, Env.set, Env.del, Env.dels, Env.init, res1, resL, resV, fillP, splice, newRow, Nat.reduceEqDiff, Nat.reduceLT, Nat.reduceLeDiff, Nat.reduceAdd, Nat.reduceMul, Nat.reduceSub, Nat.reduceBEq, reduceCtorEq, ↓zR, zQ, Tr, StA, StT]
      exact ih h3 (by rw [hpre]; simp) hpp (fun h' q1 q2 => h1 h' q1 (by rw [List.all_cons, e, q2]; rfl)) (fun h' q1 q2 => h2 h' q1 (by rw [List.all_cons, e, q2]; rfl))
def LookAt (n : Nat) (v : AV) (cs : List Clu) (b : AH) (r : Nat) (d : Nat) : Prop := ∀ (w : List UInt8) (h : AH) (l : List (List UInt8)), w.length + d = n → w.all isSign = true → OutP 1 encS r b h l → b.length ≤ h.length → SlcC 3 encC r h v cs → l.length + 3 ^ d ≤ 2 ^ 30 → ∀ post : AV → AH → Prop,
  (∀ h', OutP 1 encS r b h' (l ++ (goOn d w).filter fun w => cs.all fun c => fitB c w) → FrC r h h' → post (.tup []) h') → S 173 [.int .i64 n, v, .str w, .ptr r 0 0 1] h post k
theorem goOn_length : ∀ (d : Nat) (w : List UInt8), (goOn d w).length = 3 ^ d
  | 0, _ => rfl
  | d + 1, w => by simp only [goOn, List.length_append, goOn_length d]; rw [Nat.pow_succ]; omega
abbrev S3 : List (List UInt8) := [[46], [70], [84]]
theorem lp_pzLook1 {n : Nat} {v : AV} {cs : List Clu} {b : AH} {r d : Nat} (ih : LookAt n v cs b r d) (hn : n ≤ 5) (w : List UInt8) (hwd : w.length + (d + 1) = n) (hw : w.all isSign = true) (vs : AV) {h0 : AH} {R : X → Env → AH → Prop} : ∀ (rest pre : List (List UInt8)) (l : List (List UInt8)) (h : AH), S3 = pre ++ rest → OutP 1 encS r b h l → b.length ≤ h.length → SlcC 3 encC r h v cs → SlcC 1 encS r h vs S3 → FrC r h0 h → l.length + rest.length * 3 ^ d ≤ 2 ^ 30 →
    (∀ h', OutP 1 encS r b h' (l ++ rest.flatMap fun s => (goOn d (w ++ s)).filter fun w => cs.all fun c => fitB c w) → FrC r h0 h' → R (.exit 2) [] h') →
    Cx (.loop lp173_1) [(0, .int .i64 n), (1, v), (2, .str w), (3, .ptr r 0 0 1), (35, vs), (36, .int .i64 3), (37, .int .i64 pre.length)] h R k k
  | [], pre, l, h, hpre, ho, hb, hs, hss, hf, hl, hR => by
    have hll : pre.length = 3 := by have := congrArg List.length hpre; simp at this; omega
    rw [w_loopb (c := lp173_1) (d := lb173_1) rfl]; unfold lb173_1
    simp (maxSteps := 1000000) (disch := first | omega | rfl | (simp only [zL, two63, room] <;> omega) | fail) only [↓reduceIte, ↓zP, zW, WOp, evOp, evBin, binI, binSh, binS, evNil, keyIs, keyEq, mkv, AV.cells, AV.sc, optv, bnd, env, put, Env.get, Env.set, Env.del, Env.dels, Env.init, res1, resL, resV, fillP, splice, newRow, Nat.reduceEqDiff, Nat.reduceLT, Nat.reduceLeDiff, Nat.reduceAdd, Nat.reduceMul, Nat.reduceSub, Nat.reduceBEq, reduceCtorEq, ↓zR, zQ, Tr, StA, StT, hll]
    exact hR h (by simpa using ho) hf
  | s :: rest, pre, l, h, hpre, ho, hb, hs, hss, hf, hl, hR => by
    have ihl := lp_pzLook1 ih hn w hwd hw vs (h0 := h0) (R := R) rest (pre ++ [s])
    have hll : pre.length + 1 + rest.length = 3 := by have := congrArg List.length hpre; simp at this; omega
    have hs3 : s ∈ S3 := by rw [hpre]; simp
    have hsg : s.length = 1 ∧ s.all isSign = true := by
      simp only [List.mem_cons, List.not_mem_nil, or_false] at hs3
      rcases hs3 with rfl | rfl | rfl <;> exact ⟨rfl, rfl⟩
    have hss' := hss
    rw [hpre] at hss'
    obtain ⟨c1, k1, o1, hv, hr⟩ := hss'.1.at hlS
    rw [← hpre] at hv
    subst hv
    have hlt : (pre.length : Int) < 3 := by omega
    have hw1 : (pre.length : Int) + 1 = ((pre ++ [s]).length : Int) := by simp
    have hlS3 : (S3.length : Nat) = 3 := rfl
    rw [w_loopb (c := lp173_1) (d := lb173_1) rfl]; unfold lb173_1
    simp (maxSteps := 1000000) (disch := first | omega | rfl | (simp only [zL, two63, room] <;> omega) | fail) only [↓reduceIte, ↓zP, zW, WOp, evOp, evBin, binI, binSh, binS, evNil, keyIs, keyEq, mkv, AV.cells, AV.sc, optv, bnd, env, put, Env.get, Env.set, Env.del, Env.dels, Env.init, res1, resL, resV, fillP, splice, newRow, Nat.reduceEqDiff, Nat.reduceLT, Nat.reduceLeDiff, Nat.reduceAdd, Nat.reduceMul, Nat.reduceSub, Nat.reduceBEq, reduceCtorEq, ↓zR, zQ, Tr, StA, StT, hlt, hr, hlS3]
    simp only [List.length_cons] at hl
    rw [Nat.succ_mul] at hl
    refine ih (w ++ s) h l (by simp; omega) (by simp [hw, hsg.2]) ho hb hs (by omega) _ ?_
    intro h2 ho2 hf2
    have hfl : ((goOn d (w ++ s)).filter fun w => cs.all fun c => fitB c w).length ≤ 3 ^ d := by rw [← goOn_length d (w ++ s)]; exact List.length_filter_le _ _
    simp (maxSteps := 1000000) (disch := first | omega | rfl | (simp only [zL, two63, room] <;> omega) | fail) only [↓reduceIte, ↓zP, zW, WOp, evOp, evBin, binI, binSh, binS, evNil, keyIs, keyEq, mkv, AV.cells, AV.sc, optv, bnd, env, put, Env.get, Env.set, Env.del, Env.dels, Env.init, res1, resL, resV, fillP, splice, newRow, Nat.reduceEqDiff, Nat.reduceLT, Nat.reduceLeDiff, Nat.reduceAdd, Nat.reduceMul, Nat.reduceSub, Nat.reduceBEq, reduceCtorEq, ↓zR, zQ, Tr, StA, StT, hw1]
    rw [w_loopn (c := lp173_1) rfl]
    simp (maxSteps := 1000000) (disch := first | omega | rfl | (simp only [zL, two63, room] <;> omega) | fail) only [↓reduceIte, ↓zP, zW, WOp, evOp, evBin, binI, binSh, binS, evNil, keyIs, keyEq, mkv, AV.cells, AV.sc, optv, bnd, env, put, Env.get, Env.set, Env.del, Env.dels, Env.init, res1, resL, resV, fillP, splice, newRow, Nat.reduceEqDiff, Nat.reduceLT, Nat.reduceLeDiff, Nat.reduceAdd, Nat.reduceMul, Nat.reduceSub, Nat.reduceBEq, reduceCtorEq, ↓zR, zQ, Tr, StA, StT]
    refine ihl _ h2 (by rw [hpre]; simp) ho2 (Nat.le_trans hb hf2.1) (hs.fr hf2) (hss.fr hf2) (hf.trans hf2) (by simp; omega) ?_
    intro h' ho' hf'
    exact hR h' (by simpa using ho') hf'
theorem c_pzLook {n : Nat} (hn : n ≤ 5) {v : AV} {cs : List Clu} (hlen : cs.length < 2 ^ 30) (hok : ∀ c ∈ cs, clueOk n c = true) {b : AH} {r : Nat} : ∀ d : Nat, LookAt n v cs b r d
  | 0 => by
    intro w h l hwd hw ho hb hs hl post hp
    have hlw : w.length = n := by omega
    refine S_of rfl T173 ?_; unfold fi173
    have hv := fun g => Slc.lenV (hs.1) (g := g) (ρ := fun _ => _) (x := .t 0) rfl; simp only [evOp] at hv
    simp (maxSteps := 1000000) (disch := first | omega | rfl | (simp only [zL, two63, room] <;> omega) | fail) only [↓reduceIte, ↓zP, zW, WOp, evOp, evBin, binI, binSh, binS, evNil, keyIs, keyEq, mkv, AV.cells, AV.sc, optv, bnd, env, put, Env.get, Env.set, Env.del, Env.dels, Env.init, res1, resL, resV, fillP, splice, newRow, Nat.reduceEqDiff, Nat.reduceLT, Nat.reduceLeDiff, Nat.reduceAdd, Nat.reduceMul, Nat.reduceSub, Nat.reduceBEq, reduceCtorEq, ↓zR, zQ, Tr, StA, StT, hlw, hv]
    refine lp_pzLook0 hs.1 hlen w hw (by omega) (by rw [hlw]; exact hok) _ cs [] h rfl (Pre.refl _) ?_ ?_
    · intro h2 hp2 hall
      obtain ⟨vo, v', h3, r1, r2, r3, r4, r5, r6, r7, r8⟩ := (ho.pre hp2).push hlS scS (Nat.le_trans hb hp2.1) w (by omega)
      simp only [AV.cells] at r4
      simp (maxSteps := 1000000) (disch := first | omega | rfl | (simp only [zL, two63, room] <;> omega) | fail) only [↓reduceIte, ↓zP, zW, WOp, evOp, evBin, binI, binSh, binS, evNil, keyIs, keyEq, mkv, AV.cells, AV.sc, optv, bnd, env, put, Env.get, Env.set, Env.del, Env.dels, Env.init, res1, resL, resV, fillP, splice, newRow, Nat.reduceEqDiff, Nat.reduceLT, Nat.reduceLeDiff, Nat.reduceAdd, Nat.reduceMul, Nat.reduceSub, Nat.reduceBEq, reduceCtorEq, ↓zR, zQ, Tr, StA, StT, r1, r2, r3, r4, r6]
      have hg : (goOn 0 w).filter (fun w => cs.all fun c => fitB c w) = [w] := by simp [goOn, hall]
      rw [hg] at hp
      exact hp _ r7 ((hp2.frc ho.lt).trans r8)
    · intro h2 hp2 hall
      have hg : (goOn 0 w).filter (fun w => cs.all fun c => fitB c w) = [] := by simp [goOn, hall]
      rw [hg, List.append_nil] at hp
      simp (maxSteps := 1000000) (disch := first | omega | rfl | (simp only [zL, two63, room] <;> omega) | fail) only [↓reduceIte, ↓zP, zW, WOp, evOp, evBin, binI, binSh, binS, evNil, keyIs, keyEq, mkv, AV.cells, AV.sc, optv, bnd, env, put, Env.get, Env.set, Env.del, Env.dels, Env.init, res1, resL, resV, fillP, splice, newRow, Nat.reduceEqDiff, Nat.reduceLT, Nat.reduceLeDiff, Nat.reduceAdd, Nat.reduceMul, Nat.reduceSub, Nat.reduceBEq, reduceCtorEq, ↓zR, zQ, Tr, StA, StT]
      exact hp _ (ho.pre hp2) (hp2.frc ho.lt)
  | d + 1 => by
    intro w h l hwd hw ho hb hs hl post hp
    have ih := c_pzLook hn (v := v) hlen hok (b := b) (r := r) d
    have hne : ((w.length : Int) == (n : Int)) = false := by simp; omega
    refine S_of rfl T173 ?_; unfold fi173
    simp (maxSteps := 1000000) (disch := first | omega | rfl | (simp only [zL, two63, room] <;> omega) | fail) only [↓reduceIte, ↓zP, zW, WOp, evOp, evBin, binI, binSh, binS, evNil, keyIs, keyEq, mkv, AV.cells, AV.sc, optv, bnd, env, put, Env.get, Env.set, Env.del, Env.dels, Env.init, res1, resL, resV, fillP, splice, newRow, Nat.reduceEqDiff, Nat.reduceLT, Nat.reduceLeDiff, Nat.reduceAdd, Nat.reduceMul, Nat.reduceSub, Nat.reduceBEq, reduceCtorEq, ↓zR, zQ, Tr, StA, StT, hne]
    have hp2 := Pre.push h (AO.row [.str [46], .str [70], .str [84]] 0 0 false)
    have hs3 : SlcC 1 encS r (h ++ [AO.row [.str [46], .str [70], .str [84]] 0 0 false]) (.slice h.length 0 0 3 1) S3 := by
      refine ⟨⟨rfl, rfl, rfl, rd_lasT ⟨Nat.le_refl _, Nat.le_refl _, Nat.le_refl _⟩⟩, fun i hi => ?_⟩
      simp only [rowOf, Option.some.injEq] at hi
      exact ho.fresh hp2 (by omega)
    have hf2 := hp2.frc (c := r) ho.lt
    refine lp_pzLook1 ih hn w hwd hw _ (h0 := h) S3 [] l _ rfl (ho.pre hp2) (Nat.le_trans hb hp2.1) (hs.fr hf2) hs3 hf2 ?_ ?_
    · simp only [List.length_cons, List.length_nil]; rw [Nat.pow_succ] at hl; omega
    · intro h' ho' hf'
      simp (maxSteps := 1000000) (disch := first | omega | rfl | (simp only [zL, two63, room] <;> omega) | fail) only [↓reduceIte, ↓zP, zW, WOp, evOp, evBin, binI, binSh, binS, evNil, keyIs, keyEq, mkv, AV.cells, AV.sc, optv, bnd, env, put, Env.get, Env.set, Env.del, Env.dels, Env.init, res1, resL, resV, fillP, splice, newRow, Nat.reduceEqDiff, Nat.reduceLT, Nat.reduceLeDiff, Nat.reduceAdd, Nat.reduceMul, Nat.reduceSub, Nat.reduceBEq, reduceCtorEq, ↓zR, zQ, Tr, StA, StT]
      refine hp h' ?_ hf'
      simpa [goOn] using ho'
theorem c_pzAll (n : Nat) (hn : n ≤ 5) {v : AV} {cs : List Clu} (hlen : cs.length < 2 ^ 30) (hok : ∀ c ∈ cs, clueOk n c = true) {h : AH} (hs : Slc 3 encC h v cs) {post : AV → AH → Prop} (hp : ∀ o' h', OwL 1 encS h h' o' (fitL n cs) → Pre h h' → post o' h') : S 161 [.int .i64 n, v] h post k := by
  have hpush := Pre.push h (AO.row [.nilS] 0 0 false)
  have ho : OutP 1 encS h.length h (h ++ [AO.row [.nilS] 0 0 false]) [] := ⟨.nilS, by simp, OwL.nil, by simp [rowOf]⟩
  have hng : ∀ i, i < h.length → ¬ grc h.length (h ++ [AO.row [.nilS] 0 0 false]) i := by
    rintro i hi (rfl | ⟨cs, ver, fl, ro, e1, v, hv, e2⟩)
    · exact Nat.lt_irrefl _ hi
    · simp at e1
      obtain ⟨rfl, _⟩ := e1
      simp at hv
      subst hv
      simp [rowOf] at e2
  have hs1 : SlcC 3 encC h.length (h ++ [AO.row [.nilS] 0 0 false]) v cs := by
    refine ⟨hs.pre hpush, fun i hi => hng i ?_⟩
    unfold Slc Sl at hs
    cases v <;> simp only [rowOf] at hi hs <;> first
      | (cases hi; done)
      | (cases hi; exact rd_lt hs.2.2.2)
  have hpow : 3 ^ n ≤ 3 ^ 5 := Nat.pow_le_pow_right (by omega) hn
  refine S_of rfl T161 ?_; unfold fi161
  simp (maxSteps := 1000000) (disch := first | omega | rfl | (simp only [zL, two63, room] <;> omega) | fail) only [↓reduceIte, ↓zP, zW, WOp, evOp, evBin, binI, binSh, binS, evNil, keyIs, keyEq, mkv, AV.cells, AV.sc, optv, bnd, env, put, Env.get, Env.set, Env.del, Env.dels, Env.init, res1, resL, resV, fillP, splice, newRow, Nat.reduceEqDiff, Nat.reduceLT, Nat.reduceLeDiff, Nat.reduceAdd, Nat.reduceMul, Nat.reduceSub, Nat.reduceBEq, reduceCtorEq, ↓zR, zQ, Tr, StA, StT]
  refine c_pzLook hn hlen hok n [] _ [] (by simp) rfl ho hpush.1 hs1 (by simp; omega) _ ?_
  intro h2 ho2 hf2
  rw [goOn_all, List.nil_append] at ho2
  obtain ⟨vo, hr, hown⟩ := ho2.rd
  simp (maxSteps := 1000000) (disch := first | omega | rfl | (simp only [zL, two63, room] <;> omega) | fail) only [↓reduceIte, ↓zP, zW, WOp, evOp, evBin, binI, binSh, binS, evNil, keyIs, keyEq, mkv, AV.cells, AV.sc, optv, bnd, env, put, Env.get, Env.set, Env.del, Env.dels, Env.init, res1, resL, resV, fillP, splice, newRow, Nat.reduceEqDiff, Nat.reduceLT, Nat.reduceLeDiff, Nat.reduceAdd, Nat.reduceMul, Nat.reduceSub, Nat.reduceBEq, reduceCtorEq, ↓zR, zQ, Tr, StA, StT, hr]
  refine hp vo h2 hown ⟨by have := hf2.1; simp at this; omega, fun i hi => ?_⟩
  rw [(hf2.2 i (by simp; omega) (hng i hi)).1, hpush.2 i hi]
end Go.Proofs.YtmlmfjjfciiblaaGreatDoor.Ab

/- PUZZLES: which there are, their solutions; the law's helpers. -/
namespace Go.Proofs.YtmlmfjjfciiblaaGreatDoor.Ab
open Go
set_option maxRecDepth 100000
set_option maxHeartbeats 4000000

def goodP (n : Int) (cs : List Clu) : Bool := decide (1 ≤ n ∧ n ≤ 5) && (decide (cs.length ≤ 6) && cs.all fun c => clueOk n c)
theorem goodP_iff {n : Int} {cs : List Clu} (h : goodP n cs = true) : ∃ m : Nat, n = m ∧ 1 ≤ m ∧ m ≤ 5 ∧ cs.length ≤ 6 ∧ ∀ c ∈ cs, clueOk n c = true := by
  simp only [goodP, Bool.and_eq_true, decide_eq_true_eq, List.all_eq_true] at h
  obtain ⟨⟨h1, h2⟩, h3, h4⟩ := h
  exact ⟨n.toNat, by omega, by omega, by omega, h3, h4⟩
theorem lp_pzGood (n : Int) (hn : 1 ≤ n ∧ n ≤ 5) {v : AV} {cs : List Clu} (hlen : cs.length < 2 ^ 30) {h0 : AH} {r : Nat} (hr0 : rdRow h0 r 0 0 1 = some [.int .i64 n]) (hs : Slc 3 encC h0 v cs) {R : X → Env → AH → Prop} : ∀ (rest pre : List Clu) (h : AH), cs = pre ++ rest → Pre h0 h →
    (∀ h', Pre h0 h' → (rest.all fun c => clueOk n c) = true → R (.exit 0) [] h') → (∀ h', Pre h0 h' → (rest.all fun c => clueOk n c) = false → R .ret [(2, .bool false)] h') →
    Cx (.loop lp160_0) [(1, .ptr r 0 0 2), (16, v), (17, .int .i64 cs.length), (18, .int .i64 pre.length)] h R k k
  | [], pre, h, hpre, hp, h1, h2 => by
    subst hpre
    rw [w_loopb (c := lp160_0) (d := lb160_0) rfl]; unfold lb160_0
    simp only [List.append_nil]
    simp (maxSteps := 1000000) (disch := first | omega | rfl | (simp only [zL, two63, room] <;> omega) | fail) only [↓reduceIte, ↓zP, zW, WOp, evOp, evBin, binI, binSh, binS, evNil, keyIs, keyEq, mkv, AV.cells, AV.sc, optv, bnd, env, put, Env.get, Env.set, Env.del, Env.dels, Env.init, res1, resL, resV, fillP, splice, newRow, Nat.reduceEqDiff, Nat.reduceLT, Nat.reduceLeDiff, Nat.reduceAdd, Nat.reduceMul, Nat.reduceSub, Nat.reduceBEq, reduceCtorEq, ↓zR, zQ, Tr, StA, StT]
    exact h1 h hp rfl
  | c :: rest, pre, h, hpre, hp, h1, h2 => by
    have ih := lp_pzGood n hn hlen hr0 hs (R := R) rest (pre ++ [c])
    have hll : cs.length = pre.length + 1 + rest.length := by rw [hpre]; simp; omega
    have hs' := hs.pre hp
    rw [hpre] at hs'
    obtain ⟨r1, k1, o1, hv, hr⟩ := hs'.at hlC
    rw [← hpre, hll] at hv
    subst hv
    rw [hll] at ih hlen ⊢
    have hlt : (pre.length : Int) < ((pre.length + 1 + rest.length : Nat) : Int) := by omega
    have hw1 : (pre.length : Int) + 1 = ((pre ++ [c]).length : Int) := by simp
    have hrr := rdRow_pre hp hr0
    have hrl := rd_lt hrr
    have hpush := Pre.push h (AO.row (encC c) 0 0 false)
    rw [w_loopb (c := lp160_0) (d := lb160_0) rfl]; unfold lb160_0
    simp (maxSteps := 1000000) (disch := first | omega | rfl | (simp only [zL, two63, room] <;> omega) | fail) only [↓reduceIte, ↓zP, zW, WOp, evOp, evBin, binI, binSh, binS, evNil, keyIs, keyEq, mkv, AV.cells, AV.sc, optv, bnd, env, put, Env.get, Env.set, Env.del, Env.dels, Env.init, res1, resL, resV, fillP, splice, newRow, Nat.reduceEqDiff, Nat.reduceLT, Nat.reduceLeDiff, Nat.reduceAdd, Nat.reduceMul, Nat.reduceSub, Nat.reduceBEq, reduceCtorEq, ↓zR, zQ, Tr, StA, StT, hlt, hr, hrr]
    refine c_pzClue n c.1 c.2.1 c.2.2 (by omega) ?_
    intro h3 hp3
    have hpp : Pre h0 h3 := hp.trans (hpush.trans hp3)
    cases e : clueOk n c
    · simp (maxSteps := 1000000) (disch := first | omega | rfl | (simp only [zL, two63, room] <;> omega) | fail) only [↓reduceIte, ↓zP, zW, WOp, evOp, evBin, binI, binSh, binS, evNil, keyIs, keyEq, mkv, AV.cells, AV.sc, optv, bnd, env, put, Env.get, Env.set, Env.del, Env.dels, Env.init, res1, resL, resV, fillP, splice, newRow, Nat.reduceEqDiff, Nat.reduceLT, Nat.reduceLeDiff, Nat.reduceAdd, Nat.reduceMul, Nat.reduceSub, Nat.reduceBEq, reduceCtorEq, ↓zR, zQ, Tr, StA, StT, e]
      exact h2 h3 hpp (by rw [List.all_cons, e]; rfl)
    · simp (maxSteps := 1000000) (disch := first | omega | rfl | (simp only [zL, two63, room] <;> omega) | fail) only [↓reduceIte, ↓zP, zW, WOp, evOp, evBin, binI, binSh, binS, evNil, keyIs, keyEq, mkv, AV.cells, AV.sc, optv, bnd, env, put, Env.get, Env.set, Env.del, Env.dels, Env.init, res1, resL, resV, fillP, splice, newRow, Nat.reduceEqDiff, Nat.reduceLT, Nat.reduceLeDiff, Nat.reduceAdd, Nat.reduceMul, Nat.reduceSub, Nat.reduceBEq, reduceCtorEq, ↓zR, zQ, Tr, StA, StT, e, hw1]
      rw [w_loopn (c := lp160_0) rfl]
      simp (maxSteps := 1000000) (disch := first | omega | rfl | (simp only [zL, two63, room] <;> omega) | fail) only [↓reduceIte, ↓zP, zW, WOp, evOp, evBin, binI, binSh, binS, evNil, keyIs, keyEq, mkv, AV.cells, AV.sc, optv, bnd, env, put, Env.get, Env.set, Env.del, Env.dels, Env.init, res1, resL, resV, fillP, splice, newRow, Nat.reduceEqDiff, Nat.reduceLT, Nat.reduceLeDiff, Nat.reduceAdd, Nat.reduceMul, Nat.reduceSub, Nat.reduceBEq, reduceCtorEq, ↓zR, zQ, Tr, StA, StT]
      exact ih h3 (by rw [hpre]; simp) hpp (fun h' q1 q2 => h1 h' q1 (by rw [List.all_cons, e, q2]; rfl)) (fun h' q1 q2 => h2 h' q1 (by rw [List.all_cons, e, q2]; rfl))
abbrev pzV (n : Int) (v : AV) : AV := .agg [.int .i64 n, v]
theorem sl_cells {α : Type} {esz : Nat} {enc : α → List AV} {h : AH} {v : AV} {L : List α} (hs : Slc esz enc h v L) : v.cells = [v] ∧ v.sc = true := by
  unfold Slc Sl at hs
  cases v <;> simp only at hs <;> first
    | exact ⟨rfl, rfl⟩
    | (exact hs.elim)
theorem c_pzGood (n : Int) {v : AV} {cs : List Clu} (hlen : cs.length < 2 ^ 30) {h : AH} (hs : Slc 3 encC h v cs) {post : AV → AH → Prop} (hp : ∀ h', Pre h h' → post (.bool (goodP n cs)) h') : S 160 [pzV n v] h post k := by
  have hpush := Pre.push h (AO.row [.int .i64 n, v] 0 0 false)
  have hsc := (sl_cells hs).2
  unfold AV.sc at hsc
  refine S_of rfl T160 ?_; unfold fi160
  unfold goodP at hp
  have hv := fun g => Slc.lenV (hs) (g := g) (ρ := fun _ => _) (x := .t 0) rfl; simp only [evOp] at hv
  by_cases h5 : 1 ≤ n ∧ n ≤ 5
  case neg =>
    simp (maxSteps := 1000000) (disch := first | omega | rfl | (simp only [zL, two63, room] <;> omega) | fail) only [↓reduceIte, ↓zP, zW, WOp, evOp, evBin, binI, binSh, binS, evNil, keyIs, keyEq, mkv, AV.cells, AV.sc, optv, bnd, env, put, Env.get, Env.set, Env.del, Env.dels, Env.init, res1, resL, resV, fillP, splice, newRow, Nat.reduceEqDiff, Nat.reduceLT, Nat.reduceLeDiff, Nat.reduceAdd, Nat.reduceMul, Nat.reduceSub, Nat.reduceBEq, reduceCtorEq, ↓zR, zQ, Tr, StA, StT, e_pzCells, h5, hsc]
    simpa [h5] using hp _ hpush
  by_cases h6 : cs.length ≤ 6
  case neg =>
    have h6' : (cs.length : Int) > 6 := by omega
    simp (maxSteps := 1000000) (disch := first | omega | rfl | (simp only [zL, two63, room] <;> omega) | fail) only [↓reduceIte, ↓zP, zW, WOp, evOp, evBin, binI, binSh, binS, evNil, keyIs, keyEq, mkv, AV.cells, AV.sc, optv, bnd, env, put, Env.get, Env.set, Env.del, Env.dels, Env.init, res1, resL, resV, fillP, splice, newRow, Nat.reduceEqDiff, Nat.reduceLT, Nat.reduceLeDiff, Nat.reduceAdd, Nat.reduceMul, Nat.reduceSub, Nat.reduceBEq, reduceCtorEq, ↓zR, zQ, Tr, StA, StT, e_pzCells, h5, hv, h6', hsc]
    simpa [h6] using hp _ hpush
  have h6' : ¬ ((cs.length : Int) > 6) := by omega
  simp (maxSteps := 1000000) (disch := first | omega | rfl | (simp only [zL, two63, room] <;> omega) | fail) only [↓reduceIte, ↓zP, zW, WOp, evOp, evBin, binI, binSh, binS, evNil, keyIs, keyEq, mkv, AV.cells, AV.sc, optv, bnd, env, put, Env.get, Env.set, Env.del, Env.dels, Env.init, res1, resL, resV, fillP, splice, newRow, Nat.reduceEqDiff, Nat.reduceLT, Nat.reduceLeDiff, Nat.reduceAdd, Nat.reduceMul, Nat.reduceSub, Nat.reduceBEq, reduceCtorEq, ↓zR, zQ, Tr, StA, StT, e_pzCells, h5, hv, h6', hsc]
  refine lp_pzGood n h5 hlen (r := h.length) ?_ (hs.pre hpush) cs [] _ rfl (Pre.refl _) ?_ ?_
  · rw [rd_last, if_pos (by simp)]; simp
  · intro h' hp' hall
    simp (maxSteps := 1000000) (disch := first | omega | rfl | (simp only [zL, two63, room] <;> omega) | fail) only [↓reduceIte, ↓zP, zW, WOp, evOp, evBin, binI, binSh, binS, evNil, keyIs, keyEq, mkv, AV.cells, AV.sc, optv, bnd, env, put, Env.get, Env.set, Env.del, Env.dels, Env.init, res1, resL, resV, fillP, splice, newRow, Nat.reduceEqDiff, Nat.reduceLT, Nat.reduceLeDiff, Nat.reduceAdd, Nat.reduceMul, Nat.reduceSub, Nat.reduceBEq, reduceCtorEq, ↓zR, zQ, Tr, StA, StT]
    simpa [h5, h6, hall] using hp h' (hpush.trans hp')
  · intro h' hp' hall
    simp (maxSteps := 1000000) (disch := first | omega | rfl | (simp only [zL, two63, room] <;> omega) | fail) only [↓reduceIte, ↓zP, zW, WOp, evOp, evBin, binI, binSh, binS, evNil, keyIs, keyEq, mkv, AV.cells, AV.sc, optv, bnd, env, put, Env.get, Env.set, Env.del, Env.dels, Env.init, res1, resL, resV, fillP, splice, newRow, Nat.reduceEqDiff, Nat.reduceLT, Nat.reduceLeDiff, Nat.reduceAdd, Nat.reduceMul, Nat.reduceSub, Nat.reduceBEq, reduceCtorEq, ↓zR, zQ, Tr, StA, StT]
    simpa [h5, h6, hall] using hp h' (hpush.trans hp')
theorem c_IsPuzzle1 (n : Int) (h5 : 1 ≤ n ∧ n ≤ 5) (c : Clu) {h : AH} {r : Nat} (hr : rdRow h r 0 0 1 = some [.int .i64 n]) {post : AV → AH → Prop} (hp : ∀ h', Pre h h' → post (.bool (!clueOk n c)) h') : S 176 [.agg (encC c), .ptr r 0 0 2] h post k := by
  have hpush := Pre.push h (AO.row (encC c) 0 0 false)
  have hrl := rd_lt hr
  refine S_of rfl T176 ?_; unfold fi176
  simp (maxSteps := 1000000) (disch := first | omega | rfl | (simp only [zL, two63, room] <;> omega) | fail) only [↓reduceIte, ↓zP, zW, WOp, evOp, evBin, binI, binSh, binS, evNil, keyIs, keyEq, mkv, AV.cells, AV.sc, optv, bnd, env, put, Env.get, Env.set, Env.del, Env.dels, Env.init, res1, resL, resV, fillP, splice, newRow, Nat.reduceEqDiff, Nat.reduceLT, Nat.reduceLeDiff, Nat.reduceAdd, Nat.reduceMul, Nat.reduceSub, Nat.reduceBEq, reduceCtorEq, ↓zR, zQ, Tr, StA, StT, hr]
  refine c_IsClue n c.1 c.2.1 c.2.2 (by omega) ?_
  intro h2 hp2
  have := hp h2 (hpush.trans hp2)
  simp (maxSteps := 1000000) (disch := first | omega | rfl | (simp only [zL, two63, room] <;> omega) | fail) only [↓reduceIte, ↓zP, zW, WOp, evOp, evBin, binI, binSh, binS, evNil, keyIs, keyEq, mkv, AV.cells, AV.sc, optv, bnd, env, put, Env.get, Env.set, Env.del, Env.dels, Env.init, res1, resL, resV, fillP, splice, newRow, Nat.reduceEqDiff, Nat.reduceLT, Nat.reduceLeDiff, Nat.reduceAdd, Nat.reduceMul, Nat.reduceSub, Nat.reduceBEq, reduceCtorEq, ↓zR, zQ, Tr, StA, StT, h5]
  exact this
theorem c_IsPuzzle (n : Int) {v : AV} {cs : List Clu} (hlen : cs.length < 2 ^ 30) {h : AH} (hs : Slc 3 encC h v cs) {post : AV → AH → Prop} (hp : ∀ h', Pre h h' → post (.bool (goodP n cs)) h') : S 166 [pzV n v] h post k := by
  have hpush := Pre.push h (AO.row [.int .i64 n, v] 0 0 false)
  have hsc := (sl_cells hs).2
  unfold AV.sc at hsc
  refine S_of rfl T166 ?_; unfold fi166
  unfold goodP at hp
  have hv := fun g => Slc.lenV (hs) (g := g) (ρ := fun _ => _) (x := .t 0) rfl; simp only [evOp] at hv
  by_cases h5 : 1 ≤ n ∧ n ≤ 5
  case neg =>
    simp (maxSteps := 1000000) (disch := first | omega | rfl | (simp only [zL, two63, room] <;> omega) | fail) only [↓reduceIte, ↓zP, zW, WOp, evOp, evBin, binI, binSh, binS, evNil, keyIs, keyEq, mkv, AV.cells, AV.sc, optv, bnd, env, put, Env.get, Env.set, Env.del, Env.dels, Env.init, res1, resL, resV, fillP, splice, newRow, Nat.reduceEqDiff, Nat.reduceLT, Nat.reduceLeDiff, Nat.reduceAdd, Nat.reduceMul, Nat.reduceSub, Nat.reduceBEq, reduceCtorEq, ↓zR, zQ, Tr, StA, StT, e_within, h5, hsc]
    simpa [h5] using hp _ hpush
  by_cases h6 : cs.length ≤ 6
  case neg =>
    have h6' : ¬ ((cs.length : Int) ≤ 6) := by omega
    simp (maxSteps := 1000000) (disch := first | omega | rfl | (simp only [zL, two63, room] <;> omega) | fail) only [↓reduceIte, ↓zP, zW, WOp, evOp, evBin, binI, binSh, binS, evNil, keyIs, keyEq, mkv, AV.cells, AV.sc, optv, bnd, env, put, Env.get, Env.set, Env.del, Env.dels, Env.init, res1, resL, resV, fillP, splice, newRow, Nat.reduceEqDiff, Nat.reduceLT, Nat.reduceLeDiff, Nat.reduceAdd, Nat.reduceMul, Nat.reduceSub, Nat.reduceBEq, reduceCtorEq, ↓zR, zQ, Tr, StA, StT, e_within, h5, hv, h6', hsc]
    simpa [h6] using hp _ hpush
  have h6' : (cs.length : Int) ≤ 6 := by omega
  simp (maxSteps := 1000000) (disch := first | omega | rfl | (simp only [zL, two63, room] <;> omega) | fail) only [↓reduceIte, ↓zP, zW, WOp, evOp, evBin, binI, binSh, binS, evNil, keyIs, keyEq, mkv, AV.cells, AV.sc, optv, bnd, env, put, Env.get, Env.set, Env.del, Env.dels, Env.init, res1, resL, resV, fillP, splice, newRow, Nat.reduceEqDiff, Nat.reduceLT, Nat.reduceLeDiff, Nat.reduceAdd, Nat.reduceMul, Nat.reduceSub, Nat.reduceBEq, reduceCtorEq, ↓zR, zQ, Tr, StA, StT, e_within, h5, hv, h6', hsc]
  refine c_ContainsFuncC _ _ (fun c => !clueOk n c) (fun h' => Pre (h ++ [AO.row [.int .i64 n, v] 0 0 false]) h') (v := v) (L := cs) (by omega) (fun h' hp' => (hs.pre hpush).pre hp') ?_ (Pre.refl _) ?_
  · intro c hc h' hp' post hpost
    refine c_IsPuzzle1 n h5 c (r := h.length) ?_ fun h'' hp'' => hpost h'' (hp'.trans hp'')
    refine rdRow_pre hp' ?_
    rw [rd_last, if_pos (by simp)]; simp
  · intro h' hp'
    have := hp h' (hpush.trans hp')
    have e : (cs.all fun c => clueOk n c) = !(cs.any fun c => !clueOk n c) := by
      rw [Bool.eq_iff_iff]; simp
    rw [e] at this
    simp (maxSteps := 1000000) (disch := first | omega | rfl | (simp only [zL, two63, room] <;> omega) | fail) only [↓reduceIte, ↓zP, zW, WOp, evOp, evBin, binI, binSh, binS, evNil, keyIs, keyEq, mkv, AV.cells, AV.sc, optv, bnd, env, put, Env.get, Env.set, Env.del, Env.dels, Env.init, res1, resL, resV, fillP, splice, newRow, Nat.reduceEqDiff, Nat.reduceLT, Nat.reduceLeDiff, Nat.reduceAdd, Nat.reduceMul, Nat.reduceSub, Nat.reduceBEq, reduceCtorEq, ↓zR, zQ, Tr, StA, StT]
    simpa [h5, h6] using this

def solN (n : Int) (cs : List Clu) : List (List UInt8) := fitL n.toNat cs
theorem c_Solutions (n : Int) {v : AV} {cs : List Clu} (hlen : cs.length < 2 ^ 30) {h : AH} (hs : Slc 3 encC h v cs) {post : AV → AH → Prop} (hp : ∀ v' h', OwW 1 encS h h' v' (if goodP n cs then solN n cs else []) → Pre h h' → post (.tup [v', .bool (goodP n cs)]) h') : S 163 [pzV n v] h post k := by
  have hpush := Pre.push h (AO.row [.int .i64 n, v] 0 0 false)
  have hsc := (sl_cells hs).2
  unfold AV.sc at hsc
  have r2 : rdRow (h ++ [AO.row [.int .i64 n, v] 0 0 false]) h.length 0 0 2 = some [.int .i64 n, v] := by rw [rd_last, if_pos (by simp)]; simp
  have r0 : rdRow (h ++ [AO.row [.int .i64 n, v] 0 0 false]) h.length 0 0 1 = some [.int .i64 n] := by rw [rd_last, if_pos (by simp)]; simp
  have r1 : rdRow (h ++ [AO.row [.int .i64 n, v] 0 0 false]) h.length 0 1 1 = some [v] := by rw [rd_last, if_pos (by simp)]; simp
  refine S_of rfl T163 ?_; unfold fi163
  simp (maxSteps := 1000000) (disch := first | omega | rfl | (simp only [zL, two63, room] <;> omega) | fail) only [↓reduceIte, ↓zP, zW, WOp, evOp, evBin, binI, binSh, binS, evNil, keyIs, keyEq, mkv, AV.cells, AV.sc, optv, bnd, env, put, Env.get, Env.set, Env.del, Env.dels, Env.init, res1, resL, resV, fillP, splice, newRow, Nat.reduceEqDiff, Nat.reduceLT, Nat.reduceLeDiff, Nat.reduceAdd, Nat.reduceMul, Nat.reduceSub, Nat.reduceBEq, reduceCtorEq, ↓zR, zQ, Tr, StA, StT, hsc]
  refine c_IsPuzzle n hlen (hs.pre hpush) ?_
  intro h2 hp2
  have q0 := rdRow_pre hp2 r0
  have q1 := rdRow_pre hp2 r1
  cases e : goodP n cs
  · rw [e] at hp
    simp (maxSteps := 1000000) (disch := first | omega | rfl | (simp only [zL, two63, room] <;> omega) | fail) only [↓reduceIte, ↓zP, zW, WOp, evOp, evBin, binI, binSh, binS, evNil, keyIs, keyEq, mkv, AV.cells, AV.sc, optv, bnd, env, put, Env.get, Env.set, Env.del, Env.dels, Env.init, res1, resL, resV, fillP, splice, newRow, Nat.reduceEqDiff, Nat.reduceLT, Nat.reduceLeDiff, Nat.reduceAdd, Nat.reduceMul, Nat.reduceSub, Nat.reduceBEq, reduceCtorEq, ↓zR, zQ, Tr, StA, StT]
    exact hp .nilS h2 rfl (hpush.trans hp2)
  · rw [e] at hp
    obtain ⟨m, rfl, m1, m5, m6, mok⟩ := goodP_iff e
    simp (maxSteps := 1000000) (disch := first | omega | rfl | (simp only [zL, two63, room] <;> omega) | fail) only [↓reduceIte, ↓zP, zW, WOp, evOp, evBin, binI, binSh, binS, evNil, keyIs, keyEq, mkv, AV.cells, AV.sc, optv, bnd, env, put, Env.get, Env.set, Env.del, Env.dels, Env.init, res1, resL, resV, fillP, splice, newRow, Nat.reduceEqDiff, Nat.reduceLT, Nat.reduceLeDiff, Nat.reduceAdd, Nat.reduceMul, Nat.reduceSub, Nat.reduceBEq, reduceCtorEq, ↓zR, zQ, Tr, StA, StT, q0, q1]
    refine c_solve m ⟨m1, m5⟩ hlen mok ((hs.pre hpush).pre hp2) ?_
    intro v' h3 ho hp3
    simp (maxSteps := 1000000) (disch := first | omega | rfl | (simp only [zL, two63, room] <;> omega) | fail) only [↓reduceIte, ↓zP, zW, WOp, evOp, evBin, binI, binSh, binS, evNil, keyIs, keyEq, mkv, AV.cells, AV.sc, optv, bnd, env, put, Env.get, Env.set, Env.del, Env.dels, Env.init, res1, resL, resV, fillP, splice, newRow, Nat.reduceEqDiff, Nat.reduceLT, Nat.reduceLeDiff, Nat.reduceAdd, Nat.reduceMul, Nat.reduceSub, Nat.reduceBEq, reduceCtorEq, ↓zR, zQ, Tr, StA, StT]
    refine hp v' h3 ?_ ((hpush.trans hp2).trans hp3)
    rw [if_pos rfl]
    exact ho.base (hpush.trans hp2).1
def countP (n : Int) (cs : List Clu) : Int := if goodP n cs then (solN n cs).length else 0
theorem c_CountSolutions (n : Int) {v : AV} {cs : List Clu} (hlen : cs.length < 2 ^ 30) {h : AH} (hs : Slc 3 encC h v cs) {post : AV → AH → Prop} (hp : ∀ h', Pre h h' → post (.tup [.int .i64 (countP n cs), .bool (goodP n cs)]) h') : S 138 [pzV n v] h post k := by
  have hpush := Pre.push h (AO.row [.int .i64 n, v] 0 0 false)
  have hsc := (sl_cells hs).2
  unfold AV.sc at hsc
  refine S_of rfl T138 ?_; unfold fi138
  simp (maxSteps := 1000000) (disch := first | omega | rfl | (simp only [zL, two63, room] <;> omega) | fail) only [↓reduceIte, ↓zP, zW, WOp, evOp, evBin, binI, binSh, binS, evNil, keyIs, keyEq, mkv, AV.cells, AV.sc, optv, bnd, env, put, Env.get, Env.set, Env.del, Env.dels, Env.init, res1, resL, resV, fillP, splice, newRow, Nat.reduceEqDiff, Nat.reduceLT, Nat.reduceLeDiff, Nat.reduceAdd, Nat.reduceMul, Nat.reduceSub, Nat.reduceBEq, reduceCtorEq, ↓zR, zQ, Tr, StA, StT, hsc]
  refine c_Solutions n hlen (hs.pre hpush) ?_
  intro v' h2 ho hp2
  have := hp h2 (hpush.trans hp2)
  have hsl := ho.slc hlS
  have hv := fun g => Slc.lenV (hsl) (g := g) (ρ := fun _ => _) (x := .t 0) rfl; simp only [evOp] at hv
  simp (maxSteps := 1000000) (disch := first | omega | rfl | (simp only [zL, two63, room] <;> omega) | fail) only [↓reduceIte, ↓zP, zW, WOp, evOp, evBin, binI, binSh, binS, evNil, keyIs, keyEq, mkv, AV.cells, AV.sc, optv, bnd, env, put, Env.get, Env.set, Env.del, Env.dels, Env.init, res1, resL, resV, fillP, splice, newRow, Nat.reduceEqDiff, Nat.reduceLT, Nat.reduceLeDiff, Nat.reduceAdd, Nat.reduceMul, Nat.reduceSub, Nat.reduceBEq, reduceCtorEq, ↓zR, zQ, Tr, StA, StT, hv]
  unfold countP at this
  cases e : goodP n cs <;> simpa [e] using this
theorem c_szPuzzle (n : Int) {v : AV} {cs : List Clu} (hlen : cs.length < 2 ^ 63) {h : AH} (hs : Slc 3 encC h v cs) {post : AV → AH → Prop} (hp : ∀ h', Pre h h' → post (.int .i64 (if cs.length ≤ 1048576 then 1048576 - (cs.length : Int) else -1)) h') : S 135 [pzV n v, .int .i64 1048576] h post k := by
  have hpush := Pre.push h (AO.row [.int .i64 n, v] 0 0 false)
  have hsc := (sl_cells hs).2
  unfold AV.sc at hsc
  have hq := hp _ hpush
  have hv := fun g => Slc.lenV (hs) (g := g) (ρ := fun _ => _) (x := .t 0) rfl; simp only [evOp] at hv
  have e1 : S 159 [v, .int .i64 1048576] (h ++ [AO.row [.int .i64 n, v] 0 0 false]) = S 159 [v, .int .i64 1048576] (h ++ [AO.row [.int .i64 n, v] 0 0 false]) := rfl
  refine S_of rfl T135 ?_; unfold fi135
  by_cases hl : cs.length ≤ 1048576
  · rw [if_pos hl] at hq
    simp (maxSteps := 1000000) (disch := first | omega | rfl | (simp only [zL, two63, room] <;> omega) | fail) only [↓reduceIte, ↓zP, zW, WOp, evOp, evBin, binI, binSh, binS, evNil, keyIs, keyEq, mkv, AV.cells, AV.sc, optv, bnd, env, put, Env.get, Env.set, Env.del, Env.dels, Env.init, res1, resL, resV, fillP, splice, newRow, Nat.reduceEqDiff, Nat.reduceLT, Nat.reduceLeDiff, Nat.reduceAdd, Nat.reduceMul, Nat.reduceSub, Nat.reduceBEq, reduceCtorEq, ↓zR, zQ, Tr, StA, StT, hsc]
    refine S_of rfl T159 ?_; unfold fi159
    simp (maxSteps := 1000000) (disch := first | omega | rfl | (simp only [zL, two63, room] <;> omega) | fail) only [↓reduceIte, ↓zP, zW, WOp, evOp, evBin, binI, binSh, binS, evNil, keyIs, keyEq, mkv, AV.cells, AV.sc, optv, bnd, env, put, Env.get, Env.set, Env.del, Env.dels, Env.init, res1, resL, resV, fillP, splice, newRow, Nat.reduceEqDiff, Nat.reduceLT, Nat.reduceLeDiff, Nat.reduceAdd, Nat.reduceMul, Nat.reduceSub, Nat.reduceBEq, reduceCtorEq, ↓zR, zQ, Tr, StA, StT, hv]
    exact hq
  · rw [if_neg hl] at hq
    simp (maxSteps := 1000000) (disch := first | omega | rfl | (simp only [zL, two63, room] <;> omega) | fail) only [↓reduceIte, ↓zP, zW, WOp, evOp, evBin, binI, binSh, binS, evNil, keyIs, keyEq, mkv, AV.cells, AV.sc, optv, bnd, env, put, Env.get, Env.set, Env.del, Env.dels, Env.init, res1, resL, resV, fillP, splice, newRow, Nat.reduceEqDiff, Nat.reduceLT, Nat.reduceLeDiff, Nat.reduceAdd, Nat.reduceMul, Nat.reduceSub, Nat.reduceBEq, reduceCtorEq, ↓zR, zQ, Tr, StA, StT, hsc]
    refine S_of rfl T159 ?_; unfold fi159
    simp (maxSteps := 1000000) (disch := first | omega | rfl | (simp only [zL, two63, room] <;> omega) | fail) only [↓reduceIte, ↓zP, zW, WOp, evOp, evBin, binI, binSh, binS, evNil, keyIs, keyEq, mkv, AV.cells, AV.sc, optv, bnd, env, put, Env.get, Env.set, Env.del, Env.dels, Env.init, res1, resL, resV, fillP, splice, newRow, Nat.reduceEqDiff, Nat.reduceLT, Nat.reduceLeDiff, Nat.reduceAdd, Nat.reduceMul, Nat.reduceSub, Nat.reduceBEq, reduceCtorEq, ↓zR, zQ, Tr, StA, StT, hv]
    exact hq
theorem c_toClue (c : Clu) {h : AH} {post : AV → AH → Prop} (hp : ∀ h', Pre h h' → post (.agg (encC c)) h') : S 174 [.agg (encC c)] h post k := by
  refine S_of rfl T174 ?_; unfold fi174
  simp (maxSteps := 1000000) (disch := first | omega | rfl | (simp only [zL, two63, room] <;> omega) | fail) only [↓reduceIte, ↓zP, zW, WOp, evOp, evBin, binI, binSh, binS, evNil, keyIs, keyEq, mkv, AV.cells, AV.sc, optv, bnd, env, put, Env.get, Env.set, Env.del, Env.dels, Env.init, res1, resL, resV, fillP, splice, newRow, Nat.reduceEqDiff, Nat.reduceLT, Nat.reduceLeDiff, Nat.reduceAdd, Nat.reduceMul, Nat.reduceSub, Nat.reduceBEq, reduceCtorEq, ↓zR, zQ, Tr, StA, StT]
  exact hp _ ((Pre.push _ _).trans ((Pre.push _ _).trans (Pre.push _ _)))
theorem rep_flat (n : Nat) : (List.replicate n [AV.int .i64 0, AV.int .i64 0, AV.int .i64 0]).flatten = (List.replicate n ((0, 0, 0) : Clu)).flatMap encC := by
  induction n with
  | zero => rfl
  | succ n ih => rw [List.replicate_succ, List.replicate_succ, List.flatten_cons, List.flatMap_cons, ih]
theorem lp_toClueS {v : AV} {cs : List Clu} (hlen : cs.length < 2 ^ 30) {b : AH} (hs : Slc 3 encC b v cs) {R : X → Env → AH → Prop} : ∀ (rest pre : List Clu) (o : AV) (h : AH), cs = pre ++ rest → OwL 3 encC b h o (pre ++ List.replicate rest.length (0, 0, 0)) → Pre b h →
    (∀ o' h', OwL 3 encC b h' o' cs → Pre b h' → R (.exit 0) [(3, o')] h') → Cx (.loop lp162_0) [(0, v), (3, o), (4, .int .i64 pre.length)] h R k k
  | [], pre, o, h, hpre, ho, hp, hR => by
    rw [w_loopb (c := lp162_0) (d := lb162_0) rfl]; unfold lb162_0
    have hv := fun g => Slc.lenV ((hs.pre hp)) (g := g) (ρ := fun _ => _) (x := .t 0) rfl; simp only [evOp] at hv
    have hl : cs.length = pre.length := by rw [hpre]; simp
    simp (maxSteps := 1000000) (disch := first | omega | rfl | (simp only [zL, two63, room] <;> omega) | fail) only [↓reduceIte, ↓zP, zW, WOp, evOp, evBin, binI, binSh, binS, evNil, keyIs, keyEq, mkv, AV.cells, AV.sc, optv, bnd, env, put, Env.get, Env.set, Env.del, Env.dels, Env.init, res1, resL, resV, fillP, splice, newRow, Nat.reduceEqDiff, Nat.reduceLT, Nat.reduceLeDiff, Nat.reduceAdd, Nat.reduceMul, Nat.reduceSub, Nat.reduceBEq, reduceCtorEq, ↓zR, zQ, Tr, StA, StT, hv, hl]
    refine hR o h ?_ hp
    rw [hpre]
    simpa using ho
  | c :: rest, pre, o, h, hpre, ho, hp, hR => by
    have ih := lp_toClueS hlen hs (R := R) rest (pre ++ [c])
    have hv := fun g => Slc.lenV ((hs.pre hp)) (g := g) (ρ := fun _ => _) (x := .t 0) rfl; simp only [evOp] at hv
    have hll : cs.length = pre.length + 1 + rest.length := by rw [hpre]; simp; omega
    have hs' := hs.pre hp
    rw [hpre] at hs'
    obtain ⟨r1, k1, o1, hve, hr⟩ := hs'.at hlC
    rw [← hpre, hll] at hve
    subst hve
    have hlt : (pre.length : Int) < ((pre.length + 1 + rest.length : Nat) : Int) := by omega
    have hw1 : (pre.length : Int) + 1 = ((pre ++ [c]).length : Int) := by simp
    rw [List.length_cons, List.replicate_succ] at ho
    rw [w_loopb (c := lp162_0) (d := lb162_0) rfl]; unfold lb162_0
    simp (maxSteps := 1000000) (disch := first | omega | rfl | (simp only [zL, two63, room] <;> omega) | fail) only [↓reduceIte, ↓zP, zW, WOp, evOp, evBin, binI, binSh, binS, evNil, keyIs, keyEq, mkv, AV.cells, AV.sc, optv, bnd, env, put, Env.get, Env.set, Env.del, Env.dels, Env.init, res1, resL, resV, fillP, splice, newRow, Nat.reduceEqDiff, Nat.reduceLT, Nat.reduceLeDiff, Nat.reduceAdd, Nat.reduceMul, Nat.reduceSub, Nat.reduceBEq, reduceCtorEq, ↓zR, zQ, Tr, StA, StT, hlt, hr]
    refine c_toClue c ?_
    intro h2 hp2
    obtain ⟨r2, k2, o2, h3, rfl, hw, ho3, hb, hl3, hag⟩ := (ho.pre hp2).store hlC scC c
    have hlt2 : (pre.length : Int) < ((pre ++ ((0, 0, 0) : Clu) :: List.replicate rest.length ((0, 0, 0) : Clu)).length : Int) := by simp; omega
    simp (maxSteps := 1000000) (disch := first | omega | rfl | (simp only [zL, two63, room] <;> omega) | fail) only [↓reduceIte, ↓zP, zW, WOp, evOp, evBin, binI, binSh, binS, evNil, keyIs, keyEq, mkv, AV.cells, AV.sc, optv, bnd, env, put, Env.get, Env.set, Env.del, Env.dels, Env.init, res1, resL, resV, fillP, splice, newRow, Nat.reduceEqDiff, Nat.reduceLT, Nat.reduceLeDiff, Nat.reduceAdd, Nat.reduceMul, Nat.reduceSub, Nat.reduceBEq, reduceCtorEq, ↓zR, zQ, Tr, StA, StT, hlt2, hw, hw1]
    rw [w_loopn (c := lp162_0) rfl]
    simp (maxSteps := 1000000) (disch := first | omega | rfl | (simp only [zL, two63, room] <;> omega) | fail) only [↓reduceIte, ↓zP, zW, WOp, evOp, evBin, binI, binSh, binS, evNil, keyIs, keyEq, mkv, AV.cells, AV.sc, optv, bnd, env, put, Env.get, Env.set, Env.del, Env.dels, Env.init, res1, resL, resV, fillP, splice, newRow, Nat.reduceEqDiff, Nat.reduceLT, Nat.reduceLeDiff, Nat.reduceAdd, Nat.reduceMul, Nat.reduceSub, Nat.reduceBEq, reduceCtorEq, ↓zR, zQ, Tr, StA, StT]
    refine ih _ h3 (by rw [hpre]; simp) (by simpa using ho3) ?_ hR
    exact ⟨by rw [hl3]; exact Nat.le_trans hp.1 hp2.1, fun i hi => by rw [hag i (by omega), hp2.2 i (Nat.lt_of_lt_of_le hi hp.1), hp.2 i hi]⟩
theorem c_toClueS {v : AV} {cs : List Clu} (hlen : cs.length < 2 ^ 30) {h : AH} (hs : Slc 3 encC h v cs) {post : AV → AH → Prop} (hp : ∀ o' h', OwL 3 encC h h' o' cs → Pre h h' → post o' h') : S 162 [v] h post k := by
  refine S_of rfl T162 ?_; unfold fi162
  have hv := fun g => Slc.lenV (hs) (g := g) (ρ := fun _ => _) (x := .t 0) rfl; simp only [evOp] at hv
  have hr : (cs.length : Int) ≤ 1099511627776 := by omega
  have hroom : ((room : Nat) : Int) = 1099511627776 := rfl
  have hsc : ((List.replicate cs.length ((0, 0, 0) : Clu)).flatMap encC).all AV.sc = true := by
    rw [List.all_eq_true]
    intro x hx
    obtain ⟨c, _, hc⟩ := List.mem_flatMap.1 hx
    exact List.all_eq_true.1 (scC c) x hc
  simp (maxSteps := 1000000) (disch := first | omega | rfl | (simp only [zL, two63, room] <;> omega) | fail) only [↓reduceIte, ↓zP, zW, WOp, evOp, evBin, binI, binSh, binS, evNil, keyIs, keyEq, mkv, AV.cells, AV.sc, optv, bnd, env, put, Env.get, Env.set, Env.del, Env.dels, Env.init, res1, resL, resV, fillP, splice, newRow, Nat.reduceEqDiff, Nat.reduceLT, Nat.reduceLeDiff, Nat.reduceAdd, Nat.reduceMul, Nat.reduceSub, Nat.reduceBEq, reduceCtorEq, ↓zR, zQ, Tr, StA, StT, hv, hroom, rep_flat, hsc]
  refine lp_toClueS hlen (b := h) hs cs [] _ _ rfl ?_ (Pre.push _ _) ?_
  · unfold OwL Own
    exact ⟨rfl, by simp, by (rw [flat_len hlC]; try simp), Nat.le_refl _, (List.replicate cs.length ((0, 0, 0) : Clu)).flatMap encC, 0, by simp, Nat.le_refl _, by rw [flat_len hlC]; simp, by simp⟩
  · intro o' h' ho hp'
    simp (maxSteps := 1000000) (disch := first | omega | rfl | (simp only [zL, two63, room] <;> omega) | fail) only [↓reduceIte, ↓zP, zW, WOp, evOp, evBin, binI, binSh, binS, evNil, keyIs, keyEq, mkv, AV.cells, AV.sc, optv, bnd, env, put, Env.get, Env.set, Env.del, Env.dels, Env.init, res1, resL, resV, fillP, splice, newRow, Nat.reduceEqDiff, Nat.reduceLT, Nat.reduceLeDiff, Nat.reduceAdd, Nat.reduceMul, Nat.reduceSub, Nat.reduceBEq, reduceCtorEq, ↓zR, zQ, Tr, StA, StT]
    exact hp o' h' ho hp'
theorem c_toPuzzle (n : Int) {v : AV} {cs : List Clu} (hlen : cs.length < 2 ^ 30) {h : AH} (hs : Slc 3 encC h v cs) {post : AV → AH → Prop} (hp : ∀ o' h', OwL 3 encC h h' o' cs → Pre h h' → post (pzV n o') h') : S 136 [pzV n v] h post k := by
  have hsc := (sl_cells hs).2
  unfold AV.sc at hsc
  have hpre3 := (Pre.push h (AO.row [.int .i64 n, v] 0 0 false)).trans ((Pre.push _ (AO.row [.int .i64 0, .nilS] 0 0 false)).trans (Pre.push _ (AO.row [.int .i64 n, .nilS] 0 0 false)))
  refine S_of rfl T136 ?_; unfold fi136
  simp (maxSteps := 1000000) (disch := first | omega | rfl | (simp only [zL, two63, room] <;> omega) | fail) only [↓reduceIte, ↓zP, zW, WOp, evOp, evBin, binI, binSh, binS, evNil, keyIs, keyEq, mkv, AV.cells, AV.sc, optv, bnd, env, put, Env.get, Env.set, Env.del, Env.dels, Env.init, res1, resL, resV, fillP, splice, newRow, Nat.reduceEqDiff, Nat.reduceLT, Nat.reduceLeDiff, Nat.reduceAdd, Nat.reduceMul, Nat.reduceSub, Nat.reduceBEq, reduceCtorEq, ↓zR, zQ, Tr, StA, StT, hsc]
  generalize hg : h ++ [AO.row [.int .i64 n, v] 0 0 false] ++ [AO.row [.int .i64 0, .nilS] 0 0 false] = g1 at *
  refine c_toClueS hlen (hs.pre hpre3) ?_
  intro o h2 ho hp2
  have q1 := (sl_cells ho.slc).1
  have q2 := (sl_cells ho.slc).2
  simp only [AV.cells] at q1
  unfold AV.sc at q2
  have hb := pre_last hp2
  have hgl : g1.length = h.length + 2 := by rw [← hg]; simp
  have hb2 : h2[h.length + 1]? = some (AO.row [.int .i64 0, .nilS] 0 0 false) := by
    rw [hp2.2 _ (by simp; omega), List.getElem?_append_left (by omega), ← hg, List.getElem?_append_right (by simp)]
    simp
  have hlt := (List.getElem?_eq_some_iff.1 hb).1
  have hb3 : ∀ o' : AO, (h2.set g1.length o')[h.length + 1]? = some (AO.row [.int .i64 0, .nilS] 0 0 false) := fun o' => by rw [List.getElem?_set, if_neg (by omega), hb2]
  have hcl : (h ++ [AO.row [.int .i64 n, v] 0 0 false]).length = h.length + 1 := by simp
  rw [hcl]
  have hlt2 : h.length + 1 < h2.length := by omega
  simp (maxSteps := 1000000) (disch := first | omega | rfl | (simp only [zL, two63, room] <;> omega) | fail) only [↓reduceIte, ↓zP, zW, WOp, evOp, evBin, binI, binSh, binS, evNil, keyIs, keyEq, mkv, AV.cells, AV.sc, optv, bnd, env, put, Env.get, Env.set, Env.del, Env.dels, Env.init, res1, resL, resV, fillP, splice, newRow, Nat.reduceEqDiff, Nat.reduceLT, Nat.reduceLeDiff, Nat.reduceAdd, Nat.reduceMul, Nat.reduceSub, Nat.reduceBEq, reduceCtorEq, ↓zR, zQ, Tr, StA, StT, wr_of hb, wr_of (hb3 _), q1, q2, List.length_set]
  refine hp o _ ?_ ?_
  · refine own_base (b := g1 ++ [AO.row [.int .i64 n, .nilS] 0 0 false]) ?_ (by simp; omega)
    exact own_set (own_set ho (by simp)) (by simp; omega)
  · have := hpre3.trans hp2
    exact (this.set (by omega)).set (by omega)
theorem e_eqClue0 (c d : Clu) {h : AH} {post : AV → AH → Prop} (hp : ∀ h', Pre h h' → post (.bool (c == d)) h') : S 175 [.agg (encC c), .agg (encC d)] h post k := by
  obtain ⟨a1, a2, a3⟩ := c
  obtain ⟨b1, b2, b3⟩ := d
  have hq := hp _ ((Pre.push h (AO.row (encC (a1, a2, a3)) 0 0 false)).trans (Pre.push _ (AO.row (encC (b1, b2, b3)) 0 0 false)))
  have hb : (((a1, a2, a3) : Clu) == (b1, b2, b3)) = (a1 == b1 && (a2 == b2 && a3 == b3)) := rfl
  rw [hb] at hq
  refine S_of rfl T175 ?_; unfold fi175
  by_cases h1 : a1 = b1
  · by_cases h2 : a2 = b2
    · by_cases h3 : a3 = b3
      · simp (maxSteps := 1000000) (disch := first | omega | rfl | (simp only [zL, two63, room] <;> omega) | fail) only [↓reduceIte, ↓zP, zW, WOp, evOp, evBin, binI, binSh, binS, evNil, keyIs, keyEq, mkv, AV.cells, AV.sc, optv, bnd, env, put, Env.get, Env.set, Env.del, Env.dels, Env.init, res1, resL, resV, fillP, splice, newRow, Nat.reduceEqDiff, Nat.reduceLT, Nat.reduceLeDiff, Nat.reduceAdd, Nat.reduceMul, Nat.reduceSub, Nat.reduceBEq, reduceCtorEq, ↓zR, zQ, Tr, StA, StT]
        simpa [h1, h2, h3] using hq
      · simp (maxSteps := 1000000) (disch := first | omega | rfl | (simp only [zL, two63, room] <;> omega) | fail) only [↓reduceIte, ↓zP, zW, WOp, evOp, evBin, binI, binSh, binS, evNil, keyIs, keyEq, mkv, AV.cells, AV.sc, optv, bnd, env, put, Env.get, Env.set, Env.del, Env.dels, Env.init, res1, resL, resV, fillP, splice, newRow, Nat.reduceEqDiff, Nat.reduceLT, Nat.reduceLeDiff, Nat.reduceAdd, Nat.reduceMul, Nat.reduceSub, Nat.reduceBEq, reduceCtorEq, ↓zR, zQ, Tr, StA, StT]
        have e3 : (a3 == b3) = false := beq_eq_false_iff_ne.2 h3
        simpa [h1, h2, e3] using hq
    · simp (maxSteps := 1000000) (disch := first | omega | rfl | (simp only [zL, two63, room] <;> omega) | fail) only [↓reduceIte, ↓zP, zW, WOp, evOp, evBin, binI, binSh, binS, evNil, keyIs, keyEq, mkv, AV.cells, AV.sc, optv, bnd, env, put, Env.get, Env.set, Env.del, Env.dels, Env.init, res1, resL, resV, fillP, splice, newRow, Nat.reduceEqDiff, Nat.reduceLT, Nat.reduceLeDiff, Nat.reduceAdd, Nat.reduceMul, Nat.reduceSub, Nat.reduceBEq, reduceCtorEq, ↓zR, zQ, Tr, StA, StT]
      have e2 : (a2 == b2) = false := beq_eq_false_iff_ne.2 h2
      simpa [h1, e2] using hq
  · simp (maxSteps := 1000000) (disch := first | omega | rfl | (simp only [zL, two63, room] <;> omega) | fail) only [↓reduceIte, ↓zP, zW, WOp, evOp, evBin, binI, binSh, binS, evNil, keyIs, keyEq, mkv, AV.cells, AV.sc, optv, bnd, env, put, Env.get, Env.set, Env.del, Env.dels, Env.init, res1, resL, resV, fillP, splice, newRow, Nat.reduceEqDiff, Nat.reduceLT, Nat.reduceLeDiff, Nat.reduceAdd, Nat.reduceMul, Nat.reduceSub, Nat.reduceBEq, reduceCtorEq, ↓zR, zQ, Tr, StA, StT]
    have e1 : (a1 == b1) = false := beq_eq_false_iff_ne.2 h1
    simpa [e1] using hq
theorem beq_cc {α : Type} [BEq α] (x y : α) (l l' : List α) : (x :: l == y :: l') = (x == y && l == l') := rfl
theorem lp_eqClueS {v u : AV} {L M : List Clu} (hlen : L.length < 2 ^ 30) {b : AH} (hs : Slc 3 encC b v L) (ht : Slc 3 encC b u M) (hll : L.length = M.length) {R : X → Env → AH → Prop} : ∀ (rest rest' pre pre' : List Clu) (h : AH), L = pre ++ rest → M = pre' ++ rest' → pre.length = pre'.length → Pre b h →
    (∀ h', Pre b h' → (rest == rest') = true → R (.exit 0) [] h') → (∀ h', Pre b h' → (rest == rest') = false → R .ret [(4, .bool false)] h') → Cx (.loop lp164_0) [(0, v), (1, u), (5, .int .i64 pre.length)] h R k k
  | [], rest', pre, pre', h, hL, hM, hpp, hp, h1, h2 => by
    have : rest' = [] := by
      have e1 := congrArg List.length hL
      have e2 := congrArg List.length hM
      simp at e1 e2
      exact List.eq_nil_of_length_eq_zero (by omega)
    subst this
    rw [w_loopb (c := lp164_0) (d := lb164_0) rfl]; unfold lb164_0
    have hv := fun g => Slc.lenV ((hs.pre hp)) (g := g) (ρ := fun _ => _) (x := .t 0) rfl; simp only [evOp] at hv
    have hl : L.length = pre.length := by rw [hL]; simp
    simp (maxSteps := 1000000) (disch := first | omega | rfl | (simp only [zL, two63, room] <;> omega) | fail) only [↓reduceIte, ↓zP, zW, WOp, evOp, evBin, binI, binSh, binS, evNil, keyIs, keyEq, mkv, AV.cells, AV.sc, optv, bnd, env, put, Env.get, Env.set, Env.del, Env.dels, Env.init, res1, resL, resV, fillP, splice, newRow, Nat.reduceEqDiff, Nat.reduceLT, Nat.reduceLeDiff, Nat.reduceAdd, Nat.reduceMul, Nat.reduceSub, Nat.reduceBEq, reduceCtorEq, ↓zR, zQ, Tr, StA, StT, hv, hl]
    exact h1 h hp rfl
  | x :: rest, [], pre, pre', h, hL, hM, hpp, hp, h1, h2 => by
    have e1 := congrArg List.length hL
    have e2 := congrArg List.length hM
    simp at e1 e2
    omega
  | x :: rest, y :: rest', pre, pre', h, hL, hM, hpp, hp, h1, h2 => by
    have ih := lp_eqClueS hlen hs ht hll (R := R) rest rest' (pre ++ [x]) (pre' ++ [y])
    have hv := fun g => Slc.lenV ((hs.pre hp)) (g := g) (ρ := fun _ => _) (x := .t 0) rfl; simp only [evOp] at hv
    have hl : L.length = pre.length + 1 + rest.length := by rw [hL]; simp; omega
    have hm : M.length = pre.length + 1 + rest'.length := by rw [hM, hpp]; simp; omega
    have hs' := hs.pre hp
    have ht' := ht.pre hp
    rw [hL] at hs'
    rw [hM] at ht'
    obtain ⟨r1, k1, o1, hve, hr⟩ := hs'.at hlC
    obtain ⟨r2, k2, o2, hue, hr2⟩ := ht'.at hlC
    rw [← hL, hl] at hve
    rw [← hM, hm] at hue
    rw [← hpp] at hr2
    subst hve
    subst hue
    have hlt : (pre.length : Int) < ((pre.length + 1 + rest.length : Nat) : Int) := by omega
    have hlt2 : (pre.length : Int) < ((pre.length + 1 + rest'.length : Nat) : Int) := by omega
    have hw1 : (pre.length : Int) + 1 = ((pre ++ [x]).length : Int) := by simp
    rw [w_loopb (c := lp164_0) (d := lb164_0) rfl]; unfold lb164_0
    simp (maxSteps := 1000000) (disch := first | omega | rfl | (simp only [zL, two63, room] <;> omega) | fail) only [↓reduceIte, ↓zP, zW, WOp, evOp, evBin, binI, binSh, binS, evNil, keyIs, keyEq, mkv, AV.cells, AV.sc, optv, bnd, env, put, Env.get, Env.set, Env.del, Env.dels, Env.init, res1, resL, resV, fillP, splice, newRow, Nat.reduceEqDiff, Nat.reduceLT, Nat.reduceLeDiff, Nat.reduceAdd, Nat.reduceMul, Nat.reduceSub, Nat.reduceBEq, reduceCtorEq, ↓zR, zQ, Tr, StA, StT, hlt, hlt2, hr, hr2]
    refine e_eqClue0 x y ?_
    intro h3 hp3
    cases e : (x == y)
    · simp (maxSteps := 1000000) (disch := first | omega | rfl | (simp only [zL, two63, room] <;> omega) | fail) only [↓reduceIte, ↓zP, zW, WOp, evOp, evBin, binI, binSh, binS, evNil, keyIs, keyEq, mkv, AV.cells, AV.sc, optv, bnd, env, put, Env.get, Env.set, Env.del, Env.dels, Env.init, res1, resL, resV, fillP, splice, newRow, Nat.reduceEqDiff, Nat.reduceLT, Nat.reduceLeDiff, Nat.reduceAdd, Nat.reduceMul, Nat.reduceSub, Nat.reduceBEq, reduceCtorEq, ↓zR, zQ, Tr, StA, StT]
      exact h2 h3 (hp.trans hp3) (by rw [beq_cc, e]; rfl)
    · simp (maxSteps := 1000000) (disch := first | omega | rfl | (simp only [zL, two63, room] <;> omega) | fail) only [↓reduceIte, ↓zP, zW, WOp, evOp, evBin, binI, binSh, binS, evNil, keyIs, keyEq, mkv, AV.cells, AV.sc, optv, bnd, env, put, Env.get, Env.set, Env.del, Env.dels, Env.init, res1, resL, resV, fillP, splice, newRow, Nat.reduceEqDiff, Nat.reduceLT, Nat.reduceLeDiff, Nat.reduceAdd, Nat.reduceMul, Nat.reduceSub, Nat.reduceBEq, reduceCtorEq, ↓zR, zQ, Tr, StA, StT, hw1]
      rw [w_loopn (c := lp164_0) rfl]
      simp (maxSteps := 1000000) (disch := first | omega | rfl | (simp only [zL, two63, room] <;> omega) | fail) only [↓reduceIte, ↓zP, zW, WOp, evOp, evBin, binI, binSh, binS, evNil, keyIs, keyEq, mkv, AV.cells, AV.sc, optv, bnd, env, put, Env.get, Env.set, Env.del, Env.dels, Env.init, res1, resL, resV, fillP, splice, newRow, Nat.reduceEqDiff, Nat.reduceLT, Nat.reduceLeDiff, Nat.reduceAdd, Nat.reduceMul, Nat.reduceSub, Nat.reduceBEq, reduceCtorEq, ↓zR, zQ, Tr, StA, StT]
      refine ih h3 (by rw [hL]; simp) (by rw [hM]; simp) (by simp [hpp]) (hp.trans hp3) (fun h' q1 q2 => h1 h' q1 (by rw [beq_cc, e, q2]; rfl)) (fun h' q1 q2 => h2 h' q1 (by rw [beq_cc, e, q2]; rfl))
theorem c_eqClueS {v u : AV} {L M : List Clu} (hlen : L.length < 2 ^ 30) {h : AH} (hs : Slc 3 encC h v L) (ht : Slc 3 encC h u M) {post : AV → AH → Prop} (hp : ∀ h', Pre h h' → post (.bool (L == M)) h') : S 164 [v, u] h post k := by
  refine S_of rfl T164 ?_; unfold fi164
  have hv := fun g => Slc.lenV (hs) (g := g) (ρ := fun _ => _) (x := .t 0) rfl; simp only [evOp] at hv
  have hu := fun g => Slc.lenV (ht) (g := g) (ρ := fun _ => _) (x := .t 0) rfl; simp only [evOp] at hu
  by_cases hl : L.length = M.length
  · simp (maxSteps := 1000000) (disch := first | omega | rfl | (simp only [zL, two63, room] <;> omega) | fail) only [↓reduceIte, ↓zP, zW, WOp, evOp, evBin, binI, binSh, binS, evNil, keyIs, keyEq, mkv, AV.cells, AV.sc, optv, bnd, env, put, Env.get, Env.set, Env.del, Env.dels, Env.init, res1, resL, resV, fillP, splice, newRow, Nat.reduceEqDiff, Nat.reduceLT, Nat.reduceLeDiff, Nat.reduceAdd, Nat.reduceMul, Nat.reduceSub, Nat.reduceBEq, reduceCtorEq, ↓zR, zQ, Tr, StA, StT, hv, hu, hl]
    refine lp_eqClueS hlen hs ht hl L M [] [] h rfl rfl rfl (Pre.refl _) ?_ ?_
    · intro h' hp' e
      simp (maxSteps := 1000000) (disch := first | omega | rfl | (simp only [zL, two63, room] <;> omega) | fail) only [↓reduceIte, ↓zP, zW, WOp, evOp, evBin, binI, binSh, binS, evNil, keyIs, keyEq, mkv, AV.cells, AV.sc, optv, bnd, env, put, Env.get, Env.set, Env.del, Env.dels, Env.init, res1, resL, resV, fillP, splice, newRow, Nat.reduceEqDiff, Nat.reduceLT, Nat.reduceLeDiff, Nat.reduceAdd, Nat.reduceMul, Nat.reduceSub, Nat.reduceBEq, reduceCtorEq, ↓zR, zQ, Tr, StA, StT]
      exact e ▸ hp h' hp'
    · intro h' hp' e
      simp (maxSteps := 1000000) (disch := first | omega | rfl | (simp only [zL, two63, room] <;> omega) | fail) only [↓reduceIte, ↓zP, zW, WOp, evOp, evBin, binI, binSh, binS, evNil, keyIs, keyEq, mkv, AV.cells, AV.sc, optv, bnd, env, put, Env.get, Env.set, Env.del, Env.dels, Env.init, res1, resL, resV, fillP, splice, newRow, Nat.reduceEqDiff, Nat.reduceLT, Nat.reduceLeDiff, Nat.reduceAdd, Nat.reduceMul, Nat.reduceSub, Nat.reduceBEq, reduceCtorEq, ↓zR, zQ, Tr, StA, StT]
      exact e ▸ hp h' hp'
  · have hne : ((L.length : Int) != (M.length : Int)) = true := by simp; omega
    simp (maxSteps := 1000000) (disch := first | omega | rfl | (simp only [zL, two63, room] <;> omega) | fail) only [↓reduceIte, ↓zP, zW, WOp, evOp, evBin, binI, binSh, binS, evNil, keyIs, keyEq, mkv, AV.cells, AV.sc, optv, bnd, env, put, Env.get, Env.set, Env.del, Env.dels, Env.init, res1, resL, resV, fillP, splice, newRow, Nat.reduceEqDiff, Nat.reduceLT, Nat.reduceLeDiff, Nat.reduceAdd, Nat.reduceMul, Nat.reduceSub, Nat.reduceBEq, reduceCtorEq, ↓zR, zQ, Tr, StA, StT, hv, hu, hne]
    have : (L == M) = false := by
      rw [beq_eq_false_iff_ne]; rintro rfl; exact hl rfl
    exact this ▸ hp h (Pre.refl _)
theorem c_eqPuzzle (n m : Int) {v u : AV} {L M : List Clu} (hlen : L.length < 2 ^ 30) {h : AH} (hs : Slc 3 encC h v L) (ht : Slc 3 encC h u M) {post : AV → AH → Prop} (hp : ∀ h', Pre h h' → post (.bool (n == m && L == M)) h') : S 139 [pzV n v, pzV m u] h post k := by
  have hsc := (sl_cells hs).2
  have hsu := (sl_cells ht).2
  unfold AV.sc at hsc hsu
  have hpp := (Pre.push h (AO.row [.int .i64 n, v] 0 0 false)).trans (Pre.push _ (AO.row [.int .i64 m, u] 0 0 false))
  have hq := hp _ hpp
  refine S_of rfl T139 ?_; unfold fi139
  by_cases h1 : n = m
  · subst h1
    simp (maxSteps := 1000000) (disch := first | omega | rfl | (simp only [zL, two63, room] <;> omega) | fail) only [↓reduceIte, ↓zP, zW, WOp, evOp, evBin, binI, binSh, binS, evNil, keyIs, keyEq, mkv, AV.cells, AV.sc, optv, bnd, env, put, Env.get, Env.set, Env.del, Env.dels, Env.init, res1, resL, resV, fillP, splice, newRow, Nat.reduceEqDiff, Nat.reduceLT, Nat.reduceLeDiff, Nat.reduceAdd, Nat.reduceMul, Nat.reduceSub, Nat.reduceBEq, reduceCtorEq, ↓zR, zQ, Tr, StA, StT, hsc, hsu]
    refine c_eqClueS hlen (hs.pre hpp) (ht.pre hpp) ?_
    intro h' hp'
    have := hp h' (hpp.trans hp')
    cases e : (L == M) <;> simp (maxSteps := 1000000) (disch := first | omega | rfl | (simp only [zL, two63, room] <;> omega) | fail) only [↓reduceIte, ↓zP, zW, WOp, evOp, evBin, binI, binSh, binS, evNil, keyIs, keyEq, mkv, AV.cells, AV.sc, optv, bnd, env, put, Env.get, Env.set, Env.del, Env.dels, Env.init, res1, resL, resV, fillP, splice, newRow, Nat.reduceEqDiff, Nat.reduceLT, Nat.reduceLeDiff, Nat.reduceAdd, Nat.reduceMul, Nat.reduceSub, Nat.reduceBEq, reduceCtorEq, ↓zR, zQ, Tr, StA, StT] <;> simpa [e] using this
  · simp (maxSteps := 1000000) (disch := first | omega | rfl | (simp only [zL, two63, room] <;> omega) | fail) only [↓reduceIte, ↓zP, zW, WOp, evOp, evBin, binI, binSh, binS, evNil, keyIs, keyEq, mkv, AV.cells, AV.sc, optv, bnd, env, put, Env.get, Env.set, Env.del, Env.dels, Env.init, res1, resL, resV, fillP, splice, newRow, Nat.reduceEqDiff, Nat.reduceLT, Nat.reduceLeDiff, Nat.reduceAdd, Nat.reduceMul, Nat.reduceSub, Nat.reduceBEq, reduceCtorEq, ↓zR, zQ, Tr, StA, StT, hsc, hsu]
    have e1 : (n == m) = false := beq_eq_false_iff_ne.2 h1
    simpa [e1] using hq

end Go.Proofs.YtmlmfjjfciiblaaGreatDoor.Ab

/- PUZZLES: the first solution, whether one alone is left; their laws. -/
namespace Go.Proofs.YtmlmfjjfciiblaaGreatDoor.Ab
open Go
set_option maxRecDepth 100000
set_option maxHeartbeats 4000000

def solP (n : Int) (cs : List Clu) : List (List UInt8) := if goodP n cs then solN n cs else []

theorem c_IsSolved (n : Int) {v : AV} {cs : List Clu} (hlen : cs.length < 2 ^ 30) {h : AH} (hs : Slc 3 encC h v cs) {post : AV → AH → Prop} (hp : ∀ h', Pre h h' → post (.tup [.bool (countP n cs == 1), .bool (goodP n cs)]) h') : S 142 [pzV n v] h post k := by
  have hpush := Pre.push h (AO.row [.int .i64 n, v] 0 0 false)
  have hsc := (sl_cells hs).2
  unfold AV.sc at hsc
  refine S_of rfl T142 ?_; unfold fi142
  simp (maxSteps := 1000000) (disch := first | omega | rfl | (simp only [zL, two63, room] <;> omega) | fail) only [↓reduceIte, ↓zP, zW, WOp, evOp, evBin, binI, binSh, binS, evNil, keyIs, keyEq, mkv, AV.cells, AV.sc, optv, bnd, env, put, Env.get, Env.set, Env.del, Env.dels, Env.init, res1, resL, resV, fillP, splice, newRow, Nat.reduceEqDiff, Nat.reduceLT, Nat.reduceLeDiff, Nat.reduceAdd, Nat.reduceMul, Nat.reduceSub, Nat.reduceBEq, reduceCtorEq, ↓zR, zQ, Tr, StA, StT, hsc]
  refine c_CountSolutions n hlen (hs.pre hpush) ?_
  intro h2 hp2
  simp (maxSteps := 1000000) (disch := first | omega | rfl | (simp only [zL, two63, room] <;> omega) | fail) only [↓reduceIte, ↓zP, zW, WOp, evOp, evBin, binI, binSh, binS, evNil, keyIs, keyEq, mkv, AV.cells, AV.sc, optv, bnd, env, put, Env.get, Env.set, Env.del, Env.dels, Env.init, res1, resL, resV, fillP, splice, newRow, Nat.reduceEqDiff, Nat.reduceLT, Nat.reduceLeDiff, Nat.reduceAdd, Nat.reduceMul, Nat.reduceSub, Nat.reduceBEq, reduceCtorEq, ↓zR, zQ, Tr, StA, StT]
  exact hp h2 (hpush.trans hp2)
theorem c_pzSolved (m : Nat) (m5 : m ≤ 5) {v : AV} {cs : List Clu} (hlen : cs.length < 2 ^ 30) (mok : ∀ c ∈ cs, clueOk m c = true) {h : AH} (hs : Slc 3 encC h v cs) {post : AV → AH → Prop} (hp : ∀ h', Pre h h' → post (.bool (((fitL m cs).length : Int) == 1)) h') : S 165 [.int .i64 m, v] h post k := by
  refine S_of rfl T165 ?_; unfold fi165
  simp (maxSteps := 1000000) (disch := first | omega | rfl | (simp only [zL, two63, room] <;> omega) | fail) only [↓reduceIte, ↓zP, zW, WOp, evOp, evBin, binI, binSh, binS, evNil, keyIs, keyEq, mkv, AV.cells, AV.sc, optv, bnd, env, put, Env.get, Env.set, Env.del, Env.dels, Env.init, res1, resL, resV, fillP, splice, newRow, Nat.reduceEqDiff, Nat.reduceLT, Nat.reduceLeDiff, Nat.reduceAdd, Nat.reduceMul, Nat.reduceSub, Nat.reduceBEq, reduceCtorEq, ↓zR, zQ, Tr, StA, StT]
  refine c_pzAll m m5 hlen mok hs ?_
  intro v' h3 ho hp3
  have hv := fun g => Slc.lenV (ho.slc) (g := g) (ρ := fun _ => _) (x := .t 0) rfl; simp only [evOp] at hv
  simp (maxSteps := 1000000) (disch := first | omega | rfl | (simp only [zL, two63, room] <;> omega) | fail) only [↓reduceIte, ↓zP, zW, WOp, evOp, evBin, binI, binSh, binS, evNil, keyIs, keyEq, mkv, AV.cells, AV.sc, optv, bnd, env, put, Env.get, Env.set, Env.del, Env.dels, Env.init, res1, resL, resV, fillP, splice, newRow, Nat.reduceEqDiff, Nat.reduceLT, Nat.reduceLeDiff, Nat.reduceAdd, Nat.reduceMul, Nat.reduceSub, Nat.reduceBEq, reduceCtorEq, ↓zR, zQ, Tr, StA, StT, hv]
  exact hp h3 hp3
end Go.Proofs.YtmlmfjjfciiblaaGreatDoor.Ab

/- MARKS: what the laws' helpers write into a slice and find there again; slices of numbers compared. -/
namespace Go.Proofs.YtmlmfjjfciiblaaGreatDoor.Ab
open Go
set_option maxRecDepth 100000
set_option maxHeartbeats 4000000

theorem splice_in {X vs : List AV} {o : Nat} (h : o + vs.length ≤ X.length) (A Z : List AV) {n : Nat} (hn : n = A.length + o) : splice (A ++ (X ++ Z)) n vs = A ++ (splice X o vs ++ Z) := by
  subst hn
  unfold splice
  rw [List.take_append, List.take_of_length_le (by omega), show A.length + o - A.length = o by omega, List.take_append_of_le_length (by omega),
    List.drop_append, List.drop_of_length_le (by omega), show A.length + o + vs.length - A.length = o + vs.length by omega, List.drop_append_of_le_length (by omega)]
  simp
theorem OwW.store {α : Type} {esz : Nat} {enc : α → List AV} (hl : ∀ x, (enc x).length = esz) {b h : AH} {v : AV} {pre : List α} {x : α} {rest : List α} (ho : OwW esz enc b h v (pre ++ x :: rest)) (y : α) (o : Nat) (vs : List AV) (hvs : o + vs.length ≤ esz) (hsc : vs.all AV.sc = true) (hy : splice (enc x) o vs = enc y) :
    ∃ c kk off h', v = .slice c kk off (pre ++ x :: rest).length esz ∧ wrRow h c kk (off + pre.length * esz + o) vs = some h' ∧ OwW esz enc b h' v (pre ++ y :: rest) ∧ PreV v h h' := by
  unfold OwW at ho
  cases v <;> simp only at ho <;> first
    | (exact ho.elim)
    | (simp at ho; done)
    | skip
  rename_i c kk off len e
  obtain ⟨rfl, rfl, h3, A, Z, fl, h4, h5, h6⟩ := ho
  have hlt := (List.getElem?_eq_some_iff.1 h4).1
  have hpl := flat_len hl pre
  have hrow : A ++ (pre ++ x :: rest).flatMap enc ++ Z = (A ++ pre.flatMap enc) ++ (enc x ++ (rest.flatMap enc ++ Z)) := by simp
  have hsp := splice_in (X := enc x) (vs := vs) (o := o) (by rw [hl]; exact hvs) (A ++ pre.flatMap enc) (rest.flatMap enc ++ Z) (n := off + pre.length * e + o) (by rw [List.length_append, hpl, h6])
  rw [hrow] at h4
  refine ⟨c, kk, off, h.set c (.row (splice ((A ++ pre.flatMap enc) ++ (enc x ++ (rest.flatMap enc ++ Z))) (off + pre.length * e + o) vs) kk kk false), rfl, ?_, ?_, ?_⟩
  · unfold wrRow
    rw [h4]
    simp only
    rw [if_pos ⟨trivial, h5, by simp only [List.length_append, hpl, hl, h6]; omega, hsc⟩]
  · unfold OwW
    simp only
    refine ⟨trivial, by simp, h3, A, Z, kk, ?_, Nat.le_refl _, h6⟩
    rw [List.getElem?_set, if_pos rfl, if_pos hlt, hsp, hy]
    simp
  · exact ⟨by simp, fun i _ hc => by rw [List.getElem?_set, if_neg (hc c kk off _ e rfl ·.symm)]⟩
theorem PreV.trans {v : AV} {a b c : AH} (x : PreV v a b) (y : PreV v b c) : PreV v a c := ⟨Nat.le_trans x.1 y.1, fun i hi hc => by rw [y.2 i (Nat.lt_of_lt_of_le hi x.1) hc, x.2 i hi hc]⟩
theorem PreV.refl (v : AV) (a : AH) : PreV v a a := ⟨Nat.le_refl _, fun _ _ _ => rfl⟩

theorem lp_eqSI {v u : AV} {L M : List Int} (hlen : L.length < 2 ^ 40) {h : AH} (hs : Slc 1 encI h v L) (ht : Slc 1 encI h u M) (hll : L.length = M.length) {R : X → Env → AH → Prop} : ∀ (rest rest' pre pre' : List Int), L = pre ++ rest → M = pre' ++ rest' → pre.length = pre'.length →
    ((rest == rest') = true → R (.exit 0) [] h) → ((rest == rest') = false → R .ret [(4, .bool false)] h) → Cx (.loop lp155_0) [(0, v), (1, u), (5, .int .i64 pre.length)] h R k k
  | [], rest', pre, pre', hL, hM, hpp, h1, h2 => by
    have : rest' = [] := by
      have e1 := congrArg List.length hL
      have e2 := congrArg List.length hM
      simp at e1 e2
      exact List.eq_nil_of_length_eq_zero (by omega)
    subst this
    rw [w_loopb (c := lp155_0) (d := lb155_0) rfl]; unfold lb155_0
    have hv := fun g => Slc.lenV (hs) (g := g) (ρ := fun _ => _) (x := .t 0) rfl; simp only [evOp] at hv
    have hl : L.length = pre.length := by rw [hL]; simp
    simp (maxSteps := 1000000) (disch := first | omega | rfl | (simp only [zL, two63, room] <;> omega) | fail) only [↓reduceIte, ↓zP, zW, WOp, evOp, evBin, binI, binSh, binS, evNil, keyIs, keyEq, mkv, AV.cells, AV.sc, optv, bnd, env, put, Env.get, Env.set, Env.del, Env.dels, Env.init, res1, resL, resV, fillP, splice, newRow, Nat.reduceEqDiff, Nat.reduceLT, Nat.reduceLeDiff, Nat.reduceAdd, Nat.reduceMul, Nat.reduceSub, Nat.reduceBEq, reduceCtorEq, ↓zR, zQ, Tr, StA, StT, hv, hl]
    exact h1 rfl
  | x :: rest, [], pre, pre', hL, hM, hpp, h1, h2 => by
    have e1 := congrArg List.length hL
    have e2 := congrArg List.length hM
    simp at e1 e2
    omega
  | x :: rest, y :: rest', pre, pre', hL, hM, hpp, h1, h2 => by
    have ih := lp_eqSI hlen hs ht hll (R := R) rest rest' (pre ++ [x]) (pre' ++ [y])
    have hv := fun g => Slc.lenV (hs) (g := g) (ρ := fun _ => _) (x := .t 0) rfl; simp only [evOp] at hv
    have hl : L.length = pre.length + 1 + rest.length := by rw [hL]; simp; omega
    have hm : M.length = pre.length + 1 + rest'.length := by rw [hM, hpp]; simp; omega
    have hs' := hs
    have ht' := ht
    rw [hL] at hs'
    rw [hM] at ht'
    obtain ⟨r1, k1, o1, hve, hr⟩ := hs'.at hlI
    obtain ⟨r2, k2, o2, hue, hr2⟩ := ht'.at hlI
    rw [← hL, hl] at hve
    rw [← hM, hm] at hue
    rw [← hpp] at hr2
    subst hve
    subst hue
    have hlt : (pre.length : Int) < ((pre.length + 1 + rest.length : Nat) : Int) := by omega
    have hlt2 : (pre.length : Int) < ((pre.length + 1 + rest'.length : Nat) : Int) := by omega
    have hw1 : (pre.length : Int) + 1 = ((pre ++ [x]).length : Int) := by simp
    rw [w_loopb (c := lp155_0) (d := lb155_0) rfl]; unfold lb155_0
    cases e : (x == y)
    · have en : (x != y) = true := by simp only [bne, e]; rfl
      simp (maxSteps := 1000000) (disch := first | omega | rfl | (simp only [zL, two63, room] <;> omega) | fail) only [↓reduceIte, ↓zP, zW, WOp, evOp, evBin, binI, binSh, binS, evNil, keyIs, keyEq, mkv, AV.cells, AV.sc, optv, bnd, env, put, Env.get, Env.set, Env.del, Env.dels, Env.init, res1, resL, resV, fillP, splice, newRow, Nat.reduceEqDiff, Nat.reduceLT, Nat.reduceLeDiff, Nat.reduceAdd, Nat.reduceMul, Nat.reduceSub, Nat.reduceBEq, reduceCtorEq, ↓zR, zQ, Tr, StA, StT, hlt, hlt2, hr, hr2, en]
      exact h2 (by rw [beq_cc, e]; rfl)
    · have en : (x != y) = false := by simp only [bne, e]; rfl
      simp (maxSteps := 1000000) (disch := first | omega | rfl | (simp only [zL, two63, room] <;> omega) | fail) only [↓reduceIte, ↓zP, zW, WOp, evOp, evBin, binI, binSh, binS, evNil, keyIs, keyEq, mkv, AV.cells, AV.sc, optv, bnd, env, put, Env.get, Env.set, Env.del, Env.dels, Env.init, res1, resL, resV, fillP, splice, newRow, Nat.reduceEqDiff, Nat.reduceLT, Nat.reduceLeDiff, Nat.reduceAdd, Nat.reduceMul, Nat.reduceSub, Nat.reduceBEq, reduceCtorEq, ↓zR, zQ, Tr, StA, StT, hlt, hlt2, hr, hr2, en]
      simp (maxSteps := 1000000) (disch := first | omega | rfl | (simp only [zL, two63, room] <;> omega) | fail) only [↓reduceIte, ↓zP, zW, WOp, evOp, evBin, binI, binSh, binS, evNil, keyIs, keyEq, mkv, AV.cells, AV.sc, optv, bnd, env, put, Env.get, Env.set, Env.del, Env.dels, Env.init, res1, resL, resV, fillP, splice, newRow, Nat.reduceEqDiff, Nat.reduceLT, Nat.reduceLeDiff, Nat.reduceAdd, Nat.reduceMul, Nat.reduceSub, Nat.reduceBEq, reduceCtorEq, ↓zR, zQ, Tr, StA, StT, hw1]
      rw [w_loopn (c := lp155_0) rfl]
      simp (maxSteps := 1000000) (disch := first | omega | rfl | (simp only [zL, two63, room] <;> omega) | fail) only [↓reduceIte, ↓zP, zW, WOp, evOp, evBin, binI, binSh, binS, evNil, keyIs, keyEq, mkv, AV.cells, AV.sc, optv, bnd, env, put, Env.get, Env.set, Env.del, Env.dels, Env.init, res1, resL, resV, fillP, splice, newRow, Nat.reduceEqDiff, Nat.reduceLT, Nat.reduceLeDiff, Nat.reduceAdd, Nat.reduceMul, Nat.reduceSub, Nat.reduceBEq, reduceCtorEq, ↓zR, zQ, Tr, StA, StT]
      exact ih (by rw [hL]; simp) (by rw [hM]; simp) (by simp [hpp]) (fun q => h1 (by rw [beq_cc, e, q]; rfl)) (fun q => h2 (by rw [beq_cc, e, q]; rfl))
theorem c_eqSI {v u : AV} {L M : List Int} (hlen : L.length < 2 ^ 40) {h : AH} (hs : Slc 1 encI h v L) (ht : Slc 1 encI h u M) {post : AV → AH → Prop} (hp : post (.bool (L == M)) h) : S 155 [v, u] h post k := by
  refine S_of rfl T155 ?_; unfold fi155
  have hv := fun g => Slc.lenV (hs) (g := g) (ρ := fun _ => _) (x := .t 0) rfl; simp only [evOp] at hv
  have hu := fun g => Slc.lenV (ht) (g := g) (ρ := fun _ => _) (x := .t 0) rfl; simp only [evOp] at hu
  by_cases hl : L.length = M.length
  · simp (maxSteps := 1000000) (disch := first | omega | rfl | (simp only [zL, two63, room] <;> omega) | fail) only [↓reduceIte, ↓zP, zW, WOp, evOp, evBin, binI, binSh, binS, evNil, keyIs, keyEq, mkv, AV.cells, AV.sc, optv, bnd, env, put, Env.get, Env.set, Env.del, Env.dels, Env.init, res1, resL, resV, fillP, splice, newRow, Nat.reduceEqDiff, Nat.reduceLT, Nat.reduceLeDiff, Nat.reduceAdd, Nat.reduceMul, Nat.reduceSub, Nat.reduceBEq, reduceCtorEq, ↓zR, zQ, Tr, StA, StT, hv, hu, hl]
    refine lp_eqSI hlen hs ht hl L M [] [] rfl rfl rfl ?_ ?_
    · intro e
      simp (maxSteps := 1000000) (disch := first | omega | rfl | (simp only [zL, two63, room] <;> omega) | fail) only [↓reduceIte, ↓zP, zW, WOp, evOp, evBin, binI, binSh, binS, evNil, keyIs, keyEq, mkv, AV.cells, AV.sc, optv, bnd, env, put, Env.get, Env.set, Env.del, Env.dels, Env.init, res1, resL, resV, fillP, splice, newRow, Nat.reduceEqDiff, Nat.reduceLT, Nat.reduceLeDiff, Nat.reduceAdd, Nat.reduceMul, Nat.reduceSub, Nat.reduceBEq, reduceCtorEq, ↓zR, zQ, Tr, StA, StT]
      exact e ▸ hp
    · intro e
      simp (maxSteps := 1000000) (disch := first | omega | rfl | (simp only [zL, two63, room] <;> omega) | fail) only [↓reduceIte, ↓zP, zW, WOp, evOp, evBin, binI, binSh, binS, evNil, keyIs, keyEq, mkv, AV.cells, AV.sc, optv, bnd, env, put, Env.get, Env.set, Env.del, Env.dels, Env.init, res1, resL, resV, fillP, splice, newRow, Nat.reduceEqDiff, Nat.reduceLT, Nat.reduceLeDiff, Nat.reduceAdd, Nat.reduceMul, Nat.reduceSub, Nat.reduceBEq, reduceCtorEq, ↓zR, zQ, Tr, StA, StT]
      exact e ▸ hp
  · have hne : ((L.length : Int) != (M.length : Int)) = true := by simp; omega
    simp (maxSteps := 1000000) (disch := first | omega | rfl | (simp only [zL, two63, room] <;> omega) | fail) only [↓reduceIte, ↓zP, zW, WOp, evOp, evBin, binI, binSh, binS, evNil, keyIs, keyEq, mkv, AV.cells, AV.sc, optv, bnd, env, put, Env.get, Env.set, Env.del, Env.dels, Env.init, res1, resL, resV, fillP, splice, newRow, Nat.reduceEqDiff, Nat.reduceLT, Nat.reduceLeDiff, Nat.reduceAdd, Nat.reduceMul, Nat.reduceSub, Nat.reduceBEq, reduceCtorEq, ↓zR, zQ, Tr, StA, StT, hv, hu, hne]
    have : (L == M) = false := by
      rw [beq_eq_false_iff_ne]; rintro rfl; exact hl rfl
    exact this ▸ hp

/-! ### Marks on numbers -/
def cntL : Int → Nat → List Int
  | _, 0 => []
  | q, n + 1 => q :: cntL (q + 1) n
theorem cntL_len : ∀ (n : Nat) (q : Int), (cntL q n).length = n
  | 0, _ => rfl
  | n + 1, q => by simp [cntL, cntL_len n]
theorem lp_markIntS {b : AH} {v : AV} {R : X → Env → AH → Prop} : ∀ (rest pre : List Int) (q : Int) (h : AH), OwW 1 encI b h v (pre ++ rest) → pre.length + rest.length < 2 ^ 30 → 0 ≤ q → q + rest.length < 2 ^ 40 →
    (∀ h', OwW 1 encI b h' v (pre ++ cntL q rest.length) → PreV v h h' → R (.exit 0) [(1, .int .i64 (q + rest.length))] h') → Cx (.loop lp157_0) [(0, v), (1, .int .i64 q), (5, .int .i64 pre.length)] h R k k
  | [], pre, q, h, ho, hb, h0, hq, hR => by
    rw [w_loopb (c := lp157_0) (d := lb157_0) rfl]; unfold lb157_0
    have hv := fun g => Slc.lenV ((ho.slc hlI)) (g := g) (ρ := fun _ => _) (x := .t 0) rfl; simp only [evOp] at hv
    simp only [List.append_nil] at hv
    simp (maxSteps := 1000000) (disch := first | omega | rfl | (simp only [zL, two63, room] <;> omega) | fail) only [↓reduceIte, ↓zP, zW, WOp, evOp, evBin, binI, binSh, binS, evNil, keyIs, keyEq, mkv, AV.cells, AV.sc, optv, bnd, env, put, Env.get, Env.set, Env.del, Env.dels, Env.init, res1, resL, resV, fillP, splice, newRow, Nat.reduceEqDiff, Nat.reduceLT, Nat.reduceLeDiff, Nat.reduceAdd, Nat.reduceMul, Nat.reduceSub, Nat.reduceBEq, reduceCtorEq, ↓zR, zQ, Tr, StA, StT, hv]
    have := hR h ho (PreV.refl _ _)
    simpa using this
  | x :: rest, pre, q, h, ho, hb, h0, hq, hR => by
    have ih := lp_markIntS (b := b) (v := v) (R := R) rest (pre ++ [q]) (q + 1)
    obtain ⟨c, kk, off, h', hve, hw, ho', hpv⟩ := ho.store hlI q 0 [.int .i64 q] (by simp) rfl rfl
    rw [Nat.add_zero] at hw
    have hl : (pre ++ x :: rest).length = pre.length + 1 + rest.length := by simp; omega
    have hv := fun g => Slc.lenV ((ho.slc hlI)) (g := g) (ρ := fun _ => _) (x := .t 0) rfl; simp only [evOp] at hv
    rw [hl] at hve hv
    subst hve
    simp only [List.length_cons] at hb hq
    have hlt : (pre.length : Int) < ((pre.length + 1 + rest.length : Nat) : Int) := by omega
    have hw1 : (pre.length : Int) + 1 = ((pre ++ [q]).length : Int) := by simp
    rw [w_loopb (c := lp157_0) (d := lb157_0) rfl]; unfold lb157_0
    simp (maxSteps := 1000000) (disch := first | omega | rfl | (simp only [zL, two63, room] <;> omega) | fail) only [↓reduceIte, ↓zP, zW, WOp, evOp, evBin, binI, binSh, binS, evNil, keyIs, keyEq, mkv, AV.cells, AV.sc, optv, bnd, env, put, Env.get, Env.set, Env.del, Env.dels, Env.init, res1, resL, resV, fillP, splice, newRow, Nat.reduceEqDiff, Nat.reduceLT, Nat.reduceLeDiff, Nat.reduceAdd, Nat.reduceMul, Nat.reduceSub, Nat.reduceBEq, reduceCtorEq, ↓zR, zQ, Tr, StA, StT, hv, hlt, hw]
    simp (maxSteps := 1000000) (disch := first | omega | rfl | (simp only [zL, two63, room] <;> omega) | fail) only [↓reduceIte, ↓zP, zW, WOp, evOp, evBin, binI, binSh, binS, evNil, keyIs, keyEq, mkv, AV.cells, AV.sc, optv, bnd, env, put, Env.get, Env.set, Env.del, Env.dels, Env.init, res1, resL, resV, fillP, splice, newRow, Nat.reduceEqDiff, Nat.reduceLT, Nat.reduceLeDiff, Nat.reduceAdd, Nat.reduceMul, Nat.reduceSub, Nat.reduceBEq, reduceCtorEq, ↓zR, zQ, Tr, StA, StT, hw1]
    rw [w_loopn (c := lp157_0) rfl]
    simp (maxSteps := 1000000) (disch := first | omega | rfl | (simp only [zL, two63, room] <;> omega) | fail) only [↓reduceIte, ↓zP, zW, WOp, evOp, evBin, binI, binSh, binS, evNil, keyIs, keyEq, mkv, AV.cells, AV.sc, optv, bnd, env, put, Env.get, Env.set, Env.del, Env.dels, Env.init, res1, resL, resV, fillP, splice, newRow, Nat.reduceEqDiff, Nat.reduceLT, Nat.reduceLeDiff, Nat.reduceAdd, Nat.reduceMul, Nat.reduceSub, Nat.reduceBEq, reduceCtorEq, ↓zR, zQ, Tr, StA, StT]
    refine ih h' (by simpa using ho') (by simp; omega) (by omega) (by omega) ?_
    intro h2 ho2 hpv2
    have := hR h2 (by simpa [cntL] using ho2) (hpv.trans hpv2)
    rw [show q + ((x :: rest).length : Int) = q + 1 + (rest.length : Int) by simp; omega] at this
    exact this
theorem c_markIntS {b h : AH} {v : AV} {L : List Int} (ho : OwW 1 encI b h v L) (q : Int) (hL : L.length < 2 ^ 30) (hq : 0 ≤ q ∧ q < 2 ^ 30) {post : AV → AH → Prop} (hp : ∀ h', OwW 1 encI b h' v (cntL q L.length) → PreV v h h' → post (.int .i64 (q + L.length)) h') : S 157 [v, .int .i64 q] h post k := by
  refine S_of rfl T157 ?_; unfold fi157
  simp (maxSteps := 1000000) (disch := first | omega | rfl | (simp only [zL, two63, room] <;> omega) | fail) only [↓reduceIte, ↓zP, zW, WOp, evOp, evBin, binI, binSh, binS, evNil, keyIs, keyEq, mkv, AV.cells, AV.sc, optv, bnd, env, put, Env.get, Env.set, Env.del, Env.dels, Env.init, res1, resL, resV, fillP, splice, newRow, Nat.reduceEqDiff, Nat.reduceLT, Nat.reduceLeDiff, Nat.reduceAdd, Nat.reduceMul, Nat.reduceSub, Nat.reduceBEq, reduceCtorEq, ↓zR, zQ, Tr, StA, StT]
  refine lp_markIntS (b := b) L [] q h ho (by simpa using hL) hq.1 (by omega) ?_
  intro h' ho' hpv
  simp (maxSteps := 1000000) (disch := first | omega | rfl | (simp only [zL, two63, room] <;> omega) | fail) only [↓reduceIte, ↓zP, zW, WOp, evOp, evBin, binI, binSh, binS, evNil, keyIs, keyEq, mkv, AV.cells, AV.sc, optv, bnd, env, put, Env.get, Env.set, Env.del, Env.dels, Env.init, res1, resL, resV, fillP, splice, newRow, Nat.reduceEqDiff, Nat.reduceLT, Nat.reduceLeDiff, Nat.reduceAdd, Nat.reduceMul, Nat.reduceSub, Nat.reduceBEq, reduceCtorEq, ↓zR, zQ, Tr, StA, StT]
  exact hp h' ho' hpv
theorem lp_heldIntS {v : AV} {h : AH} {n : Nat} (hn : n < 2 ^ 30) {R : X → Env → AH → Prop} : ∀ (d : Nat) (pre : List Int) (q : Int), Slc 1 encI h v (pre ++ cntL q d) → pre.length + d = n → 0 ≤ q → q + d < 2 ^ 40 →
    R (.exit 0) [(1, .int .i64 (q + d))] h → Cx (.loop lp158_0) [(0, v), (1, .int .i64 q), (5, .int .i64 pre.length)] h R k k
  | 0, pre, q, hs, hd, h0, hq, hR => by
    rw [w_loopb (c := lp158_0) (d := lb158_0) rfl]; unfold lb158_0
    have hv := fun g => Slc.lenV (hs) (g := g) (ρ := fun _ => _) (x := .t 0) rfl; simp only [evOp] at hv
    simp only [cntL, List.append_nil] at hv
    simp (maxSteps := 1000000) (disch := first | omega | rfl | (simp only [zL, two63, room] <;> omega) | fail) only [↓reduceIte, ↓zP, zW, WOp, evOp, evBin, binI, binSh, binS, evNil, keyIs, keyEq, mkv, AV.cells, AV.sc, optv, bnd, env, put, Env.get, Env.set, Env.del, Env.dels, Env.init, res1, resL, resV, fillP, splice, newRow, Nat.reduceEqDiff, Nat.reduceLT, Nat.reduceLeDiff, Nat.reduceAdd, Nat.reduceMul, Nat.reduceSub, Nat.reduceBEq, reduceCtorEq, ↓zR, zQ, Tr, StA, StT, hv]
    simpa using hR
  | d + 1, pre, q, hs, hd, h0, hq, hR => by
    have ih := lp_heldIntS (v := v) (h := h) hn (R := R) d (pre ++ [q]) (q + 1)
    have hv := fun g => Slc.lenV (hs) (g := g) (ρ := fun _ => _) (x := .t 0) rfl; simp only [evOp] at hv
    simp only [cntL] at hs hv
    have hl : (pre ++ q :: cntL (q + 1) d).length = pre.length + 1 + d := by simp [cntL_len]; omega
    obtain ⟨c, kk, off, hve, hr⟩ := hs.at hlI
    rw [hl] at hve hv
    subst hve
    have hlt : (pre.length : Int) < ((pre.length + 1 + d : Nat) : Int) := by omega
    have hw1 : (pre.length : Int) + 1 = ((pre ++ [q]).length : Int) := by simp
    rw [w_loopb (c := lp158_0) (d := lb158_0) rfl]; unfold lb158_0
    simp (maxSteps := 1000000) (disch := first | omega | rfl | (simp only [zL, two63, room] <;> omega) | fail) only [↓reduceIte, ↓zP, zW, WOp, evOp, evBin, binI, binSh, binS, evNil, keyIs, keyEq, mkv, AV.cells, AV.sc, optv, bnd, env, put, Env.get, Env.set, Env.del, Env.dels, Env.init, res1, resL, resV, fillP, splice, newRow, Nat.reduceEqDiff, Nat.reduceLT, Nat.reduceLeDiff, Nat.reduceAdd, Nat.reduceMul, Nat.reduceSub, Nat.reduceBEq, reduceCtorEq, ↓zR, zQ, Tr, StA, StT, hv, hlt, hr]
    simp (maxSteps := 1000000) (disch := first | omega | rfl | (simp only [zL, two63, room] <;> omega) | fail) only [↓reduceIte, ↓zP, zW, WOp, evOp, evBin, binI, binSh, binS, evNil, keyIs, keyEq, mkv, AV.cells, AV.sc, optv, bnd, env, put, Env.get, Env.set, Env.del, Env.dels, Env.init, res1, resL, resV, fillP, splice, newRow, Nat.reduceEqDiff, Nat.reduceLT, Nat.reduceLeDiff, Nat.reduceAdd, Nat.reduceMul, Nat.reduceSub, Nat.reduceBEq, reduceCtorEq, ↓zR, zQ, Tr, StA, StT, hw1]
    rw [w_loopn (c := lp158_0) rfl]
    simp (maxSteps := 1000000) (disch := first | omega | rfl | (simp only [zL, two63, room] <;> omega) | fail) only [↓reduceIte, ↓zP, zW, WOp, evOp, evBin, binI, binSh, binS, evNil, keyIs, keyEq, mkv, AV.cells, AV.sc, optv, bnd, env, put, Env.get, Env.set, Env.del, Env.dels, Env.init, res1, resL, resV, fillP, splice, newRow, Nat.reduceEqDiff, Nat.reduceLT, Nat.reduceLeDiff, Nat.reduceAdd, Nat.reduceMul, Nat.reduceSub, Nat.reduceBEq, reduceCtorEq, ↓zR, zQ, Tr, StA, StT]
    refine ih (by simpa using hs) (by simp; omega) (by omega) (by omega) ?_
    rw [show q + 1 + (d : Int) = q + ((d + 1 : Nat) : Int) by omega]
    exact hR
theorem c_heldIntS {h : AH} {v : AV} (q : Int) (n : Nat) (hn : n < 2 ^ 30) (hq : 0 ≤ q ∧ q < 2 ^ 30) (hs : Slc 1 encI h v (cntL q n)) {post : AV → AH → Prop} (hp : post (.int .i64 (q + n)) h) : S 158 [v, .int .i64 q] h post k := by
  refine S_of rfl T158 ?_; unfold fi158
  simp (maxSteps := 1000000) (disch := first | omega | rfl | (simp only [zL, two63, room] <;> omega) | fail) only [↓reduceIte, ↓zP, zW, WOp, evOp, evBin, binI, binSh, binS, evNil, keyIs, keyEq, mkv, AV.cells, AV.sc, optv, bnd, env, put, Env.get, Env.set, Env.del, Env.dels, Env.init, res1, resL, resV, fillP, splice, newRow, Nat.reduceEqDiff, Nat.reduceLT, Nat.reduceLeDiff, Nat.reduceAdd, Nat.reduceMul, Nat.reduceSub, Nat.reduceBEq, reduceCtorEq, ↓zR, zQ, Tr, StA, StT]
  refine lp_heldIntS hn n [] q hs (by simp) hq.1 (by omega) ?_
  simp (maxSteps := 1000000) (disch := first | omega | rfl | (simp only [zL, two63, room] <;> omega) | fail) only [↓reduceIte, ↓zP, zW, WOp, evOp, evBin, binI, binSh, binS, evNil, keyIs, keyEq, mkv, AV.cells, AV.sc, optv, bnd, env, put, Env.get, Env.set, Env.del, Env.dels, Env.init, res1, resL, resV, fillP, splice, newRow, Nat.reduceEqDiff, Nat.reduceLT, Nat.reduceLeDiff, Nat.reduceAdd, Nat.reduceMul, Nat.reduceSub, Nat.reduceBEq, reduceCtorEq, ↓zR, zQ, Tr, StA, StT]
  exact hp

/-! ### Marks on clues -/
def cntC : Int → Nat → List Clu
  | _, 0 => []
  | q, n + 1 => (q, q + 1, q + 2) :: cntC (q + 3) n
theorem cntC_len : ∀ (n : Nat) (q : Int), (cntC q n).length = n
  | 0, _ => rfl
  | n + 1, q => by simp [cntC, cntC_len n]
theorem lp_markClueS {b : AH} {v : AV} {R : X → Env → AH → Prop} : ∀ (rest pre : List Clu) (q : Int) (h : AH), OwW 3 encC b h v (pre ++ rest) → pre.length + rest.length < 2 ^ 30 → 0 ≤ q → q + 3 * rest.length < 2 ^ 40 →
    (∀ h', OwW 3 encC b h' v (pre ++ cntC q rest.length) → PreV v h h' → R (.exit 0) [(1, .int .i64 (q + 3 * rest.length))] h') → Cx (.loop lp170_0) [(0, v), (1, .int .i64 q), (5, .int .i64 pre.length)] h R k k
  | [], pre, q, h, ho, hb, h0, hq, hR => by
    rw [w_loopb (c := lp170_0) (d := lb170_0) rfl]; unfold lb170_0
    have hv := fun g => Slc.lenV ((ho.slc hlC)) (g := g) (ρ := fun _ => _) (x := .t 0) rfl; simp only [evOp] at hv
    simp only [List.append_nil] at hv
    simp (maxSteps := 1000000) (disch := first | omega | rfl | (simp only [zL, two63, room] <;> omega) | fail) only [↓reduceIte, ↓zP, zW, WOp, evOp, evBin, binI, binSh, binS, evNil, keyIs, keyEq, mkv, AV.cells, AV.sc, optv, bnd, env, put, Env.get, Env.set, Env.del, Env.dels, Env.init, res1, resL, resV, fillP, splice, newRow, Nat.reduceEqDiff, Nat.reduceLT, Nat.reduceLeDiff, Nat.reduceAdd, Nat.reduceMul, Nat.reduceSub, Nat.reduceBEq, reduceCtorEq, ↓zR, zQ, Tr, StA, StT, hv]
    have := hR h ho (PreV.refl _ _)
    simpa using this
  | (x1, x2, x3) :: rest, pre, q, h, ho, hb, h0, hq, hR => by
    have ih := lp_markClueS (b := b) (v := v) (R := R) rest (pre ++ [(q, q + 1, q + 2)]) (q + 3)
    obtain ⟨c, kk, off, h1, hve, hw, ho1, hpv1⟩ := ho.store hlC (q, x2, x3) 0 [.int .i64 q] (by simp) rfl rfl
    obtain ⟨c', kk', off', h2, hve2, hw2, ho2, hpv2⟩ := ho1.store hlC (q, q + 1, x3) 1 [.int .i64 (q + 1)] (by simp) rfl rfl
    obtain ⟨c'', kk'', off'', h3, hve3, hw3, ho3, hpv3⟩ := ho2.store hlC (q, q + 1, q + 2) 2 [.int .i64 (q + 2)] (by simp) rfl rfl
    rw [hve] at hve2 hve3
    simp only [AV.slice.injEq] at hve2 hve3
    obtain ⟨rfl, rfl, rfl, -⟩ := hve2
    obtain ⟨rfl, rfl, rfl, -⟩ := hve3
    have hl : (pre ++ (x1, x2, x3) :: rest).length = pre.length + 1 + rest.length := by simp; omega
    have hv := fun g => Slc.lenV ((ho.slc hlC)) (g := g) (ρ := fun _ => _) (x := .t 0) rfl; simp only [evOp] at hv
    rw [hl] at hve hv
    subst hve
    simp only [List.length_cons] at hb hq
    have hlt : (pre.length : Int) < ((pre.length + 1 + rest.length : Nat) : Int) := by omega
    have hw1 : (pre.length : Int) + 1 = ((pre ++ [((q, q + 1, q + 2) : Clu)]).length : Int) := by simp
    have hq2 : q + 1 + 1 = q + 2 := by omega
    have hq3 : q + 2 + 1 = q + 3 := by omega
    rw [w_loopb (c := lp170_0) (d := lb170_0) rfl]; unfold lb170_0
    simp (maxSteps := 1000000) (disch := first | omega | rfl | (simp only [zL, two63, room] <;> omega) | fail) only [↓reduceIte, ↓zP, zW, WOp, evOp, evBin, binI, binSh, binS, evNil, keyIs, keyEq, mkv, AV.cells, AV.sc, optv, bnd, env, put, Env.get, Env.set, Env.del, Env.dels, Env.init, res1, resL, resV, fillP, splice, newRow, Nat.reduceEqDiff, Nat.reduceLT, Nat.reduceLeDiff, Nat.reduceAdd, Nat.reduceMul, Nat.reduceSub, Nat.reduceBEq, reduceCtorEq, ↓zR, zQ, Tr, StA, StT, hv, hlt, hw, hw2, hw3, hq2, hq3]
    simp (maxSteps := 1000000) (disch := first | omega | rfl | (simp only [zL, two63, room] <;> omega) | fail) only [↓reduceIte, ↓zP, zW, WOp, evOp, evBin, binI, binSh, binS, evNil, keyIs, keyEq, mkv, AV.cells, AV.sc, optv, bnd, env, put, Env.get, Env.set, Env.del, Env.dels, Env.init, res1, resL, resV, fillP, splice, newRow, Nat.reduceEqDiff, Nat.reduceLT, Nat.reduceLeDiff, Nat.reduceAdd, Nat.reduceMul, Nat.reduceSub, Nat.reduceBEq, reduceCtorEq, ↓zR, zQ, Tr, StA, StT, hw1]
    rw [w_loopn (c := lp170_0) rfl]
    simp (maxSteps := 1000000) (disch := first | omega | rfl | (simp only [zL, two63, room] <;> omega) | fail) only [↓reduceIte, ↓zP, zW, WOp, evOp, evBin, binI, binSh, binS, evNil, keyIs, keyEq, mkv, AV.cells, AV.sc, optv, bnd, env, put, Env.get, Env.set, Env.del, Env.dels, Env.init, res1, resL, resV, fillP, splice, newRow, Nat.reduceEqDiff, Nat.reduceLT, Nat.reduceLeDiff, Nat.reduceAdd, Nat.reduceMul, Nat.reduceSub, Nat.reduceBEq, reduceCtorEq, ↓zR, zQ, Tr, StA, StT]
    refine ih h3 (by simpa using ho3) (by simp; omega) (by omega) (by omega) ?_
    intro h4 ho4 hpv4
    have := hR h4 (by simpa [cntC] using ho4) (((hpv1.trans hpv2).trans hpv3).trans hpv4)
    rw [show q + 3 * (((x1, x2, x3) :: rest).length : Int) = q + 3 + 3 * (rest.length : Int) by simp; omega] at this
    exact this
theorem c_markClueS {b h : AH} {v : AV} {L : List Clu} (ho : OwW 3 encC b h v L) (q : Int) (hL : L.length < 2 ^ 30) (hq : 0 ≤ q ∧ q < 2 ^ 30) {post : AV → AH → Prop} (hp : ∀ h', OwW 3 encC b h' v (cntC q L.length) → PreV v h h' → post (.int .i64 (q + 3 * L.length)) h') : S 170 [v, .int .i64 q] h post k := by
  refine S_of rfl T170 ?_; unfold fi170
  simp (maxSteps := 1000000) (disch := first | omega | rfl | (simp only [zL, two63, room] <;> omega) | fail) only [↓reduceIte, ↓zP, zW, WOp, evOp, evBin, binI, binSh, binS, evNil, keyIs, keyEq, mkv, AV.cells, AV.sc, optv, bnd, env, put, Env.get, Env.set, Env.del, Env.dels, Env.init, res1, resL, resV, fillP, splice, newRow, Nat.reduceEqDiff, Nat.reduceLT, Nat.reduceLeDiff, Nat.reduceAdd, Nat.reduceMul, Nat.reduceSub, Nat.reduceBEq, reduceCtorEq, ↓zR, zQ, Tr, StA, StT]
  refine lp_markClueS (b := b) L [] q h ho (by simpa using hL) hq.1 (by omega) ?_
  intro h' ho' hpv
  simp (maxSteps := 1000000) (disch := first | omega | rfl | (simp only [zL, two63, room] <;> omega) | fail) only [↓reduceIte, ↓zP, zW, WOp, evOp, evBin, binI, binSh, binS, evNil, keyIs, keyEq, mkv, AV.cells, AV.sc, optv, bnd, env, put, Env.get, Env.set, Env.del, Env.dels, Env.init, res1, resL, resV, fillP, splice, newRow, Nat.reduceEqDiff, Nat.reduceLT, Nat.reduceLeDiff, Nat.reduceAdd, Nat.reduceMul, Nat.reduceSub, Nat.reduceBEq, reduceCtorEq, ↓zR, zQ, Tr, StA, StT]
  exact hp h' ho' hpv
theorem c_markPuzzle (n : Int) {b h : AH} {v : AV} {L : List Clu} (ho : OwW 3 encC b h v L) (q : Int) (hL : L.length < 2 ^ 30) (hq : 0 ≤ q ∧ q < 2 ^ 30) {post : AV → AH → Prop} (hp : ∀ h', OwW 3 encC b h' v (cntC q L.length) → PreV v h h' → post (.int .i64 (q + 3 * L.length)) h') : S 156 [pzV n v, .int .i64 q] h post k := by
  have hpush := Pre.push h (AO.row [.int .i64 n, v] 0 0 false)
  have hsc := (sl_cells (ho.slc hlC)).2
  unfold AV.sc at hsc
  have r1 : rdRow (h ++ [AO.row [.int .i64 n, v] 0 0 false]) h.length 0 1 1 = some [v] := by rw [rd_last, if_pos (by simp)]; simp
  refine S_of rfl T156 ?_; unfold fi156
  simp (maxSteps := 1000000) (disch := first | omega | rfl | (simp only [zL, two63, room] <;> omega) | fail) only [↓reduceIte, ↓zP, zW, WOp, evOp, evBin, binI, binSh, binS, evNil, keyIs, keyEq, mkv, AV.cells, AV.sc, optv, bnd, env, put, Env.get, Env.set, Env.del, Env.dels, Env.init, res1, resL, resV, fillP, splice, newRow, Nat.reduceEqDiff, Nat.reduceLT, Nat.reduceLeDiff, Nat.reduceAdd, Nat.reduceMul, Nat.reduceSub, Nat.reduceBEq, reduceCtorEq, ↓zR, zQ, Tr, StA, StT, hsc, r1]
  refine c_markClueS (ho.pre hpush) q hL hq ?_
  intro h' ho' hpv
  simp (maxSteps := 1000000) (disch := first | omega | rfl | (simp only [zL, two63, room] <;> omega) | fail) only [↓reduceIte, ↓zP, zW, WOp, evOp, evBin, binI, binSh, binS, evNil, keyIs, keyEq, mkv, AV.cells, AV.sc, optv, bnd, env, put, Env.get, Env.set, Env.del, Env.dels, Env.init, res1, resL, resV, fillP, splice, newRow, Nat.reduceEqDiff, Nat.reduceLT, Nat.reduceLeDiff, Nat.reduceAdd, Nat.reduceMul, Nat.reduceSub, Nat.reduceBEq, reduceCtorEq, ↓zR, zQ, Tr, StA, StT]
  exact hp h' ho' ((hpush.v v).trans hpv)

/-! ### What a mark leaves as it was -/
theorem PreV.keep {α : Type} {esz : Nat} {enc : α → List AV} {a b h h' : AH} {v : AV} {L : List α} (hp : PreV v h h') (ho : OwW esz enc b h v L) (ha : Pre a h) (hab : a.length ≤ b.length) : Pre a h' :=
  ⟨Nat.le_trans ha.1 hp.1, fun i hi => by
    rw [hp.2 i (Nat.lt_of_lt_of_le hi ha.1) (fun c kk off n e hv => by
      subst hv
      unfold OwW at ho
      have := ho.2.2.1
      omega), ha.2 i hi]⟩
theorem Slc.row_lt {α : Type} {esz : Nat} {enc : α → List AV} {h : AH} {v : AV} {L : List α} (hs : Slc esz enc h v L) : ∀ c kk off n e, v = .slice c kk off n e → c < h.length := by
  rintro c kk off n e rfl
  exact rd_lt hs.all.2.2
theorem OwW.keep {α : Type} {esz : Nat} {enc : α → List AV} {b h h' : AH} {v u : AV} {L : List α} (ho : OwW esz enc b h v L) (hp : PreV u h h') (hu : ∀ c kk off n e, u = .slice c kk off n e → c < b.length) : OwW esz enc b h' v L := by
  unfold OwW at ho ⊢
  cases v <;> simp only at ho ⊢ <;> first
    | exact ho
    | (obtain ⟨h1, h2, h3, A, Z, fl, h4, h5⟩ := ho
       exact ⟨h1, h2, h3, A, Z, fl, by rw [hp.2 _ (List.getElem?_eq_some_iff.1 h4).1 (fun c kk off n e hv => by have := hu c kk off n e hv; omega)]; exact h4, h5⟩)
end Go.Proofs.YtmlmfjjfciiblaaGreatDoor.Ab

/- CLUES without one of them; copies of clues; marks found again. -/
namespace Go.Proofs.YtmlmfjjfciiblaaGreatDoor.Ab
open Go
set_option maxRecDepth 100000
set_option maxHeartbeats 4000000

section
variable {α : Type} {esz : Nat} {enc : α → List AV}
theorem apM (hl : ∀ x, (enc x).length = esz) (hsc : ∀ x, (enc x).all AV.sc = true) {h0 h : AH} {v : AV} {L : List α} (ho : OwL esz enc h0 h v L) (hp : Pre h0 h) (M : List α) (hr : L.length + M.length ≤ 1099511627776) :
    ∃ v' h', apRow h esz v M.length (M.flatMap enc) = some (v', h') ∧ OwL esz enc h0 h' v' (L ++ M) ∧ Pre h0 h' := by
  have hs : (M.flatMap enc).all AV.sc = true := by
    rw [List.all_eq_true]
    intro x hx
    obtain ⟨a, _, ha⟩ := List.mem_flatMap.1 hx
    exact List.all_eq_true.1 (hsc a) x ha
  obtain ⟨v', h', h1, h2, h3⟩ := ap_own ho hp (q := M.length) (vs := M.flatMap enc) (by rw [flat_len hl]) hs hr
  refine ⟨v', h', h1, ?_, h3⟩
  unfold OwL
  rw [List.length_append, List.flatMap_append]
  exact h2
theorem Slc.ahead (hl : ∀ x, (enc x).length = esz) {h : AH} {c kk off n e : Nat} {pre rest : List α} (hs : Slc esz enc h (.slice c kk off n e) (pre ++ rest)) : rdRow h c kk off (pre.length * esz) = some (pre.flatMap enc) := by
  obtain ⟨h1, rfl, h3⟩ := hs.all
  have hm := Nat.mul_le_mul_right e (show pre.length ≤ n by rw [h1]; simp)
  have := rd_part h3 (o := 0) (m := pre.length * e) (by omega)
  rw [Nat.add_zero, List.drop_zero, List.flatMap_append, List.take_left' (flat_len hl pre)] at this
  exact this
theorem Slc.behind (hl : ∀ x, (enc x).length = esz) {h : AH} {c kk off n e : Nat} {pre rest : List α} (hs : Slc esz enc h (.slice c kk off n e) (pre ++ rest)) : rdRow h c kk (off + pre.length * esz) (rest.length * esz) = some (rest.flatMap enc) := by
  obtain ⟨h1, rfl, h3⟩ := hs.all
  have hn : n * e = pre.length * e + rest.length * e := by rw [h1, List.length_append, Nat.add_mul]
  have := rd_part h3 (o := pre.length * e) (m := rest.length * e) (by omega)
  rw [List.flatMap_append, List.drop_left' (flat_len hl pre), List.take_of_length_le (by rw [flat_len hl]; exact Nat.le_refl _)] at this
  exact this
end
theorem c_CloneC {v : AV} {cs : List Clu} (hlen : cs.length < 2 ^ 30) {h : AH} (hs : Slc 3 encC h v cs) {post : AV → AH → Prop} (hp : ∀ v' h', OwL 3 encC h h' v' cs → Pre h h' → post v' h') : S 218 [v] h post k := by
  rcases hs.cases with ⟨rfl, rfl⟩ | ⟨rfl, rfl⟩ | ⟨c, kk, off, rfl⟩
  · refine S_of rfl T218 ?_; unfold fi218
    simp (maxSteps := 1000000) (disch := first | omega | rfl | (simp only [zL, two63, room] <;> omega) | fail) only [↓reduceIte, ↓zP, zW, WOp, evOp, evBin, binI, binSh, binS, evNil, keyIs, keyEq, mkv, AV.cells, AV.sc, optv, bnd, env, put, Env.get, Env.set, Env.del, Env.dels, Env.init, res1, resL, resV, fillP, splice, newRow, Nat.reduceEqDiff, Nat.reduceLT, Nat.reduceLeDiff, Nat.reduceAdd, Nat.reduceMul, Nat.reduceSub, Nat.reduceBEq, reduceCtorEq, ↓zR, zQ, Tr, StA, StT]
    exact hp .nilS h OwL.nil (Pre.refl _)
  · refine S_of rfl T218 ?_; unfold fi218
    have ha : apRow h 3 .empS 0 [] = some (.empS, h) := rfl
    simp (maxSteps := 1000000) (disch := first | omega | rfl | (simp only [zL, two63, room] <;> omega) | fail) only [↓reduceIte, ↓zP, zW, WOp, evOp, evBin, binI, binSh, binS, evNil, keyIs, keyEq, mkv, AV.cells, AV.sc, optv, bnd, env, put, Env.get, Env.set, Env.del, Env.dels, Env.init, res1, resL, resV, fillP, splice, newRow, Nat.reduceEqDiff, Nat.reduceLT, Nat.reduceLeDiff, Nat.reduceAdd, Nat.reduceMul, Nat.reduceSub, Nat.reduceBEq, reduceCtorEq, ↓zR, zQ, Tr, StA, StT, ha]
    exact hp .empS h OwL.emp (Pre.refl _)
  · obtain ⟨v', h', ha, ho, hp'⟩ := apM hlC scC (OwL.emp (h0 := h) (h := h)) (Pre.refl h) cs (by simp; omega)
    have hrd := hs.all.2.2
    refine S_of rfl T218 ?_; unfold fi218
    simp (maxSteps := 1000000) (disch := first | omega | rfl | (simp only [zL, two63, room] <;> omega) | fail) only [↓reduceIte, ↓zP, zW, WOp, evOp, evBin, binI, binSh, binS, evNil, keyIs, keyEq, mkv, AV.cells, AV.sc, optv, bnd, env, put, Env.get, Env.set, Env.del, Env.dels, Env.init, res1, resL, resV, fillP, splice, newRow, Nat.reduceEqDiff, Nat.reduceLT, Nat.reduceLeDiff, Nat.reduceAdd, Nat.reduceMul, Nat.reduceSub, Nat.reduceBEq, reduceCtorEq, ↓zR, zQ, Tr, StA, StT, hrd, ha]
    exact hp v' h' (by simpa using ho) hp'
theorem c_pzWithout {v : AV} {pre rest : List Clu} {x : Clu} (hlen : pre.length + rest.length < 2 ^ 30) {h : AH} (hs : Slc 3 encC h v (pre ++ x :: rest)) {post : AV → AH → Prop} (hp : ∀ v' h', OwL 3 encC h h' v' (pre ++ rest) → Pre h h' → post v' h') : S 216 [v, .int .i64 pre.length] h post k := by
  obtain ⟨c, kk, off, hv, _⟩ := hs.at hlC
  have hll : (pre ++ x :: rest).length = pre.length + 1 + rest.length := by simp; omega
  rw [hll] at hv
  subst hv
  have hr1 := hs.ahead hlC
  have hs2 : Slc 3 encC h (.slice c kk off (pre.length + 1 + rest.length) 3) ((pre ++ [x]) ++ rest) := by simpa using hs
  have hr2 := hs2.behind hlC
  have hl2 : (pre ++ [x]).length = pre.length + 1 := by simp
  rw [hl2] at hr2
  obtain ⟨v1, h1, ha1, ho1, hp1⟩ := apM hlC scC (OwL.emp (h0 := h) (h := h)) (Pre.refl h) pre (by simp; omega)
  obtain ⟨v2, h2, ha2, ho2, hp2⟩ := apM hlC scC ho1 hp1 rest (by simp; omega)
  have hr3 := rdRow_pre hp1 hr2
  have hb1 : (pre.length : Int) ≤ ((pre.length + 1 + rest.length : Nat) : Int) := by omega
  have hb2 : (0 : Int) ≤ (pre.length : Int) + 1 := by omega
  have hb3 : (pre.length : Int) + 1 ≤ ((pre.length + 1 + rest.length : Nat) : Int) := by omega
  have hb4 : ((pre.length : Int) + 1).toNat = pre.length + 1 := by omega
  have hb5 : pre.length + 1 + rest.length - (pre.length + 1) = rest.length := by omega
  refine S_of rfl T216 ?_; unfold fi216
  simp (maxSteps := 1000000) (disch := first | omega | rfl | (simp only [zL, two63, room] <;> omega) | fail) only [↓reduceIte, ↓zP, zW, WOp, evOp, evBin, binI, binSh, binS, evNil, keyIs, keyEq, mkv, AV.cells, AV.sc, optv, bnd, env, put, Env.get, Env.set, Env.del, Env.dels, Env.init, res1, resL, resV, fillP, splice, newRow, Nat.reduceEqDiff, Nat.reduceLT, Nat.reduceLeDiff, Nat.reduceAdd, Nat.reduceMul, Nat.reduceSub, Nat.reduceBEq, reduceCtorEq, ↓zR, zQ, Tr, StA, StT, hb1, hb2, hb3, hb4, hb5, hr1, hr3, ha1, ha2, Nat.add_zero, Nat.sub_zero, Nat.zero_mul]
  exact hp v2 h2 (by simpa using ho2) hp2
end Go.Proofs.YtmlmfjjfciiblaaGreatDoor.Ab

/- PUZZLES: clues that are needless (the reference's side). -/
namespace Go.Proofs.YtmlmfjjfciiblaaGreatDoor.Ab
open Go
set_option maxRecDepth 100000
set_option maxHeartbeats 4000000

def wo (cs : List Clu) (j : Nat) : List Clu := cs.take j ++ cs.drop (j + 1)
theorem wo_mem {cs : List Clu} {j : Nat} {c : Clu} (h : c ∈ wo cs j) : c ∈ cs := by
  rcases List.mem_append.1 h with h | h
  · exact List.mem_of_mem_take h
  · exact List.mem_of_mem_drop h
theorem wo_len (cs : List Clu) (j : Nat) : (wo cs j).length ≤ cs.length := by unfold wo; simp; omega
def needB (m : Nat) (cs : List Clu) (j : Nat) : Bool := ((fitL m (wo cs j)).length : Int) == ((fitL m cs).length : Int)
def needs (m : Nat) (cs : List Clu) (k : Nat) : List Int := ((List.range k).filter (needB m cs)).map fun (j : Nat) => (j : Int)
theorem needs_succ (m : Nat) (cs : List Clu) (k : Nat) : needs m cs (k + 1) = if needB m cs k then needs m cs k ++ [(k : Int)] else needs m cs k := by
  unfold needs
  rw [List.range_succ, List.filter_append, List.map_append]
  cases e : needB m cs k <;> simp [e]
theorem needs_len (m : Nat) (cs : List Clu) (k : Nat) : (needs m cs k).length ≤ k := by
  unfold needs; rw [List.length_map]; have := List.length_filter_le (needB m cs) (List.range k); simpa using this
theorem lp_sNeedless (m : Nat) (hm : m ≤ 5) {v : AV} {cs : List Clu} (hlen : cs.length < 2 ^ 30) (hok : ∀ c ∈ cs, clueOk m c = true) {h0 : AH} {r : Nat} (hr0 : rdRow h0 r 0 0 1 = some [.int .i64 m]) (hr1 : rdRow h0 r 0 1 1 = some [v]) (hs : Slc 3 encC h0 v cs) {R : X → Env → AH → Prop} :
    ∀ (d j : Nat) (o : AV) (h : AH), j + d = cs.length → OwL 1 encI h0 h o (needs m cs j) → Pre h0 h →
    (∀ o' h', OwL 1 encI h0 h' o' (needs m cs cs.length) → Pre h0 h' → R (.exit 0) [(4, o')] h') →
    Cx (.loop lp210_0) [(1, .ptr r 0 0 2), (4, o), (5, .int .i64 ((fitL m cs).length : Int)), (18, .int .i64 cs.length), (19, .int .i64 j)] h R k k
  | 0, j, o, h, hj, ho, hp, hR => by
    obtain rfl : j = cs.length := by omega
    rw [w_loopb (c := lp210_0) (d := lb210_0) rfl]; unfold lb210_0
    simp (maxSteps := 1000000) (disch := first | omega | rfl | (simp only [zL, two63, room] <;> omega) | fail) only [↓reduceIte, ↓zP, zW, WOp, evOp, evBin, binI, binSh, binS, evNil, keyIs, keyEq, mkv, AV.cells, AV.sc, optv, bnd, env, put, Env.get, Env.set, Env.del, Env.dels, Env.init, res1, resL, resV, fillP, splice, newRow, Nat.reduceEqDiff, Nat.reduceLT, Nat.reduceLeDiff, Nat.reduceAdd, Nat.reduceMul, Nat.reduceSub, Nat.reduceBEq, reduceCtorEq, ↓zR, zQ, Tr, StA, StT]
    exact hR o h ho hp
  | d + 1, j, o, h, hj, ho, hp, hR => by
    have ih := lp_sNeedless m hm hlen hok hr0 hr1 hs (R := R) d (j + 1)
    have hs' := hs.pre hp
    have q0 := rdRow_pre hp hr0
    have q1 := rdRow_pre hp hr1
    have hlt : (j : Int) < (cs.length : Int) := by omega
    have hw1 : (j : Int) + 1 = ((j + 1 : Nat) : Int) := by omega
    have hsp : cs = cs.take j ++ cs[j]'(by omega) :: cs.drop (j + 1) := by rw [← List.drop_eq_getElem_cons, List.take_append_drop]
    have hpl : (cs.take j).length = j := by rw [List.length_take]; omega
    have hsc : Slc 3 encC h v (cs.take j ++ cs[j]'(by omega) :: cs.drop (j + 1)) := by rw [← hsp]; exact hs'
    have key := fun post => c_pzWithout (h := h) (post := post) (by rw [hpl, List.length_drop]; omega) hsc
    rw [hpl] at key
    have hbe : (((fitL m (wo cs j)).length : Int) == ((fitL m cs).length : Int)) = needB m cs j := rfl
    have hnl := needs_len m cs j
    rw [needs_succ] at ih
    rw [w_loopb (c := lp210_0) (d := lb210_0) rfl]; unfold lb210_0
    simp (maxSteps := 1000000) (disch := first | omega | rfl | (simp only [zL, two63, room] <;> omega) | fail) only [↓reduceIte, ↓zP, zW, WOp, evOp, evBin, binI, binSh, binS, evNil, keyIs, keyEq, mkv, AV.cells, AV.sc, optv, bnd, env, put, Env.get, Env.set, Env.del, Env.dels, Env.init, res1, resL, resV, fillP, splice, newRow, Nat.reduceEqDiff, Nat.reduceLT, Nat.reduceLeDiff, Nat.reduceAdd, Nat.reduceMul, Nat.reduceSub, Nat.reduceBEq, reduceCtorEq, ↓zR, zQ, Tr, StA, StT, hlt, q0, q1]
    refine w_drw ?_
    simp (maxSteps := 1000000) (disch := first | omega | rfl | (simp only [zL, two63, room] <;> omega) | fail) only [↓reduceIte, ↓zP, zW, WOp, evOp, evBin, binI, binSh, binS, evNil, keyIs, keyEq, mkv, AV.cells, AV.sc, optv, bnd, env, put, Env.get, Env.set, Env.del, Env.dels, Env.init, res1, resL, resV, fillP, splice, newRow, Nat.reduceEqDiff, Nat.reduceLT, Nat.reduceLeDiff, Nat.reduceAdd, Nat.reduceMul, Nat.reduceSub, Nat.reduceBEq, reduceCtorEq, ↓zR, zQ, Tr, StA, StT, q0, q1]
    refine key _ ?_
    intro v1 h1 ho1 hp1
    have q01 := rdRow_pre hp1 q0
    simp (maxSteps := 1000000) (disch := first | omega | rfl | (simp only [zL, two63, room] <;> omega) | fail) only [↓reduceIte, ↓zP, zW, WOp, evOp, evBin, binI, binSh, binS, evNil, keyIs, keyEq, mkv, AV.cells, AV.sc, optv, bnd, env, put, Env.get, Env.set, Env.del, Env.dels, Env.init, res1, resL, resV, fillP, splice, newRow, Nat.reduceEqDiff, Nat.reduceLT, Nat.reduceLeDiff, Nat.reduceAdd, Nat.reduceMul, Nat.reduceSub, Nat.reduceBEq, reduceCtorEq, ↓zR, zQ, Tr, StA, StT, q01]
    refine c_pzAll m hm (cs := wo cs j) (by have := wo_len cs j; omega) (fun c hc => hok c (wo_mem hc)) ho1.slc ?_
    intro o2 h2 ho2 hp2
    have hv2 := fun g => Slc.lenV (ho2.slc) (g := g) (ρ := fun _ => _) (x := .t 0) rfl; simp only [evOp] at hv2
    have q02 := rdRow_pre hp2 q01
    have hp12 := hp1.trans hp2
    cases e : needB m cs j
    · rw [e] at hbe ih
      simp (maxSteps := 1000000) (disch := first | omega | rfl | (simp only [zL, two63, room] <;> omega) | fail) only [↓reduceIte, ↓zP, zW, WOp, evOp, evBin, binI, binSh, binS, evNil, keyIs, keyEq, mkv, AV.cells, AV.sc, optv, bnd, env, put, Env.get, Env.set, Env.del, Env.dels, Env.init, res1, resL, resV, fillP, splice, newRow, Nat.reduceEqDiff, Nat.reduceLT, Nat.reduceLeDiff, Nat.reduceAdd, Nat.reduceMul, Nat.reduceSub, Nat.reduceBEq, reduceCtorEq, ↓zR, zQ, Tr, StA, StT, hv2, hbe, q0, q01, q02]
      simp (maxSteps := 1000000) (disch := first | omega | rfl | (simp only [zL, two63, room] <;> omega) | fail) only [↓reduceIte, ↓zP, zW, WOp, evOp, evBin, binI, binSh, binS, evNil, keyIs, keyEq, mkv, AV.cells, AV.sc, optv, bnd, env, put, Env.get, Env.set, Env.del, Env.dels, Env.init, res1, resL, resV, fillP, splice, newRow, Nat.reduceEqDiff, Nat.reduceLT, Nat.reduceLeDiff, Nat.reduceAdd, Nat.reduceMul, Nat.reduceSub, Nat.reduceBEq, reduceCtorEq, ↓zR, zQ, Tr, StA, StT, hw1]
      rw [w_loopn (c := lp210_0) rfl]
      simp (maxSteps := 1000000) (disch := first | omega | rfl | (simp only [zL, two63, room] <;> omega) | fail) only [↓reduceIte, ↓zP, zW, WOp, evOp, evBin, binI, binSh, binS, evNil, keyIs, keyEq, mkv, AV.cells, AV.sc, optv, bnd, env, put, Env.get, Env.set, Env.del, Env.dels, Env.init, res1, resL, resV, fillP, splice, newRow, Nat.reduceEqDiff, Nat.reduceLT, Nat.reduceLeDiff, Nat.reduceAdd, Nat.reduceMul, Nat.reduceSub, Nat.reduceBEq, reduceCtorEq, ↓zR, zQ, Tr, StA, StT]
      exact ih o h2 (by omega) (by simpa using ho.pre hp12) (hp.trans hp12) hR
    · rw [e] at hbe ih
      have hpx := Pre.push h2 (AO.row [.int .i64 (j : Int)] 0 0 false)
      obtain ⟨o3, h3, ha, ho3, hp3⟩ := apL hlI scI ((ho.pre hp12).pre hpx) ((hp.trans hp12).trans hpx) (j : Int) (by omega)
      simp (maxSteps := 1000000) (disch := first | omega | rfl | (simp only [zL, two63, room] <;> omega) | fail) only [↓reduceIte, ↓zP, zW, WOp, evOp, evBin, binI, binSh, binS, evNil, keyIs, keyEq, mkv, AV.cells, AV.sc, optv, bnd, env, put, Env.get, Env.set, Env.del, Env.dels, Env.init, res1, resL, resV, fillP, splice, newRow, Nat.reduceEqDiff, Nat.reduceLT, Nat.reduceLeDiff, Nat.reduceAdd, Nat.reduceMul, Nat.reduceSub, Nat.reduceBEq, reduceCtorEq, ↓zR, zQ, Tr, StA, StT, hv2, hbe, q0, q01, q02, ha]
      simp (maxSteps := 1000000) (disch := first | omega | rfl | (simp only [zL, two63, room] <;> omega) | fail) only [↓reduceIte, ↓zP, zW, WOp, evOp, evBin, binI, binSh, binS, evNil, keyIs, keyEq, mkv, AV.cells, AV.sc, optv, bnd, env, put, Env.get, Env.set, Env.del, Env.dels, Env.init, res1, resL, resV, fillP, splice, newRow, Nat.reduceEqDiff, Nat.reduceLT, Nat.reduceLeDiff, Nat.reduceAdd, Nat.reduceMul, Nat.reduceSub, Nat.reduceBEq, reduceCtorEq, ↓zR, zQ, Tr, StA, StT, hw1]
      rw [w_loopn (c := lp210_0) rfl]
      simp (maxSteps := 1000000) (disch := first | omega | rfl | (simp only [zL, two63, room] <;> omega) | fail) only [↓reduceIte, ↓zP, zW, WOp, evOp, evBin, binI, binSh, binS, evNil, keyIs, keyEq, mkv, AV.cells, AV.sc, optv, bnd, env, put, Env.get, Env.set, Env.del, Env.dels, Env.init, res1, resL, resV, fillP, splice, newRow, Nat.reduceEqDiff, Nat.reduceLT, Nat.reduceLeDiff, Nat.reduceAdd, Nat.reduceMul, Nat.reduceSub, Nat.reduceBEq, reduceCtorEq, ↓zR, zQ, Tr, StA, StT]
      exact ih o3 h3 (by omega) (by simpa using ho3) hp3 hR
def needP (n : Int) (cs : List Clu) : List Int := if goodP n cs then needs n.toNat cs cs.length else []
theorem needP_len (n : Int) (cs : List Clu) : (needP n cs).length ≤ cs.length := by
  unfold needP; split
  · exact needs_len _ _ _
  · simp
theorem c_sNeedlessClues (n : Int) {v : AV} {cs : List Clu} (hlen : cs.length < 2 ^ 30) {h : AH} (hs : Slc 3 encC h v cs) {post : AV → AH → Prop} (hp : ∀ o' h', OwL 1 encI h h' o' (needP n cs) → Pre h h' → post (.tup [o', .bool (goodP n cs)]) h') : S 210 [pzV n v] h post k := by
  have hpush := Pre.push h (AO.row [.int .i64 n, v] 0 0 false)
  have hsc := (sl_cells hs).2
  unfold AV.sc at hsc
  have r2 : rdRow (h ++ [AO.row [.int .i64 n, v] 0 0 false]) h.length 0 0 2 = some [.int .i64 n, v] := by rw [rd_last, if_pos (by simp)]; simp
  have r0 : rdRow (h ++ [AO.row [.int .i64 n, v] 0 0 false]) h.length 0 0 1 = some [.int .i64 n] := by rw [rd_last, if_pos (by simp)]; simp
  have r1 : rdRow (h ++ [AO.row [.int .i64 n, v] 0 0 false]) h.length 0 1 1 = some [v] := by rw [rd_last, if_pos (by simp)]; simp
  unfold needP at hp
  refine S_of rfl T210 ?_; unfold fi210
  simp (maxSteps := 1000000) (disch := first | omega | rfl | (simp only [zL, two63, room] <;> omega) | fail) only [↓reduceIte, ↓zP, zW, WOp, evOp, evBin, binI, binSh, binS, evNil, keyIs, keyEq, mkv, AV.cells, AV.sc, optv, bnd, env, put, Env.get, Env.set, Env.del, Env.dels, Env.init, res1, resL, resV, fillP, splice, newRow, Nat.reduceEqDiff, Nat.reduceLT, Nat.reduceLeDiff, Nat.reduceAdd, Nat.reduceMul, Nat.reduceSub, Nat.reduceBEq, reduceCtorEq, ↓zR, zQ, Tr, StA, StT, hsc]
  refine c_pzGood n hlen (hs.pre hpush) ?_
  intro h2 hp2
  have q0 := rdRow_pre hp2 r0
  have q1 := rdRow_pre hp2 r1
  have hs2 := (hs.pre hpush).pre hp2
  cases e : goodP n cs
  · rw [e] at hp
    simp (maxSteps := 1000000) (disch := first | omega | rfl | (simp only [zL, two63, room] <;> omega) | fail) only [↓reduceIte, ↓zP, zW, WOp, evOp, evBin, binI, binSh, binS, evNil, keyIs, keyEq, mkv, AV.cells, AV.sc, optv, bnd, env, put, Env.get, Env.set, Env.del, Env.dels, Env.init, res1, resL, resV, fillP, splice, newRow, Nat.reduceEqDiff, Nat.reduceLT, Nat.reduceLeDiff, Nat.reduceAdd, Nat.reduceMul, Nat.reduceSub, Nat.reduceBEq, reduceCtorEq, ↓zR, zQ, Tr, StA, StT]
    exact hp .nilS h2 OwL.nil (hpush.trans hp2)
  · rw [e] at hp
    obtain ⟨m, rfl, m1, m5, m6, mok⟩ := goodP_iff e
    simp (maxSteps := 1000000) (disch := first | omega | rfl | (simp only [zL, two63, room] <;> omega) | fail) only [↓reduceIte, ↓zP, zW, WOp, evOp, evBin, binI, binSh, binS, evNil, keyIs, keyEq, mkv, AV.cells, AV.sc, optv, bnd, env, put, Env.get, Env.set, Env.del, Env.dels, Env.init, res1, resL, resV, fillP, splice, newRow, Nat.reduceEqDiff, Nat.reduceLT, Nat.reduceLeDiff, Nat.reduceAdd, Nat.reduceMul, Nat.reduceSub, Nat.reduceBEq, reduceCtorEq, ↓zR, zQ, Tr, StA, StT, q0, q1]
    refine c_pzAll m m5 hlen mok hs2 ?_
    intro o2 h3 ho2 hp3
    have hv2 := fun g => Slc.lenV (ho2.slc) (g := g) (ρ := fun _ => _) (x := .t 0) rfl; simp only [evOp] at hv2
    have q1' := rdRow_pre hp3 q1
    have hvc := fun g => Slc.lenV ((hs2.pre hp3)) (g := g) (ρ := fun _ => _) (x := .t 0) rfl; simp only [evOp] at hvc
    simp (maxSteps := 1000000) (disch := first | omega | rfl | (simp only [zL, two63, room] <;> omega) | fail) only [↓reduceIte, ↓zP, zW, WOp, evOp, evBin, binI, binSh, binS, evNil, keyIs, keyEq, mkv, AV.cells, AV.sc, optv, bnd, env, put, Env.get, Env.set, Env.del, Env.dels, Env.init, res1, resL, resV, fillP, splice, newRow, Nat.reduceEqDiff, Nat.reduceLT, Nat.reduceLeDiff, Nat.reduceAdd, Nat.reduceMul, Nat.reduceSub, Nat.reduceBEq, reduceCtorEq, ↓zR, zQ, Tr, StA, StT, hv2, q1', hvc]
    refine lp_sNeedless m m5 hlen mok (rdRow_pre hp3 q0) q1' (hs2.pre hp3) cs.length 0 .nilS h3 (by omega) OwL.nil (Pre.refl _) ?_
    intro o4 h4 ho4 hp4
    simp (maxSteps := 1000000) (disch := first | omega | rfl | (simp only [zL, two63, room] <;> omega) | fail) only [↓reduceIte, ↓zP, zW, WOp, evOp, evBin, binI, binSh, binS, evNil, keyIs, keyEq, mkv, AV.cells, AV.sc, optv, bnd, env, put, Env.get, Env.set, Env.del, Env.dels, Env.init, res1, resL, resV, fillP, splice, newRow, Nat.reduceEqDiff, Nat.reduceLT, Nat.reduceLeDiff, Nat.reduceAdd, Nat.reduceMul, Nat.reduceSub, Nat.reduceBEq, reduceCtorEq, ↓zR, zQ, Tr, StA, StT]
    exact hp o4 h4 (ho4.old ((hpush.trans hp2).trans hp3).1) (((hpush.trans hp2).trans hp3).trans hp4)
end Go.Proofs.YtmlmfjjfciiblaaGreatDoor.Ab

/- PUZZLES: clues that are needless: the program's side and the law, given what impl.without answers. -/
namespace Go.Proofs.YtmlmfjjfciiblaaGreatDoor.Ab
open Go
set_option maxRecDepth 100000
set_option maxHeartbeats 4000000

/-- What impl.without answers. -/
def WoSpec : Prop := ∀ (v : AV) (pre rest : List Clu) (x : Clu) (h : AH) (post : AV → AH → Prop), pre.length + 1 + rest.length < 2 ^ 30 → Slc 3 encC h v (pre ++ x :: rest) → (∀ v' h', OwW 3 encC h h' v' (pre ++ rest) → Pre h h' → post v' h') → S 217 [v, .int .i64 pre.length] h post k
theorem lp_Needless (HW : WoSpec) (m : Nat) (hm : 1 ≤ m ∧ m ≤ 5) {v : AV} {cs : List Clu} (hlen : cs.length < 2 ^ 30) (hok : ∀ c ∈ cs, clueOk m c = true) {h0 : AH} {r : Nat} (hr0 : rdRow h0 r 0 0 1 = some [.int .i64 m]) (hr1 : rdRow h0 r 0 1 1 = some [v]) (hs : Slc 3 encC h0 v cs) {R : X → Env → AH → Prop} :
    ∀ (d j : Nat) (o : AV) (h : AH), j + d = cs.length → OwL 1 encI h0 h o (needs m cs j) → Pre h0 h →
    (∀ o' h', OwL 1 encI h0 h' o' (needs m cs cs.length) → Pre h0 h' → R (.exit 0) [(6, o')] h') →
    Cx (.loop lp211_0) [(1, .ptr r 0 0 2), (4, .int .i64 ((fitL m cs).length : Int)), (6, o), (18, .int .i64 cs.length), (19, .int .i64 j)] h R k k
  | 0, j, o, h, hj, ho, hp, hR => by
    obtain rfl : j = cs.length := by omega
    rw [w_loopb (c := lp211_0) (d := lb211_0) rfl]; unfold lb211_0
    simp (maxSteps := 1000000) (disch := first | omega | rfl | (simp only [zL, two63, room] <;> omega) | fail) only [↓reduceIte, ↓zP, zW, WOp, evOp, evBin, binI, binSh, binS, evNil, keyIs, keyEq, mkv, AV.cells, AV.sc, optv, bnd, env, put, Env.get, Env.set, Env.del, Env.dels, Env.init, res1, resL, resV, fillP, splice, newRow, Nat.reduceEqDiff, Nat.reduceLT, Nat.reduceLeDiff, Nat.reduceAdd, Nat.reduceMul, Nat.reduceSub, Nat.reduceBEq, reduceCtorEq, ↓zR, zQ, Tr, StA, StT]
    exact hR o h ho hp
  | d + 1, j, o, h, hj, ho, hp, hR => by
    have ih := lp_Needless HW m hm hlen hok hr0 hr1 hs (R := R) d (j + 1)
    have hs' := hs.pre hp
    have q0 := rdRow_pre hp hr0
    have q1 := rdRow_pre hp hr1
    have hlt : (j : Int) < (cs.length : Int) := by omega
    have hw1 : (j : Int) + 1 = ((j + 1 : Nat) : Int) := by omega
    have hsp : cs = cs.take j ++ cs[j]'(by omega) :: cs.drop (j + 1) := by rw [← List.drop_eq_getElem_cons, List.take_append_drop]
    have hpl : (cs.take j).length = j := by rw [List.length_take]; omega
    have hsc : Slc 3 encC h v (cs.take j ++ cs[j]'(by omega) :: cs.drop (j + 1)) := by rw [← hsp]; exact hs'
    have key := fun post => HW v (cs.take j) (cs.drop (j + 1)) (cs[j]'(by omega)) h post (by rw [hpl, List.length_drop]; omega) hsc
    rw [hpl] at key
    have hbe : (((fitL m (wo cs j)).length : Int) == ((fitL m cs).length : Int)) = needB m cs j := rfl
    have hnl := needs_len m cs j
    rw [needs_succ] at ih
    rw [w_loopb (c := lp211_0) (d := lb211_0) rfl]; unfold lb211_0
    simp (maxSteps := 1000000) (disch := first | omega | rfl | (simp only [zL, two63, room] <;> omega) | fail) only [↓reduceIte, ↓zP, zW, WOp, evOp, evBin, binI, binSh, binS, evNil, keyIs, keyEq, mkv, AV.cells, AV.sc, optv, bnd, env, put, Env.get, Env.set, Env.del, Env.dels, Env.init, res1, resL, resV, fillP, splice, newRow, Nat.reduceEqDiff, Nat.reduceLT, Nat.reduceLeDiff, Nat.reduceAdd, Nat.reduceMul, Nat.reduceSub, Nat.reduceBEq, reduceCtorEq, ↓zR, zQ, Tr, StA, StT, hlt, q0, q1]
    refine w_drw ?_
    simp (maxSteps := 1000000) (disch := first | omega | rfl | (simp only [zL, two63, room] <;> omega) | fail) only [↓reduceIte, ↓zP, zW, WOp, evOp, evBin, binI, binSh, binS, evNil, keyIs, keyEq, mkv, AV.cells, AV.sc, optv, bnd, env, put, Env.get, Env.set, Env.del, Env.dels, Env.init, res1, resL, resV, fillP, splice, newRow, Nat.reduceEqDiff, Nat.reduceLT, Nat.reduceLeDiff, Nat.reduceAdd, Nat.reduceMul, Nat.reduceSub, Nat.reduceBEq, reduceCtorEq, ↓zR, zQ, Tr, StA, StT, q0, q1]
    refine key _ ?_
    intro v1 h1 ho1 hp1
    have q01 := rdRow_pre hp1 q0
    simp (maxSteps := 1000000) (disch := first | omega | rfl | (simp only [zL, two63, room] <;> omega) | fail) only [↓reduceIte, ↓zP, zW, WOp, evOp, evBin, binI, binSh, binS, evNil, keyIs, keyEq, mkv, AV.cells, AV.sc, optv, bnd, env, put, Env.get, Env.set, Env.del, Env.dels, Env.init, res1, resL, resV, fillP, splice, newRow, Nat.reduceEqDiff, Nat.reduceLT, Nat.reduceLeDiff, Nat.reduceAdd, Nat.reduceMul, Nat.reduceSub, Nat.reduceBEq, reduceCtorEq, ↓zR, zQ, Tr, StA, StT, q01]
    refine c_solve m hm (cs := wo cs j) (by have := wo_len cs j; omega) (fun c hc => hok c (wo_mem hc)) (ho1.slc hlC) ?_
    intro o2 h2 ho2 hp2
    have hv2 := fun g => Slc.lenV ((ho2.slc hlS)) (g := g) (ρ := fun _ => _) (x := .t 0) rfl; simp only [evOp] at hv2
    have q02 := rdRow_pre hp2 q01
    have hp12 := hp1.trans hp2
    cases e : needB m cs j
    · rw [e] at hbe ih
      simp (maxSteps := 1000000) (disch := first | omega | rfl | (simp only [zL, two63, room] <;> omega) | fail) only [↓reduceIte, ↓zP, zW, WOp, evOp, evBin, binI, binSh, binS, evNil, keyIs, keyEq, mkv, AV.cells, AV.sc, optv, bnd, env, put, Env.get, Env.set, Env.del, Env.dels, Env.init, res1, resL, resV, fillP, splice, newRow, Nat.reduceEqDiff, Nat.reduceLT, Nat.reduceLeDiff, Nat.reduceAdd, Nat.reduceMul, Nat.reduceSub, Nat.reduceBEq, reduceCtorEq, ↓zR, zQ, Tr, StA, StT, hv2, hbe, q0, q01, q02]
      simp (maxSteps := 1000000) (disch := first | omega | rfl | (simp only [zL, two63, room] <;> omega) | fail) only [↓reduceIte, ↓zP, zW, WOp, evOp, evBin, binI, binSh, binS, evNil, keyIs, keyEq, mkv, AV.cells, AV.sc, optv, bnd, env, put, Env.get, Env.set, Env.del, Env.dels, Env.init, res1, resL, resV, fillP, splice, newRow, Nat.reduceEqDiff, Nat.reduceLT, Nat.reduceLeDiff, Nat.reduceAdd, Nat.reduceMul, Nat.reduceSub, Nat.reduceBEq, reduceCtorEq, ↓zR, zQ, Tr, StA, StT, hw1]
      rw [w_loopn (c := lp211_0) rfl]
      simp (maxSteps := 1000000) (disch := first | omega | rfl | (simp only [zL, two63, room] <;> omega) | fail) only [↓reduceIte, ↓zP, zW, WOp, evOp, evBin, binI, binSh, binS, evNil, keyIs, keyEq, mkv, AV.cells, AV.sc, optv, bnd, env, put, Env.get, Env.set, Env.del, Env.dels, Env.init, res1, resL, resV, fillP, splice, newRow, Nat.reduceEqDiff, Nat.reduceLT, Nat.reduceLeDiff, Nat.reduceAdd, Nat.reduceMul, Nat.reduceSub, Nat.reduceBEq, reduceCtorEq, ↓zR, zQ, Tr, StA, StT]
      exact ih o h2 (by omega) (by simpa using ho.pre hp12) (hp.trans hp12) hR
    · rw [e] at hbe ih
      have hpx := Pre.push h2 (AO.row [.int .i64 (j : Int)] 0 0 false)
      obtain ⟨o3, h3, ha, ho3, hp3⟩ := apL hlI scI ((ho.pre hp12).pre hpx) ((hp.trans hp12).trans hpx) (j : Int) (by omega)
      simp (maxSteps := 1000000) (disch := first | omega | rfl | (simp only [zL, two63, room] <;> omega) | fail) only [↓reduceIte, ↓zP, zW, WOp, evOp, evBin, binI, binSh, binS, evNil, keyIs, keyEq, mkv, AV.cells, AV.sc, optv, bnd, env, put, Env.get, Env.set, Env.del, Env.dels, Env.init, res1, resL, resV, fillP, splice, newRow, Nat.reduceEqDiff, Nat.reduceLT, Nat.reduceLeDiff, Nat.reduceAdd, Nat.reduceMul, Nat.reduceSub, Nat.reduceBEq, reduceCtorEq, ↓zR, zQ, Tr, StA, StT, hv2, hbe, q0, q01, q02, ha]
      simp (maxSteps := 1000000) (disch := first | omega | rfl | (simp only [zL, two63, room] <;> omega) | fail) only [↓reduceIte, ↓zP, zW, WOp, evOp, evBin, binI, binSh, binS, evNil, keyIs, keyEq, mkv, AV.cells, AV.sc, optv, bnd, env, put, Env.get, Env.set, Env.del, Env.dels, Env.init, res1, resL, resV, fillP, splice, newRow, Nat.reduceEqDiff, Nat.reduceLT, Nat.reduceLeDiff, Nat.reduceAdd, Nat.reduceMul, Nat.reduceSub, Nat.reduceBEq, reduceCtorEq, ↓zR, zQ, Tr, StA, StT, hw1]
      rw [w_loopn (c := lp211_0) rfl]
      simp (maxSteps := 1000000) (disch := first | omega | rfl | (simp only [zL, two63, room] <;> omega) | fail) only [↓reduceIte, ↓zP, zW, WOp, evOp, evBin, binI, binSh, binS, evNil, keyIs, keyEq, mkv, AV.cells, AV.sc, optv, bnd, env, put, Env.get, Env.set, Env.del, Env.dels, Env.init, res1, resL, resV, fillP, splice, newRow, Nat.reduceEqDiff, Nat.reduceLT, Nat.reduceLeDiff, Nat.reduceAdd, Nat.reduceMul, Nat.reduceSub, Nat.reduceBEq, reduceCtorEq, ↓zR, zQ, Tr, StA, StT]
      exact ih o3 h3 (by omega) (by simpa using ho3) hp3 hR
theorem c_NeedlessClues (HW : WoSpec) (n : Int) {v : AV} {cs : List Clu} (hlen : cs.length < 2 ^ 30) {h : AH} (hs : Slc 3 encC h v cs) {post : AV → AH → Prop} (hp : ∀ o' h', OwL 1 encI h h' o' (needP n cs) → Pre h h' → post (.tup [o', .bool (goodP n cs)]) h') : S 211 [pzV n v] h post k := by
  have hpush := Pre.push h (AO.row [.int .i64 n, v] 0 0 false)
  have hsc := (sl_cells hs).2
  unfold AV.sc at hsc
  have r2 : rdRow (h ++ [AO.row [.int .i64 n, v] 0 0 false]) h.length 0 0 2 = some [.int .i64 n, v] := by rw [rd_last, if_pos (by simp)]; simp
  have r0 : rdRow (h ++ [AO.row [.int .i64 n, v] 0 0 false]) h.length 0 0 1 = some [.int .i64 n] := by rw [rd_last, if_pos (by simp)]; simp
  have r1 : rdRow (h ++ [AO.row [.int .i64 n, v] 0 0 false]) h.length 0 1 1 = some [v] := by rw [rd_last, if_pos (by simp)]; simp
  unfold needP at hp
  refine S_of rfl T211 ?_; unfold fi211
  simp (maxSteps := 1000000) (disch := first | omega | rfl | (simp only [zL, two63, room] <;> omega) | fail) only [↓reduceIte, ↓zP, zW, WOp, evOp, evBin, binI, binSh, binS, evNil, keyIs, keyEq, mkv, AV.cells, AV.sc, optv, bnd, env, put, Env.get, Env.set, Env.del, Env.dels, Env.init, res1, resL, resV, fillP, splice, newRow, Nat.reduceEqDiff, Nat.reduceLT, Nat.reduceLeDiff, Nat.reduceAdd, Nat.reduceMul, Nat.reduceSub, Nat.reduceBEq, reduceCtorEq, ↓zR, zQ, Tr, StA, StT, hsc]
  refine c_CountSolutions n hlen (hs.pre hpush) ?_
  intro h2 hp2
  have q0 := rdRow_pre hp2 r0
  have q1 := rdRow_pre hp2 r1
  have hs2 := (hs.pre hpush).pre hp2
  unfold countP
  cases e : goodP n cs
  · rw [e] at hp
    simp (maxSteps := 1000000) (disch := first | omega | rfl | (simp only [zL, two63, room] <;> omega) | fail) only [↓reduceIte, ↓zP, zW, WOp, evOp, evBin, binI, binSh, binS, evNil, keyIs, keyEq, mkv, AV.cells, AV.sc, optv, bnd, env, put, Env.get, Env.set, Env.del, Env.dels, Env.init, res1, resL, resV, fillP, splice, newRow, Nat.reduceEqDiff, Nat.reduceLT, Nat.reduceLeDiff, Nat.reduceAdd, Nat.reduceMul, Nat.reduceSub, Nat.reduceBEq, reduceCtorEq, ↓zR, zQ, Tr, StA, StT]
    exact hp .nilS h2 OwL.nil (hpush.trans hp2)
  · rw [e] at hp
    obtain ⟨m, rfl, m1, m5, m6, mok⟩ := goodP_iff e
    have hcnt : (solN (m : Int) cs) = fitL m cs := rfl
    have hvc := fun g => Slc.lenV (hs2) (g := g) (ρ := fun _ => _) (x := .t 0) rfl; simp only [evOp] at hvc
    simp (maxSteps := 1000000) (disch := first | omega | rfl | (simp only [zL, two63, room] <;> omega) | fail) only [↓reduceIte, ↓zP, zW, WOp, evOp, evBin, binI, binSh, binS, evNil, keyIs, keyEq, mkv, AV.cells, AV.sc, optv, bnd, env, put, Env.get, Env.set, Env.del, Env.dels, Env.init, res1, resL, resV, fillP, splice, newRow, Nat.reduceEqDiff, Nat.reduceLT, Nat.reduceLeDiff, Nat.reduceAdd, Nat.reduceMul, Nat.reduceSub, Nat.reduceBEq, reduceCtorEq, ↓zR, zQ, Tr, StA, StT, q1, hvc, hcnt]
    refine lp_Needless HW m ⟨m1, m5⟩ hlen mok q0 q1 hs2 cs.length 0 .empS h2 (by omega) OwL.emp (Pre.refl _) ?_
    intro o4 h4 ho4 hp4
    simp (maxSteps := 1000000) (disch := first | omega | rfl | (simp only [zL, two63, room] <;> omega) | fail) only [↓reduceIte, ↓zP, zW, WOp, evOp, evBin, binI, binSh, binS, evNil, keyIs, keyEq, mkv, AV.cells, AV.sc, optv, bnd, env, put, Env.get, Env.set, Env.del, Env.dels, Env.init, res1, resL, resV, fillP, splice, newRow, Nat.reduceEqDiff, Nat.reduceLT, Nat.reduceLeDiff, Nat.reduceAdd, Nat.reduceMul, Nat.reduceSub, Nat.reduceBEq, reduceCtorEq, ↓zR, zQ, Tr, StA, StT]
    exact hp o4 h4 (ho4.old (hpush.trans hp2).1) ((hpush.trans hp2).trans hp4)
theorem law_NeedlessClues_of (HW : WoSpec) (n : Int) {v : AV} {cs : List Clu} (hlen : cs.length < 2 ^ 63) {h : AH} (hs : Slc 3 encC h v cs) : S 209 [pzV n v] h (fun r _ => r = .bool true) k := by
  have hpush := Pre.push h (AO.row [.int .i64 n, v] 0 0 false)
  have hsc := (sl_cells hs).2
  unfold AV.sc at hsc
  have r2 : rdRow (h ++ [AO.row [.int .i64 n, v] 0 0 false]) h.length 0 0 2 = some [.int .i64 n, v] := by rw [rd_last, if_pos (by simp)]; simp
  have hs0 := hs.pre hpush
  refine S_of rfl T209 ?_; unfold fi209
  simp (maxSteps := 1000000) (disch := first | omega | rfl | (simp only [zL, two63, room] <;> omega) | fail) only [↓reduceIte, ↓zP, zW, WOp, evOp, evBin, binI, binSh, binS, evNil, keyIs, keyEq, mkv, AV.cells, AV.sc, optv, bnd, env, put, Env.get, Env.set, Env.del, Env.dels, Env.init, res1, resL, resV, fillP, splice, newRow, Nat.reduceEqDiff, Nat.reduceLT, Nat.reduceLeDiff, Nat.reduceAdd, Nat.reduceMul, Nat.reduceSub, Nat.reduceBEq, reduceCtorEq, ↓zR, zQ, Tr, StA, StT, hsc]
  generalize h ++ [AO.row [.int .i64 n, v] 0 0 false] = H0 at *
  refine c_szPuzzle n hlen hs0 ?_
  intro h1 A1
  have q1 := rdRow_pre A1 r2
  by_cases hl : cs.length ≤ 1048576
  case neg =>
    simp only [if_neg hl]
    simp (maxSteps := 1000000) (disch := first | omega | rfl | (simp only [zL, two63, room] <;> omega) | fail) only [↓reduceIte, ↓zP, zW, WOp, evOp, evBin, binI, binSh, binS, evNil, keyIs, keyEq, mkv, AV.cells, AV.sc, optv, bnd, env, put, Env.get, Env.set, Env.del, Env.dels, Env.init, res1, resL, resV, fillP, splice, newRow, Nat.reduceEqDiff, Nat.reduceLT, Nat.reduceLeDiff, Nat.reduceAdd, Nat.reduceMul, Nat.reduceSub, Nat.reduceBEq, reduceCtorEq, ↓zR, zQ, Tr, StA, StT]
  simp only [if_pos hl]
  simp (maxSteps := 1000000) (disch := first | omega | rfl | (simp only [zL, two63, room] <;> omega) | fail) only [↓reduceIte, ↓zP, zW, WOp, evOp, evBin, binI, binSh, binS, evNil, keyIs, keyEq, mkv, AV.cells, AV.sc, optv, bnd, env, put, Env.get, Env.set, Env.del, Env.dels, Env.init, res1, resL, resV, fillP, splice, newRow, Nat.reduceEqDiff, Nat.reduceLT, Nat.reduceLeDiff, Nat.reduceAdd, Nat.reduceMul, Nat.reduceSub, Nat.reduceBEq, reduceCtorEq, ↓zR, zQ, Tr, StA, StT, q1]
  have hlen' : cs.length < 2 ^ 30 := by omega
  refine c_toPuzzle n hlen' (hs0.pre A1) ?_
  intro o2 h2 ho2 p2
  have A2 := A1.trans p2
  simp (maxSteps := 1000000) (disch := first | omega | rfl | (simp only [zL, two63, room] <;> omega) | fail) only [↓reduceIte, ↓zP, zW, WOp, evOp, evBin, binI, binSh, binS, evNil, keyIs, keyEq, mkv, AV.cells, AV.sc, optv, bnd, env, put, Env.get, Env.set, Env.del, Env.dels, Env.init, res1, resL, resV, fillP, splice, newRow, Nat.reduceEqDiff, Nat.reduceLT, Nat.reduceLeDiff, Nat.reduceAdd, Nat.reduceMul, Nat.reduceSub, Nat.reduceBEq, reduceCtorEq, ↓zR, zQ, Tr, StA, StT]
  refine c_sNeedlessClues n hlen' ho2.slc ?_
  intro w0 h3 hw0 p3
  have A3 := A2.trans p3
  have q3 := rdRow_pre A3 r2
  simp (maxSteps := 1000000) (disch := first | omega | rfl | (simp only [zL, two63, room] <;> omega) | fail) only [↓reduceIte, ↓zP, zW, WOp, evOp, evBin, binI, binSh, binS, evNil, keyIs, keyEq, mkv, AV.cells, AV.sc, optv, bnd, env, put, Env.get, Env.set, Env.del, Env.dels, Env.init, res1, resL, resV, fillP, splice, newRow, Nat.reduceEqDiff, Nat.reduceLT, Nat.reduceLeDiff, Nat.reduceAdd, Nat.reduceMul, Nat.reduceSub, Nat.reduceBEq, reduceCtorEq, ↓zR, zQ, Tr, StA, StT, q3]
  refine c_toPuzzle n hlen' (hs0.pre A3) ?_
  intro o4 h4 ho4 p4
  have A4 := A3.trans p4
  have hsc4 := (sl_cells ho4.slc).2
  unfold AV.sc at hsc4
  have r5 : rdRow (h4 ++ [AO.row [.int .i64 n, o4] 0 0 false]) h4.length 0 0 2 = some [.int .i64 n, o4] := by rw [rd_last, if_pos (by simp)]; simp
  have p5 := Pre.push h4 (AO.row [.int .i64 n, o4] 0 0 false)
  simp (maxSteps := 1000000) (disch := first | omega | rfl | (simp only [zL, two63, room] <;> omega) | fail) only [↓reduceIte, ↓zP, zW, WOp, evOp, evBin, binI, binSh, binS, evNil, keyIs, keyEq, mkv, AV.cells, AV.sc, optv, bnd, env, put, Env.get, Env.set, Env.del, Env.dels, Env.init, res1, resL, resV, fillP, splice, newRow, Nat.reduceEqDiff, Nat.reduceLT, Nat.reduceLeDiff, Nat.reduceAdd, Nat.reduceMul, Nat.reduceSub, Nat.reduceBEq, reduceCtorEq, ↓zR, zQ, Tr, StA, StT, hsc4]
  generalize h4 ++ [AO.row [.int .i64 n, o4] 0 0 false] = h5 at *
  refine c_NeedlessClues HW n hlen' (ho4.slc.pre p5) ?_
  intro g0 h6 hg0 p6
  have hLn : (needP n cs).length < 2 ^ 30 := by have := needP_len n cs; omega
  generalize hL : (needP n cs) = L at *
  have A6 := A4.trans (p5.trans p6)
  have B6 := p4.trans (p5.trans p6)
  have q6 := rdRow_pre A6 r2
  have s6 := rdRow_pre p6 r5
  simp (maxSteps := 1000000) (disch := first | omega | rfl | (simp only [zL, two63, room] <;> omega) | fail) only [↓reduceIte, ↓zP, zW, WOp, evOp, evBin, binI, binSh, binS, evNil, keyIs, keyEq, mkv, AV.cells, AV.sc, optv, bnd, env, put, Env.get, Env.set, Env.del, Env.dels, Env.init, res1, resL, resV, fillP, splice, newRow, Nat.reduceEqDiff, Nat.reduceLT, Nat.reduceLeDiff, Nat.reduceAdd, Nat.reduceMul, Nat.reduceSub, Nat.reduceBEq, reduceCtorEq, ↓zR, zQ, Tr, StA, StT, q6, s6]
  refine c_eqSI (L := L) (M := L) (by omega) hg0.slc (hw0.slc.pre B6) ?_
  simp (maxSteps := 1000000) (disch := first | omega | rfl | (simp only [zL, two63, room] <;> omega) | fail) only [↓reduceIte, ↓zP, zW, WOp, evOp, evBin, binI, binSh, binS, evNil, keyIs, keyEq, mkv, AV.cells, AV.sc, optv, bnd, env, put, Env.get, Env.set, Env.del, Env.dels, Env.init, res1, resL, resV, fillP, splice, newRow, Nat.reduceEqDiff, Nat.reduceLT, Nat.reduceLeDiff, Nat.reduceAdd, Nat.reduceMul, Nat.reduceSub, Nat.reduceBEq, reduceCtorEq, ↓zR, zQ, Tr, StA, StT, q6, s6]
  refine w_drw ?_
  simp (maxSteps := 1000000) (disch := first | omega | rfl | (simp only [zL, two63, room] <;> omega) | fail) only [↓reduceIte, ↓zP, zW, WOp, evOp, evBin, binI, binSh, binS, evNil, keyIs, keyEq, mkv, AV.cells, AV.sc, optv, bnd, env, put, Env.get, Env.set, Env.del, Env.dels, Env.init, res1, resL, resV, fillP, splice, newRow, Nat.reduceEqDiff, Nat.reduceLT, Nat.reduceLeDiff, Nat.reduceAdd, Nat.reduceMul, Nat.reduceSub, Nat.reduceBEq, reduceCtorEq, ↓zR, zQ, Tr, StA, StT, q6, s6]
  refine c_toPuzzle n hlen' (hs0.pre A6) ?_
  intro o7 h7 ho7 p7
  have s7 := rdRow_pre p7 s6
  simp (maxSteps := 1000000) (disch := first | omega | rfl | (simp only [zL, two63, room] <;> omega) | fail) only [↓reduceIte, ↓zP, zW, WOp, evOp, evBin, binI, binSh, binS, evNil, keyIs, keyEq, mkv, AV.cells, AV.sc, optv, bnd, env, put, Env.get, Env.set, Env.del, Env.dels, Env.init, res1, resL, resV, fillP, splice, newRow, Nat.reduceEqDiff, Nat.reduceLT, Nat.reduceLeDiff, Nat.reduceAdd, Nat.reduceMul, Nat.reduceSub, Nat.reduceBEq, reduceCtorEq, ↓zR, zQ, Tr, StA, StT, s6, s7]
  refine c_eqPuzzle n n hlen' (ho4.slc.pre ((p5.trans p6).trans p7)) ho7.slc ?_
  intro h8 p8
  have s8 := rdRow_pre p8 s7
  simp (maxSteps := 1000000) (disch := first | omega | rfl | (simp only [zL, two63, room] <;> omega) | fail) only [↓reduceIte, ↓zP, zW, WOp, evOp, evBin, binI, binSh, binS, evNil, keyIs, keyEq, mkv, AV.cells, AV.sc, optv, bnd, env, put, Env.get, Env.set, Env.del, Env.dels, Env.init, res1, resL, resV, fillP, splice, newRow, Nat.reduceEqDiff, Nat.reduceLT, Nat.reduceLeDiff, Nat.reduceAdd, Nat.reduceMul, Nat.reduceSub, Nat.reduceBEq, reduceCtorEq, ↓zR, zQ, Tr, StA, StT, s6, s7, s8]
  have p78 := p7.trans p8
  have ho4' := (ho4.w).pre ((p5.trans p6).trans p78)
  refine c_markPuzzle n ho4' 1 hlen' (by omega) ?_
  intro h9 _ v9
  have A9 := v9.keep ho4' (A6.trans p78) A3.1
  have B9 := v9.keep ho4' (B6.trans p78) (Nat.le_refl _)
  have hlt4 := ho4.slc.row_lt
  have hg9 := (hg0.w.pre p78).keep v9 (fun c kk off n e hv => Nat.lt_of_lt_of_le (hlt4 c kk off n e hv) p5.1)
  have hk : ¬ ((1 : Int) + 3 * (cs.length : Int) < 0) := by omega
  simp (maxSteps := 1000000) (disch := first | omega | rfl | (simp only [zL, two63, room] <;> omega) | fail) only [↓reduceIte, ↓zP, zW, WOp, evOp, evBin, binI, binSh, binS, evNil, keyIs, keyEq, mkv, AV.cells, AV.sc, optv, bnd, env, put, Env.get, Env.set, Env.del, Env.dels, Env.init, res1, resL, resV, fillP, splice, newRow, Nat.reduceEqDiff, Nat.reduceLT, Nat.reduceLeDiff, Nat.reduceAdd, Nat.reduceMul, Nat.reduceSub, Nat.reduceBEq, reduceCtorEq, ↓zR, zQ, Tr, StA, StT, hk]
  refine c_eqSI (L := L) (M := L) (by omega) (hg9.slc hlI) (hw0.slc.pre B9) ?_
  simp (maxSteps := 1000000) (disch := first | omega | rfl | (simp only [zL, two63, room] <;> omega) | fail) only [↓reduceIte, ↓zP, zW, WOp, evOp, evBin, binI, binSh, binS, evNil, keyIs, keyEq, mkv, AV.cells, AV.sc, optv, bnd, env, put, Env.get, Env.set, Env.del, Env.dels, Env.init, res1, resL, resV, fillP, splice, newRow, Nat.reduceEqDiff, Nat.reduceLT, Nat.reduceLeDiff, Nat.reduceAdd, Nat.reduceMul, Nat.reduceSub, Nat.reduceBEq, reduceCtorEq, ↓zR, zQ, Tr, StA, StT]
  refine c_markIntS hg9 1 hLn (by omega) ?_
  intro h10 ho10 v10
  have A10 := v10.keep hg9 A9 (A4.trans p5).1
  have B10 := v10.keep hg9 B9 (p4.trans p5).1
  have q10 := rdRow_pre A10 r2
  simp (maxSteps := 1000000) (disch := first | omega | rfl | (simp only [zL, two63, room] <;> omega) | fail) only [↓reduceIte, ↓zP, zW, WOp, evOp, evBin, binI, binSh, binS, evNil, keyIs, keyEq, mkv, AV.cells, AV.sc, optv, bnd, env, put, Env.get, Env.set, Env.del, Env.dels, Env.init, res1, resL, resV, fillP, splice, newRow, Nat.reduceEqDiff, Nat.reduceLT, Nat.reduceLeDiff, Nat.reduceAdd, Nat.reduceMul, Nat.reduceSub, Nat.reduceBEq, reduceCtorEq, ↓zR, zQ, Tr, StA, StT]
  refine c_heldIntS 1 L.length hLn (by omega) (ho10.slc hlI) ?_
  have hk2 : ¬ ((1 : Int) + (L.length : Int) < 0) := by omega
  simp (maxSteps := 1000000) (disch := first | omega | rfl | (simp only [zL, two63, room] <;> omega) | fail) only [↓reduceIte, ↓zP, zW, WOp, evOp, evBin, binI, binSh, binS, evNil, keyIs, keyEq, mkv, AV.cells, AV.sc, optv, bnd, env, put, Env.get, Env.set, Env.del, Env.dels, Env.init, res1, resL, resV, fillP, splice, newRow, Nat.reduceEqDiff, Nat.reduceLT, Nat.reduceLeDiff, Nat.reduceAdd, Nat.reduceMul, Nat.reduceSub, Nat.reduceBEq, reduceCtorEq, ↓zR, zQ, Tr, StA, StT, hk2, bne_self_eq_false, q10]
  refine c_toPuzzle n hlen' (hs0.pre A10) ?_
  intro o11 h11 ho11 p11
  simp (maxSteps := 1000000) (disch := first | omega | rfl | (simp only [zL, two63, room] <;> omega) | fail) only [↓reduceIte, ↓zP, zW, WOp, evOp, evBin, binI, binSh, binS, evNil, keyIs, keyEq, mkv, AV.cells, AV.sc, optv, bnd, env, put, Env.get, Env.set, Env.del, Env.dels, Env.init, res1, resL, resV, fillP, splice, newRow, Nat.reduceEqDiff, Nat.reduceLT, Nat.reduceLeDiff, Nat.reduceAdd, Nat.reduceMul, Nat.reduceSub, Nat.reduceBEq, reduceCtorEq, ↓zR, zQ, Tr, StA, StT]
  refine c_NeedlessClues HW n hlen' ho11.slc ?_
  intro g12 h12 hg12 p12
  rw [hL] at hg12
  simp (maxSteps := 1000000) (disch := first | omega | rfl | (simp only [zL, two63, room] <;> omega) | fail) only [↓reduceIte, ↓zP, zW, WOp, evOp, evBin, binI, binSh, binS, evNil, keyIs, keyEq, mkv, AV.cells, AV.sc, optv, bnd, env, put, Env.get, Env.set, Env.del, Env.dels, Env.init, res1, resL, resV, fillP, splice, newRow, Nat.reduceEqDiff, Nat.reduceLT, Nat.reduceLeDiff, Nat.reduceAdd, Nat.reduceMul, Nat.reduceSub, Nat.reduceBEq, reduceCtorEq, ↓zR, zQ, Tr, StA, StT]
  refine c_eqSI (L := L) (M := L) (by omega) hg12.slc (hw0.slc.pre (B10.trans (p11.trans p12))) ?_
  simp (maxSteps := 1000000) (disch := first | omega | rfl | (simp only [zL, two63, room] <;> omega) | fail) only [↓reduceIte, ↓zP, zW, WOp, evOp, evBin, binI, binSh, binS, evNil, keyIs, keyEq, mkv, AV.cells, AV.sc, optv, bnd, env, put, Env.get, Env.set, Env.del, Env.dels, Env.init, res1, resL, resV, fillP, splice, newRow, Nat.reduceEqDiff, Nat.reduceLT, Nat.reduceLeDiff, Nat.reduceAdd, Nat.reduceMul, Nat.reduceSub, Nat.reduceBEq, reduceCtorEq, ↓zR, zQ, Tr, StA, StT]
  refine c_heldIntS 1 L.length hLn (by omega) ((ho10.pre (p11.trans p12)).slc hlI) ?_
  simp (maxSteps := 1000000) (disch := first | omega | rfl | (simp only [zL, two63, room] <;> omega) | fail) only [↓reduceIte, ↓zP, zW, WOp, evOp, evBin, binI, binSh, binS, evNil, keyIs, keyEq, mkv, AV.cells, AV.sc, optv, bnd, env, put, Env.get, Env.set, Env.del, Env.dels, Env.init, res1, resL, resV, fillP, splice, newRow, Nat.reduceEqDiff, Nat.reduceLT, Nat.reduceLeDiff, Nat.reduceAdd, Nat.reduceMul, Nat.reduceSub, Nat.reduceBEq, reduceCtorEq, ↓zR, zQ, Tr, StA, StT, hk2, bne_self_eq_false]
end Go.Proofs.YtmlmfjjfciiblaaGreatDoor.Ab

/- slices.Delete at clues, and impl.without. -/
namespace Go.Proofs.YtmlmfjjfciiblaaGreatDoor.Ab
open Go
set_option maxRecDepth 100000
set_option maxHeartbeats 4000000

theorem S_extW {f : Nat} {xs : List AV} {h h' : AH} {post : AV → AH → Prop} {G : List AV → AH → Option (AV × AH)} {r : AV} (hEf : E f = some (fun _ xs h => G xs h)) (hG : G xs h = some (r, h')) (hp : post r h') : S f xs h post k := Spec_ext hEf 0 hG hp
theorem splice_mid3 {α : Type} (P Q R V : List α) (h : Q.length = V.length) : splice (P ++ Q ++ R) P.length V = P ++ V ++ R := by
  unfold splice
  rw [show (P ++ Q ++ R).drop (P.length + V.length) = R from List.drop_left' (by simp [h]), List.append_assoc P Q R, List.take_left' rfl]
theorem xDel_ok {b h : AH} {v : AV} {pre rest : List Clu} {x : Clu} (ho : OwW 3 encC b h v (pre ++ x :: rest)) (hr : pre.length + rest.length < 2 ^ 30) :
    ∃ v' h', xDelete3 [v, .int .i64 pre.length, .int .i64 ((pre.length : Int) + 1)] h = some (v', h') ∧ OwW 3 encC b h' v' (pre ++ rest) ∧ h'.length = h.length ∧ ∀ i, i < b.length → h'[i]? = h[i]? := by
  unfold OwW at ho
  cases v <;> simp only at ho <;> try (exact absurd ho id)
  all_goals try (simp at ho; done)
  rename_i c kk off n e
  obtain ⟨rfl, hn, hbc, A, Z, fl, hc, hfl, hA⟩ := ho
  have hpl := flat_len hlC pre
  have hrl := flat_len hlC rest
  have hxl := hlC x
  have hn' : n = pre.length + 1 + rest.length := by rw [hn]; simp; omega
  have hlt := (List.getElem?_eq_some_iff.1 hc).1
  obtain ⟨Q1, Q2, hQ, hQ1, hQ2⟩ : ∃ Q1 Q2, encC x ++ rest.flatMap encC = Q1 ++ Q2 ∧ Q1.length = (rest.flatMap encC).length ∧ Q2.length = 3 := by
    refine ⟨(encC x ++ rest.flatMap encC).take (rest.flatMap encC).length, (encC x ++ rest.flatMap encC).drop (rest.flatMap encC).length, (List.take_append_drop _ _).symm, ?_, ?_⟩
    · rw [List.length_take, List.length_append]; omega
    · rw [List.length_drop, List.length_append, hxl]; omega
  have hflat : (pre ++ x :: rest).flatMap encC = pre.flatMap encC ++ (encC x ++ rest.flatMap encC) := by simp
  have hscR : (rest.flatMap encC).all AV.sc = true := by
    rw [List.all_eq_true]
    intro y hy
    obtain ⟨a, _, ha⟩ := List.mem_flatMap.1 hy
    exact List.all_eq_true.1 (scC a) y ha
  have hcells : A ++ (pre ++ x :: rest).flatMap encC ++ Z = (A ++ pre.flatMap encC) ++ Q1 ++ (Q2 ++ Z) := by
    rw [hflat, hQ]; simp
  have hPl : (A ++ pre.flatMap encC).length = off + pre.length * 3 := by rw [List.length_append, hA, hpl]
  have hPl2 : (A ++ pre.flatMap encC ++ rest.flatMap encC).length = off + (pre.length + rest.length) * 3 := by rw [List.length_append, hPl, hrl]; omega
  have hrd : rdRow h c kk (off + (pre.length + 1) * 3) (rest.length * 3) = some (rest.flatMap encC) := by
    unfold rdRow
    rw [hc]
    simp only
    rw [if_pos ⟨hfl, Nat.le_refl _, by simp only [List.length_append, hflat, hA, hpl, hxl, hrl]; omega⟩]
    rw [show A ++ (pre ++ x :: rest).flatMap encC ++ Z = (A ++ (pre.flatMap encC ++ encC x)) ++ (rest.flatMap encC ++ Z) by rw [hflat]; simp]
    rw [List.drop_left' (by simp only [List.length_append, hA, hpl, hxl]; omega), List.take_left' hrl]
  have hw1 : wrRow h c kk (off + pre.length * 3) (rest.flatMap encC) = some (h.set c (.row (A ++ pre.flatMap encC ++ rest.flatMap encC ++ (Q2 ++ Z)) kk kk false)) := by
    unfold wrRow
    rw [hc]
    simp only
    rw [if_pos ⟨trivial, hfl, by simp only [List.length_append, hflat, hA, hpl, hxl, hrl]; omega, hscR⟩]
    rw [hcells, ← hPl, splice_mid3 _ _ _ _ hQ1]
  have hget : (h.set c (.row (A ++ pre.flatMap encC ++ rest.flatMap encC ++ (Q2 ++ Z)) kk kk false))[c]? = some (.row (A ++ pre.flatMap encC ++ rest.flatMap encC ++ (Q2 ++ Z)) kk kk false) := by
    rw [List.getElem?_set]; simp [hlt]
  have hw2 : wrRow (h.set c (.row (A ++ pre.flatMap encC ++ rest.flatMap encC ++ (Q2 ++ Z)) kk kk false)) c kk (off + (pre.length + rest.length) * 3) (List.replicate (1 * 3) (.int .i64 0)) = some (h.set c (.row (A ++ pre.flatMap encC ++ rest.flatMap encC ++ List.replicate (1 * 3) (.int .i64 0) ++ Z) kk kk false)) := by
    unfold wrRow
    rw [hget]
    simp only
    rw [if_pos ⟨trivial, Nat.le_refl _, by simp only [List.length_append, List.length_replicate, hA, hpl, hrl, hQ2]; omega, rfl⟩]
    rw [← List.append_assoc, ← hPl2, splice_mid3 _ _ _ _ (by rw [hQ2]; rfl), List.set_set]
  refine ⟨.slice c kk off (pre.length + rest.length) 3, h.set c (.row (A ++ pre.flatMap encC ++ rest.flatMap encC ++ List.replicate (1 * 3) (.int .i64 0) ++ Z) kk kk false), ?_, ?_, ?_, ?_⟩
  · unfold xDelete3
    have e1 : ((pre.length : Int) + 1).toNat = pre.length + 1 := by omega
    simp only [e1, Int.toNat_natCast]
    rw [if_pos ⟨trivial, by omega, by omega, by omega, by omega⟩]
    have e2 : n - (pre.length + 1) = rest.length := by omega
    have e3 : pre.length + 1 - pre.length = 1 := by omega
    have e4 : n - 1 = pre.length + rest.length := by omega
    simp only [e2, e3, e4, hrd, hw1, hw2]
  · unfold OwW
    refine ⟨rfl, by simp, hbc, A, List.replicate (1 * 3) (.int .i64 0) ++ Z, kk, ?_, Nat.le_refl _, hA⟩
    rw [List.getElem?_set]
    simp [hlt]
  · simp
  · intro i hi
    rw [List.getElem?_set, if_neg (by omega)]
theorem woSpec : WoSpec := by
  intro v pre rest x h post hlen hs hp
  refine S_of rfl T217 ?_; unfold fi217
  simp (maxSteps := 1000000) (disch := first | omega | rfl | (simp only [zL, two63, room] <;> omega) | fail) only [↓reduceIte, ↓zP, zW, WOp, evOp, evBin, binI, binSh, binS, evNil, keyIs, keyEq, mkv, AV.cells, AV.sc, optv, bnd, env, put, Env.get, Env.set, Env.del, Env.dels, Env.init, res1, resL, resV, fillP, splice, newRow, Nat.reduceEqDiff, Nat.reduceLT, Nat.reduceLeDiff, Nat.reduceAdd, Nat.reduceMul, Nat.reduceSub, Nat.reduceBEq, reduceCtorEq, ↓zR, zQ, Tr, StA, StT]
  refine c_CloneC (cs := pre ++ x :: rest) (by simp; omega) hs ?_
  intro v1 h1 ho1 hp1
  obtain ⟨v2, h2, hx, ho2, hl2, hk2⟩ := xDel_ok ho1.w (by omega)
  simp (maxSteps := 1000000) (disch := first | omega | rfl | (simp only [zL, two63, room] <;> omega) | fail) only [↓reduceIte, ↓zP, zW, WOp, evOp, evBin, binI, binSh, binS, evNil, keyIs, keyEq, mkv, AV.cells, AV.sc, optv, bnd, env, put, Env.get, Env.set, Env.del, Env.dels, Env.init, res1, resL, resV, fillP, splice, newRow, Nat.reduceEqDiff, Nat.reduceLT, Nat.reduceLeDiff, Nat.reduceAdd, Nat.reduceMul, Nat.reduceSub, Nat.reduceBEq, reduceCtorEq, ↓zR, zQ, Tr, StA, StT]
  refine S_extW (G := xDelete3) rfl hx ?_
  simp (maxSteps := 1000000) (disch := first | omega | rfl | (simp only [zL, two63, room] <;> omega) | fail) only [↓reduceIte, ↓zP, zW, WOp, evOp, evBin, binI, binSh, binS, evNil, keyIs, keyEq, mkv, AV.cells, AV.sc, optv, bnd, env, put, Env.get, Env.set, Env.del, Env.dels, Env.init, res1, resL, resV, fillP, splice, newRow, Nat.reduceEqDiff, Nat.reduceLT, Nat.reduceLeDiff, Nat.reduceAdd, Nat.reduceMul, Nat.reduceSub, Nat.reduceBEq, reduceCtorEq, ↓zR, zQ, Tr, StA, StT]
  exact hp v2 h2 ho2 ⟨by rw [hl2]; exact hp1.1, fun i hi => by rw [hk2 i hi]; exact hp1.2 i hi⟩
theorem law_NeedlessClues (n : Int) {v : AV} {cs : List Clu} (hlen : cs.length < 2 ^ 63) {h : AH} (hs : Slc 3 encC h v cs) : S 209 [pzV n v] h (fun r _ => r = .bool true) k := law_NeedlessClues_of woSpec n hlen hs
end Go.Proofs.YtmlmfjjfciiblaaGreatDoor.Ab

/- MARKS on clues found again. -/
namespace Go.Proofs.YtmlmfjjfciiblaaGreatDoor.Ab
open Go
set_option maxRecDepth 100000
set_option maxHeartbeats 4000000

theorem Slc.fld {h : AH} {c kk off n e : Nat} {pre rest : List Clu} {x : Clu} (hs : Slc 3 encC h (.slice c kk off n e) (pre ++ x :: rest)) : rdRow h c kk (off + pre.length * 3 + 0) 1 = some [.int .i64 x.1] ∧ rdRow h c kk (off + pre.length * 3 + 1) 1 = some [.int .i64 x.2.1] ∧ rdRow h c kk (off + pre.length * 3 + 2) 1 = some [.int .i64 x.2.2] := by
  have hr := hs.rd hlC
  exact ⟨rd_part hr (o := 0) (m := 1) (by omega), rd_part hr (o := 1) (m := 1) (by omega), rd_part hr (o := 2) (m := 1) (by omega)⟩
theorem lp_heldClueS {v : AV} {h : AH} {n : Nat} (hn : n < 2 ^ 30) {R : X → Env → AH → Prop} : ∀ (d : Nat) (pre : List Clu) (q : Int), Slc 3 encC h v (pre ++ cntC q d) → pre.length + d = n → 0 ≤ q → q + 3 * d < 2 ^ 40 →
    R (.exit 0) [(1, .int .i64 (q + 3 * d))] h → Cx (.loop lp219_0) [(0, v), (1, .int .i64 q), (5, .int .i64 pre.length)] h R k k
  | 0, pre, q, hs, hd, h0, hq, hR => by
    rw [w_loopb (c := lp219_0) (d := lb219_0) rfl]; unfold lb219_0
    have hv := fun g => Slc.lenV (hs) (g := g) (ρ := fun _ => _) (x := .t 0) rfl; simp only [evOp] at hv
    simp only [cntC, List.append_nil] at hv
    simp (maxSteps := 1000000) (disch := first | omega | rfl | (simp only [zL, two63, room] <;> omega) | fail) only [↓reduceIte, ↓zP, zW, WOp, evOp, evBin, binI, binSh, binS, evNil, keyIs, keyEq, mkv, AV.cells, AV.sc, optv, bnd, env, put, Env.get, Env.set, Env.del, Env.dels, Env.init, res1, resL, resV, fillP, splice, newRow, Nat.reduceEqDiff, Nat.reduceLT, Nat.reduceLeDiff, Nat.reduceAdd, Nat.reduceMul, Nat.reduceSub, Nat.reduceBEq, reduceCtorEq, ↓zR, zQ, Tr, StA, StT, hv]
    simpa using hR
  | d + 1, pre, q, hs, hd, h0, hq, hR => by
    have ih := lp_heldClueS (v := v) (h := h) hn (R := R) d (pre ++ [(q, q + 1, q + 2)]) (q + 3)
    have hv := fun g => Slc.lenV (hs) (g := g) (ρ := fun _ => _) (x := .t 0) rfl; simp only [evOp] at hv
    simp only [cntC] at hs hv
    have hl : (pre ++ (q, q + 1, q + 2) :: cntC (q + 3) d).length = pre.length + 1 + d := by simp [cntC_len]; omega
    obtain ⟨c, kk, off, hve, _⟩ := hs.at hlC
    rw [hl] at hve hv
    subst hve
    obtain ⟨r0, r1, r2⟩ := hs.fld
    have hlt : (pre.length : Int) < ((pre.length + 1 + d : Nat) : Int) := by omega
    have hw1 : (pre.length : Int) + 1 = ((pre ++ [((q, q + 1, q + 2) : Clu)]).length : Int) := by simp
    have hq2 : q + 1 + 1 = q + 2 := by omega
    have hq3 : q + 2 + 1 = q + 3 := by omega
    rw [w_loopb (c := lp219_0) (d := lb219_0) rfl]; unfold lb219_0
    simp (maxSteps := 1000000) (disch := first | omega | rfl | (simp only [zL, two63, room] <;> omega) | fail) only [↓reduceIte, ↓zP, zW, WOp, evOp, evBin, binI, binSh, binS, evNil, keyIs, keyEq, mkv, AV.cells, AV.sc, optv, bnd, env, put, Env.get, Env.set, Env.del, Env.dels, Env.init, res1, resL, resV, fillP, splice, newRow, Nat.reduceEqDiff, Nat.reduceLT, Nat.reduceLeDiff, Nat.reduceAdd, Nat.reduceMul, Nat.reduceSub, Nat.reduceBEq, reduceCtorEq, ↓zR, zQ, Tr, StA, StT, hv, hlt, r0, r1, r2, hq2, hq3, bne_self_eq_false]
    simp (maxSteps := 1000000) (disch := first | omega | rfl | (simp only [zL, two63, room] <;> omega) | fail) only [↓reduceIte, ↓zP, zW, WOp, evOp, evBin, binI, binSh, binS, evNil, keyIs, keyEq, mkv, AV.cells, AV.sc, optv, bnd, env, put, Env.get, Env.set, Env.del, Env.dels, Env.init, res1, resL, resV, fillP, splice, newRow, Nat.reduceEqDiff, Nat.reduceLT, Nat.reduceLeDiff, Nat.reduceAdd, Nat.reduceMul, Nat.reduceSub, Nat.reduceBEq, reduceCtorEq, ↓zR, zQ, Tr, StA, StT, hw1]
    rw [w_loopn (c := lp219_0) rfl]
    simp (maxSteps := 1000000) (disch := first | omega | rfl | (simp only [zL, two63, room] <;> omega) | fail) only [↓reduceIte, ↓zP, zW, WOp, evOp, evBin, binI, binSh, binS, evNil, keyIs, keyEq, mkv, AV.cells, AV.sc, optv, bnd, env, put, Env.get, Env.set, Env.del, Env.dels, Env.init, res1, resL, resV, fillP, splice, newRow, Nat.reduceEqDiff, Nat.reduceLT, Nat.reduceLeDiff, Nat.reduceAdd, Nat.reduceMul, Nat.reduceSub, Nat.reduceBEq, reduceCtorEq, ↓zR, zQ, Tr, StA, StT]
    refine ih (by simpa using hs) (by simp; omega) (by omega) (by omega) ?_
    rw [show q + 3 + 3 * (d : Int) = q + 3 * ((d + 1 : Nat) : Int) by omega]
    exact hR
theorem c_heldPuzzle (m : Int) {h : AH} {v : AV} (q : Int) (n : Nat) (hn : n < 2 ^ 30) (hq : 0 ≤ q ∧ q < 2 ^ 30) (hs : Slc 3 encC h v (cntC q n)) {post : AV → AH → Prop} (hp : ∀ h', Pre h h' → post (.int .i64 (q + 3 * n)) h') : S 215 [pzV m v, .int .i64 q] h post k := by
  have hpush := Pre.push h (AO.row [.int .i64 m, v] 0 0 false)
  have hsc := (sl_cells hs).2
  unfold AV.sc at hsc
  have r1 : rdRow (h ++ [AO.row [.int .i64 m, v] 0 0 false]) h.length 0 1 1 = some [v] := by rw [rd_last, if_pos (by simp)]; simp
  have hneg : ¬ (q + 3 * (n : Int) < 0) := by omega
  refine S_of rfl T215 ?_; unfold fi215
  simp (maxSteps := 1000000) (disch := first | omega | rfl | (simp only [zL, two63, room] <;> omega) | fail) only [↓reduceIte, ↓zP, zW, WOp, evOp, evBin, binI, binSh, binS, evNil, keyIs, keyEq, mkv, AV.cells, AV.sc, optv, bnd, env, put, Env.get, Env.set, Env.del, Env.dels, Env.init, res1, resL, resV, fillP, splice, newRow, Nat.reduceEqDiff, Nat.reduceLT, Nat.reduceLeDiff, Nat.reduceAdd, Nat.reduceMul, Nat.reduceSub, Nat.reduceBEq, reduceCtorEq, ↓zR, zQ, Tr, StA, StT, hsc, r1]
  refine S_of rfl T219 ?_; unfold fi219
  simp (maxSteps := 1000000) (disch := first | omega | rfl | (simp only [zL, two63, room] <;> omega) | fail) only [↓reduceIte, ↓zP, zW, WOp, evOp, evBin, binI, binSh, binS, evNil, keyIs, keyEq, mkv, AV.cells, AV.sc, optv, bnd, env, put, Env.get, Env.set, Env.del, Env.dels, Env.init, res1, resL, resV, fillP, splice, newRow, Nat.reduceEqDiff, Nat.reduceLT, Nat.reduceLeDiff, Nat.reduceAdd, Nat.reduceMul, Nat.reduceSub, Nat.reduceBEq, reduceCtorEq, ↓zR, zQ, Tr, StA, StT]
  refine lp_heldClueS hn n [] q (hs.pre hpush) (by simp) hq.1 (by omega) ?_
  simp (maxSteps := 1000000) (disch := first | omega | rfl | (simp only [zL, two63, room] <;> omega) | fail) only [↓reduceIte, ↓zP, zW, WOp, evOp, evBin, binI, binSh, binS, evNil, keyIs, keyEq, mkv, AV.cells, AV.sc, optv, bnd, env, put, Env.get, Env.set, Env.del, Env.dels, Env.init, res1, resL, resV, fillP, splice, newRow, Nat.reduceEqDiff, Nat.reduceLT, Nat.reduceLeDiff, Nat.reduceAdd, Nat.reduceMul, Nat.reduceSub, Nat.reduceBEq, reduceCtorEq, ↓zR, zQ, Tr, StA, StT, hneg]
  exact hp _ hpush
end Go.Proofs.YtmlmfjjfciiblaaGreatDoor.Ab

/- PUZZLES made harder: clues taken out while one solution is left; both sides and the law. -/
namespace Go.Proofs.YtmlmfjjfciiblaaGreatDoor.Ab
open Go
set_option maxRecDepth 100000
set_option maxHeartbeats 4000000

def oneB (m : Nat) (cs : List Clu) (j : Nat) : Bool := ((fitL m (wo cs j)).length : Int) == 1
def hardGo (m : Nat) : Nat → Nat → List Clu → List Clu
  | 0, _, cs => cs
  | d + 1, j, cs => if oneB m cs j then hardGo m d j (wo cs j) else hardGo m d (j + 1) cs
theorem wo_len' {cs : List Clu} {j : Nat} (h : j < cs.length) : (wo cs j).length + 1 = cs.length := by unfold wo; simp; omega
theorem hardGo_len (m : Nat) : ∀ (d j : Nat) (cs : List Clu), (hardGo m d j cs).length ≤ cs.length
  | 0, _, _ => Nat.le_refl _
  | d + 1, j, cs => by
    unfold hardGo
    split
    · exact Nat.le_trans (hardGo_len m d j _) (wo_len cs j)
    · exact hardGo_len m d (j + 1) cs
theorem OwW.set {α : Type} {esz : Nat} {enc : α → List AV} {b h : AH} {v : AV} {L : List α} (ho : OwW esz enc b h v L) {c : Nat} {o : AO} (hc : c < b.length) : OwW esz enc b (h.set c o) v L := by
  unfold OwW at ho ⊢
  cases v <;> simp only at ho ⊢ <;> first
    | exact ho
    | (obtain ⟨h1, h2, h3, A, Z, fl, h4, h5⟩ := ho
       exact ⟨h1, h2, h3, A, Z, fl, by rw [List.getElem?_set, if_neg (by omega)]; exact h4, h5⟩)
theorem rdRow_prev {v : AV} {h h' : AH} (hp : PreV v h h') {c k off n : Nat} {cs : List AV} (hr : rdRow h c k off n = some cs) (hne : ∀ c' kk off n e, v = .slice c' kk off n e → c ≠ c') : rdRow h' c k off n = some cs := by
  unfold rdRow at hr ⊢
  have hlt : c < h.length := by
    rcases Nat.lt_or_ge c h.length with h1 | h1
    · exact h1
    · rw [List.getElem?_eq_none h1] at hr; cases hr
  rw [hp.2 c hlt hne]
  exact hr
theorem row2 (h : AH) (r s : AO) : (h ++ [r] ++ [s])[h.length + 1]? = some s := by simp
theorem lp_sHard (m : Nat) (hm : m ≤ 5) {h0 : AH} {r : Nat} (hr0 : rdRow h0 r 0 0 1 = some [.int .i64 m]) {z : AV} {R : X → Env → AH → Prop} :
    ∀ (d j : Nat) (cs : List Clu) (v : AV) (h : AH), j + d = cs.length → cs.length < 2 ^ 30 → (∀ c ∈ cs, clueOk m c = true) → OwW 3 encC h0 h v cs → Pre h0 h →
    (∀ v' h', OwW 3 encC h0 h' v' (hardGo m d j cs) → Pre h0 h' → R (.exit 0) [(1, .ptr r 0 0 2), (2, z), (4, v')] h') →
    Cx (.loop lp213_0) [(1, .ptr r 0 0 2), (2, z), (4, v), (5, .int .i64 j)] h R k k
  | 0, j, cs, v, h, hj, hlen, hok, ho, hp, hR => by
    obtain rfl : j = cs.length := by omega
    have hv := fun g => Slc.lenV ((ho.slc hlC)) (g := g) (ρ := fun _ => _) (x := .t 0) rfl; simp only [evOp] at hv
    rw [w_loopb (c := lp213_0) (d := lb213_0) rfl]; unfold lb213_0
    simp (maxSteps := 1000000) (disch := first | omega | rfl | (simp only [zL, two63, room] <;> omega) | fail) only [↓reduceIte, ↓zP, zW, WOp, evOp, evBin, binI, binSh, binS, evNil, keyIs, keyEq, mkv, AV.cells, AV.sc, optv, bnd, env, put, Env.get, Env.set, Env.del, Env.dels, Env.init, res1, resL, resV, fillP, splice, newRow, Nat.reduceEqDiff, Nat.reduceLT, Nat.reduceLeDiff, Nat.reduceAdd, Nat.reduceMul, Nat.reduceSub, Nat.reduceBEq, reduceCtorEq, ↓zR, zQ, Tr, StA, StT, hv]
    exact hR v h ho hp
  | d + 1, j, cs, v, h, hj, hlen, hok, ho, hp, hR => by
    have ih := fun j' cs' => lp_sHard m hm hr0 (z := z) (R := R) d j' cs'
    have hs' := ho.slc hlC
    have q0 := rdRow_pre hp hr0
    have hlt : (j : Int) < (cs.length : Int) := by omega
    have hw1 : (j : Int) + 1 = ((j + 1 : Nat) : Int) := by omega
    have hsp : cs = cs.take j ++ cs[j]'(by omega) :: cs.drop (j + 1) := by rw [← List.drop_eq_getElem_cons, List.take_append_drop]
    have hpl : (cs.take j).length = j := by rw [List.length_take]; omega
    have hsc : Slc 3 encC h v (cs.take j ++ cs[j]'(by omega) :: cs.drop (j + 1)) := by rw [← hsp]; exact hs'
    have key := fun post => c_pzWithout (h := h) (post := post) (by rw [hpl, List.length_drop]; omega) hsc
    rw [hpl] at key
    have hbe : (((fitL m (wo cs j)).length : Int) == 1) = oneB m cs j := rfl
    have hwl := wo_len' (cs := cs) (j := j) (by omega)
    unfold hardGo at hR
    have hv := fun g => Slc.lenV (hs') (g := g) (ρ := fun _ => _) (x := .t 0) rfl; simp only [evOp] at hv
    rw [w_loopb (c := lp213_0) (d := lb213_0) rfl]; unfold lb213_0
    simp (maxSteps := 1000000) (disch := first | omega | rfl | (simp only [zL, two63, room] <;> omega) | fail) only [↓reduceIte, ↓zP, zW, WOp, evOp, evBin, binI, binSh, binS, evNil, keyIs, keyEq, mkv, AV.cells, AV.sc, optv, bnd, env, put, Env.get, Env.set, Env.del, Env.dels, Env.init, res1, resL, resV, fillP, splice, newRow, Nat.reduceEqDiff, Nat.reduceLT, Nat.reduceLeDiff, Nat.reduceAdd, Nat.reduceMul, Nat.reduceSub, Nat.reduceBEq, reduceCtorEq, ↓zR, zQ, Tr, StA, StT, hv, hlt]
    refine key _ ?_
    intro v1 h1 ho1 hp1
    have q01 := rdRow_pre hp1 q0
    simp (maxSteps := 1000000) (disch := first | omega | rfl | (simp only [zL, two63, room] <;> omega) | fail) only [↓reduceIte, ↓zP, zW, WOp, evOp, evBin, binI, binSh, binS, evNil, keyIs, keyEq, mkv, AV.cells, AV.sc, optv, bnd, env, put, Env.get, Env.set, Env.del, Env.dels, Env.init, res1, resL, resV, fillP, splice, newRow, Nat.reduceEqDiff, Nat.reduceLT, Nat.reduceLeDiff, Nat.reduceAdd, Nat.reduceMul, Nat.reduceSub, Nat.reduceBEq, reduceCtorEq, ↓zR, zQ, Tr, StA, StT, q01]
    refine c_pzSolved m hm (cs := wo cs j) (by omega) (fun c hc => hok c (wo_mem hc)) ho1.slc ?_
    intro h2 hp2
    have hp12 := hp1.trans hp2
    rw [hbe]
    cases e : oneB m cs j
    · rw [e] at hR
      simp (maxSteps := 1000000) (disch := first | omega | rfl | (simp only [zL, two63, room] <;> omega) | fail) only [↓reduceIte, ↓zP, zW, WOp, evOp, evBin, binI, binSh, binS, evNil, keyIs, keyEq, mkv, AV.cells, AV.sc, optv, bnd, env, put, Env.get, Env.set, Env.del, Env.dels, Env.init, res1, resL, resV, fillP, splice, newRow, Nat.reduceEqDiff, Nat.reduceLT, Nat.reduceLeDiff, Nat.reduceAdd, Nat.reduceMul, Nat.reduceSub, Nat.reduceBEq, reduceCtorEq, ↓zR, zQ, Tr, StA, StT, hw1]
      rw [w_loopn (c := lp213_0) rfl]
      simp (maxSteps := 1000000) (disch := first | omega | rfl | (simp only [zL, two63, room] <;> omega) | fail) only [↓reduceIte, ↓zP, zW, WOp, evOp, evBin, binI, binSh, binS, evNil, keyIs, keyEq, mkv, AV.cells, AV.sc, optv, bnd, env, put, Env.get, Env.set, Env.del, Env.dels, Env.init, res1, resL, resV, fillP, splice, newRow, Nat.reduceEqDiff, Nat.reduceLT, Nat.reduceLeDiff, Nat.reduceAdd, Nat.reduceMul, Nat.reduceSub, Nat.reduceBEq, reduceCtorEq, ↓zR, zQ, Tr, StA, StT]
      exact ih (j + 1) cs v h2 (by omega) hlen hok (ho.pre hp12) (hp.trans hp12) (by simpa using hR)
    · rw [e] at hR
      simp (maxSteps := 1000000) (disch := first | omega | rfl | (simp only [zL, two63, room] <;> omega) | fail) only [↓reduceIte, ↓zP, zW, WOp, evOp, evBin, binI, binSh, binS, evNil, keyIs, keyEq, mkv, AV.cells, AV.sc, optv, bnd, env, put, Env.get, Env.set, Env.del, Env.dels, Env.init, res1, resL, resV, fillP, splice, newRow, Nat.reduceEqDiff, Nat.reduceLT, Nat.reduceLeDiff, Nat.reduceAdd, Nat.reduceMul, Nat.reduceSub, Nat.reduceBEq, reduceCtorEq, ↓zR, zQ, Tr, StA, StT]
      rw [w_loopn (c := lp213_0) rfl]
      simp (maxSteps := 1000000) (disch := first | omega | rfl | (simp only [zL, two63, room] <;> omega) | fail) only [↓reduceIte, ↓zP, zW, WOp, evOp, evBin, binI, binSh, binS, evNil, keyIs, keyEq, mkv, AV.cells, AV.sc, optv, bnd, env, put, Env.get, Env.set, Env.del, Env.dels, Env.init, res1, resL, resV, fillP, splice, newRow, Nat.reduceEqDiff, Nat.reduceLT, Nat.reduceLeDiff, Nat.reduceAdd, Nat.reduceMul, Nat.reduceSub, Nat.reduceBEq, reduceCtorEq, ↓zR, zQ, Tr, StA, StT]
      exact ih j (wo cs j) v1 h2 (by omega) (by omega) (fun c hc => hok c (wo_mem hc)) ((ho1.pre hp2).w.base hp.1) (hp.trans hp12) (by simpa using hR)
theorem lp_Hard (m : Nat) (hm : 1 ≤ m ∧ m ≤ 5) {h0 : AH} {r : Nat} (hr0 : rdRow h0 r 0 0 1 = some [.int .i64 m]) {z : AV} {R : X → Env → AH → Prop} :
    ∀ (d j : Nat) (cs : List Clu) (v : AV) (h : AH), j + d = cs.length → cs.length < 2 ^ 30 → (∀ c ∈ cs, clueOk m c = true) → OwW 3 encC h0 h v cs → Pre h0 h →
    (∀ v' h', OwW 3 encC h0 h' v' (hardGo m d j cs) → Pre h0 h' → R (.exit 0) [(1, .ptr r 0 0 2), (2, z), (6, v')] h') →
    Cx (.loop lp214_0) [(1, .ptr r 0 0 2), (2, z), (6, v), (7, .int .i64 j)] h R k k
  | 0, j, cs, v, h, hj, hlen, hok, ho, hp, hR => by
    obtain rfl : j = cs.length := by omega
    have hv := fun g => Slc.lenV ((ho.slc hlC)) (g := g) (ρ := fun _ => _) (x := .t 0) rfl; simp only [evOp] at hv
    rw [w_loopb (c := lp214_0) (d := lb214_0) rfl]; unfold lb214_0
    simp (maxSteps := 1000000) (disch := first | omega | rfl | (simp only [zL, two63, room] <;> omega) | fail) only [↓reduceIte, ↓zP, zW, WOp, evOp, evBin, binI, binSh, binS, evNil, keyIs, keyEq, mkv, AV.cells, AV.sc, optv, bnd, env, put, Env.get, Env.set, Env.del, Env.dels, Env.init, res1, resL, resV, fillP, splice, newRow, Nat.reduceEqDiff, Nat.reduceLT, Nat.reduceLeDiff, Nat.reduceAdd, Nat.reduceMul, Nat.reduceSub, Nat.reduceBEq, reduceCtorEq, ↓zR, zQ, Tr, StA, StT, hv]
    exact hR v h ho hp
  | d + 1, j, cs, v, h, hj, hlen, hok, ho, hp, hR => by
    have ih := fun j' cs' => lp_Hard m hm hr0 (z := z) (R := R) d j' cs'
    have hs' := ho.slc hlC
    have q0 := rdRow_pre hp hr0
    have hlt : (j : Int) < (cs.length : Int) := by omega
    have hw1 : (j : Int) + 1 = ((j + 1 : Nat) : Int) := by omega
    have hsp : cs = cs.take j ++ cs[j]'(by omega) :: cs.drop (j + 1) := by rw [← List.drop_eq_getElem_cons, List.take_append_drop]
    have hpl : (cs.take j).length = j := by rw [List.length_take]; omega
    have hsc : Slc 3 encC h v (cs.take j ++ cs[j]'(by omega) :: cs.drop (j + 1)) := by rw [← hsp]; exact hs'
    have key := fun post => woSpec v (cs.take j) (cs.drop (j + 1)) (cs[j]'(by omega)) h post (by rw [hpl, List.length_drop]; omega) hsc
    rw [hpl] at key
    have hbe : (((fitL m (wo cs j)).length : Int) == 1) = oneB m cs j := rfl
    have hwl := wo_len' (cs := cs) (j := j) (by omega)
    unfold hardGo at hR
    have hv := fun g => Slc.lenV (hs') (g := g) (ρ := fun _ => _) (x := .t 0) rfl; simp only [evOp] at hv
    rw [w_loopb (c := lp214_0) (d := lb214_0) rfl]; unfold lb214_0
    simp (maxSteps := 1000000) (disch := first | omega | rfl | (simp only [zL, two63, room] <;> omega) | fail) only [↓reduceIte, ↓zP, zW, WOp, evOp, evBin, binI, binSh, binS, evNil, keyIs, keyEq, mkv, AV.cells, AV.sc, optv, bnd, env, put, Env.get, Env.set, Env.del, Env.dels, Env.init, res1, resL, resV, fillP, splice, newRow, Nat.reduceEqDiff, Nat.reduceLT, Nat.reduceLeDiff, Nat.reduceAdd, Nat.reduceMul, Nat.reduceSub, Nat.reduceBEq, reduceCtorEq, ↓zR, zQ, Tr, StA, StT, hv, hlt]
    refine key _ ?_
    intro v1 h1 ho1 hp1
    have q01 := rdRow_pre hp1 q0
    simp (maxSteps := 1000000) (disch := first | omega | rfl | (simp only [zL, two63, room] <;> omega) | fail) only [↓reduceIte, ↓zP, zW, WOp, evOp, evBin, binI, binSh, binS, evNil, keyIs, keyEq, mkv, AV.cells, AV.sc, optv, bnd, env, put, Env.get, Env.set, Env.del, Env.dels, Env.init, res1, resL, resV, fillP, splice, newRow, Nat.reduceEqDiff, Nat.reduceLT, Nat.reduceLeDiff, Nat.reduceAdd, Nat.reduceMul, Nat.reduceSub, Nat.reduceBEq, reduceCtorEq, ↓zR, zQ, Tr, StA, StT, q01]
    refine c_solve m hm (cs := wo cs j) (by omega) (fun c hc => hok c (wo_mem hc)) (ho1.slc hlC) ?_
    intro o2 h2 ho2 hp2
    have hv2 := fun g => Slc.lenV ((ho2.slc hlS)) (g := g) (ρ := fun _ => _) (x := .t 0) rfl; simp only [evOp] at hv2
    have hp12 := hp1.trans hp2
    cases e : oneB m cs j
    · rw [e] at hR hbe
      simp (maxSteps := 1000000) (disch := first | omega | rfl | (simp only [zL, two63, room] <;> omega) | fail) only [↓reduceIte, ↓zP, zW, WOp, evOp, evBin, binI, binSh, binS, evNil, keyIs, keyEq, mkv, AV.cells, AV.sc, optv, bnd, env, put, Env.get, Env.set, Env.del, Env.dels, Env.init, res1, resL, resV, fillP, splice, newRow, Nat.reduceEqDiff, Nat.reduceLT, Nat.reduceLeDiff, Nat.reduceAdd, Nat.reduceMul, Nat.reduceSub, Nat.reduceBEq, reduceCtorEq, ↓zR, zQ, Tr, StA, StT, hv2, hbe]
      simp (maxSteps := 1000000) (disch := first | omega | rfl | (simp only [zL, two63, room] <;> omega) | fail) only [↓reduceIte, ↓zP, zW, WOp, evOp, evBin, binI, binSh, binS, evNil, keyIs, keyEq, mkv, AV.cells, AV.sc, optv, bnd, env, put, Env.get, Env.set, Env.del, Env.dels, Env.init, res1, resL, resV, fillP, splice, newRow, Nat.reduceEqDiff, Nat.reduceLT, Nat.reduceLeDiff, Nat.reduceAdd, Nat.reduceMul, Nat.reduceSub, Nat.reduceBEq, reduceCtorEq, ↓zR, zQ, Tr, StA, StT, hw1]
      rw [w_loopn (c := lp214_0) rfl]
      simp (maxSteps := 1000000) (disch := first | omega | rfl | (simp only [zL, two63, room] <;> omega) | fail) only [↓reduceIte, ↓zP, zW, WOp, evOp, evBin, binI, binSh, binS, evNil, keyIs, keyEq, mkv, AV.cells, AV.sc, optv, bnd, env, put, Env.get, Env.set, Env.del, Env.dels, Env.init, res1, resL, resV, fillP, splice, newRow, Nat.reduceEqDiff, Nat.reduceLT, Nat.reduceLeDiff, Nat.reduceAdd, Nat.reduceMul, Nat.reduceSub, Nat.reduceBEq, reduceCtorEq, ↓zR, zQ, Tr, StA, StT]
      exact ih (j + 1) cs v h2 (by omega) hlen hok (ho.pre hp12) (hp.trans hp12) (by simpa using hR)
    · rw [e] at hR hbe
      simp (maxSteps := 1000000) (disch := first | omega | rfl | (simp only [zL, two63, room] <;> omega) | fail) only [↓reduceIte, ↓zP, zW, WOp, evOp, evBin, binI, binSh, binS, evNil, keyIs, keyEq, mkv, AV.cells, AV.sc, optv, bnd, env, put, Env.get, Env.set, Env.del, Env.dels, Env.init, res1, resL, resV, fillP, splice, newRow, Nat.reduceEqDiff, Nat.reduceLT, Nat.reduceLeDiff, Nat.reduceAdd, Nat.reduceMul, Nat.reduceSub, Nat.reduceBEq, reduceCtorEq, ↓zR, zQ, Tr, StA, StT, hv2, hbe]
      rw [w_loopn (c := lp214_0) rfl]
      simp (maxSteps := 1000000) (disch := first | omega | rfl | (simp only [zL, two63, room] <;> omega) | fail) only [↓reduceIte, ↓zP, zW, WOp, evOp, evBin, binI, binSh, binS, evNil, keyIs, keyEq, mkv, AV.cells, AV.sc, optv, bnd, env, put, Env.get, Env.set, Env.del, Env.dels, Env.init, res1, resL, resV, fillP, splice, newRow, Nat.reduceEqDiff, Nat.reduceLT, Nat.reduceLeDiff, Nat.reduceAdd, Nat.reduceMul, Nat.reduceSub, Nat.reduceBEq, reduceCtorEq, ↓zR, zQ, Tr, StA, StT]
      exact ih j (wo cs j) v1 h2 (by omega) (by omega) (fun c hc => hok c (wo_mem hc)) ((ho1.pre hp2).base hp.1) (hp.trans hp12) (by simpa using hR)

def hardC (n : Int) (cs : List Clu) : List Clu := if countP n cs == 1 then hardGo n.toNat cs.length 0 cs else []
def hardN (n : Int) (cs : List Clu) : Int := if countP n cs == 1 then n else 0
theorem hardC_len (n : Int) (cs : List Clu) : (hardC n cs).length ≤ cs.length := by
  unfold hardC; split
  · exact hardGo_len _ _ _ _
  · simp
theorem c_sHarder (n : Int) {v : AV} {cs : List Clu} (hlen : cs.length < 2 ^ 30) {h : AH} (hs : Slc 3 encC h v cs) {post : AV → AH → Prop} (hp : ∀ v' h', OwW 3 encC h h' v' (hardC n cs) → Pre h h' → post (.tup [pzV (hardN n cs) v', .bool (countP n cs == 1)]) h') : S 213 [pzV n v] h post k := by
  have P1 := Pre.push h (AO.row [.int .i64 n, v] 0 0 false)
  have P2 := Pre.push (h ++ [AO.row [.int .i64 n, v] 0 0 false]) (AO.row [.int .i64 0, .nilS] 0 0 false)
  have hsc := (sl_cells hs).2
  unfold AV.sc at hsc
  have r2 : rdRow (h ++ [AO.row [.int .i64 n, v] 0 0 false] ++ [AO.row [.int .i64 0, .nilS] 0 0 false]) h.length 0 0 2 = some [.int .i64 n, v] := rdRow_pre P2 (by rw [rd_last, if_pos (by simp)]; simp)
  have r0 : rdRow (h ++ [AO.row [.int .i64 n, v] 0 0 false] ++ [AO.row [.int .i64 0, .nilS] 0 0 false]) h.length 0 0 1 = some [.int .i64 n] := rdRow_pre P2 (by rw [rd_last, if_pos (by simp)]; simp)
  have r1 : rdRow (h ++ [AO.row [.int .i64 n, v] 0 0 false] ++ [AO.row [.int .i64 0, .nilS] 0 0 false]) h.length 0 1 1 = some [v] := rdRow_pre P2 (by rw [rd_last, if_pos (by simp)]; simp)
  have b2 := row2 h (AO.row [.int .i64 n, v] 0 0 false) (AO.row [.int .i64 0, .nilS] 0 0 false)
  have hcl : (h ++ [AO.row [.int .i64 n, v] 0 0 false]).length = h.length + 1 := by simp
  have hg : (h ++ [AO.row [.int .i64 n, v] 0 0 false] ++ [AO.row [.int .i64 0, .nilS] 0 0 false]).length = h.length + 2 := by simp
  have P := P1.trans P2
  have hs0 := hs.pre P
  refine S_of rfl T213 ?_; unfold fi213
  simp (maxSteps := 1000000) (disch := first | omega | rfl | (simp only [zL, two63, room] <;> omega) | fail) only [↓reduceIte, ↓zP, zW, WOp, evOp, evBin, binI, binSh, binS, evNil, keyIs, keyEq, mkv, AV.cells, AV.sc, optv, bnd, env, put, Env.get, Env.set, Env.del, Env.dels, Env.init, res1, resL, resV, fillP, splice, newRow, Nat.reduceEqDiff, Nat.reduceLT, Nat.reduceLeDiff, Nat.reduceAdd, Nat.reduceMul, Nat.reduceSub, Nat.reduceBEq, reduceCtorEq, ↓zR, zQ, Tr, StA, StT, hsc, r2]
  rw [hcl]
  generalize h ++ [AO.row [.int .i64 n, v] 0 0 false] ++ [AO.row [.int .i64 0, .nilS] 0 0 false] = g at *
  refine c_pzGood n hlen hs0 ?_
  intro h2 p2
  have q0 := rdRow_pre p2 r0
  have q1 := rdRow_pre p2 r1
  have c2 : h2[h.length + 1]? = some (AO.row [.int .i64 0, .nilS] 0 0 false) := by rw [p2.2 _ (by omega)]; exact b2
  have l2 : h.length + 1 < h2.length := by have := p2.1; omega
  have A2 := P.trans p2
  unfold hardC hardN countP at hp
  cases e : goodP n cs
  · simp only [e, Bool.false_eq_true, if_false] at hp
    simp (maxSteps := 1000000) (disch := first | omega | rfl | (simp only [zL, two63, room] <;> omega) | fail) only [↓reduceIte, ↓zP, zW, WOp, evOp, evBin, binI, binSh, binS, evNil, keyIs, keyEq, mkv, AV.cells, AV.sc, optv, bnd, env, put, Env.get, Env.set, Env.del, Env.dels, Env.init, res1, resL, resV, fillP, splice, newRow, Nat.reduceEqDiff, Nat.reduceLT, Nat.reduceLeDiff, Nat.reduceAdd, Nat.reduceMul, Nat.reduceSub, Nat.reduceBEq, reduceCtorEq, ↓zR, zQ, Tr, StA, StT, wr_of c2, List.length_set, l2]
    refine hp .nilS _ ?_ (A2.set (by omega))
    exact OwL.nil.w
  · rw [e] at hp
    simp only [if_true] at hp
    obtain ⟨m, rfl, m1, m5, m6, mok⟩ := goodP_iff e
    simp (maxSteps := 1000000) (disch := first | omega | rfl | (simp only [zL, two63, room] <;> omega) | fail) only [↓reduceIte, ↓zP, zW, WOp, evOp, evBin, binI, binSh, binS, evNil, keyIs, keyEq, mkv, AV.cells, AV.sc, optv, bnd, env, put, Env.get, Env.set, Env.del, Env.dels, Env.init, res1, resL, resV, fillP, splice, newRow, Nat.reduceEqDiff, Nat.reduceLT, Nat.reduceLeDiff, Nat.reduceAdd, Nat.reduceMul, Nat.reduceSub, Nat.reduceBEq, reduceCtorEq, ↓zR, zQ, Tr, StA, StT, q0, q1]
    refine c_pzSolved m m5 hlen mok (hs0.pre p2) ?_
    intro h3 p3
    have hcnt : (solN (m : Int) cs) = fitL m cs := rfl
    rw [hcnt] at hp
    have c3 : h3[h.length + 1]? = some (AO.row [.int .i64 0, .nilS] 0 0 false) := by rw [p3.2 _ l2]; exact c2
    have l3 : h.length + 1 < h3.length := by have := p3.1; omega
    have A3 := A2.trans p3
    have B3 := p2.trans p3
    have hs3 := hs0.pre B3
    have q03 := rdRow_pre p3 q0
    have q13 := rdRow_pre p3 q1
    cases e1 : (((fitL m cs).length : Int) == 1)
    · simp only [e1, Bool.false_eq_true, if_false] at hp
      simp (maxSteps := 1000000) (disch := first | omega | rfl | (simp only [zL, two63, room] <;> omega) | fail) only [↓reduceIte, ↓zP, zW, WOp, evOp, evBin, binI, binSh, binS, evNil, keyIs, keyEq, mkv, AV.cells, AV.sc, optv, bnd, env, put, Env.get, Env.set, Env.del, Env.dels, Env.init, res1, resL, resV, fillP, splice, newRow, Nat.reduceEqDiff, Nat.reduceLT, Nat.reduceLeDiff, Nat.reduceAdd, Nat.reduceMul, Nat.reduceSub, Nat.reduceBEq, reduceCtorEq, ↓zR, zQ, Tr, StA, StT, wr_of c3, List.length_set, l3]
      refine hp .nilS _ ?_ (A3.set (by omega))
      exact OwL.nil.w
    · simp only [e1, if_true, Int.toNat_natCast] at hp
      obtain ⟨v4, h4, ha4, ho4, p4⟩ := apM hlC scC (OwL.emp (h0 := h3) (h := h3)) (Pre.refl h3) cs (by simp; omega)
      have fin : ∀ v5 h5, OwW 3 encC h3 h5 v5 (hardGo m cs.length 0 cs) → Pre h3 h5 → post (.tup [pzV m v5, .bool true]) (h5.set (h.length + 1) (AO.row [.int .i64 m, v5] 0 0 false)) := fun v5 h5 o5 p5 => hp v5 _ ((o5.set l3).base A3.1) ((A3.trans p5).set (by omega))
      have tl : ∀ v5 h5, OwW 3 encC h3 h5 v5 (hardGo m cs.length 0 cs) → Pre h3 h5 → rdRow h5 h.length 0 0 1 = some [.int .i64 m] ∧ h5[h.length + 1]? = some (AO.row [.int .i64 0, .nilS] 0 0 false) ∧ h.length + 1 < h5.length := fun v5 h5 o5 p5 => ⟨rdRow_pre p5 q03, by rw [p5.2 _ l3]; exact c3, by have := p5.1; omega⟩
      rcases hs3.cases with ⟨rfl, rfl⟩ | ⟨rfl, rfl⟩ | ⟨c, kk, off, rfl⟩
      · have ha : apRow h3 3 .empS 0 [] = some (.empS, h3) := rfl
        have hd := c3
        simp (maxSteps := 1000000) (disch := first | omega | rfl | (simp only [zL, two63, room] <;> omega) | fail) only [↓reduceIte, ↓zP, zW, WOp, evOp, evBin, binI, binSh, binS, evNil, keyIs, keyEq, mkv, AV.cells, AV.sc, optv, bnd, env, put, Env.get, Env.set, Env.del, Env.dels, Env.init, res1, resL, resV, fillP, splice, newRow, Nat.reduceEqDiff, Nat.reduceLT, Nat.reduceLeDiff, Nat.reduceAdd, Nat.reduceMul, Nat.reduceSub, Nat.reduceBEq, reduceCtorEq, ↓zR, zQ, Tr, StA, StT, ha, hd, q13]
        refine lp_sHard m m5 q03 _ 0 [] .empS h3 (by simp only [Nat.zero_add]; rfl) hlen mok OwL.emp.w (Pre.refl _) ?_
        intro v6 h6 o6 p6
        obtain ⟨t1, t2, t3⟩ := tl v6 h6 o6 p6
        have := fin v6 h6 o6 p6
        have w1 := (sl_cells (o6.slc hlC)).1
        have w2 := (sl_cells (o6.slc hlC)).2
        simp only [AV.cells] at w1
        unfold AV.sc at w2
        simp (maxSteps := 1000000) (disch := first | omega | rfl | (simp only [zL, two63, room] <;> omega) | fail) only [↓reduceIte, ↓zP, zW, WOp, evOp, evBin, binI, binSh, binS, evNil, keyIs, keyEq, mkv, AV.cells, AV.sc, optv, bnd, env, put, Env.get, Env.set, Env.del, Env.dels, Env.init, res1, resL, resV, fillP, splice, newRow, Nat.reduceEqDiff, Nat.reduceLT, Nat.reduceLeDiff, Nat.reduceAdd, Nat.reduceMul, Nat.reduceSub, Nat.reduceBEq, reduceCtorEq, ↓zR, zQ, Tr, StA, StT, t1, wr_of t2, List.length_set, w1, w2]
        exact this
      · have ha : apRow h3 3 .empS 0 [] = some (.empS, h3) := rfl
        have hd := c3
        simp (maxSteps := 1000000) (disch := first | omega | rfl | (simp only [zL, two63, room] <;> omega) | fail) only [↓reduceIte, ↓zP, zW, WOp, evOp, evBin, binI, binSh, binS, evNil, keyIs, keyEq, mkv, AV.cells, AV.sc, optv, bnd, env, put, Env.get, Env.set, Env.del, Env.dels, Env.init, res1, resL, resV, fillP, splice, newRow, Nat.reduceEqDiff, Nat.reduceLT, Nat.reduceLeDiff, Nat.reduceAdd, Nat.reduceMul, Nat.reduceSub, Nat.reduceBEq, reduceCtorEq, ↓zR, zQ, Tr, StA, StT, ha, hd, q13]
        refine lp_sHard m m5 q03 _ 0 [] .empS h3 (by simp only [Nat.zero_add]; rfl) hlen mok OwL.emp.w (Pre.refl _) ?_
        intro v6 h6 o6 p6
        obtain ⟨t1, t2, t3⟩ := tl v6 h6 o6 p6
        have := fin v6 h6 o6 p6
        have w1 := (sl_cells (o6.slc hlC)).1
        have w2 := (sl_cells (o6.slc hlC)).2
        simp only [AV.cells] at w1
        unfold AV.sc at w2
        simp (maxSteps := 1000000) (disch := first | omega | rfl | (simp only [zL, two63, room] <;> omega) | fail) only [↓reduceIte, ↓zP, zW, WOp, evOp, evBin, binI, binSh, binS, evNil, keyIs, keyEq, mkv, AV.cells, AV.sc, optv, bnd, env, put, Env.get, Env.set, Env.del, Env.dels, Env.init, res1, resL, resV, fillP, splice, newRow, Nat.reduceEqDiff, Nat.reduceLT, Nat.reduceLeDiff, Nat.reduceAdd, Nat.reduceMul, Nat.reduceSub, Nat.reduceBEq, reduceCtorEq, ↓zR, zQ, Tr, StA, StT, t1, wr_of t2, List.length_set, w1, w2]
        exact this
      · have ha : apRow h3 3 .empS cs.length (cs.flatMap encC) = some (v4, h4) := ha4
        have hd := hs3.all.2.2
        simp (maxSteps := 1000000) (disch := first | omega | rfl | (simp only [zL, two63, room] <;> omega) | fail) only [↓reduceIte, ↓zP, zW, WOp, evOp, evBin, binI, binSh, binS, evNil, keyIs, keyEq, mkv, AV.cells, AV.sc, optv, bnd, env, put, Env.get, Env.set, Env.del, Env.dels, Env.init, res1, resL, resV, fillP, splice, newRow, Nat.reduceEqDiff, Nat.reduceLT, Nat.reduceLeDiff, Nat.reduceAdd, Nat.reduceMul, Nat.reduceSub, Nat.reduceBEq, reduceCtorEq, ↓zR, zQ, Tr, StA, StT, ha, hd, q13]
        refine lp_sHard m m5 q03 _ 0 cs v4 h4 (by simp only [Nat.zero_add]; rfl) hlen mok (by simpa using ho4.w) p4 ?_
        intro v6 h6 o6 p6
        obtain ⟨t1, t2, t3⟩ := tl v6 h6 o6 p6
        have := fin v6 h6 o6 p6
        have w1 := (sl_cells (o6.slc hlC)).1
        have w2 := (sl_cells (o6.slc hlC)).2
        simp only [AV.cells] at w1
        unfold AV.sc at w2
        simp (maxSteps := 1000000) (disch := first | omega | rfl | (simp only [zL, two63, room] <;> omega) | fail) only [↓reduceIte, ↓zP, zW, WOp, evOp, evBin, binI, binSh, binS, evNil, keyIs, keyEq, mkv, AV.cells, AV.sc, optv, bnd, env, put, Env.get, Env.set, Env.del, Env.dels, Env.init, res1, resL, resV, fillP, splice, newRow, Nat.reduceEqDiff, Nat.reduceLT, Nat.reduceLeDiff, Nat.reduceAdd, Nat.reduceMul, Nat.reduceSub, Nat.reduceBEq, reduceCtorEq, ↓zR, zQ, Tr, StA, StT, t1, wr_of t2, List.length_set, w1, w2]
        exact this
theorem c_Harder (n : Int) {v : AV} {cs : List Clu} (hlen : cs.length < 2 ^ 30) {h : AH} (hs : Slc 3 encC h v cs) {post : AV → AH → Prop} (hp : ∀ v' h', OwW 3 encC h h' v' (hardC n cs) → Pre h h' → post (.tup [pzV (hardN n cs) v', .bool (countP n cs == 1)]) h') : S 214 [pzV n v] h post k := by
  have P1 := Pre.push h (AO.row [.int .i64 n, v] 0 0 false)
  have P2 := Pre.push (h ++ [AO.row [.int .i64 n, v] 0 0 false]) (AO.row [.int .i64 0, .nilS] 0 0 false)
  have hsc := (sl_cells hs).2
  unfold AV.sc at hsc
  have r2 : rdRow (h ++ [AO.row [.int .i64 n, v] 0 0 false] ++ [AO.row [.int .i64 0, .nilS] 0 0 false]) h.length 0 0 2 = some [.int .i64 n, v] := rdRow_pre P2 (by rw [rd_last, if_pos (by simp)]; simp)
  have r0 : rdRow (h ++ [AO.row [.int .i64 n, v] 0 0 false] ++ [AO.row [.int .i64 0, .nilS] 0 0 false]) h.length 0 0 1 = some [.int .i64 n] := rdRow_pre P2 (by rw [rd_last, if_pos (by simp)]; simp)
  have r1 : rdRow (h ++ [AO.row [.int .i64 n, v] 0 0 false] ++ [AO.row [.int .i64 0, .nilS] 0 0 false]) h.length 0 1 1 = some [v] := rdRow_pre P2 (by rw [rd_last, if_pos (by simp)]; simp)
  have b2 := row2 h (AO.row [.int .i64 n, v] 0 0 false) (AO.row [.int .i64 0, .nilS] 0 0 false)
  have hcl : (h ++ [AO.row [.int .i64 n, v] 0 0 false]).length = h.length + 1 := by simp
  have hg : (h ++ [AO.row [.int .i64 n, v] 0 0 false] ++ [AO.row [.int .i64 0, .nilS] 0 0 false]).length = h.length + 2 := by simp
  have P := P1.trans P2
  have hs0 := hs.pre P
  refine S_of rfl T214 ?_; unfold fi214
  simp (maxSteps := 1000000) (disch := first | omega | rfl | (simp only [zL, two63, room] <;> omega) | fail) only [↓reduceIte, ↓zP, zW, WOp, evOp, evBin, binI, binSh, binS, evNil, keyIs, keyEq, mkv, AV.cells, AV.sc, optv, bnd, env, put, Env.get, Env.set, Env.del, Env.dels, Env.init, res1, resL, resV, fillP, splice, newRow, Nat.reduceEqDiff, Nat.reduceLT, Nat.reduceLeDiff, Nat.reduceAdd, Nat.reduceMul, Nat.reduceSub, Nat.reduceBEq, reduceCtorEq, ↓zR, zQ, Tr, StA, StT, hsc, r2]
  rw [hcl]
  generalize h ++ [AO.row [.int .i64 n, v] 0 0 false] ++ [AO.row [.int .i64 0, .nilS] 0 0 false] = g at *
  refine c_IsSolved n hlen hs0 ?_
  intro h3 p3
  have q1 := rdRow_pre p3 r1
  have c3 : h3[h.length + 1]? = some (AO.row [.int .i64 0, .nilS] 0 0 false) := by rw [p3.2 _ (by omega)]; exact b2
  have l3 : h.length + 1 < h3.length := by have := p3.1; omega
  have A3 := P.trans p3
  have hs3 := hs0.pre p3
  unfold hardC hardN at hp
  cases e1 : (countP n cs == 1)
  · simp only [e1, Bool.false_eq_true, if_false] at hp
    simp (maxSteps := 1000000) (disch := first | omega | rfl | (simp only [zL, two63, room] <;> omega) | fail) only [↓reduceIte, ↓zP, zW, WOp, evOp, evBin, binI, binSh, binS, evNil, keyIs, keyEq, mkv, AV.cells, AV.sc, optv, bnd, env, put, Env.get, Env.set, Env.del, Env.dels, Env.init, res1, resL, resV, fillP, splice, newRow, Nat.reduceEqDiff, Nat.reduceLT, Nat.reduceLeDiff, Nat.reduceAdd, Nat.reduceMul, Nat.reduceSub, Nat.reduceBEq, reduceCtorEq, ↓zR, zQ, Tr, StA, StT, wr_of c3, List.length_set, l3]
    refine hp .nilS _ ?_ (A3.set (by omega))
    exact OwL.nil.w
  · have e : goodP n cs = true := by
      cases e2 : goodP n cs
      · unfold countP at e1; rw [e2] at e1; simp at e1
      · rfl
    obtain ⟨m, rfl, m1, m5, m6, mok⟩ := goodP_iff e
    simp only [e1, if_true, Int.toNat_natCast] at hp
    have q03 := rdRow_pre p3 r0
    simp (maxSteps := 1000000) (disch := first | omega | rfl | (simp only [zL, two63, room] <;> omega) | fail) only [↓reduceIte, ↓zP, zW, WOp, evOp, evBin, binI, binSh, binS, evNil, keyIs, keyEq, mkv, AV.cells, AV.sc, optv, bnd, env, put, Env.get, Env.set, Env.del, Env.dels, Env.init, res1, resL, resV, fillP, splice, newRow, Nat.reduceEqDiff, Nat.reduceLT, Nat.reduceLeDiff, Nat.reduceAdd, Nat.reduceMul, Nat.reduceSub, Nat.reduceBEq, reduceCtorEq, ↓zR, zQ, Tr, StA, StT, q1]
    refine c_CloneC hlen hs3 ?_
    intro v4 h4 o4 p4
    have q04 := rdRow_pre p4 q03
    simp (maxSteps := 1000000) (disch := first | omega | rfl | (simp only [zL, two63, room] <;> omega) | fail) only [↓reduceIte, ↓zP, zW, WOp, evOp, evBin, binI, binSh, binS, evNil, keyIs, keyEq, mkv, AV.cells, AV.sc, optv, bnd, env, put, Env.get, Env.set, Env.del, Env.dels, Env.init, res1, resL, resV, fillP, splice, newRow, Nat.reduceEqDiff, Nat.reduceLT, Nat.reduceLeDiff, Nat.reduceAdd, Nat.reduceMul, Nat.reduceSub, Nat.reduceBEq, reduceCtorEq, ↓zR, zQ, Tr, StA, StT]
    refine lp_Hard m ⟨m1, m5⟩ q03 _ 0 cs v4 h4 (by simp only [Nat.zero_add]; rfl) hlen mok o4.w p4 ?_
    intro v6 h6 o6 p6
    have t1 := rdRow_pre p6 q03
    have t2 : h6[h.length + 1]? = some (AO.row [.int .i64 0, .nilS] 0 0 false) := by rw [p6.2 _ l3]; exact c3
    have t3 : h.length + 1 < h6.length := by have := p6.1; omega
    have := hp v6 _ ((o6.set (o := AO.row [.int .i64 m, v6] 0 0 false) l3).base A3.1) ((A3.trans p6).set (by omega))
    have w1 := (sl_cells (o6.slc hlC)).1
    have w2 := (sl_cells (o6.slc hlC)).2
    simp only [AV.cells] at w1
    unfold AV.sc at w2
    simp (maxSteps := 1000000) (disch := first | omega | rfl | (simp only [zL, two63, room] <;> omega) | fail) only [↓reduceIte, ↓zP, zW, WOp, evOp, evBin, binI, binSh, binS, evNil, keyIs, keyEq, mkv, AV.cells, AV.sc, optv, bnd, env, put, Env.get, Env.set, Env.del, Env.dels, Env.init, res1, resL, resV, fillP, splice, newRow, Nat.reduceEqDiff, Nat.reduceLT, Nat.reduceLeDiff, Nat.reduceAdd, Nat.reduceMul, Nat.reduceSub, Nat.reduceBEq, reduceCtorEq, ↓zR, zQ, Tr, StA, StT, t1, wr_of t2, List.length_set, w1, w2]
    exact this
theorem law_HarderPuzzle (n : Int) {v : AV} {cs : List Clu} (hlen : cs.length < 2 ^ 63) {h : AH} (hs : Slc 3 encC h v cs) : S 212 [pzV n v] h (fun r _ => r = .bool true) k := by
  have hpush := Pre.push h (AO.row [.int .i64 n, v] 0 0 false)
  have hsc := (sl_cells hs).2
  unfold AV.sc at hsc
  have r2 : rdRow (h ++ [AO.row [.int .i64 n, v] 0 0 false]) h.length 0 0 2 = some [.int .i64 n, v] := by rw [rd_last, if_pos (by simp)]; simp
  have hs0 := hs.pre hpush
  refine S_of rfl T212 ?_; unfold fi212
  simp (maxSteps := 1000000) (disch := first | omega | rfl | (simp only [zL, two63, room] <;> omega) | fail) only [↓reduceIte, ↓zP, zW, WOp, evOp, evBin, binI, binSh, binS, evNil, keyIs, keyEq, mkv, AV.cells, AV.sc, optv, bnd, env, put, Env.get, Env.set, Env.del, Env.dels, Env.init, res1, resL, resV, fillP, splice, newRow, Nat.reduceEqDiff, Nat.reduceLT, Nat.reduceLeDiff, Nat.reduceAdd, Nat.reduceMul, Nat.reduceSub, Nat.reduceBEq, reduceCtorEq, ↓zR, zQ, Tr, StA, StT, hsc]
  generalize h ++ [AO.row [.int .i64 n, v] 0 0 false] = H0 at *
  refine c_szPuzzle n hlen hs0 ?_
  intro h1 A1
  have q1 := rdRow_pre A1 r2
  by_cases hl : cs.length ≤ 1048576
  case neg =>
    simp only [if_neg hl]
    simp (maxSteps := 1000000) (disch := first | omega | rfl | (simp only [zL, two63, room] <;> omega) | fail) only [↓reduceIte, ↓zP, zW, WOp, evOp, evBin, binI, binSh, binS, evNil, keyIs, keyEq, mkv, AV.cells, AV.sc, optv, bnd, env, put, Env.get, Env.set, Env.del, Env.dels, Env.init, res1, resL, resV, fillP, splice, newRow, Nat.reduceEqDiff, Nat.reduceLT, Nat.reduceLeDiff, Nat.reduceAdd, Nat.reduceMul, Nat.reduceSub, Nat.reduceBEq, reduceCtorEq, ↓zR, zQ, Tr, StA, StT]
  simp only [if_pos hl]
  simp (maxSteps := 1000000) (disch := first | omega | rfl | (simp only [zL, two63, room] <;> omega) | fail) only [↓reduceIte, ↓zP, zW, WOp, evOp, evBin, binI, binSh, binS, evNil, keyIs, keyEq, mkv, AV.cells, AV.sc, optv, bnd, env, put, Env.get, Env.set, Env.del, Env.dels, Env.init, res1, resL, resV, fillP, splice, newRow, Nat.reduceEqDiff, Nat.reduceLT, Nat.reduceLeDiff, Nat.reduceAdd, Nat.reduceMul, Nat.reduceSub, Nat.reduceBEq, reduceCtorEq, ↓zR, zQ, Tr, StA, StT, q1]
  have hlen' : cs.length < 2 ^ 30 := by omega
  refine c_toPuzzle n hlen' (hs0.pre A1) ?_
  intro o2 h2 ho2 p2
  have A2 := A1.trans p2
  simp (maxSteps := 1000000) (disch := first | omega | rfl | (simp only [zL, two63, room] <;> omega) | fail) only [↓reduceIte, ↓zP, zW, WOp, evOp, evBin, binI, binSh, binS, evNil, keyIs, keyEq, mkv, AV.cells, AV.sc, optv, bnd, env, put, Env.get, Env.set, Env.del, Env.dels, Env.init, res1, resL, resV, fillP, splice, newRow, Nat.reduceEqDiff, Nat.reduceLT, Nat.reduceLeDiff, Nat.reduceAdd, Nat.reduceMul, Nat.reduceSub, Nat.reduceBEq, reduceCtorEq, ↓zR, zQ, Tr, StA, StT]
  refine c_sHarder n hlen' ho2.slc ?_
  intro w0 h3 hw0 p3
  have hLn : (hardC n cs).length < 2 ^ 30 := by have := hardC_len n cs; omega
  generalize hL : hardC n cs = L at *
  generalize hN : hardN n cs = N at *
  generalize hB : (countP n cs == 1) = B at *
  have A3 := A2.trans p3
  have w1 := (sl_cells (hw0.slc hlC)).1
  have w2 := (sl_cells (hw0.slc hlC)).2
  simp only [AV.cells] at w1
  unfold AV.sc at w2
  have s3 : rdRow (h3 ++ [AO.row [.int .i64 N, w0] 0 0 false]) h3.length 0 0 2 = some [.int .i64 N, w0] := by rw [rd_last, if_pos (by simp)]; simp
  have p3' := Pre.push h3 (AO.row [.int .i64 N, w0] 0 0 false)
  have A3' := A3.trans p3'
  have q3 := rdRow_pre A3' r2
  simp (maxSteps := 1000000) (disch := first | omega | rfl | (simp only [zL, two63, room] <;> omega) | fail) only [↓reduceIte, ↓zP, zW, WOp, evOp, evBin, binI, binSh, binS, evNil, keyIs, keyEq, mkv, AV.cells, AV.sc, optv, bnd, env, put, Env.get, Env.set, Env.del, Env.dels, Env.init, res1, resL, resV, fillP, splice, newRow, Nat.reduceEqDiff, Nat.reduceLT, Nat.reduceLeDiff, Nat.reduceAdd, Nat.reduceMul, Nat.reduceSub, Nat.reduceBEq, reduceCtorEq, ↓zR, zQ, Tr, StA, StT, w1, w2, q3]
  refine c_toPuzzle n hlen' (hs0.pre A3') ?_
  intro o4 h4 ho4 p4
  have A4 := A3'.trans p4
  have s4 := rdRow_pre p4 s3
  have x1 := (sl_cells ho4.slc).1
  have x2 := (sl_cells ho4.slc).2
  simp only [AV.cells] at x1
  unfold AV.sc at x2
  have r5 : rdRow (h4 ++ [AO.row [.int .i64 n, o4] 0 0 false]) h4.length 0 0 2 = some [.int .i64 n, o4] := by rw [rd_last, if_pos (by simp)]; simp
  have p5 := Pre.push h4 (AO.row [.int .i64 n, o4] 0 0 false)
  have hl5 : h4.length < (h4 ++ [AO.row [.int .i64 n, o4] 0 0 false]).length := by simp
  have hl3 : h3.length < (h3 ++ [AO.row [.int .i64 N, w0] 0 0 false]).length := by simp
  simp (maxSteps := 1000000) (disch := first | omega | rfl | (simp only [zL, two63, room] <;> omega) | fail) only [↓reduceIte, ↓zP, zW, WOp, evOp, evBin, binI, binSh, binS, evNil, keyIs, keyEq, mkv, AV.cells, AV.sc, optv, bnd, env, put, Env.get, Env.set, Env.del, Env.dels, Env.init, res1, resL, resV, fillP, splice, newRow, Nat.reduceEqDiff, Nat.reduceLT, Nat.reduceLeDiff, Nat.reduceAdd, Nat.reduceMul, Nat.reduceSub, Nat.reduceBEq, reduceCtorEq, ↓zR, zQ, Tr, StA, StT, x1, x2, r5]
  generalize hK3 : h3 ++ [AO.row [.int .i64 N, w0] 0 0 false] = K3 at *
  generalize hK5 : h4 ++ [AO.row [.int .i64 n, o4] 0 0 false] = K5 at *
  have A5 := A4.trans p5
  have s5 := rdRow_pre p5 s4
  refine c_Harder n hlen' (ho4.slc.pre p5) ?_
  intro g0 h6 hg0 p6
  rw [hL] at hg0
  rw [hN, hB]
  have A6 := A5.trans p6
  have s6 := rdRow_pre p6 s5
  have r6 := rdRow_pre p6 r5
  have y1 := (sl_cells (hg0.slc hlC)).1
  have y2 := (sl_cells (hg0.slc hlC)).2
  simp only [AV.cells] at y1
  unfold AV.sc at y2
  have p7 := Pre.push h6 (AO.row [.int .i64 N, g0] 0 0 false)
  have s7 := rdRow_pre p7 s6
  have t7 : rdRow (h6 ++ [AO.row [.int .i64 N, g0] 0 0 false]) h6.length 0 0 2 = some [.int .i64 N, g0] := by rw [rd_last, if_pos (by simp)]; simp
  have hl7 : h6.length < (h6 ++ [AO.row [.int .i64 N, g0] 0 0 false]).length := by simp
  simp (maxSteps := 1000000) (disch := first | omega | rfl | (simp only [zL, two63, room] <;> omega) | fail) only [↓reduceIte, ↓zP, zW, WOp, evOp, evBin, binI, binSh, binS, evNil, keyIs, keyEq, mkv, AV.cells, AV.sc, optv, bnd, env, put, Env.get, Env.set, Env.del, Env.dels, Env.init, res1, resL, resV, fillP, splice, newRow, Nat.reduceEqDiff, Nat.reduceLT, Nat.reduceLeDiff, Nat.reduceAdd, Nat.reduceMul, Nat.reduceSub, Nat.reduceBEq, reduceCtorEq, ↓zR, zQ, Tr, StA, StT, y1, y2, s7, t7]
  generalize hK7 : h6 ++ [AO.row [.int .i64 N, g0] 0 0 false] = K7 at *
  have A7 := A6.trans p7
  have r7 := rdRow_pre p7 r6
  have B7 := p3'.trans (p4.trans (p5.trans (p6.trans p7)))
  refine c_eqPuzzle N N hLn ((hg0.slc hlC).pre p7) ((hw0.slc hlC).pre B7) ?_
  intro h8 p8
  have q8 := rdRow_pre (A7.trans p8) r2
  have r8 := rdRow_pre p8 r7
  have s8 := rdRow_pre p8 s7
  have t8 := rdRow_pre p8 t7
  simp (maxSteps := 1000000) (disch := first | omega | rfl | (simp only [zL, two63, room] <;> omega) | fail) only [↓reduceIte, ↓zP, zW, WOp, evOp, evBin, binI, binSh, binS, evNil, keyIs, keyEq, mkv, AV.cells, AV.sc, optv, bnd, env, put, Env.get, Env.set, Env.del, Env.dels, Env.init, res1, resL, resV, fillP, splice, newRow, Nat.reduceEqDiff, Nat.reduceLT, Nat.reduceLeDiff, Nat.reduceAdd, Nat.reduceMul, Nat.reduceSub, Nat.reduceBEq, reduceCtorEq, ↓zR, zQ, Tr, StA, StT, bne_self_eq_false, beq_self_eq_true, r8, q8]
  refine w_drw ?_
  simp (maxSteps := 1000000) (disch := first | omega | rfl | (simp only [zL, two63, room] <;> omega) | fail) only [↓reduceIte, ↓zP, zW, WOp, evOp, evBin, binI, binSh, binS, evNil, keyIs, keyEq, mkv, AV.cells, AV.sc, optv, bnd, env, put, Env.get, Env.set, Env.del, Env.dels, Env.init, res1, resL, resV, fillP, splice, newRow, Nat.reduceEqDiff, Nat.reduceLT, Nat.reduceLeDiff, Nat.reduceAdd, Nat.reduceMul, Nat.reduceSub, Nat.reduceBEq, reduceCtorEq, ↓zR, zQ, Tr, StA, StT, r8, q8]
  have A8 := A7.trans p8
  refine c_toPuzzle n hlen' (hs0.pre A8) ?_
  intro o9 h9 ho9 p9
  have r9 := rdRow_pre p9 r8
  simp (maxSteps := 1000000) (disch := first | omega | rfl | (simp only [zL, two63, room] <;> omega) | fail) only [↓reduceIte, ↓zP, zW, WOp, evOp, evBin, binI, binSh, binS, evNil, keyIs, keyEq, mkv, AV.cells, AV.sc, optv, bnd, env, put, Env.get, Env.set, Env.del, Env.dels, Env.init, res1, resL, resV, fillP, splice, newRow, Nat.reduceEqDiff, Nat.reduceLT, Nat.reduceLeDiff, Nat.reduceAdd, Nat.reduceMul, Nat.reduceSub, Nat.reduceBEq, reduceCtorEq, ↓zR, zQ, Tr, StA, StT, r9, r8]
  have C9 := p5.trans (p6.trans (p7.trans (p8.trans p9)))
  refine c_eqPuzzle n n hlen' (ho4.slc.pre C9) ho9.slc ?_
  intro h10 p10
  have r10 := rdRow_pre p10 r9
  simp (maxSteps := 1000000) (disch := first | omega | rfl | (simp only [zL, two63, room] <;> omega) | fail) only [↓reduceIte, ↓zP, zW, WOp, evOp, evBin, binI, binSh, binS, evNil, keyIs, keyEq, mkv, AV.cells, AV.sc, optv, bnd, env, put, Env.get, Env.set, Env.del, Env.dels, Env.init, res1, resL, resV, fillP, splice, newRow, Nat.reduceEqDiff, Nat.reduceLT, Nat.reduceLeDiff, Nat.reduceAdd, Nat.reduceMul, Nat.reduceSub, Nat.reduceBEq, reduceCtorEq, ↓zR, zQ, Tr, StA, StT, r10, r9, r8, bne_self_eq_false, beq_self_eq_true]
  have C10 := C9.trans p10
  have ho4' := (ho4.w).pre C10
  refine c_markPuzzle n ho4' 1 hlen' (by omega) ?_
  intro h11 _ v11
  have A10 := A8.trans (p9.trans p10)
  have A11 := v11.keep ho4' A10 A3'.1
  have D10 := p4.trans C10
  have D11 := v11.keep ho4' D10 (Nat.le_refl _)
  have hlt4 := ho4.slc.row_lt
  have p810 := p8.trans (p9.trans p10)
  have t11 := rdRow_prev v11 (rdRow_pre p810 t7) (fun c kk off nn e hv => Nat.ne_of_gt (Nat.lt_of_lt_of_le (hlt4 c kk off nn e hv) (Nat.le_trans p5.1 p6.1)))
  have s11 := rdRow_pre D11 s3
  have hg11 := ((hg0.pre p7).pre p810).keep v11 (fun c kk off nn e hv => Nat.lt_of_lt_of_le (hlt4 c kk off nn e hv) p5.1)
  have hk : ¬ ((1 : Int) + 3 * (cs.length : Int) < 0) := by omega
  simp (maxSteps := 1000000) (disch := first | omega | rfl | (simp only [zL, two63, room] <;> omega) | fail) only [↓reduceIte, ↓zP, zW, WOp, evOp, evBin, binI, binSh, binS, evNil, keyIs, keyEq, mkv, AV.cells, AV.sc, optv, bnd, env, put, Env.get, Env.set, Env.del, Env.dels, Env.init, res1, resL, resV, fillP, splice, newRow, Nat.reduceEqDiff, Nat.reduceLT, Nat.reduceLeDiff, Nat.reduceAdd, Nat.reduceMul, Nat.reduceSub, Nat.reduceBEq, reduceCtorEq, ↓zR, zQ, Tr, StA, StT, hk, t11, s11]
  refine c_eqPuzzle N N hLn (hg11.slc hlC) (((hw0.slc hlC).pre p3').pre D11) ?_
  intro h12 p12
  have t12 := rdRow_pre p12 t11
  simp (maxSteps := 1000000) (disch := first | omega | rfl | (simp only [zL, two63, room] <;> omega) | fail) only [↓reduceIte, ↓zP, zW, WOp, evOp, evBin, binI, binSh, binS, evNil, keyIs, keyEq, mkv, AV.cells, AV.sc, optv, bnd, env, put, Env.get, Env.set, Env.del, Env.dels, Env.init, res1, resL, resV, fillP, splice, newRow, Nat.reduceEqDiff, Nat.reduceLT, Nat.reduceLeDiff, Nat.reduceAdd, Nat.reduceMul, Nat.reduceSub, Nat.reduceBEq, reduceCtorEq, ↓zR, zQ, Tr, StA, StT, bne_self_eq_false, beq_self_eq_true, t12]
  have hg12 := hg11.pre p12
  refine c_markPuzzle N hg12 1 hLn (by omega) ?_
  intro h13 hm13 v13
  have A13 := v13.keep hg12 (A11.trans p12) A5.1
  have D13 := v13.keep hg12 (D11.trans p12) (Nat.le_trans p4.1 p5.1)
  have hlt0 := (hg0.slc hlC).row_lt
  have t13 := rdRow_prev v13 t12 (fun c kk off nn e hv => Nat.ne_of_gt (hlt0 c kk off nn e hv))
  have s13 := rdRow_pre D13 s3
  have hk2 : ¬ ((1 : Int) + 3 * (L.length : Int) < 0) := by omega
  simp (maxSteps := 1000000) (disch := first | omega | rfl | (simp only [zL, two63, room] <;> omega) | fail) only [↓reduceIte, ↓zP, zW, WOp, evOp, evBin, binI, binSh, binS, evNil, keyIs, keyEq, mkv, AV.cells, AV.sc, optv, bnd, env, put, Env.get, Env.set, Env.del, Env.dels, Env.init, res1, resL, resV, fillP, splice, newRow, Nat.reduceEqDiff, Nat.reduceLT, Nat.reduceLeDiff, Nat.reduceAdd, Nat.reduceMul, Nat.reduceSub, Nat.reduceBEq, reduceCtorEq, ↓zR, zQ, Tr, StA, StT, t13]
  refine c_heldPuzzle N 1 L.length hLn (by omega) (hm13.slc hlC) ?_
  intro h14 p14
  have A14 := A13.trans p14
  have D14 := D13.trans p14
  have q14 := rdRow_pre A14 r2
  have t14 := rdRow_pre p14 t13
  simp (maxSteps := 1000000) (disch := first | omega | rfl | (simp only [zL, two63, room] <;> omega) | fail) only [↓reduceIte, ↓zP, zW, WOp, evOp, evBin, binI, binSh, binS, evNil, keyIs, keyEq, mkv, AV.cells, AV.sc, optv, bnd, env, put, Env.get, Env.set, Env.del, Env.dels, Env.init, res1, resL, resV, fillP, splice, newRow, Nat.reduceEqDiff, Nat.reduceLT, Nat.reduceLeDiff, Nat.reduceAdd, Nat.reduceMul, Nat.reduceSub, Nat.reduceBEq, reduceCtorEq, ↓zR, zQ, Tr, StA, StT, hk2, bne_self_eq_false, q14]
  refine c_toPuzzle n hlen' (hs0.pre A14) ?_
  intro o15 h15 ho15 p15
  simp (maxSteps := 1000000) (disch := first | omega | rfl | (simp only [zL, two63, room] <;> omega) | fail) only [↓reduceIte, ↓zP, zW, WOp, evOp, evBin, binI, binSh, binS, evNil, keyIs, keyEq, mkv, AV.cells, AV.sc, optv, bnd, env, put, Env.get, Env.set, Env.del, Env.dels, Env.init, res1, resL, resV, fillP, splice, newRow, Nat.reduceEqDiff, Nat.reduceLT, Nat.reduceLeDiff, Nat.reduceAdd, Nat.reduceMul, Nat.reduceSub, Nat.reduceBEq, reduceCtorEq, ↓zR, zQ, Tr, StA, StT]
  refine c_Harder n hlen' ho15.slc ?_
  intro u0 h16 hu0 p16
  rw [hL] at hu0
  rw [hN, hB]
  have z1 := (sl_cells (hu0.slc hlC)).1
  have z2 := (sl_cells (hu0.slc hlC)).2
  simp only [AV.cells] at z1
  unfold AV.sc at z2
  have p17 := Pre.push h16 (AO.row [.int .i64 N, u0] 0 0 false)
  have E17 := p15.trans (p16.trans p17)
  have s17 := rdRow_pre (D14.trans E17) s3
  have t17 := rdRow_pre E17 t14
  have u17 : rdRow (h16 ++ [AO.row [.int .i64 N, u0] 0 0 false]) h16.length 0 0 2 = some [.int .i64 N, u0] := by rw [rd_last, if_pos (by simp)]; simp
  simp (maxSteps := 1000000) (disch := first | omega | rfl | (simp only [zL, two63, room] <;> omega) | fail) only [↓reduceIte, ↓zP, zW, WOp, evOp, evBin, binI, binSh, binS, evNil, keyIs, keyEq, mkv, AV.cells, AV.sc, optv, bnd, env, put, Env.get, Env.set, Env.del, Env.dels, Env.init, res1, resL, resV, fillP, splice, newRow, Nat.reduceEqDiff, Nat.reduceLT, Nat.reduceLeDiff, Nat.reduceAdd, Nat.reduceMul, Nat.reduceSub, Nat.reduceBEq, reduceCtorEq, ↓zR, zQ, Tr, StA, StT, z1, z2, s17, u17]
  generalize hK17 : h16 ++ [AO.row [.int .i64 N, u0] 0 0 false] = K17 at *
  refine c_eqPuzzle N N hLn ((hu0.slc hlC).pre p17) (((hw0.slc hlC).pre p3').pre (D14.trans E17)) ?_
  intro h18 p18
  have t18 := rdRow_pre p18 t17
  simp (maxSteps := 1000000) (disch := first | omega | rfl | (simp only [zL, two63, room] <;> omega) | fail) only [↓reduceIte, ↓zP, zW, WOp, evOp, evBin, binI, binSh, binS, evNil, keyIs, keyEq, mkv, AV.cells, AV.sc, optv, bnd, env, put, Env.get, Env.set, Env.del, Env.dels, Env.init, res1, resL, resV, fillP, splice, newRow, Nat.reduceEqDiff, Nat.reduceLT, Nat.reduceLeDiff, Nat.reduceAdd, Nat.reduceMul, Nat.reduceSub, Nat.reduceBEq, reduceCtorEq, ↓zR, zQ, Tr, StA, StT, bne_self_eq_false, beq_self_eq_true, t18]
  refine c_heldPuzzle N 1 L.length hLn (by omega) ((hm13.pre (p14.trans (E17.trans p18))).slc hlC) ?_
  intro h19 p19
  simp (maxSteps := 1000000) (disch := first | omega | rfl | (simp only [zL, two63, room] <;> omega) | fail) only [↓reduceIte, ↓zP, zW, WOp, evOp, evBin, binI, binSh, binS, evNil, keyIs, keyEq, mkv, AV.cells, AV.sc, optv, bnd, env, put, Env.get, Env.set, Env.del, Env.dels, Env.init, res1, resL, resV, fillP, splice, newRow, Nat.reduceEqDiff, Nat.reduceLT, Nat.reduceLeDiff, Nat.reduceAdd, Nat.reduceMul, Nat.reduceSub, Nat.reduceBEq, reduceCtorEq, ↓zR, zQ, Tr, StA, StT, hk2, bne_self_eq_false]
end Go.Proofs.YtmlmfjjfciiblaaGreatDoor.Ab
