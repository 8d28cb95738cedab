/- The proof that the law FnExactSureCells of the given program returns true for every input; the condition: the tables that the row lists are laid as the program's text lays them. -/
import Derived.Test.YtnkkgghpfgihfaaDoorCards
import Derived.Test.YtnkkgghpfgihfaaDoorTie
import Derived.OpenShut
import Derived.Deep.DeepHandedRow
import Derived.Lib.LaidTab
import Derived.Test.YtnkkgghpfgihfaaDoorQ4
set_option linter.unusedSimpArgs false
set_option linter.unusedVariables false
/- PUZZLES: the cells that all solutions share; the law of SureCells. -/
namespace Go.Proofs.YtnkkgghpfgihfaaDoor.Ab
open Go
set_option maxRecDepth 100000
set_option maxHeartbeats 4000000

abbrev encU (b : UInt8) : List AV := [.int .u8 b.toNat]
theorem hlU (s : UInt8) : (encU s).length = 1 := rfl
theorem flatU : ∀ s : List UInt8, s.flatMap encU = s.map fun b => AV.int .u8 b.toNat
  | [] => rfl
  | b :: s => by rw [List.flatMap_cons, flatU s]; rfl
def mg (c x : UInt8) : UInt8 := if x == c then c else 63
def mgL (cur w : List UInt8) : List UInt8 := List.zipWith mg cur w
theorem mgL_len (cur w : List UInt8) (h : w.length = cur.length) : (mgL cur w).length = cur.length := by unfold mgL; rw [List.length_zipWith, h]; omega
def sg (L : List (List UInt8)) (hd : List UInt8) (i : Nat) : List UInt8 := if L.all (fun w => (w.drop i).take 1 == (hd.drop i).take 1) then (hd.drop i).take 1 else [63]
def acc (L : List (List UInt8)) (hd : List UInt8) (i : Nat) : List UInt8 := (List.range i).flatMap (sg L hd)
theorem sg_len (L : List (List UInt8)) (hd : List UInt8) (i : Nat) : (sg L hd i).length ≤ 1 := by unfold sg; split <;> simp; omega
theorem acc_succ (L : List (List UInt8)) (hd : List UInt8) (i : Nat) : acc L hd (i + 1) = acc L hd i ++ sg L hd i := by unfold acc; rw [List.range_succ, List.flatMap_append]; simp
theorem acc_len (L : List (List UInt8)) (hd : List UInt8) : ∀ i, (acc L hd i).length ≤ i
  | 0 => by simp [acc]
  | i + 1 => by have := acc_len L hd i; have := sg_len L hd i; rw [acc_succ, List.length_append]; omega
theorem tk1 (w : List UInt8) (i : Nat) (h : i < w.length) : (w.drop i).take 1 = [w.getD i 0] := by
  rw [List.drop_eq_getElem_cons h, List.take_succ_cons, List.take_zero]
  simp [List.getD, h]
theorem mgL_at (cur w : List UInt8) (i : Nat) (h : i < cur.length) (hw : w.length = cur.length) : (mgL cur w).getD i 0 = mg (cur.getD i 0) (w.getD i 0) := by
  have h2 : i < w.length := by omega
  have h3 : i < (List.zipWith mg cur w).length := by simp; omega
  unfold mgL
  simp only [List.getD, List.getElem?_eq_getElem h, List.getElem?_eq_getElem h2, List.getElem?_eq_getElem h3, Option.getD_some, List.getElem_zipWith]
theorem fold_at (n : Nat) : ∀ (L : List (List UInt8)) (cur : List UInt8), cur.length = n → (∀ w ∈ L, w.length = n) →
    L.foldl mgL cur = (List.range n).map fun i => if L.all (fun w => w.getD i 0 == cur.getD i 0) then cur.getD i 0 else 63
  | [], cur, hc, _ => by
    simp only [List.foldl_nil, List.all_nil, if_true]
    apply List.ext_getElem
    · simp [hc]
    · intro i h1 h2
      simp [List.getD, h1]
  | w :: L, cur, hc, hw => by
    have hwl := hw w (by simp)
    rw [List.foldl_cons, fold_at n L (mgL cur w) (by rw [mgL_len _ _ (by omega), hc]) (fun x hx => hw x (by simp [hx]))]
    apply List.map_congr_left
    intro i hi
    have hi := List.mem_range.1 hi
    rw [mgL_at cur w i (by omega) (by omega)]
    simp only [List.all_cons]
    unfold mg
    by_cases e : (w.getD i 0 == cur.getD i 0) = true
    · simp only [e, if_true, Bool.true_and]
    · rw [Bool.not_eq_true] at e
      simp only [e, Bool.false_and, Bool.false_eq_true, if_false]
      split <;> rfl
theorem acc_eq (n : Nat) (L : List (List UInt8)) (hd : List UInt8) (hn : hd.length = n) (hw : ∀ w ∈ L, w.length = n) : acc L hd n = L.foldl mgL hd := by
  rw [fold_at n L hd hn hw]
  unfold acc
  rw [List.map_eq_flatMap]
  have : ∀ (R : List Nat), (∀ i ∈ R, i < n) → R.flatMap (sg L hd) = R.flatMap fun i => [if L.all (fun w => w.getD i 0 == hd.getD i 0) then hd.getD i 0 else 63] := by
    intro R hR
    induction R with
    | nil => rfl
    | cons i R ih =>
      rw [List.flatMap_cons, List.flatMap_cons, ih fun j hj => hR j (by simp [hj])]
      congr 1
      have hi := hR i (by simp)
      unfold sg
      rw [tk1 hd i (by omega)]
      have hall : (L.all fun w => (w.drop i).take 1 == [hd.getD i 0]) = L.all fun w => w.getD i 0 == hd.getD i 0 := by
        rw [Bool.eq_iff_iff, List.all_eq_true, List.all_eq_true]
        constructor
        · intro h x hx
          have := h x hx
          rw [tk1 x i (by rw [hw x hx]; exact hi)] at this
          simpa using this
        · intro h x hx
          have := h x hx
          rw [tk1 x i (by rw [hw x hx]; exact hi)]
          simpa using this
      rw [hall]
      split <;> rfl
  exact this _ fun i hi => List.mem_range.1 hi

/-! ### The program's -/
theorem lp_SureCells1 (b : AH) (n22 n23 n24 : AV) {o : AV} {W : List UInt8} (hW : W.length < 2 ^ 30) {R : X → Env → AH → Prop} : ∀ (rest pre w1 w2 : List UInt8) (h : AH), W = w1 ++ w2 → w1.length = pre.length → w2.length = rest.length → OwW 1 encU b h o (pre ++ rest) →
    (∀ h', OwW 1 encU b h' o (pre ++ mgL rest w2) → PreV o h h' → R (.exit 2) [(6, o), (22, n22), (23, n23), (24, n24)] h') →
    Cx (.loop lp151_1) [(6, o), (8, .str W), (22, n22), (23, n23), (24, n24), (29, .int .i64 W.length), (30, .int .i64 pre.length)] h R k k
  | [], pre, w1, w2, h, hw, h1, h2, ho, hR => by
    obtain rfl : w2 = [] := List.eq_nil_of_length_eq_zero h2
    have hl : W.length = pre.length := by rw [hw]; simp; omega
    rw [w_loopb (c := lp151_1) (d := lb151_1) rfl]; unfold lb151_1
    simp (maxSteps := 1000000) (disch := first | omega | rfl | (simp only [zL, two63, room] <;> omega) | fail) only [↓reduceIte, ↓zP, zW, WOp, evOp, evBin, binI, binSh, binS, evNil, keyIs, keyEq, mkv, AV.cells, AV.sc, optv, bnd, env, put, Env.get, Env.set, Env.del, Env.dels, Env.init, res1, resL, resV, fillP, splice, newRow, Nat.reduceEqDiff, Nat.reduceLT, Nat.reduceLeDiff, Nat.reduceAdd, Nat.reduceMul, Nat.reduceSub, Nat.reduceBEq, reduceCtorEq, ↓zR, zQ, Tr, StA, StT, hl]
    exact hR h (by simpa [mgL] using ho) (PreV.refl _ _)
  | x :: rest, pre, w1, [], h, hw, h1, h2, ho, hR => by simp at h2
  | x :: rest, pre, w1, y :: w2, h, hw, h1, h2, ho, hR => by
    have ih := lp_SureCells1 b n22 n23 n24 (o := o) hW (R := R) rest (pre ++ [mg x y]) (w1 ++ [y]) w2
    simp only [List.length_cons] at h2
    have hl : W.length = pre.length + 1 + rest.length := by rw [hw]; simp; omega
    have hll : (pre ++ x :: rest).length = pre.length + 1 + rest.length := by simp; omega
    have hg : W.getD pre.length 0 = y := by rw [hw, ← h1]; simp [List.getD]
    obtain ⟨c, kk, off, hve, hr⟩ := (ho.slc hlU).at hlU
    rw [hll] at hve
    have hst := ho.store hlU 63 0 [.int .u8 63] (by simp) rfl rfl
    subst hve
    have hlt : (pre.length : Int) < ((pre.length + 1 + rest.length : Nat) : Int) := by omega
    have hlt2 : (pre.length : Int) < (W.length : Int) := by omega
    have hw1 : (pre.length : Int) + 1 = ((pre ++ [mg x y]).length : Int) := by simp
    cases e : (y == x)
    · obtain ⟨c', kk', off', h', hve, hwr, ho', hpv⟩ := hst
      simp only [AV.slice.injEq] at hve
      obtain ⟨rfl, rfl, rfl, -⟩ := hve
      rw [Nat.add_zero] at hwr
      have hmg : mg x y = 63 := by unfold mg; rw [e]; rfl
      rw [w_loopb (c := lp151_1) (d := lb151_1) rfl]; unfold lb151_1
      simp (maxSteps := 1000000) (disch := first | omega | rfl | (simp only [zL, two63, room] <;> omega) | fail) only [↓reduceIte, ↓zP, zW, WOp, evOp, evBin, binI, binSh, binS, evNil, keyIs, keyEq, mkv, AV.cells, AV.sc, optv, bnd, env, put, Env.get, Env.set, Env.del, Env.dels, Env.init, res1, resL, resV, fillP, splice, newRow, Nat.reduceEqDiff, Nat.reduceLT, Nat.reduceLeDiff, Nat.reduceAdd, Nat.reduceMul, Nat.reduceSub, Nat.reduceBEq, reduceCtorEq, ↓zR, zQ, Tr, StA, StT, hlt2, hlt, hg, hr, e, hwr]
      simp (maxSteps := 1000000) (disch := first | omega | rfl | (simp only [zL, two63, room] <;> omega) | fail) only [↓reduceIte, ↓zP, zW, WOp, evOp, evBin, binI, binSh, binS, evNil, keyIs, keyEq, mkv, AV.cells, AV.sc, optv, bnd, env, put, Env.get, Env.set, Env.del, Env.dels, Env.init, res1, resL, resV, fillP, splice, newRow, Nat.reduceEqDiff, Nat.reduceLT, Nat.reduceLeDiff, Nat.reduceAdd, Nat.reduceMul, Nat.reduceSub, Nat.reduceBEq, reduceCtorEq, ↓zR, zQ, Tr, StA, StT, hw1]
      rw [w_loopn (c := lp151_1) rfl]
      simp (maxSteps := 1000000) (disch := first | omega | rfl | (simp only [zL, two63, room] <;> omega) | fail) only [↓reduceIte, ↓zP, zW, WOp, evOp, evBin, binI, binSh, binS, evNil, keyIs, keyEq, mkv, AV.cells, AV.sc, optv, bnd, env, put, Env.get, Env.set, Env.del, Env.dels, Env.init, res1, resL, resV, fillP, splice, newRow, Nat.reduceEqDiff, Nat.reduceLT, Nat.reduceLeDiff, Nat.reduceAdd, Nat.reduceMul, Nat.reduceSub, Nat.reduceBEq, reduceCtorEq, ↓zR, zQ, Tr, StA, StT]
      refine ih h' (by simp [hw]) (by simp [h1]) (by omega) (by rw [hmg]; simpa using ho') ?_
      intro h2 ho2 hpv2
      exact hR h2 (by simpa [mgL] using ho2) (hpv.trans hpv2)
    · have hmg : mg x y = x := by unfold mg; rw [e]; rfl
      rw [w_loopb (c := lp151_1) (d := lb151_1) rfl]; unfold lb151_1
      simp (maxSteps := 1000000) (disch := first | omega | rfl | (simp only [zL, two63, room] <;> omega) | fail) only [↓reduceIte, ↓zP, zW, WOp, evOp, evBin, binI, binSh, binS, evNil, keyIs, keyEq, mkv, AV.cells, AV.sc, optv, bnd, env, put, Env.get, Env.set, Env.del, Env.dels, Env.init, res1, resL, resV, fillP, splice, newRow, Nat.reduceEqDiff, Nat.reduceLT, Nat.reduceLeDiff, Nat.reduceAdd, Nat.reduceMul, Nat.reduceSub, Nat.reduceBEq, reduceCtorEq, ↓zR, zQ, Tr, StA, StT, hlt2, hlt, hg, hr, e]
      simp (maxSteps := 1000000) (disch := first | omega | rfl | (simp only [zL, two63, room] <;> omega) | fail) only [↓reduceIte, ↓zP, zW, WOp, evOp, evBin, binI, binSh, binS, evNil, keyIs, keyEq, mkv, AV.cells, AV.sc, optv, bnd, env, put, Env.get, Env.set, Env.del, Env.dels, Env.init, res1, resL, resV, fillP, splice, newRow, Nat.reduceEqDiff, Nat.reduceLT, Nat.reduceLeDiff, Nat.reduceAdd, Nat.reduceMul, Nat.reduceSub, Nat.reduceBEq, reduceCtorEq, ↓zR, zQ, Tr, StA, StT, hw1]
      rw [w_loopn (c := lp151_1) rfl]
      simp (maxSteps := 1000000) (disch := first | omega | rfl | (simp only [zL, two63, room] <;> omega) | fail) only [↓reduceIte, ↓zP, zW, WOp, evOp, evBin, binI, binSh, binS, evNil, keyIs, keyEq, mkv, AV.cells, AV.sc, optv, bnd, env, put, Env.get, Env.set, Env.del, Env.dels, Env.init, res1, resL, resV, fillP, splice, newRow, Nat.reduceEqDiff, Nat.reduceLT, Nat.reduceLeDiff, Nat.reduceAdd, Nat.reduceMul, Nat.reduceSub, Nat.reduceBEq, reduceCtorEq, ↓zR, zQ, Tr, StA, StT]
      refine ih h (by simp [hw]) (by simp [h1]) (by omega) (by rw [hmg]; simpa using ho) ?_
      intro h2 ho2 hpv2
      exact hR h2 (by simpa [mgL] using ho2) hpv2
theorem lp_SureCells0 (n : Nat) (hn : n < 2 ^ 30) {b : AH} {v o : AV} {L : List (List UInt8)} (hL : L.length < 2 ^ 30) (hs : Slc 1 encS b v L) (hw : ∀ w ∈ L, w.length = n) {R : X → Env → AH → Prop} : ∀ (rest pre : List (List UInt8)) (cur : List UInt8) (h : AH), L = pre ++ rest → cur.length = n → OwW 1 encU b h o cur → Pre b h →
    (∀ h', OwW 1 encU b h' o (rest.foldl mgL cur) → Pre b h' → R (.exit 0) [(6, o)] h') →
    Cx (.loop lp151_0) [(6, o), (22, v), (23, .int .i64 L.length), (24, .int .i64 pre.length)] h R k k
  | [], pre, cur, h, hpre, hc, ho, hp, hR => by
    subst hpre
    rw [w_loopb (c := lp151_0) (d := lb151_0) rfl]; unfold lb151_0
    simp only [List.append_nil]
    simp (maxSteps := 1000000) (disch := first | omega | rfl | (simp only [zL, two63, room] <;> omega) | fail) only [↓reduceIte, ↓zP, zW, WOp, evOp, evBin, binI, binSh, binS, evNil, keyIs, keyEq, mkv, AV.cells, AV.sc, optv, bnd, env, put, Env.get, Env.set, Env.del, Env.dels, Env.init, res1, resL, resV, fillP, splice, newRow, Nat.reduceEqDiff, Nat.reduceLT, Nat.reduceLeDiff, Nat.reduceAdd, Nat.reduceMul, Nat.reduceSub, Nat.reduceBEq, reduceCtorEq, ↓zR, zQ, Tr, StA, StT]
    exact hR h ho hp
  | w :: rest, pre, cur, h, hpre, hc, ho, hp, hR => by
    have hww := hw w (by rw [hpre]; simp)
    have ih := lp_SureCells0 n hn hL hs hw (o := o) (R := R) rest (pre ++ [w]) (mgL cur w)
    have hll : L.length = pre.length + 1 + rest.length := by rw [hpre]; simp; omega
    have hs' := hs.pre hp
    rw [hpre] at hs'
    obtain ⟨r1, k1, o1, hv, hr⟩ := hs'.at hlS
    rw [← hpre, hll] at hv
    subst hv
    have ho1 := fun g => Slc.lenV ((ho.slc hlU)) (g := g) (ρ := fun _ => _) (x := .t 0) rfl; simp only [evOp] at ho1
    have hlc : (cur.length : Int) = (w.length : Int) := by omega
    rw [hll] at ih hL ⊢
    have hlt : (pre.length : Int) < ((pre.length + 1 + rest.length : Nat) : Int) := by omega
    have hw1 : (pre.length : Int) + 1 = ((pre ++ [w]).length : Int) := by simp
    rw [w_loopb (c := lp151_0) (d := lb151_0) rfl]; unfold lb151_0
    simp (maxSteps := 1000000) (disch := first | omega | rfl | (simp only [zL, two63, room] <;> omega) | fail) only [↓reduceIte, ↓zP, zW, WOp, evOp, evBin, binI, binSh, binS, evNil, keyIs, keyEq, mkv, AV.cells, AV.sc, optv, bnd, env, put, Env.get, Env.set, Env.del, Env.dels, Env.init, res1, resL, resV, fillP, splice, newRow, Nat.reduceEqDiff, Nat.reduceLT, Nat.reduceLeDiff, Nat.reduceAdd, Nat.reduceMul, Nat.reduceSub, Nat.reduceBEq, reduceCtorEq, ↓zR, zQ, Tr, StA, StT, hlt, hr, ho1]
    simp (maxSteps := 1000000) (disch := first | omega | rfl | (simp only [zL, two63, room] <;> omega) | fail) only [↓reduceIte, ↓zP, zW, WOp, evOp, evBin, binI, binSh, binS, evNil, keyIs, keyEq, mkv, AV.cells, AV.sc, optv, bnd, env, put, Env.get, Env.set, Env.del, Env.dels, Env.init, res1, resL, resV, fillP, splice, newRow, Nat.reduceEqDiff, Nat.reduceLT, Nat.reduceLeDiff, Nat.reduceAdd, Nat.reduceMul, Nat.reduceSub, Nat.reduceBEq, reduceCtorEq, ↓zR, zQ, Tr, StA, StT, hlc]
    refine lp_SureCells1 b _ _ _ (W := w) (by omega) cur [] [] w h rfl rfl (by omega) ho ?_
    intro h' ho' hpv
    simp (maxSteps := 1000000) (disch := first | omega | rfl | (simp only [zL, two63, room] <;> omega) | fail) only [↓reduceIte, ↓zP, zW, WOp, evOp, evBin, binI, binSh, binS, evNil, keyIs, keyEq, mkv, AV.cells, AV.sc, optv, bnd, env, put, Env.get, Env.set, Env.del, Env.dels, Env.init, res1, resL, resV, fillP, splice, newRow, Nat.reduceEqDiff, Nat.reduceLT, Nat.reduceLeDiff, Nat.reduceAdd, Nat.reduceMul, Nat.reduceSub, Nat.reduceBEq, reduceCtorEq, ↓zR, zQ, Tr, StA, StT, hw1]
    rw [w_loopn (c := lp151_0) rfl]
    simp (maxSteps := 1000000) (disch := first | omega | rfl | (simp only [zL, two63, room] <;> omega) | fail) only [↓reduceIte, ↓zP, zW, WOp, evOp, evBin, binI, binSh, binS, evNil, keyIs, keyEq, mkv, AV.cells, AV.sc, optv, bnd, env, put, Env.get, Env.set, Env.del, Env.dels, Env.init, res1, resL, resV, fillP, splice, newRow, Nat.reduceEqDiff, Nat.reduceLT, Nat.reduceLeDiff, Nat.reduceAdd, Nat.reduceMul, Nat.reduceSub, Nat.reduceBEq, reduceCtorEq, ↓zR, zQ, Tr, StA, StT]
    exact ih h' (by rw [hpre]; simp) (by rw [mgL_len _ _ (by omega)]; exact hc) ho' (hpv.keep ho hp (Nat.le_refl _)) hR
def sureP (n : Int) (cs : List Clu) : List UInt8 := (solP n cs).foldl mgL ((solP n cs).headD [])
theorem solP_word (n : Int) (cs : List Clu) : ∀ w ∈ solP n cs, w.length = n.toNat ∧ n.toNat ≤ 5 := by
  unfold solP
  intro w hw
  cases e : goodP n cs
  · rw [e] at hw; simp at hw
  · obtain ⟨m, rfl, m1, m5, _⟩ := goodP_iff e
    rw [e] at hw
    exact ⟨(allL_good m w (List.mem_filter.1 hw).1).1, m5⟩
theorem solP_len (n : Int) (cs : List Clu) : (solP n cs).length ≤ 243 := by
  unfold solP
  cases e : goodP n cs
  · simp
  · obtain ⟨m, rfl, m1, m5, _⟩ := goodP_iff e
    have h1 := List.length_filter_le (fun w => cs.all fun c => fitB c w) (allL m)
    have h2 := allL_length m
    have h3 : 3 ^ m ≤ 3 ^ 5 := Nat.pow_le_pow_right (by omega) m5
    have h4 : (solN (m : Int) cs).length ≤ (allL m).length := h1
    simp only [if_true]
    omega
theorem ownU {h : AH} (s : List UInt8) : OwW 1 encU h (h ++ [AO.row (s.map fun b => AV.int .u8 b.toNat) 0 0 false]) (.slice h.length 0 0 s.length 1) s := by
  unfold OwW
  simp only
  refine ⟨trivial, trivial, Nat.le_refl _, [], [], 0, ?_, Nat.le_refl _, rfl⟩
  rw [List.getElem?_append_right (Nat.le_refl _), flatU]
  simp
theorem c_SureCells (n : Int) {v : AV} {cs : List Clu} (hlen : cs.length < 2 ^ 30) {h : AH} (hs : Slc 3 encC h v cs) {post : AV → AH → Prop} (hp : ∀ h', Pre h h' → post (.tup [.str (sureP n cs), .bool (!(solP n cs).isEmpty)]) h') : S 151 [pzV n v] h post k := by
  have hpush := Pre.push h (AO.row [.int .i64 n, v] 0 0 false)
  have hsc := (sl_cells hs).2
  unfold AV.sc at hsc
  refine S_of rfl T151 ?_; unfold fi151
  simp (maxSteps := 1000000) (disch := first | omega | rfl | (simp only [zL, two63, room] <;> omega) | fail) only [↓reduceIte, ↓zP, zW, WOp, evOp, evBin, binI, binSh, binS, evNil, keyIs, keyEq, mkv, AV.cells, AV.sc, optv, bnd, env, put, Env.get, Env.set, Env.del, Env.dels, Env.init, res1, resL, resV, fillP, splice, newRow, Nat.reduceEqDiff, Nat.reduceLT, Nat.reduceLeDiff, Nat.reduceAdd, Nat.reduceMul, Nat.reduceSub, Nat.reduceBEq, reduceCtorEq, ↓zR, zQ, Tr, StA, StT, hsc]
  refine c_Solutions n hlen (hs.pre hpush) ?_
  intro v' h2 ho hp2
  change OwW 1 encS _ h2 v' (solP n cs) at ho
  have hsl := ho.slc hlS
  have hwd := solP_word n cs
  have hll := solP_len n cs
  unfold sureP at hp
  generalize solP n cs = L at *
  have hv := fun g => Slc.lenV (hsl) (g := g) (ρ := fun _ => _) (x := .t 0) rfl; simp only [evOp] at hv
  cases L with
  | nil => simp (maxSteps := 1000000) (disch := first | omega | rfl | (simp only [zL, two63, room] <;> omega) | fail) only [↓reduceIte, ↓zP, zW, WOp, evOp, evBin, binI, binSh, binS, evNil, keyIs, keyEq, mkv, AV.cells, AV.sc, optv, bnd, env, put, Env.get, Env.set, Env.del, Env.dels, Env.init, res1, resL, resV, fillP, splice, newRow, Nat.reduceEqDiff, Nat.reduceLT, Nat.reduceLeDiff, Nat.reduceAdd, Nat.reduceMul, Nat.reduceSub, Nat.reduceBEq, reduceCtorEq, ↓zR, zQ, Tr, StA, StT, hv]; exact hp h2 (hpush.trans hp2)
  | cons x rest =>
    have hsl0 := hsl
    obtain ⟨hx1, hx2⟩ := hwd x (by simp)
    obtain ⟨c, kk, off, hve, hr⟩ := Slc.at (pre := []) hlS hsl
    have h0 : (((rest.length + 1 : Nat) : Int) == 0) = false := beq_eq_false_iff_ne.2 (by omega)
    have hr0 : rdRow h2 c kk (off + Int.toNat 0 * 1) 1 = some (encS x) := hr
    have hsb := sc_bytes x
    have hrm : x.length ≤ room := by unfold room; omega
    simp only [List.length_cons] at hll hv
    have key := fun R => lp_SureCells0 n.toNat (by omega) (b := h2) (v := v') (o := .slice h2.length 0 0 x.length 1) (L := x :: rest) (by simp; omega) hsl0 (fun w hw => (hwd w hw).1) (R := R)
    simp only [List.length_cons, List.nil_append] at key hve
    subst hve
    simp (maxSteps := 1000000) (disch := first | omega | rfl | (simp only [zL, two63, room] <;> omega) | fail) only [↓reduceIte, ↓zP, zW, WOp, evOp, evBin, binI, binSh, binS, evNil, keyIs, keyEq, mkv, AV.cells, AV.sc, optv, bnd, env, put, Env.get, Env.set, Env.del, Env.dels, Env.init, res1, resL, resV, fillP, splice, newRow, Nat.reduceEqDiff, Nat.reduceLT, Nat.reduceLeDiff, Nat.reduceAdd, Nat.reduceMul, Nat.reduceSub, Nat.reduceBEq, reduceCtorEq, ↓zR, zQ, Tr, StA, StT, hv, hr0, h0, hsb, hrm]
    refine key _ (x :: rest) [] x _ rfl hx1 (ownU x) (Pre.push _ _) ?_
    intro h3 ho3 hp3
    have hfl : ((x :: rest).foldl mgL x).length = x.length := by
      rw [fold_at n.toNat (x :: rest) x hx1 (fun w hw => (hwd w hw).1)]; simp; omega
    obtain ⟨_, _, hrd⟩ := (ho3.slc hlU).all
    rw [flatU, Nat.mul_one] at hrd
    have hbl := bytesL_map ((x :: rest).foldl mgL x)
    simp (maxSteps := 1000000) (disch := first | omega | rfl | (simp only [zL, two63, room] <;> omega) | fail) only [↓reduceIte, ↓zP, zW, WOp, evOp, evBin, binI, binSh, binS, evNil, keyIs, keyEq, mkv, AV.cells, AV.sc, optv, bnd, env, put, Env.get, Env.set, Env.del, Env.dels, Env.init, res1, resL, resV, fillP, splice, newRow, Nat.reduceEqDiff, Nat.reduceLT, Nat.reduceLeDiff, Nat.reduceAdd, Nat.reduceMul, Nat.reduceSub, Nat.reduceBEq, reduceCtorEq, ↓zR, zQ, Tr, StA, StT, hrd, hbl]
    exact hp h3 ((hpush.trans hp2).trans hp3)

/-! ### The reference's -/
theorem lp_sSureCells1 (n i : Nat) (hi : i < n) (hn : n ≤ 5) (a1 a4 a5 : AV) {v : AV} {L : List (List UInt8)} (hL : L.length < 2 ^ 30) {h : AH} (hs : Slc 1 encS h v L) (hw : ∀ w ∈ L, w.length = n) (s : List UInt8) {R : X → Env → AH → Prop} : ∀ (rest pre : List (List UInt8)), L = pre ++ rest →
    R (.exit 2) [(1, a1), (4, a4), (5, a5), (6, .int .i64 i), (7, .str (if rest.all (fun w => (w.drop i).take 1 == s) then s else [63]))] h →
    Cx (.loop lp150_1) [(1, a1), (4, a4), (5, a5), (6, .int .i64 i), (7, .str s), (34, v), (35, .int .i64 L.length), (36, .int .i64 pre.length)] h R k k
  | [], pre, hpre, hR => by
    subst hpre
    rw [w_loopb (c := lp150_1) (d := lb150_1) rfl]; unfold lb150_1
    simp only [List.append_nil]
    simp only [List.all_nil, if_true] at hR
    simp (maxSteps := 1000000) (disch := first | omega | rfl | (simp only [zL, two63, room] <;> omega) | fail) only [↓reduceIte, ↓zP, zW, WOp, evOp, evBin, binI, binSh, binS, evNil, keyIs, keyEq, mkv, AV.cells, AV.sc, optv, bnd, env, put, Env.get, Env.set, Env.del, Env.dels, Env.init, res1, resL, resV, fillP, splice, newRow, Nat.reduceEqDiff, Nat.reduceLT, Nat.reduceLeDiff, Nat.reduceAdd, Nat.reduceMul, Nat.reduceSub, Nat.reduceBEq, reduceCtorEq, ↓zR, zQ, Tr, StA, StT]
    exact hR
  | w :: rest, pre, hpre, hR => by
    have hww := hw w (by rw [hpre]; simp)
    have ih := lp_sSureCells1 n i hi hn a1 a4 a5 hL hs hw s (R := R) rest (pre ++ [w]) (by rw [hpre]; simp)
    have hll : L.length = pre.length + 1 + rest.length := by rw [hpre]; simp; omega
    have hs' := hs
    rw [hpre] at hs'
    obtain ⟨r1, k1, o1, hv, hr⟩ := hs'.at hlS
    rw [← hpre, hll] at hv
    subst hv
    rw [hll] at ih hL ⊢
    have hlt : (pre.length : Int) < ((pre.length + 1 + rest.length : Nat) : Int) := by omega
    have hw1 : (pre.length : Int) + 1 = ((pre ++ [w]).length : Int) := by simp
    have hb1 : (0 : Int) ≤ (i : Int) + 1 := by omega
    have hb2 : (i : Int) + 1 ≤ (w.length : Int) := by omega
    have hb3 : ((i : Int) + 1).toNat = i + 1 := by omega
    have hb4 : (i : Int) ≤ ((i + 1 : Nat) : Int) := by omega
    have hb5 : i + 1 - i = 1 := by omega
    simp only [List.all_cons] at hR
    cases e : ((w.drop i).take 1 == s)
    · have en : ((w.drop i).take 1 != s) = true := by simp only [bne, e]; rfl
      simp only [e, Bool.false_and, Bool.false_eq_true, if_false] at hR
      rw [w_loopb (c := lp150_1) (d := lb150_1) rfl]; unfold lb150_1
      simp (maxSteps := 1000000) (disch := first | omega | rfl | (simp only [zL, two63, room] <;> omega) | fail) only [↓reduceIte, ↓zP, zW, WOp, evOp, evBin, binI, binSh, binS, evNil, keyIs, keyEq, mkv, AV.cells, AV.sc, optv, bnd, env, put, Env.get, Env.set, Env.del, Env.dels, Env.init, res1, resL, resV, fillP, splice, newRow, Nat.reduceEqDiff, Nat.reduceLT, Nat.reduceLeDiff, Nat.reduceAdd, Nat.reduceMul, Nat.reduceSub, Nat.reduceBEq, reduceCtorEq, ↓zR, zQ, Tr, StA, StT, hlt, hr, hb1, hb2, hb3, hb4, hb5, e, en]
      simpa using hR
    · have en : ((w.drop i).take 1 != s) = false := by simp only [bne, e]; rfl
      simp only [e, Bool.true_and] at hR
      rw [w_loopb (c := lp150_1) (d := lb150_1) rfl]; unfold lb150_1
      simp (maxSteps := 1000000) (disch := first | omega | rfl | (simp only [zL, two63, room] <;> omega) | fail) only [↓reduceIte, ↓zP, zW, WOp, evOp, evBin, binI, binSh, binS, evNil, keyIs, keyEq, mkv, AV.cells, AV.sc, optv, bnd, env, put, Env.get, Env.set, Env.del, Env.dels, Env.init, res1, resL, resV, fillP, splice, newRow, Nat.reduceEqDiff, Nat.reduceLT, Nat.reduceLeDiff, Nat.reduceAdd, Nat.reduceMul, Nat.reduceSub, Nat.reduceBEq, reduceCtorEq, ↓zR, zQ, Tr, StA, StT, hlt, hr, hb1, hb2, hb3, hb4, hb5, e, en]
      simp (maxSteps := 1000000) (disch := first | omega | rfl | (simp only [zL, two63, room] <;> omega) | fail) only [↓reduceIte, ↓zP, zW, WOp, evOp, evBin, binI, binSh, binS, evNil, keyIs, keyEq, mkv, AV.cells, AV.sc, optv, bnd, env, put, Env.get, Env.set, Env.del, Env.dels, Env.init, res1, resL, resV, fillP, splice, newRow, Nat.reduceEqDiff, Nat.reduceLT, Nat.reduceLeDiff, Nat.reduceAdd, Nat.reduceMul, Nat.reduceSub, Nat.reduceBEq, reduceCtorEq, ↓zR, zQ, Tr, StA, StT, hw1]
      rw [w_loopn (c := lp150_1) rfl]
      simp (maxSteps := 1000000) (disch := first | omega | rfl | (simp only [zL, two63, room] <;> omega) | fail) only [↓reduceIte, ↓zP, zW, WOp, evOp, evBin, binI, binSh, binS, evNil, keyIs, keyEq, mkv, AV.cells, AV.sc, optv, bnd, env, put, Env.get, Env.set, Env.del, Env.dels, Env.init, res1, resL, resV, fillP, splice, newRow, Nat.reduceEqDiff, Nat.reduceLT, Nat.reduceLeDiff, Nat.reduceAdd, Nat.reduceMul, Nat.reduceSub, Nat.reduceBEq, reduceCtorEq, ↓zR, zQ, Tr, StA, StT]
      exact ih hR
theorem lp_sSureCells0 (n : Nat) (hn : n ≤ 5) {v : AV} {L : List (List UInt8)} (hL : L.length < 2 ^ 30) {h : AH} (hs : Slc 1 encS h v L) (hw : ∀ w ∈ L, w.length = n) {x : List UInt8} {rest : List (List UInt8)} (hx : L = x :: rest) {r : Nat} (hr0 : rdRow h r 0 0 1 = some [.int .i64 n]) {R : X → Env → AH → Prop} : ∀ (d i : Nat), i + d = n →
    R (.exit 0) [(5, .str (acc L x n))] h →
    Cx (.loop lp150_0) [(1, .ptr r 0 0 2), (4, v), (5, .str (acc L x i)), (6, .int .i64 i)] h R k k
  | 0, i, hi, hR => by
    obtain rfl : i = n := by omega
    rw [w_loopb (c := lp150_0) (d := lb150_0) rfl]; unfold lb150_0
    simp (maxSteps := 1000000) (disch := first | omega | rfl | (simp only [zL, two63, room] <;> omega) | fail) only [↓reduceIte, ↓zP, zW, WOp, evOp, evBin, binI, binSh, binS, evNil, keyIs, keyEq, mkv, AV.cells, AV.sc, optv, bnd, env, put, Env.get, Env.set, Env.del, Env.dels, Env.init, res1, resL, resV, fillP, splice, newRow, Nat.reduceEqDiff, Nat.reduceLT, Nat.reduceLeDiff, Nat.reduceAdd, Nat.reduceMul, Nat.reduceSub, Nat.reduceBEq, reduceCtorEq, ↓zR, zQ, Tr, StA, StT, hr0]
    exact hR
  | d + 1, i, hi, hR => by
    have ih := lp_sSureCells0 n hn hL hs hw hx hr0 (R := R) d (i + 1) (by omega) hR
    have hxl := hw x (by rw [hx]; simp)
    have hs' := hs
    rw [hx] at hs'
    obtain ⟨c, kk, off, hv, hr⟩ := Slc.at (pre := []) hlS hs'
    have hr00 : rdRow h c kk (off + Int.toNat 0 * 1) 1 = some (encS x) := hr
    have hlv := fun g => Slc.lenV (hs) (g := g) (ρ := fun _ => _) (x := .t 0) rfl; simp only [evOp] at hlv
    have key := fun R => lp_sSureCells1 n i (by omega) hn (.ptr r 0 0 2) v (.str (acc L x i)) hL hs hw ((x.drop i).take 1) (R := R) L [] rfl
    have hsg : (if L.all (fun w => (w.drop i).take 1 == (x.drop i).take 1) then (x.drop i).take 1 else [63]) = sg L x i := rfl
    simp only [hsg] at key
    have hal := acc_len L x i
    have hsl := sg_len L x i
    rw [acc_succ] at ih
    have hL1 : L.length = rest.length + 1 := by rw [hx]; rfl
    simp only [List.nil_append, List.length_cons, ← hL1] at hv
    subst hv
    have hlt : (i : Int) < (n : Int) := by omega
    have h0L : (0 : Int) < (L.length : Int) := by omega
    have hb1 : (0 : Int) ≤ (i : Int) + 1 := by omega
    have hb2 : (i : Int) + 1 ≤ (x.length : Int) := by omega
    have hb3 : ((i : Int) + 1).toNat = i + 1 := by omega
    have hb4 : (i : Int) ≤ ((i + 1 : Nat) : Int) := by omega
    have hb5 : i + 1 - i = 1 := by omega
    have hw1 : (i : Int) + 1 = ((i + 1 : Nat) : Int) := by omega
    rw [w_loopb (c := lp150_0) (d := lb150_0) rfl]; unfold lb150_0
    simp (maxSteps := 1000000) (disch := first | omega | rfl | (simp only [zL, two63, room] <;> omega) | fail) only [↓reduceIte, ↓zP, zW, WOp, evOp, evBin, binI, binSh, binS, evNil, keyIs, keyEq, mkv, AV.cells, AV.sc, optv, bnd, env, put, Env.get, Env.set, Env.del, Env.dels, Env.init, res1, resL, resV, fillP, splice, newRow, Nat.reduceEqDiff, Nat.reduceLT, Nat.reduceLeDiff, Nat.reduceAdd, Nat.reduceMul, Nat.reduceSub, Nat.reduceBEq, reduceCtorEq, ↓zR, zQ, Tr, StA, StT, hr0, hlt, hr00, h0L, hb1, hb2, hb3, hb4, hb5, hlv]
    refine key _ ?_
    simp (maxSteps := 1000000) (disch := first | omega | rfl | (simp only [zL, two63, room] <;> omega) | fail) only [↓reduceIte, ↓zP, zW, WOp, evOp, evBin, binI, binSh, binS, evNil, keyIs, keyEq, mkv, AV.cells, AV.sc, optv, bnd, env, put, Env.get, Env.set, Env.del, Env.dels, Env.init, res1, resL, resV, fillP, splice, newRow, Nat.reduceEqDiff, Nat.reduceLT, Nat.reduceLeDiff, Nat.reduceAdd, Nat.reduceMul, Nat.reduceSub, Nat.reduceBEq, reduceCtorEq, ↓zR, zQ, Tr, StA, StT]
    simp (maxSteps := 1000000) (disch := first | omega | rfl | (simp only [zL, two63, room] <;> omega) | fail) only [↓reduceIte, ↓zP, zW, WOp, evOp, evBin, binI, binSh, binS, evNil, keyIs, keyEq, mkv, AV.cells, AV.sc, optv, bnd, env, put, Env.get, Env.set, Env.del, Env.dels, Env.init, res1, resL, resV, fillP, splice, newRow, Nat.reduceEqDiff, Nat.reduceLT, Nat.reduceLeDiff, Nat.reduceAdd, Nat.reduceMul, Nat.reduceSub, Nat.reduceBEq, reduceCtorEq, ↓zR, zQ, Tr, StA, StT, hw1]
    rw [w_loopn (c := lp150_0) rfl]
    simp (maxSteps := 1000000) (disch := first | omega | rfl | (simp only [zL, two63, room] <;> omega) | fail) only [↓reduceIte, ↓zP, zW, WOp, evOp, evBin, binI, binSh, binS, evNil, keyIs, keyEq, mkv, AV.cells, AV.sc, optv, bnd, env, put, Env.get, Env.set, Env.del, Env.dels, Env.init, res1, resL, resV, fillP, splice, newRow, Nat.reduceEqDiff, Nat.reduceLT, Nat.reduceLeDiff, Nat.reduceAdd, Nat.reduceMul, Nat.reduceSub, Nat.reduceBEq, reduceCtorEq, ↓zR, zQ, Tr, StA, StT]
    exact ih
theorem c_sSureCells (n : Int) {v : AV} {cs : List Clu} (hlen : cs.length < 2 ^ 30) {h : AH} (hs : Slc 3 encC h v cs) {post : AV → AH → Prop} (hp : ∀ h', Pre h h' → post (.tup [.str (sureP n cs), .bool (!(solP n cs).isEmpty)]) h') : S 150 [pzV n v] h post k := by
  have hpush := Pre.push h (AO.row [.int .i64 n, v] 0 0 false)
  have hsc := (sl_cells hs).2
  unfold AV.sc at hsc
  have r2 : rdRow (h ++ [AO.row [.int .i64 n, v] 0 0 false]) h.length 0 0 2 = some [.int .i64 n, v] := by rw [rd_last, if_pos (by simp)]; simp
  have r0 : rdRow (h ++ [AO.row [.int .i64 n, v] 0 0 false]) h.length 0 0 1 = some [.int .i64 n] := by rw [rd_last, if_pos (by simp)]; simp
  have r1 : rdRow (h ++ [AO.row [.int .i64 n, v] 0 0 false]) h.length 0 1 1 = some [v] := by rw [rd_last, if_pos (by simp)]; simp
  refine S_of rfl T150 ?_; unfold fi150
  simp (maxSteps := 1000000) (disch := first | omega | rfl | (simp only [zL, two63, room] <;> omega) | fail) only [↓reduceIte, ↓zP, zW, WOp, evOp, evBin, binI, binSh, binS, evNil, keyIs, keyEq, mkv, AV.cells, AV.sc, optv, bnd, env, put, Env.get, Env.set, Env.del, Env.dels, Env.init, res1, resL, resV, fillP, splice, newRow, Nat.reduceEqDiff, Nat.reduceLT, Nat.reduceLeDiff, Nat.reduceAdd, Nat.reduceMul, Nat.reduceSub, Nat.reduceBEq, reduceCtorEq, ↓zR, zQ, Tr, StA, StT, hsc]
  refine c_pzGood n hlen (hs.pre hpush) ?_
  intro h2 hp2
  have q0 := rdRow_pre hp2 r0
  have q1 := rdRow_pre hp2 r1
  have hwd := solP_word n cs
  have hll := solP_len n cs
  unfold sureP at hp
  cases e : goodP n cs
  · have hz : solP n cs = [] := by unfold solP; rw [e]; rfl
    rw [hz] at hp
    simp (maxSteps := 1000000) (disch := first | omega | rfl | (simp only [zL, two63, room] <;> omega) | fail) only [↓reduceIte, ↓zP, zW, WOp, evOp, evBin, binI, binSh, binS, evNil, keyIs, keyEq, mkv, AV.cells, AV.sc, optv, bnd, env, put, Env.get, Env.set, Env.del, Env.dels, Env.init, res1, resL, resV, fillP, splice, newRow, Nat.reduceEqDiff, Nat.reduceLT, Nat.reduceLeDiff, Nat.reduceAdd, Nat.reduceMul, Nat.reduceSub, Nat.reduceBEq, reduceCtorEq, ↓zR, zQ, Tr, StA, StT]
    exact hp h2 (hpush.trans hp2)
  · obtain ⟨m, rfl, m1, m5, m6, mok⟩ := goodP_iff e
    have hz : solP (m : Int) cs = fitL m cs := by unfold solP; rw [e]; rfl
    rw [hz] at hp hwd hll
    simp (maxSteps := 1000000) (disch := first | omega | rfl | (simp only [zL, two63, room] <;> omega) | fail) only [↓reduceIte, ↓zP, zW, WOp, evOp, evBin, binI, binSh, binS, evNil, keyIs, keyEq, mkv, AV.cells, AV.sc, optv, bnd, env, put, Env.get, Env.set, Env.del, Env.dels, Env.init, res1, resL, resV, fillP, splice, newRow, Nat.reduceEqDiff, Nat.reduceLT, Nat.reduceLeDiff, Nat.reduceAdd, Nat.reduceMul, Nat.reduceSub, Nat.reduceBEq, reduceCtorEq, ↓zR, zQ, Tr, StA, StT, q0, q1]
    refine c_pzAll m m5 hlen mok ((hs.pre hpush).pre hp2) ?_
    intro v' h3 ho hp3
    have q0 := rdRow_pre hp3 q0
    have hsl := ho.slc
    generalize fitL m cs = L at *
    have hv := fun g => Slc.lenV (hsl) (g := g) (ρ := fun _ => _) (x := .t 0) rfl; simp only [evOp] at hv
    cases L with
    | nil => simp (maxSteps := 1000000) (disch := first | omega | rfl | (simp only [zL, two63, room] <;> omega) | fail) only [↓reduceIte, ↓zP, zW, WOp, evOp, evBin, binI, binSh, binS, evNil, keyIs, keyEq, mkv, AV.cells, AV.sc, optv, bnd, env, put, Env.get, Env.set, Env.del, Env.dels, Env.init, res1, resL, resV, fillP, splice, newRow, Nat.reduceEqDiff, Nat.reduceLT, Nat.reduceLeDiff, Nat.reduceAdd, Nat.reduceMul, Nat.reduceSub, Nat.reduceBEq, reduceCtorEq, ↓zR, zQ, Tr, StA, StT, hv]; exact hp h3 ((hpush.trans hp2).trans hp3)
    | cons x rest =>
      have h0 : (((rest.length + 1 : Nat) : Int) == 0) = false := beq_eq_false_iff_ne.2 (by omega)
      simp only [List.length_cons] at hll hv
      have hwd' : ∀ w ∈ x :: rest, w.length = m := fun w hw => (hwd w hw).1
      simp (maxSteps := 1000000) (disch := first | omega | rfl | (simp only [zL, two63, room] <;> omega) | fail) only [↓reduceIte, ↓zP, zW, WOp, evOp, evBin, binI, binSh, binS, evNil, keyIs, keyEq, mkv, AV.cells, AV.sc, optv, bnd, env, put, Env.get, Env.set, Env.del, Env.dels, Env.init, res1, resL, resV, fillP, splice, newRow, Nat.reduceEqDiff, Nat.reduceLT, Nat.reduceLeDiff, Nat.reduceAdd, Nat.reduceMul, Nat.reduceSub, Nat.reduceBEq, reduceCtorEq, ↓zR, zQ, Tr, StA, StT, hv, h0]
      refine lp_sSureCells0 m m5 (L := x :: rest) (by simp; omega) hsl hwd' rfl q0 m 0 (by omega) ?_
      rw [acc_eq m (x :: rest) x (hwd' x (by simp)) hwd']
      simp (maxSteps := 1000000) (disch := first | omega | rfl | (simp only [zL, two63, room] <;> omega) | fail) only [↓reduceIte, ↓zP, zW, WOp, evOp, evBin, binI, binSh, binS, evNil, keyIs, keyEq, mkv, AV.cells, AV.sc, optv, bnd, env, put, Env.get, Env.set, Env.del, Env.dels, Env.init, res1, resL, resV, fillP, splice, newRow, Nat.reduceEqDiff, Nat.reduceLT, Nat.reduceLeDiff, Nat.reduceAdd, Nat.reduceMul, Nat.reduceSub, Nat.reduceBEq, reduceCtorEq, ↓zR, zQ, Tr, StA, StT]
      exact hp h3 ((hpush.trans hp2).trans hp3)

theorem law_SureCells (n : Int) {v : AV} {cs : List Clu} (hlen : cs.length < 2 ^ 63) {h : AH} (hs : Slc 3 encC h v cs) : S 149 [pzV n v] h (fun r _ => r = .bool true) k := by
  have hpush := Pre.push h (AO.row [.int .i64 n, v] 0 0 false)
  have hsc := (sl_cells hs).2
  unfold AV.sc at hsc
  have r2 : rdRow (h ++ [AO.row [.int .i64 n, v] 0 0 false]) h.length 0 0 2 = some [.int .i64 n, v] := by rw [rd_last, if_pos (by simp)]; simp
  refine S_of rfl T149 ?_; unfold fi149
  simp (maxSteps := 1000000) (disch := first | omega | rfl | (simp only [zL, two63, room] <;> omega) | fail) only [↓reduceIte, ↓zP, zW, WOp, evOp, evBin, binI, binSh, binS, evNil, keyIs, keyEq, mkv, AV.cells, AV.sc, optv, bnd, env, put, Env.get, Env.set, Env.del, Env.dels, Env.init, res1, resL, resV, fillP, splice, newRow, Nat.reduceEqDiff, Nat.reduceLT, Nat.reduceLeDiff, Nat.reduceAdd, Nat.reduceMul, Nat.reduceSub, Nat.reduceBEq, reduceCtorEq, ↓zR, zQ, Tr, StA, StT, hsc]
  refine c_szPuzzle n hlen (hs.pre hpush) ?_
  intro h1 p1
  have P1 := hpush.trans p1
  have q1 := rdRow_pre p1 r2
  by_cases hl : cs.length ≤ 1048576
  case neg =>
    simp only [if_neg hl]
    simp (maxSteps := 1000000) (disch := first | omega | rfl | (simp only [zL, two63, room] <;> omega) | fail) only [↓reduceIte, ↓zP, zW, WOp, evOp, evBin, binI, binSh, binS, evNil, keyIs, keyEq, mkv, AV.cells, AV.sc, optv, bnd, env, put, Env.get, Env.set, Env.del, Env.dels, Env.init, res1, resL, resV, fillP, splice, newRow, Nat.reduceEqDiff, Nat.reduceLT, Nat.reduceLeDiff, Nat.reduceAdd, Nat.reduceMul, Nat.reduceSub, Nat.reduceBEq, reduceCtorEq, ↓zR, zQ, Tr, StA, StT]
  simp only [if_pos hl]
  simp (maxSteps := 1000000) (disch := first | omega | rfl | (simp only [zL, two63, room] <;> omega) | fail) only [↓reduceIte, ↓zP, zW, WOp, evOp, evBin, binI, binSh, binS, evNil, keyIs, keyEq, mkv, AV.cells, AV.sc, optv, bnd, env, put, Env.get, Env.set, Env.del, Env.dels, Env.init, res1, resL, resV, fillP, splice, newRow, Nat.reduceEqDiff, Nat.reduceLT, Nat.reduceLeDiff, Nat.reduceAdd, Nat.reduceMul, Nat.reduceSub, Nat.reduceBEq, reduceCtorEq, ↓zR, zQ, Tr, StA, StT, q1]
  have hlen' : cs.length < 2 ^ 30 := by omega
  refine c_toPuzzle n hlen' (hs.pre P1) ?_
  intro o2 h2 ho2 p2
  have P2 := P1.trans p2
  have q2 := rdRow_pre p2 q1
  simp (maxSteps := 1000000) (disch := first | omega | rfl | (simp only [zL, two63, room] <;> omega) | fail) only [↓reduceIte, ↓zP, zW, WOp, evOp, evBin, binI, binSh, binS, evNil, keyIs, keyEq, mkv, AV.cells, AV.sc, optv, bnd, env, put, Env.get, Env.set, Env.del, Env.dels, Env.init, res1, resL, resV, fillP, splice, newRow, Nat.reduceEqDiff, Nat.reduceLT, Nat.reduceLeDiff, Nat.reduceAdd, Nat.reduceMul, Nat.reduceSub, Nat.reduceBEq, reduceCtorEq, ↓zR, zQ, Tr, StA, StT]
  refine c_sSureCells n hlen' ho2.slc ?_
  intro h3 p3
  have P3 := P2.trans p3
  have q3 := rdRow_pre p3 q2
  simp (maxSteps := 1000000) (disch := first | omega | rfl | (simp only [zL, two63, room] <;> omega) | fail) only [↓reduceIte, ↓zP, zW, WOp, evOp, evBin, binI, binSh, binS, evNil, keyIs, keyEq, mkv, AV.cells, AV.sc, optv, bnd, env, put, Env.get, Env.set, Env.del, Env.dels, Env.init, res1, resL, resV, fillP, splice, newRow, Nat.reduceEqDiff, Nat.reduceLT, Nat.reduceLeDiff, Nat.reduceAdd, Nat.reduceMul, Nat.reduceSub, Nat.reduceBEq, reduceCtorEq, ↓zR, zQ, Tr, StA, StT, q3]
  refine c_toPuzzle n hlen' (hs.pre P3) ?_
  intro o4 h4 ho4 p4
  have P4 := P3.trans p4
  have q4 := rdRow_pre p4 q3
  have hsc4 := (sl_cells ho4.slc).2
  unfold AV.sc at hsc4
  have r5 : rdRow (h4 ++ [AO.row [.int .i64 n, o4] 0 0 false]) h4.length 0 0 2 = some [.int .i64 n, o4] := by rw [rd_last, if_pos (by simp)]; simp
  have p5 := Pre.push h4 (AO.row [.int .i64 n, o4] 0 0 false)
  simp (maxSteps := 1000000) (disch := first | omega | rfl | (simp only [zL, two63, room] <;> omega) | fail) only [↓reduceIte, ↓zP, zW, WOp, evOp, evBin, binI, binSh, binS, evNil, keyIs, keyEq, mkv, AV.cells, AV.sc, optv, bnd, env, put, Env.get, Env.set, Env.del, Env.dels, Env.init, res1, resL, resV, fillP, splice, newRow, Nat.reduceEqDiff, Nat.reduceLT, Nat.reduceLeDiff, Nat.reduceAdd, Nat.reduceMul, Nat.reduceSub, Nat.reduceBEq, reduceCtorEq, ↓zR, zQ, Tr, StA, StT, hsc4]
  refine c_SureCells n hlen' (ho4.slc.pre p5) ?_
  intro h6 p6
  have P6 := P4.trans (p5.trans p6)
  have q6 := rdRow_pre (p5.trans p6) q4
  have s6 := rdRow_pre p6 r5
  simp (maxSteps := 1000000) (disch := first | omega | rfl | (simp only [zL, two63, room] <;> omega) | fail) only [↓reduceIte, ↓zP, zW, WOp, evOp, evBin, binI, binSh, binS, evNil, keyIs, keyEq, mkv, AV.cells, AV.sc, optv, bnd, env, put, Env.get, Env.set, Env.del, Env.dels, Env.init, res1, resL, resV, fillP, splice, newRow, Nat.reduceEqDiff, Nat.reduceLT, Nat.reduceLeDiff, Nat.reduceAdd, Nat.reduceMul, Nat.reduceSub, Nat.reduceBEq, reduceCtorEq, ↓zR, zQ, Tr, StA, StT, q6, s6, bne_self_eq_false]
  refine w_drw ?_
  simp (maxSteps := 1000000) (disch := first | omega | rfl | (simp only [zL, two63, room] <;> omega) | fail) only [↓reduceIte, ↓zP, zW, WOp, evOp, evBin, binI, binSh, binS, evNil, keyIs, keyEq, mkv, AV.cells, AV.sc, optv, bnd, env, put, Env.get, Env.set, Env.del, Env.dels, Env.init, res1, resL, resV, fillP, splice, newRow, Nat.reduceEqDiff, Nat.reduceLT, Nat.reduceLeDiff, Nat.reduceAdd, Nat.reduceMul, Nat.reduceSub, Nat.reduceBEq, reduceCtorEq, ↓zR, zQ, Tr, StA, StT, q6, s6]
  refine c_toPuzzle n hlen' (hs.pre P6) ?_
  intro o7 h7 ho7 p7
  have s7 := rdRow_pre p7 s6
  simp (maxSteps := 1000000) (disch := first | omega | rfl | (simp only [zL, two63, room] <;> omega) | fail) only [↓reduceIte, ↓zP, zW, WOp, evOp, evBin, binI, binSh, binS, evNil, keyIs, keyEq, mkv, AV.cells, AV.sc, optv, bnd, env, put, Env.get, Env.set, Env.del, Env.dels, Env.init, res1, resL, resV, fillP, splice, newRow, Nat.reduceEqDiff, Nat.reduceLT, Nat.reduceLeDiff, Nat.reduceAdd, Nat.reduceMul, Nat.reduceSub, Nat.reduceBEq, reduceCtorEq, ↓zR, zQ, Tr, StA, StT, s6, s7]
  refine c_eqPuzzle n n hlen' (ho4.slc.pre ((p5.trans p6).trans p7)) ho7.slc ?_
  intro h8 p8
  have s8 := rdRow_pre p8 s7
  simp (maxSteps := 1000000) (disch := first | omega | rfl | (simp only [zL, two63, room] <;> omega) | fail) only [↓reduceIte, ↓zP, zW, WOp, evOp, evBin, binI, binSh, binS, evNil, keyIs, keyEq, mkv, AV.cells, AV.sc, optv, bnd, env, put, Env.get, Env.set, Env.del, Env.dels, Env.init, res1, resL, resV, fillP, splice, newRow, Nat.reduceEqDiff, Nat.reduceLT, Nat.reduceLeDiff, Nat.reduceAdd, Nat.reduceMul, Nat.reduceSub, Nat.reduceBEq, reduceCtorEq, ↓zR, zQ, Tr, StA, StT, s6, s7, s8]
end Go.Proofs.YtnkkgghpfgihfaaDoor.Ab

/- The law FnExactSureCells of the given program returns true, whatever the input: its tied card. Condition: what the row lists of package-level tables is laid as the program's text lays it. -/
namespace Go.Proofs.YtnkkgghpfgihfaaDoor.fnExactSureCells
open Go Go.ChangeShapes Go.WideShapes Go.ChangeAt Go.RowKit
set_option maxRecDepth 1000000

theorem own : ownKnob Tryd.prog.godebug = none := by kernel_rfl
theorem laidOut : laidOutB Tryd.prog = true := by kernel_rfl
theorem readable : ∀ t ∈ Tryd.f7.params.toList, Tryd.prog.readableRec t = true ∧ t < Tryd.prog.types.size := by
  rw [Tryd.params7]
  intro t ht
  simp only [List.mem_cons, List.not_mem_nil, or_false] at ht
  subst ht
  exact ⟨by kernel_rfl, of_decide_eq_true (by kernel_rfl)⟩
theorem contract (H : Type) (enc : TypeId × Value → H) (W : World) (base : Nat) (args : Array Value) (ds gs : List (DataW H)) (before : List MemPlace)
    (hval : ∀ (j : Nat) t v, Tryd.f7.params[j]? = some t → args[j]? = some v → Value.okWide Tryd.prog W .any base t v)
    (hW : DataW.Whole enc Tryd.prog Tryd.f7.params.toList Rows.fnExactSureCellsSpec.vars false W args.toList ds gs before) :
    Calls Tryd.prog 7 args W fun e W' => ∃ v, e = .returned v ∧ Rows.fnExactSureCellsSpec.post enc Tryd.prog Tryd.f7 false true false false W args v W' := by
  have hW' := hW
  obtain ⟨p, q, hA0, hV, rfl, hfz, hnd⟩ := hW
  obtain ⟨rfl, rfl⟩ := trodVars_none hV
  have hA : DataW.TrodAll enc Tryd.prog W 0 (fun _ => true) true Tryd.f7.params.toList args.toList ds p := hA0
  rw [Tryd.params7] at hA hval
  obtain ⟨v0, vs0, d0, ds0, p0, q0, hargs0, rfl, rfl, h0, r0⟩ := trodAll_cons hA
  obtain ⟨rfl, rfl, rfl⟩ := trodAll_nil r0
  obtain rfl : args = #[v0] := by cases args; simp_all
  obtain ⟨n, cs, m, g, a, hs, hv, hrel, hlen⟩ := Ab.open_puzzle (F := Ab.F) Tryd.underlying24 (by kernel_rfl) (by kernel_rfl) Tryd.underlying3 Tryd.underlying22 Tryd.underlying63 (by kernel_rfl) (by kernel_rfl) Tryd.underlying3 Tryd.underlying3 Tryd.underlying3 (hval 0 24 v0 rfl rfl) h0
  have hlaw := Ab.law_SureCells n hlen hs
  have hargs : Ab.RelL Ab.F m [.agg [.int .i64 n, a]] (#[v0] : Array Value).toList := by
    simp only [Ab.RelL]
    exact ⟨v0, [], rfl, hv, rfl⟩
  have hres : (Rows.fnExactSureCellsSpec.fn H ([d0] ++ [])).results = [.lit (.bool true)] := rfl
  have hback : (Rows.fnExactSureCellsSpec.fn H ([d0] ++ [])).args = [d0] := rfl
  refine (Ab.law_calls (P := Tryd.prog) (F := Ab.F) Ab.all_sound (f := 149) (h := g) hlaw hrel hargs).mono ?_
  rintro e W' ⟨rfl, hb⟩
  refine ⟨_, rfl, Ab.post_below (pa := p0 ++ []) (pv := []) hW' (fun _ _ _ => ?_) (fun sp hsp => ?_) (fun _ _ => rfl) (by simp) hb (ok_one (by kernel_rfl) rfl (okWide_bool_mk Tryd.underlying4 _))⟩
  · rw [hres]
    exact trodAll_cons_mk (shut_bool Tryd.underlying4 _) trodAll_mk0
  · rw [hback]
    exact Ab.trodAll_stays laidOut hb readable hA0 (fun x hx => hW'.lt x (by simpa using hx)) (fun x hx => hsp x (by simpa using hx))

/-- A WORLD FOR THE WITNESS: the settled one, the tables holding what is laid. -/
def lits : List (DataW Unit) → List Value
  | [] => []
  | .lit (.int kd n) :: l => .int kd n :: lits l
  | _ :: l => lits l
def cellsT : DataW Unit → List Value
  | .agg l => l.flatMap fun
    | .lit (.int kd n) => [.int kd n]
    | .agg l' => lits l'
    | _ => []
  | _ => []
def setCells (cs : List Value) : Obj → Obj
  | .cells _ t frozen => .cells cs.toArray t frozen
  | o => o
noncomputable def laidWorld (os : Os) : World :=
  { World.holding Tryd.prog os ⟨#[], #[], []⟩ with heap := ((World.holding Tryd.prog os ⟨#[], #[], []⟩).heap.modify 1 (setCells (cellsT Rows.laid_unicode_utf8_first))).modify 2 (setCells (cellsT Rows.laid_unicode_utf8_acceptRanges)) }
theorem laid_met (os : Os) : laidMet Tryd.prog Rows.fnExactSureCellsRow.laid ((laidWorld os).forCall (fun _ _ => 0) ⟨#[], #[.agg #[.int .i64 0, .slice none 0 0]], []⟩).memory :=
  laidMet_of_run' 8 (by kernel_rfl) (by kernel_rfl)
theorem reads (os : Os) {H : Type} (enc : TypeId × Value → H) : ∃ places, DataW.whole enc Tryd.prog ((laidWorld os).forCall (fun _ _ => 0) ⟨#[], #[.agg #[.int .i64 0, .slice none 0 0]], []⟩).memory Tryd.f7.params.toList Rows.fnExactSureCellsSpec.vars false (#[.agg #[.int .i64 0, .slice none 0 0]] : Array Value).toList 8 = some ([.agg [.lit (.int .i64 0), .nil]], [], places) :=
  ⟨[], by kernel_rfl⟩

theorem lifted (os : Os) (started : os.Started) (H : Type) (enc : TypeId × Value → H) (F : Stop.Interp) :
    ReturnsInHanded {} Tryd.checked os 7 .any ((OpenSpec.ofChange Rows.fnExactSureCellsSpec).preRow enc Tryd.prog Tryd.f7 Rows.fnExactSureCellsRow.domain false Rows.fnExactSureCellsRow.laid) (((OpenSpec.ofChange Rows.fnExactSureCellsSpec).at F).post enc Tryd.prog Tryd.f7 false true false false) := by
  obtain ⟨places, hx⟩ := reads os enc
  refine returnsInHanded_of_row (C := Tryd.checked) (s := OpenSpec.ofChange Rows.fnExactSureCellsSpec) own started (by kernel_rfl) Tryd.func7
    (witness_row_at (enc := enc) (C := Tryd.checked) false (laidWorld os) #[.agg #[.int .i64 0, .slice none 0 0]] rfl (by kernel_rfl) (by kernel_rfl) (by kernel_rfl)
      (OpenSpec.preRow_of_cond 8 hx (by kernel_rfl) (fun k hk => by cases hk) (by kernel_rfl) (laid_met os))) ?_
  intro W base args ds gs before hval hW _ _ _ _ _ _
  exact contract H enc W base args ds gs before hval hW

theorem said : Rows.FnExactSureCellsSaid :=
  OpenClaim.holds_of_cond 7 Tryd.f7 rfl rfl rfl rfl rfl rfl rfl ⟨rfl, rfl, rfl, rfl, rfl⟩ rfl rfl rfl rfl rfl (by kernel_rfl) Tryd.func7 (by kernel_rfl)
    (of_decide_eq_true (by kernel_rfl)) (by unfold Func.isWrapper; first | (rw [if_pos (by decide +kernel)]; kernel_rfl) | (rw [if_neg (by decide +kernel)]; exact ⟨rfl, rfl⟩))
    (fun os started H enc _ F => by rw [OpenClaim.pre_eq_preRow]; exact lifted os started H enc F)

/-- No parameter wants a stand-in; the program's own looks are off: what the card asks. -/
theorem plain (f : FuncId) (fn : Func) (hf : Tryd.pinned.checked.prog.funcNamed "loop.example/g01271/laws.FnExactSureCells" = some f) (hfn : Tryd.pinned.checked.prog.funcs[f]? = some fn) :
    false = Tryd.pinned.checked.prog.looks [] ∧ ∀ (j : Nat) t, fn.params[j]? = some t → Tryd.pinned.checked.prog.wantsStandIn t = false := by
  obtain rfl : f = 7 := Option.some.inj ((show Tryd.prog.funcNamed "loop.example/g01271/laws.FnExactSureCells" = some 7 by kernel_rfl).symm.trans hf) |>.symm
  obtain rfl : fn = Tryd.f7 := (Option.some.inj (Tryd.func7.symm.trans hfn)).symm
  refine ⟨by kernel_rfl, fun j t ht => ?_⟩
  rw [Tryd.params7] at ht
  have hm : t ∈ ([24] : List Nat) := by
    have := Array.mem_of_getElem? ht
    simpa using this
  simp only [List.mem_cons, List.not_mem_nil, or_false] at hm
  subst hm
  exact (show Tryd.prog.wantsStandIn 24 = false by kernel_rfl)
theorem card : Rows.FnExactSureCellsCardSaid :=
  Claim7.holds_tied_plain_at .later [] _ _ _ _ said (fun _ h => by cases h) (by kernel_rfl) (fun _ h => by cases h) fnExactSureCells_row_tie rfl ⟨rfl, rfl⟩ (by kernel_rfl) rfl plain (by kernel_rfl)
end Go.Proofs.YtnkkgghpfgihfaaDoor.fnExactSureCells
