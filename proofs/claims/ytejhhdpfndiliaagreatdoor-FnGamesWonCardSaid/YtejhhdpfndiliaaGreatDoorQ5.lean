/- Part 6 of the proof of a law of the given program: the rules that it leans on, and what the functions that it reaches answer; the conditions stand with each theorem. -/
import Derived.Test.YtejhhdpfndiliaaGreatDoorQ4
set_option linter.unusedSimpArgs false
set_option linter.unusedVariables false
/- CHOICES that are drawn from bytes: of what is drawn, only the bounds are told. -/
namespace Go.Proofs.YtejhhdpfndiliaaGreatDoor.Ab
open Go
set_option maxRecDepth 100000
set_option maxHeartbeats 4000000

/-- A reader of bytes, made in b; so many bytes at most have been taken. -/
def Cur (b : AH) (cv : AV) (bs : List UInt8) (K : Nat) (h : AH) : Prop := Slc 1 encU b cv bs ∧ bs.length < 2 ^ 40 ∧ Pre b h ∧ ∃ (a : Nat) (s : Int), a ≤ K ∧ h[b.length]? = some (.row [cv, .int .i64 a, .int .u64 s] 0 0 false)
theorem Cur.le {b : AH} {cv : AV} {bs : List UInt8} {K K' : Nat} {h : AH} (hc : Cur b cv bs K h) (hk : K ≤ K') : Cur b cv bs K' h := by
  obtain ⟨h1, h2, h3, a, s, h4, h5⟩ := hc
  exact ⟨h1, h2, h3, a, s, by omega, h5⟩
theorem Cur.lt {b : AH} {cv : AV} {bs : List UInt8} {K : Nat} {h : AH} (hc : Cur b cv bs K h) : b.length < h.length := by
  obtain ⟨h1, h2, h3, a, s, h4, h5⟩ := hc
  exact (List.getElem?_eq_some_iff.1 h5).1
theorem Cur.pre {b : AH} {cv : AV} {bs : List UInt8} {K : Nat} {h h' : AH} (hc : Cur b cv bs K h) (hp : Pre h h') : Cur b cv bs K h' := by
  have hl := hc.lt
  obtain ⟨h1, h2, h3, a, s, h4, h5⟩ := hc
  exact ⟨h1, h2, h3.trans hp, a, s, h4, by rw [hp.2 _ hl]; exact h5⟩
theorem Cur.new {b : AH} {cv : AV} {bs : List UInt8} (hs : Slc 1 encU b cv bs) (hb : bs.length < 2 ^ 40) : Cur b cv bs 0 (b ++ [.row [cv, .int .i64 0, .int .u64 0] 0 0 false]) :=
  ⟨hs, hb, Pre.push _ _, 0, 0, Nat.le_refl _, by simp⟩
theorem Cur.done {b : AH} {cv : AV} {bs : List UInt8} {K : Nat} {h : AH} (hc : Cur b cv bs K h) : Pre b h := hc.2.2.1

theorem bits255 (x : Int) : ∃ n : Nat, n < 256 ∧ bits .and .u64 x 255 = n := by
  refine ⟨(BitVec.ofInt 64 x &&& BitVec.ofInt 64 255).toNat, ?_, ?_⟩
  · rw [BitVec.toNat_and]
    refine Nat.lt_of_le_of_lt Nat.and_le_right ?_
    decide
  · have h1 : (BitVec.ofInt 64 x &&& BitVec.ofInt 64 255).toNat < 256 := by
      rw [BitVec.toNat_and]
      refine Nat.lt_of_le_of_lt Nat.and_le_right ?_
      decide
    unfold bits
    show IntKind.u64.wrap ((BitVec.ofInt 64 x &&& BitVec.ofInt 64 255).toNat : Int) = _
    rw [IntKind.wrap_u64]
    omega

section
variable {b : AH} {cv : AV} {bs : List UInt8} {K : Nat} {h : AH} {post : AV → AH → Prop}

theorem c_next (hc : Cur b cv bs K h) (hK : K < 2 ^ 50) (hp : ∀ (x : Nat) h', x < 256 → Cur b cv bs (K + 1) h' → PreX b.length h h' → post (.int .i64 x) h') : S 107 [.ptr b.length 0 0 3] h post k := by
  have hl := hc.lt
  obtain ⟨hs, hbs, hpre, a, s, ha, hr⟩ := hc
  have r0 : rdRow h b.length 0 0 1 = some [cv] := by simp [rdRow, hr]
  have r1 : rdRow h b.length 0 1 1 = some [.int .i64 a] := by simp [rdRow, hr]
  have hset : ∀ o, (h.set b.length o)[b.length]? = some o := fun o => by rw [List.getElem?_set, if_pos rfl, if_pos hl]
  have w1 : ∀ v, wrRow h b.length 0 1 [.int .i64 v] = some (h.set b.length (.row [cv, .int .i64 v, .int .u64 s] 0 0 false)) := fun v => by simp [wrRow, hr, splice, AV.sc]
  have w2 : ∀ v y, wrRow (h.set b.length (.row [cv, y, .int .u64 s] 0 0 false)) b.length 0 2 [.int .u64 v] = some (h.set b.length (.row [cv, y, .int .u64 v] 0 0 false)) := fun v y => by simp [wrRow, hset, splice, AV.sc]
  have q0 : ∀ x y z, rdRow (h.set b.length (.row [x, y, z] 0 0 false)) b.length 0 0 1 = some [x] := fun x y z => by simp [rdRow, hset]
  have q1 : ∀ x y z, rdRow (h.set b.length (.row [x, y, z] 0 0 false)) b.length 0 1 1 = some [y] := fun x y z => by simp [rdRow, hset]
  have q2 : ∀ x y z, rdRow (h.set b.length (.row [x, y, z] 0 0 false)) b.length 0 2 1 = some [z] := fun x y z => by simp [rdRow, hset]
  have s2 : rdRow h b.length 0 2 1 = some [.int .u64 s] := by simp [rdRow, hr]
  have hw : IntKind.i64.wrap ((a : Int) + 1) = ((a + 1 : Nat) : Int) := by rw [IntKind.wrap_i64]; omega
  have fin0 : ∀ (x : Nat) (t : Int), x < 256 → post (.int .i64 x) (h.set b.length (.row [cv, .int .i64 ((a + 1 : Nat) : Int), .int .u64 t] 0 0 false)) := by
    intro x t hx
    refine hp x _ hx ⟨hs, hbs, hpre.set (Nat.le_refl _), a + 1, t, by omega, hset _⟩ (PreX.refl _ _).set
  have fin : ∀ (q t : Int), post (.int .i64 (IntKind.i64.wrap (bits .and .u64 q 255))) (h.set b.length (.row [cv, .int .i64 ((a + 1 : Nat) : Int), .int .u64 t] 0 0 false)) := by
    intro q t
    obtain ⟨n, hn, e⟩ := bits255 q
    rw [e, show IntKind.i64.wrap (n : Int) = n by rw [IntKind.wrap_i64]; omega]
    exact fin0 n t hn
  refine S_of rfl T107 ?_; unfold fi107
  rcases hs.cases with ⟨rfl, rfl⟩ | ⟨rfl, rfl⟩ | ⟨c, kk, off, hv⟩
  · have n1 : ¬ ((a : Int) < 0) := by omega
    have n2 : ¬ (((a + 1 : Nat) : Int) ≤ 0) := by omega
    simp (maxSteps := 1000000) (disch := first | omega | rfl | (simp only [zL, two63, room] <;> omega) | fail) only [↓reduceIte, ↓zP, zW, WOp, evOp, evBin, binI, binSh, binS, evNil, keyIs, keyEq, mkv, AV.cells, AV.sc, optv, bnd, env, put, Env.get, Env.set, Env.del, Env.dels, Env.init, res1, resL, resV, fillP, splice, newRow, Nat.reduceEqDiff, Nat.reduceLT, Nat.reduceLeDiff, Nat.reduceAdd, Nat.reduceMul, Nat.reduceSub, Nat.reduceBEq, reduceCtorEq, ↓zR, zQ, Tr, StA, StT, r0, r1, n1, n2, w1, w2, q0, q1, q2, s2, hw]
    exact fin _ _
  · have n1 : ¬ ((a : Int) < 0) := by omega
    have n2 : ¬ (((a + 1 : Nat) : Int) ≤ 0) := by omega
    simp (maxSteps := 1000000) (disch := first | omega | rfl | (simp only [zL, two63, room] <;> omega) | fail) only [↓reduceIte, ↓zP, zW, WOp, evOp, evBin, binI, binSh, binS, evNil, keyIs, keyEq, mkv, AV.cells, AV.sc, optv, bnd, env, put, Env.get, Env.set, Env.del, Env.dels, Env.init, res1, resL, resV, fillP, splice, newRow, Nat.reduceEqDiff, Nat.reduceLT, Nat.reduceLeDiff, Nat.reduceAdd, Nat.reduceMul, Nat.reduceSub, Nat.reduceBEq, reduceCtorEq, ↓zR, zQ, Tr, StA, StT, r0, r1, n1, n2, w1, w2, q0, q1, q2, s2, hw]
    exact fin _ _
  · by_cases hlt : a < bs.length
    · have hL : bs = bs.take a ++ bs[a] :: bs.drop (a + 1) := by
        have := (List.take_append_drop a bs).symm
        rwa [List.drop_eq_getElem_cons hlt] at this
      have hs2 := hs
      rw [hv, hL] at hs2
      have hrd := rdRow_pre hpre (hs2.rd hlU)
      rw [List.length_take, show min a bs.length = a by omega] at hrd
      subst hv
      have n1 : (a : Int) < (bs.length : Int) := by omega
      have n2 : ((a + 1 : Nat) : Int) ≤ (bs.length : Int) := by omega
      have hx : (bs[a]).toNat < 256 := bs[a].toNat_lt
      have hrd' : rdRow h c kk (off + a * 1) 1 = some [.int .u8 (bs[a]).toNat] := hrd
      generalize (bs[a]).toNat = x at hrd' hx
      have hwx : IntKind.i64.wrap (x : Int) = x := by rw [IntKind.wrap_i64]; omega
      simp (maxSteps := 1000000) (disch := first | omega | rfl | (simp only [zL, two63, room] <;> omega) | fail) only [↓reduceIte, ↓zP, zW, WOp, evOp, evBin, binI, binSh, binS, evNil, keyIs, keyEq, mkv, AV.cells, AV.sc, optv, bnd, env, put, Env.get, Env.set, Env.del, Env.dels, Env.init, res1, resL, resV, fillP, splice, newRow, Nat.reduceEqDiff, Nat.reduceLT, Nat.reduceLeDiff, Nat.reduceAdd, Nat.reduceMul, Nat.reduceSub, Nat.reduceBEq, reduceCtorEq, ↓zR, zQ, Tr, StA, StT, r0, r1, n1, n2, w1, w2, q0, q1, q2, s2, hw, hrd', hwx]
      exact fin0 x _ hx
    · subst hv
      have n1 : ¬ ((a : Int) < (bs.length : Int)) := by omega
      have n2 : ¬ (((a + 1 : Nat) : Int) ≤ (bs.length : Int)) := by omega
      simp (maxSteps := 1000000) (disch := first | omega | rfl | (simp only [zL, two63, room] <;> omega) | fail) only [↓reduceIte, ↓zP, zW, WOp, evOp, evBin, binI, binSh, binS, evNil, keyIs, keyEq, mkv, AV.cells, AV.sc, optv, bnd, env, put, Env.get, Env.set, Env.del, Env.dels, Env.init, res1, resL, resV, fillP, splice, newRow, Nat.reduceEqDiff, Nat.reduceLT, Nat.reduceLeDiff, Nat.reduceAdd, Nat.reduceMul, Nat.reduceSub, Nat.reduceBEq, reduceCtorEq, ↓zR, zQ, Tr, StA, StT, r0, r1, n1, n2, w1, w2, q0, q1, q2, s2, hw]
      exact fin _ _

/-- pick: less than n. -/
theorem c_pick (hc : Cur b cv bs K h) (hK : K < 2 ^ 49) (n : Nat) (hn : n < 2 ^ 40) (hp : ∀ (x : Nat) h', (x < n ∨ x = 0) → Cur b cv bs (K + 2) h' → PreX b.length h h' → post (.int .i64 x) h') : S 63 [.ptr b.length 0 0 3, .int .i64 n] h post k := by
  refine S_of rfl T63 ?_; unfold fi63
  by_cases h1 : n ≤ 1
  · have n1 : (n : Int) ≤ 1 := by omega
    simp (maxSteps := 1000000) (disch := first | omega | rfl | (simp only [zL, two63, room] <;> omega) | fail) only [↓reduceIte, ↓zP, zW, WOp, evOp, evBin, binI, binSh, binS, evNil, keyIs, keyEq, mkv, AV.cells, AV.sc, optv, bnd, env, put, Env.get, Env.set, Env.del, Env.dels, Env.init, res1, resL, resV, fillP, splice, newRow, Nat.reduceEqDiff, Nat.reduceLT, Nat.reduceLeDiff, Nat.reduceAdd, Nat.reduceMul, Nat.reduceSub, Nat.reduceBEq, reduceCtorEq, ↓zR, zQ, Tr, StA, StT, n1]
    exact hp 0 h (.inr rfl) (hc.le (by omega)) (PreX.refl _ _)
  have n1 : ¬ ((n : Int) ≤ 1) := by omega
  have fin : ∀ (x : Nat) h', Cur b cv bs (K + 2) h' → PreX b.length h h' → post (.int .i64 ((x : Int).tmod n)) h' := by
    intro x h' hc' hx
    have : (x : Int).tmod n = ((x % n : Nat) : Int) := by rw [Int.tmod_eq_emod_of_nonneg (by omega)]; omega
    rw [this]
    exact hp _ h' (.inl (Nat.mod_lt _ (by omega))) hc' hx
  have n0 : ((n : Int) == 0) = false := by simp; omega
  have n0' : ¬ ((n : Int) = 0) := by omega
  simp (maxSteps := 1000000) (disch := first | omega | rfl | (simp only [zL, two63, room] <;> omega) | fail) only [↓reduceIte, ↓zP, zW, WOp, evOp, evBin, binI, binSh, binS, evNil, keyIs, keyEq, mkv, AV.cells, AV.sc, optv, bnd, env, put, Env.get, Env.set, Env.del, Env.dels, Env.init, res1, resL, resV, fillP, splice, newRow, Nat.reduceEqDiff, Nat.reduceLT, Nat.reduceLeDiff, Nat.reduceAdd, Nat.reduceMul, Nat.reduceSub, Nat.reduceBEq, reduceCtorEq, ↓zR, zQ, Tr, StA, StT, n1]
  refine c_next hc (by omega) ?_
  intro x h2 hx hc2 hp2
  by_cases h3 : 200 < n
  · have n2 : (n : Int) > 200 := by omega
    have w1 : IntKind.i64.wrap ((x : Int) * 256) = ((x * 256 : Nat) : Int) := by rw [IntKind.wrap_i64]; omega
    simp (maxSteps := 1000000) (disch := first | omega | rfl | (simp only [zL, two63, room] <;> omega) | fail) only [↓reduceIte, ↓zP, zW, WOp, evOp, evBin, binI, binSh, binS, evNil, keyIs, keyEq, mkv, AV.cells, AV.sc, optv, bnd, env, put, Env.get, Env.set, Env.del, Env.dels, Env.init, res1, resL, resV, fillP, splice, newRow, Nat.reduceEqDiff, Nat.reduceLT, Nat.reduceLeDiff, Nat.reduceAdd, Nat.reduceMul, Nat.reduceSub, Nat.reduceBEq, reduceCtorEq, ↓zR, zQ, Tr, StA, StT, n2, w1]
    refine c_next hc2 (by omega) ?_
    intro y h3 hy hc3 hp3
    have w2 : IntKind.i64.wrap (((x * 256 : Nat) : Int) + (y : Int)) = ((x * 256 + y : Nat) : Int) := by rw [IntKind.wrap_i64]; omega
    simp (maxSteps := 1000000) (disch := first | omega | rfl | (simp only [zL, two63, room] <;> omega) | fail) only [↓reduceIte, ↓zP, zW, WOp, evOp, evBin, binI, binSh, binS, evNil, keyIs, keyEq, mkv, AV.cells, AV.sc, optv, bnd, env, put, Env.get, Env.set, Env.del, Env.dels, Env.init, res1, resL, resV, fillP, splice, newRow, Nat.reduceEqDiff, Nat.reduceLT, Nat.reduceLeDiff, Nat.reduceAdd, Nat.reduceMul, Nat.reduceSub, Nat.reduceBEq, reduceCtorEq, ↓zR, zQ, Tr, StA, StT, w2, n0, n0']
    exact fin _ _ hc3 (hp2.trans hp3)
  · have n2 : ¬ ((n : Int) > 200) := by omega
    simp (maxSteps := 1000000) (disch := first | omega | rfl | (simp only [zL, two63, room] <;> omega) | fail) only [↓reduceIte, ↓zP, zW, WOp, evOp, evBin, binI, binSh, binS, evNil, keyIs, keyEq, mkv, AV.cells, AV.sc, optv, bnd, env, put, Env.get, Env.set, Env.del, Env.dels, Env.init, res1, resL, resV, fillP, splice, newRow, Nat.reduceEqDiff, Nat.reduceLT, Nat.reduceLeDiff, Nat.reduceAdd, Nat.reduceMul, Nat.reduceSub, Nat.reduceBEq, reduceCtorEq, ↓zR, zQ, Tr, StA, StT, n2, n0, n0']
    exact fin _ _ (hc2.le (by omega)) hp2
theorem c_one (hc : Cur b cv bs K h) (hK : K < 2 ^ 49) (n : Nat) (hn : n < 2 ^ 40) (hp : ∀ (x : Bool) h', Cur b cv bs (K + 2) h' → PreX b.length h h' → post (.bool x) h') : S 64 [.ptr b.length 0 0 3, .int .i64 n] h post k := by
  refine S_of rfl T64 ?_; unfold fi64
  simp (maxSteps := 1000000) (disch := first | omega | rfl | (simp only [zL, two63, room] <;> omega) | fail) only [↓reduceIte, ↓zP, zW, WOp, evOp, evBin, binI, binSh, binS, evNil, keyIs, keyEq, mkv, AV.cells, AV.sc, optv, bnd, env, put, Env.get, Env.set, Env.del, Env.dels, Env.init, res1, resL, resV, fillP, splice, newRow, Nat.reduceEqDiff, Nat.reduceLT, Nat.reduceLeDiff, Nat.reduceAdd, Nat.reduceMul, Nat.reduceSub, Nat.reduceBEq, reduceCtorEq, ↓zR, zQ, Tr, StA, StT]
  refine c_pick hc hK n hn ?_
  intro x h' _ hc' hp'
  simp (maxSteps := 1000000) (disch := first | omega | rfl | (simp only [zL, two63, room] <;> omega) | fail) only [↓reduceIte, ↓zP, zW, WOp, evOp, evBin, binI, binSh, binS, evNil, keyIs, keyEq, mkv, AV.cells, AV.sc, optv, bnd, env, put, Env.get, Env.set, Env.del, Env.dels, Env.init, res1, resL, resV, fillP, splice, newRow, Nat.reduceEqDiff, Nat.reduceLT, Nat.reduceLeDiff, Nat.reduceAdd, Nat.reduceMul, Nat.reduceSub, Nat.reduceBEq, reduceCtorEq, ↓zR, zQ, Tr, StA, StT]
  exact hp _ h' hc' hp'
/-- An element of a list. -/
theorem c_of (hc : Cur b cv bs K h) (hK : K < 2 ^ 49) {lv : AV} {L : List (List UInt8)} (hs : Slc 1 encS h lv L) (hne : ∀ r, rowOf lv = some r → r ≠ b.length) (h0 : 0 < L.length) (hL : L.length < 2 ^ 40)
    (hp : ∀ x ∈ L, ∀ h', Cur b cv bs (K + 2) h' → PreX b.length h h' → post (.str x) h') : S 71 [.ptr b.length 0 0 3, lv] h post k := by
  rcases hs.cases with ⟨rfl, rfl⟩ | ⟨rfl, rfl⟩ | ⟨c, kk, off, rfl⟩
  · simp at h0
  · simp at h0
  refine S_of rfl T71 ?_; unfold fi71
  simp (maxSteps := 1000000) (disch := first | omega | rfl | (simp only [zL, two63, room] <;> omega) | fail) only [↓reduceIte, ↓zP, zW, WOp, evOp, evBin, binI, binSh, binS, evNil, keyIs, keyEq, mkv, AV.cells, AV.sc, optv, bnd, env, put, Env.get, Env.set, Env.del, Env.dels, Env.init, res1, resL, resV, fillP, splice, newRow, Nat.reduceEqDiff, Nat.reduceLT, Nat.reduceLeDiff, Nat.reduceAdd, Nat.reduceMul, Nat.reduceSub, Nat.reduceBEq, reduceCtorEq, ↓zR, zQ, Tr, StA, StT]
  refine c_pick hc hK L.length hL ?_
  intro x h2 hx hc2 hp2
  have hlt : x < L.length := by omega
  have hLe : L = L.take x ++ L[x] :: L.drop (x + 1) := by
    have := (List.take_append_drop x L).symm
    rwa [List.drop_eq_getElem_cons hlt] at this
  have hs2 := hs
  rw [hLe] at hs2
  have hrd := rdRow_prex hp2 (hne c rfl) (hs2.rd hlS)
  rw [List.length_take, show min x L.length = x by omega] at hrd
  have hrd' : rdRow h2 c kk (off + x * 1) 1 = some [.str L[x]] := hrd
  have n1 : (x : Int) < (L.length : Int) := by omega
  simp (maxSteps := 1000000) (disch := first | omega | rfl | (simp only [zL, two63, room] <;> omega) | fail) only [↓reduceIte, ↓zP, zW, WOp, evOp, evBin, binI, binSh, binS, evNil, keyIs, keyEq, mkv, AV.cells, AV.sc, optv, bnd, env, put, Env.get, Env.set, Env.del, Env.dels, Env.init, res1, resL, resV, fillP, splice, newRow, Nat.reduceEqDiff, Nat.reduceLT, Nat.reduceLeDiff, Nat.reduceAdd, Nat.reduceMul, Nat.reduceSub, Nat.reduceBEq, reduceCtorEq, ↓zR, zQ, Tr, StA, StT, n1, hrd']
  exact hp _ (List.getElem_mem hlt) h2 hc2 hp2
end
theorem slc_litS (h : AH) (L : List (List UInt8)) : Slc 1 encS (h ++ [.row (L.map AV.str) 0 0 false]) (.slice h.length 0 0 L.length 1) L := by
  have e : L.flatMap encS = L.map AV.str := by
    induction L with
    | nil => rfl
    | cons a L ih => rw [List.flatMap_cons, ih]; rfl
  unfold Slc Sl
  refine ⟨rfl, rfl, by simp [e], ?_⟩
  rw [e]
  exact rdRow_push h _ false (by simp)
theorem slc_litI (h : AH) (L : List Int) : Slc 1 encI (h ++ [.row (L.map (AV.int .i64)) 0 0 false]) (.slice h.length 0 0 L.length 1) L := by
  have e : L.flatMap encI = L.map (AV.int .i64) := by
    induction L with
    | nil => rfl
    | cons a L ih => rw [List.flatMap_cons, ih]; rfl
  unfold Slc Sl
  refine ⟨rfl, rfl, by simp [e], ?_⟩
  rw [e]
  exact rdRow_push h _ false (by simp)
theorem Pre.x2 {h h1 h2 : AH} {c : Nat} (hp : Pre h h1) (hx : PreX c h1 h2) : PreX c h h2 := (hp.x c).trans hx

/-! ### Lines -/
theorem lp_liTimesG (b : UInt8) {h : AH} {R : X → Env → AH → Prop} : ∀ (n : Nat) (out : List UInt8), out.length + n ≤ 1000 → R (.exit 0) [(5, .str (out ++ List.replicate n b))] h →
    Cx (.loop lp124_0) [(0, .str [b]), (1, .int .i64 n), (5, .str out)] h R k k
  | 0, out, hn, hR => by
    rw [w_loopb (c := lp124_0) (d := lb124_0) rfl]; unfold lb124_0
    simp (maxSteps := 1000000) (disch := first | omega | rfl | (simp only [zL, two63, room] <;> omega) | fail) only [↓reduceIte, ↓zP, zW, WOp, evOp, evBin, binI, binSh, binS, evNil, keyIs, keyEq, mkv, AV.cells, AV.sc, optv, bnd, env, put, Env.get, Env.set, Env.del, Env.dels, Env.init, res1, resL, resV, fillP, splice, newRow, Nat.reduceEqDiff, Nat.reduceLT, Nat.reduceLeDiff, Nat.reduceAdd, Nat.reduceMul, Nat.reduceSub, Nat.reduceBEq, reduceCtorEq, ↓zR, zQ, Tr, StA, StT]
    simpa using hR
  | n + 1, out, hn, hR => by
    have ih := lp_liTimesG b (h := h) (R := R) n (out ++ [b])
    have hg : ((n + 1 : Nat) : Int) > 0 := by omega
    have hs : ((n + 1 : Nat) : Int) - 1 = (n : Int) := by omega
    have hl : out.length + [b].length ≤ two63 := by simp only [two63, List.length_cons, List.length_nil]; omega
    rw [w_loopb (c := lp124_0) (d := lb124_0) rfl]; unfold lb124_0
    simp (maxSteps := 1000000) (disch := first | omega | rfl | (simp only [zL, two63, room] <;> omega) | fail) only [↓reduceIte, ↓zP, zW, WOp, evOp, evBin, binI, binSh, binS, evNil, keyIs, keyEq, mkv, AV.cells, AV.sc, optv, bnd, env, put, Env.get, Env.set, Env.del, Env.dels, Env.init, res1, resL, resV, fillP, splice, newRow, Nat.reduceEqDiff, Nat.reduceLT, Nat.reduceLeDiff, Nat.reduceAdd, Nat.reduceMul, Nat.reduceSub, Nat.reduceBEq, reduceCtorEq, ↓zR, zQ, Tr, StA, StT, hg, hs, hl]
    rw [w_loopn (c := lp124_0) rfl]
    simp (maxSteps := 1000000) (disch := first | omega | rfl | (simp only [zL, two63, room] <;> omega) | fail) only [↓reduceIte, ↓zP, zW, WOp, evOp, evBin, binI, binSh, binS, evNil, keyIs, keyEq, mkv, AV.cells, AV.sc, optv, bnd, env, put, Env.get, Env.set, Env.del, Env.dels, Env.init, res1, resL, resV, fillP, splice, newRow, Nat.reduceEqDiff, Nat.reduceLT, Nat.reduceLeDiff, Nat.reduceAdd, Nat.reduceMul, Nat.reduceSub, Nat.reduceBEq, reduceCtorEq, ↓zR, zQ, Tr, StA, StT]
    refine ih (by simp; omega) ?_
    rw [List.append_assoc, List.singleton_append, ← List.replicate_succ]
    exact hR
theorem e_liTimesG (b : UInt8) (n : Nat) (hn : n ≤ 1000) {h : AH} {post : AV → AH → Prop} : S 124 [.str [b], .int .i64 n] h post k = post (.str (List.replicate n b)) h := by
  refine S_eq fun post hp => ?_
  refine S_of rfl T124 ?_; unfold fi124
  simp (maxSteps := 1000000) (disch := first | omega | rfl | (simp only [zL, two63, room] <;> omega) | fail) only [↓reduceIte, ↓zP, zW, WOp, evOp, evBin, binI, binSh, binS, evNil, keyIs, keyEq, mkv, AV.cells, AV.sc, optv, bnd, env, put, Env.get, Env.set, Env.del, Env.dels, Env.init, res1, resL, resV, fillP, splice, newRow, Nat.reduceEqDiff, Nat.reduceLT, Nat.reduceLeDiff, Nat.reduceAdd, Nat.reduceMul, Nat.reduceSub, Nat.reduceBEq, reduceCtorEq, ↓zR, zQ, Tr, StA, StT]
  refine lp_liTimesG b n [] (by simpa using hn) ?_
  simp (maxSteps := 1000000) (disch := first | omega | rfl | (simp only [zL, two63, room] <;> omega) | fail) only [↓reduceIte, ↓zP, zW, WOp, evOp, evBin, binI, binSh, binS, evNil, keyIs, keyEq, mkv, AV.cells, AV.sc, optv, bnd, env, put, Env.get, Env.set, Env.del, Env.dels, Env.init, res1, resL, resV, fillP, splice, newRow, Nat.reduceEqDiff, Nat.reduceLT, Nat.reduceLeDiff, Nat.reduceAdd, Nat.reduceMul, Nat.reduceSub, Nat.reduceBEq, reduceCtorEq, ↓zR, zQ, Tr, StA, StT]
  exact hp
theorem e_liFirstG (t g f : Nat) (ht : t ≤ 100) (hg : g ≤ 100) (hf : f ≤ 100) {h : AH} {post : AV → AH → Prop} : S 100 [.int .i64 t, .int .i64 g, .int .i64 f] h post k = post (.str (List.replicate t 84 ++ List.replicate g 46 ++ List.replicate f 70)) h := by
  refine S_eq fun post hp => ?_
  refine S_of rfl T100 ?_; unfold fi100
  have l1 : (List.replicate t (84 : UInt8)).length + (List.replicate g (46 : UInt8)).length ≤ two63 := by simp [two63]; omega
  have l2 : (List.replicate t (84 : UInt8) ++ List.replicate g 46).length + (List.replicate f (70 : UInt8)).length ≤ two63 := by simp [two63]; omega
  simp (maxSteps := 1000000) (disch := first | omega | rfl | (simp only [zL, two63, room] <;> omega) | fail) only [↓reduceIte, ↓zP, zW, WOp, evOp, evBin, binI, binSh, binS, evNil, keyIs, keyEq, mkv, AV.cells, AV.sc, optv, bnd, env, put, Env.get, Env.set, Env.del, Env.dels, Env.init, res1, resL, resV, fillP, splice, newRow, Nat.reduceEqDiff, Nat.reduceLT, Nat.reduceLeDiff, Nat.reduceAdd, Nat.reduceMul, Nat.reduceSub, Nat.reduceBEq, reduceCtorEq, ↓zR, zQ, Tr, StA, StT, e_liTimesG 84 t (by omega), e_liTimesG 46 g (by omega), e_liTimesG 70 f (by omega), l1, l2]
  exact hp

section
variable {b : AH} {cv : AV} {bs : List UInt8} {post : AV → AH → Prop}
theorem lp_sure {R : X → Env → AH → Prop} : ∀ (d : Nat) (w : List UInt8) (K : Nat) (h : AH), Cur b cv bs K h → K + 2 * d < 2 ^ 49 → w.length + d < 2 ^ 30 → signs w →
    (∀ w' h', w'.length = w.length + d → signs w' → Cur b cv bs (K + 2 * d) h' → PreX b.length h h' → R (.exit 0) [(0, .ptr b.length 0 0 3), (5, .str w')] h') →
    Cx (.loop lp99_0) [(0, .ptr b.length 0 0 3), (5, .str w), (6, .int .i64 d)] h R k k
  | 0, w, K, h, hc, hK, hw, hg, hR => by
    have n1 : ¬ (((0 : Nat) : Int) > 0) := by omega
    rw [w_loopb (c := lp99_0) (d := lb99_0) rfl]; unfold lb99_0
    simp (maxSteps := 1000000) (disch := first | omega | rfl | (simp only [zL, two63, room] <;> omega) | fail) only [↓reduceIte, ↓zP, zW, WOp, evOp, evBin, binI, binSh, binS, evNil, keyIs, keyEq, mkv, AV.cells, AV.sc, optv, bnd, env, put, Env.get, Env.set, Env.del, Env.dels, Env.init, res1, resL, resV, fillP, splice, newRow, Nat.reduceEqDiff, Nat.reduceLT, Nat.reduceLeDiff, Nat.reduceAdd, Nat.reduceMul, Nat.reduceSub, Nat.reduceBEq, reduceCtorEq, ↓zR, zQ, Tr, StA, StT, n1]
    exact hR w h rfl hg hc (PreX.refl _ _)
  | d + 1, w, K, h, hc, hK, hw, hg, hR => by
    have ih := lp_sure (R := R) d
    have n1 : ((d + 1 : Nat) : Int) > 0 := by omega
    have hs : ((d + 1 : Nat) : Int) - 1 = (d : Int) := by omega
    have hwr : IntKind.i64.wrap (d : Int) = (d : Int) := wrap_i (by omega)
    rw [w_loopb (c := lp99_0) (d := lb99_0) rfl]; unfold lb99_0
    simp (maxSteps := 1000000) (disch := first | omega | rfl | (simp only [zL, two63, room] <;> omega) | fail) only [↓reduceIte, ↓zP, zW, WOp, evOp, evBin, binI, binSh, binS, evNil, keyIs, keyEq, mkv, AV.cells, AV.sc, optv, bnd, env, put, Env.get, Env.set, Env.del, Env.dels, Env.init, res1, resL, resV, fillP, splice, newRow, Nat.reduceEqDiff, Nat.reduceLT, Nat.reduceLeDiff, Nat.reduceAdd, Nat.reduceMul, Nat.reduceSub, Nat.reduceBEq, reduceCtorEq, ↓zR, zQ, Tr, StA, StT, n1]
    refine c_of (hc.pre (Pre.push _ _)) (by omega) (slc_litS h [[84], [70], [46], [84], [70]]) (fun r hr => by cases hr; have := hc.lt; omega) (by simp) (by simp) ?_
    intro x hx h2 hc2 hp2
    have hx1 : x.length = 1 := by
      simp only [List.mem_cons, List.not_mem_nil, or_false] at hx
      rcases hx with rfl | rfl | rfl | rfl | rfl <;> rfl
    have hxg : signs x := by
      simp only [List.mem_cons, List.not_mem_nil, or_false] at hx
      rcases hx with rfl | rfl | rfl | rfl | rfl <;> rfl
    have hl : w.length + x.length ≤ two63 := by simp only [two63]; omega
    simp (maxSteps := 1000000) (disch := first | omega | rfl | (simp only [zL, two63, room] <;> omega) | fail) only [↓reduceIte, ↓zP, zW, WOp, evOp, evBin, binI, binSh, binS, evNil, keyIs, keyEq, mkv, AV.cells, AV.sc, optv, bnd, env, put, Env.get, Env.set, Env.del, Env.dels, Env.init, res1, resL, resV, fillP, splice, newRow, Nat.reduceEqDiff, Nat.reduceLT, Nat.reduceLeDiff, Nat.reduceAdd, Nat.reduceMul, Nat.reduceSub, Nat.reduceBEq, reduceCtorEq, ↓zR, zQ, Tr, StA, StT, hl, hs, hwr]
    rw [w_loopn (c := lp99_0) rfl]
    simp (maxSteps := 1000000) (disch := first | omega | rfl | (simp only [zL, two63, room] <;> omega) | fail) only [↓reduceIte, ↓zP, zW, WOp, evOp, evBin, binI, binSh, binS, evNil, keyIs, keyEq, mkv, AV.cells, AV.sc, optv, bnd, env, put, Env.get, Env.set, Env.del, Env.dels, Env.init, res1, resL, resV, fillP, splice, newRow, Nat.reduceEqDiff, Nat.reduceLT, Nat.reduceLeDiff, Nat.reduceAdd, Nat.reduceMul, Nat.reduceSub, Nat.reduceBEq, reduceCtorEq, ↓zR, zQ, Tr, StA, StT]
    refine ih (w ++ x) (K + 2) h2 hc2 (by omega) (by simp; omega) ?_ ?_
    · unfold signs at *
      rw [List.all_append, hg, hxg]; rfl
    · intro w' h' h1 h3 h4 h5
      refine hR w' h' (by simp at h1; omega) h3 (h4.le (by omega)) ((Pre.push _ _).x2 (hp2.trans h5))
variable {K : Nat} {h : AH}
theorem put_signs {w : List UInt8} (hg : signs w) (i : Nat) : signs (w.take i ++ [46] ++ w.drop (i + 1)) := by
  unfold signs at *
  rw [List.all_eq_true] at *
  intro x hx
  simp only [List.mem_append, List.mem_singleton] at hx
  rcases hx with (hx | rfl) | hx
  · exact hg x (List.mem_of_mem_take hx)
  · rfl
  · exact hg x (List.mem_of_mem_drop hx)
theorem c_sureLine (hc : Cur b cv bs K h) (n : Nat) (hn : n < 2 ^ 20) (h0 : 0 < n) (hK : K < 2 ^ 48) (hp : ∀ w h', 1 ≤ w.length → w.length ≤ n → signs w → Cur b cv bs (K + 2 * n + 6) h' → PreX b.length h h' → post (.str w) h') :
    S 99 [.ptr b.length 0 0 3, .int .i64 n] h post k := by
  refine S_of rfl T99 ?_; unfold fi99
  simp (maxSteps := 1000000) (disch := first | omega | rfl | (simp only [zL, two63, room] <;> omega) | fail) only [↓reduceIte, ↓zP, zW, WOp, evOp, evBin, binI, binSh, binS, evNil, keyIs, keyEq, mkv, AV.cells, AV.sc, optv, bnd, env, put, Env.get, Env.set, Env.del, Env.dels, Env.init, res1, resL, resV, fillP, splice, newRow, Nat.reduceEqDiff, Nat.reduceLT, Nat.reduceLeDiff, Nat.reduceAdd, Nat.reduceMul, Nat.reduceSub, Nat.reduceBEq, reduceCtorEq, ↓zR, zQ, Tr, StA, StT]
  refine c_pick hc (by omega) n (by omega) ?_
  intro x h2 hx hc2 hp2
  have hw : IntKind.i64.wrap (1 + (x : Int)) = ((x + 1 : Nat) : Int) := by rw [IntKind.wrap_i64]; omega
  simp (maxSteps := 1000000) (disch := first | omega | rfl | (simp only [zL, two63, room] <;> omega) | fail) only [↓reduceIte, ↓zP, zW, WOp, evOp, evBin, binI, binSh, binS, evNil, keyIs, keyEq, mkv, AV.cells, AV.sc, optv, bnd, env, put, Env.get, Env.set, Env.del, Env.dels, Env.init, res1, resL, resV, fillP, splice, newRow, Nat.reduceEqDiff, Nat.reduceLT, Nat.reduceLeDiff, Nat.reduceAdd, Nat.reduceMul, Nat.reduceSub, Nat.reduceBEq, reduceCtorEq, ↓zR, zQ, Tr, StA, StT, hw]
  refine lp_sure (x + 1) [] (K + 2) h2 hc2 (by omega) (by simp; omega) (by rfl) ?_
  intro w h3 hl hg hc3 hp3
  have hl' : w.length = x + 1 := by simpa using hl
  have hp23 := hp2.trans hp3
  have stop : ∀ K' h', K' ≤ K + 2 * n + 6 → Cur b cv bs K' h' → PreX b.length h h' → post (.str w) h' := fun K' h' h1 h4 h5 => hp w h' (by omega) (by omega) hg (h4.le h1) h5
  by_cases h46 : w.count 46 = 0
  · have n1 : ((w.count 46 : Nat) : Int) = 0 := by omega
    have n1' : (((w.count 46 : Nat) : Int) == 0) = true := by simp [h46]
    simp (maxSteps := 1000000) (disch := first | omega | rfl | (simp only [zL, two63, room] <;> omega) | fail) only [↓reduceIte, ↓zP, zW, WOp, evOp, evBin, binI, binSh, binS, evNil, keyIs, keyEq, mkv, AV.cells, AV.sc, optv, bnd, env, put, Env.get, Env.set, Env.del, Env.dels, Env.init, res1, resL, resV, fillP, splice, newRow, Nat.reduceEqDiff, Nat.reduceLT, Nat.reduceLeDiff, Nat.reduceAdd, Nat.reduceMul, Nat.reduceSub, Nat.reduceBEq, reduceCtorEq, ↓zR, zQ, Tr, StA, StT, e_liCountD w (by omega), n1', h46]
    refine c_one hc3 (by omega) 8 (by omega) ?_
    intro o h4 hc4 hp4
    cases o
    · simp (maxSteps := 1000000) (disch := first | omega | rfl | (simp only [zL, two63, room] <;> omega) | fail) only [↓reduceIte, ↓zP, zW, WOp, evOp, evBin, binI, binSh, binS, evNil, keyIs, keyEq, mkv, AV.cells, AV.sc, optv, bnd, env, put, Env.get, Env.set, Env.del, Env.dels, Env.init, res1, resL, resV, fillP, splice, newRow, Nat.reduceEqDiff, Nat.reduceLT, Nat.reduceLeDiff, Nat.reduceAdd, Nat.reduceMul, Nat.reduceSub, Nat.reduceBEq, reduceCtorEq, ↓zR, zQ, Tr, StA, StT]
      refine c_pick hc4 (by omega) w.length (by omega) ?_
      intro y h5 hy hc5 hp5
      have hyl : y < w.length := by omega
      simp (maxSteps := 1000000) (disch := first | omega | rfl | (simp only [zL, two63, room] <;> omega) | fail) only [↓reduceIte, ↓zP, zW, WOp, evOp, evBin, binI, binSh, binS, evNil, keyIs, keyEq, mkv, AV.cells, AV.sc, optv, bnd, env, put, Env.get, Env.set, Env.del, Env.dels, Env.init, res1, resL, resV, fillP, splice, newRow, Nat.reduceEqDiff, Nat.reduceLT, Nat.reduceLeDiff, Nat.reduceAdd, Nat.reduceMul, Nat.reduceSub, Nat.reduceBEq, reduceCtorEq, ↓zR, zQ, Tr, StA, StT]
      refine c_liPut w y [46] hyl (by omega) (by simp) ?_
      simp (maxSteps := 1000000) (disch := first | omega | rfl | (simp only [zL, two63, room] <;> omega) | fail) only [↓reduceIte, ↓zP, zW, WOp, evOp, evBin, binI, binSh, binS, evNil, keyIs, keyEq, mkv, AV.cells, AV.sc, optv, bnd, env, put, Env.get, Env.set, Env.del, Env.dels, Env.init, res1, resL, resV, fillP, splice, newRow, Nat.reduceEqDiff, Nat.reduceLT, Nat.reduceLeDiff, Nat.reduceAdd, Nat.reduceMul, Nat.reduceSub, Nat.reduceBEq, reduceCtorEq, ↓zR, zQ, Tr, StA, StT]
      refine hp _ h5 ?_ ?_ (put_signs hg y) (hc5.le (by omega)) (hp23.trans (hp4.trans hp5))
      · simp; omega
      · simp; omega
    · simp (maxSteps := 1000000) (disch := first | omega | rfl | (simp only [zL, two63, room] <;> omega) | fail) only [↓reduceIte, ↓zP, zW, WOp, evOp, evBin, binI, binSh, binS, evNil, keyIs, keyEq, mkv, AV.cells, AV.sc, optv, bnd, env, put, Env.get, Env.set, Env.del, Env.dels, Env.init, res1, resL, resV, fillP, splice, newRow, Nat.reduceEqDiff, Nat.reduceLT, Nat.reduceLeDiff, Nat.reduceAdd, Nat.reduceMul, Nat.reduceSub, Nat.reduceBEq, reduceCtorEq, ↓zR, zQ, Tr, StA, StT]
      exact stop _ h4 (by omega) hc4 (hp23.trans hp4)
  · have n1' : (((w.count 46 : Nat) : Int) == 0) = false := by simp; omega
    simp (maxSteps := 1000000) (disch := first | omega | rfl | (simp only [zL, two63, room] <;> omega) | fail) only [↓reduceIte, ↓zP, zW, WOp, evOp, evBin, binI, binSh, binS, evNil, keyIs, keyEq, mkv, AV.cells, AV.sc, optv, bnd, env, put, Env.get, Env.set, Env.del, Env.dels, Env.init, res1, resL, resV, fillP, splice, newRow, Nat.reduceEqDiff, Nat.reduceLT, Nat.reduceLeDiff, Nat.reduceAdd, Nat.reduceMul, Nat.reduceSub, Nat.reduceBEq, reduceCtorEq, ↓zR, zQ, Tr, StA, StT, e_liCountD w (by omega), n1']
    exact stop _ h3 (by omega) hc3 hp23
end
end Go.Proofs.YtejhhdpfndiliaaGreatDoor.Ab

/- WHAT BOTH SIDES' functions of lines answer: moves, ways, pairs, jumps. -/
namespace Go.Proofs.YtejhhdpfndiliaaGreatDoor.Ab
open Go
set_option maxRecDepth 100000
set_option maxHeartbeats 4000000

theorem good_all {w : List UInt8} (h : goodLine w = true) : 1 ≤ w.length ∧ w.length ≤ 12 ∧ signs w := by
  unfold goodLine at h
  simp only [Bool.and_eq_true, decide_eq_true_eq] at h
  exact ⟨h.1.1, h.1.2, h.2⟩
theorem c_IsLine (s : List UInt8) (hs : s.length < 2 ^ 60) {h : AH} {post : AV → AH → Prop} (hp : post (.bool (goodLine s)) h) : S 106 [.str s] h post k := by
  refine S_of rfl T106 ?_; unfold fi106
  simp (maxSteps := 1000000) (disch := first | omega | rfl | (simp only [zL, two63, room] <;> omega) | fail) only [↓reduceIte, ↓zP, zW, WOp, evOp, evBin, binI, binSh, binS, evNil, keyIs, keyEq, mkv, AV.cells, AV.sc, optv, bnd, env, put, Env.get, Env.set, Env.del, Env.dels, Env.init, res1, resL, resV, fillP, splice, newRow, Nat.reduceEqDiff, Nat.reduceLT, Nat.reduceLeDiff, Nat.reduceAdd, Nat.reduceMul, Nat.reduceSub, Nat.reduceBEq, reduceCtorEq, ↓zR, zQ, Tr, StA, StT]
  refine c_isLineOf s 12 (by omega) hs ?_
  have : (decide (1 ≤ (s.length : Int) ∧ (s.length : Int) ≤ 12) && s.all isSign) = goodLine s := by
    unfold goodLine
    congr 1
    exact decide_eq_decide.2 (by omega)
  rw [this]
  simp (maxSteps := 1000000) (disch := first | omega | rfl | (simp only [zL, two63, room] <;> omega) | fail) only [↓reduceIte, ↓zP, zW, WOp, evOp, evBin, binI, binSh, binS, evNil, keyIs, keyEq, mkv, AV.cells, AV.sc, optv, bnd, env, put, Env.get, Env.set, Env.del, Env.dels, Env.init, res1, resL, resV, fillP, splice, newRow, Nat.reduceEqDiff, Nat.reduceLT, Nat.reduceLeDiff, Nat.reduceAdd, Nat.reduceMul, Nat.reduceSub, Nat.reduceBEq, reduceCtorEq, ↓zR, zQ, Tr, StA, StT]
  exact hp
theorem e_IsLine (s : List UInt8) (hs : s.length < 2 ^ 60) {h : AH} {post : AV → AH → Prop} : S 106 [.str s] h post k = post (.bool (goodLine s)) h := S_eq fun _ => c_IsLine s hs
theorem e_liGoodG (s : List UInt8) (hs : s.length < 2 ^ 60) {h : AH} {post : AV → AH → Prop} : S 104 [.str s] h post k = post (.bool (goodLine s)) h := S_eq fun _ hp => c_liGood s hs hp
def mvG (kd w : List UInt8) : List (Int × Int) := if goodLine w then movesB w kd else []
theorem c_movesIn (w kd : List UInt8) (hw : w.length < 2 ^ 60) {h : AH} {post : AV → AH → Prop} (hp : ∀ v h', OwL 2 encM h h' v (mvG kd w) → Pre h h' → post (.tup [v, .bool (goodLine w)]) h') : S 59 [.str w, .str kd] h post k := by
  refine S_of rfl T59 ?_; unfold fi59
  unfold mvG at hp
  cases hg : goodLine w <;> rw [hg] at hp
  · simp (maxSteps := 1000000) (disch := first | omega | rfl | (simp only [zL, two63, room] <;> omega) | fail) only [↓reduceIte, ↓zP, zW, WOp, evOp, evBin, binI, binSh, binS, evNil, keyIs, keyEq, mkv, AV.cells, AV.sc, optv, bnd, env, put, Env.get, Env.set, Env.del, Env.dels, Env.init, res1, resL, resV, fillP, splice, newRow, Nat.reduceEqDiff, Nat.reduceLT, Nat.reduceLeDiff, Nat.reduceAdd, Nat.reduceMul, Nat.reduceSub, Nat.reduceBEq, reduceCtorEq, ↓zR, zQ, Tr, StA, StT, e_IsLine w hw, hg]
    exact hp .nilS h OwL.nil (Pre.refl h)
  · have hl := good_all hg
    simp (maxSteps := 1000000) (disch := first | omega | rfl | (simp only [zL, two63, room] <;> omega) | fail) only [↓reduceIte, ↓zP, zW, WOp, evOp, evBin, binI, binSh, binS, evNil, keyIs, keyEq, mkv, AV.cells, AV.sc, optv, bnd, env, put, Env.get, Env.set, Env.del, Env.dels, Env.init, res1, resL, resV, fillP, splice, newRow, Nat.reduceEqDiff, Nat.reduceLT, Nat.reduceLeDiff, Nat.reduceAdd, Nat.reduceMul, Nat.reduceSub, Nat.reduceBEq, reduceCtorEq, ↓zR, zQ, Tr, StA, StT, e_IsLine w hw, hg]
    refine c_moves w kd (by omega) ?_
    intro v h' ho hp'
    simp (maxSteps := 1000000) (disch := first | omega | rfl | (simp only [zL, two63, room] <;> omega) | fail) only [↓reduceIte, ↓zP, zW, WOp, evOp, evBin, binI, binSh, binS, evNil, keyIs, keyEq, mkv, AV.cells, AV.sc, optv, bnd, env, put, Env.get, Env.set, Env.del, Env.dels, Env.init, res1, resL, resV, fillP, splice, newRow, Nat.reduceEqDiff, Nat.reduceLT, Nat.reduceLeDiff, Nat.reduceAdd, Nat.reduceMul, Nat.reduceSub, Nat.reduceBEq, reduceCtorEq, ↓zR, zQ, Tr, StA, StT]
    exact hp v h' ho hp'
theorem c_ToadMoves (w : List UInt8) (hw : w.length < 2 ^ 60) {h : AH} {post : AV → AH → Prop} (hp : ∀ v h', OwL 2 encM h h' v (mvG [84] w) → Pre h h' → post (.tup [v, .bool (goodLine w)]) h') : S 375 [.str w] h post k := by
  refine S_of rfl T375 ?_; unfold fi375
  simp (maxSteps := 1000000) (disch := first | omega | rfl | (simp only [zL, two63, room] <;> omega) | fail) only [↓reduceIte, ↓zP, zW, WOp, evOp, evBin, binI, binSh, binS, evNil, keyIs, keyEq, mkv, AV.cells, AV.sc, optv, bnd, env, put, Env.get, Env.set, Env.del, Env.dels, Env.init, res1, resL, resV, fillP, splice, newRow, Nat.reduceEqDiff, Nat.reduceLT, Nat.reduceLeDiff, Nat.reduceAdd, Nat.reduceMul, Nat.reduceSub, Nat.reduceBEq, reduceCtorEq, ↓zR, zQ, Tr, StA, StT]
  refine c_movesIn w [84] hw ?_
  intro v h' ho hp'
  simp (maxSteps := 1000000) (disch := first | omega | rfl | (simp only [zL, two63, room] <;> omega) | fail) only [↓reduceIte, ↓zP, zW, WOp, evOp, evBin, binI, binSh, binS, evNil, keyIs, keyEq, mkv, AV.cells, AV.sc, optv, bnd, env, put, Env.get, Env.set, Env.del, Env.dels, Env.init, res1, resL, resV, fillP, splice, newRow, Nat.reduceEqDiff, Nat.reduceLT, Nat.reduceLeDiff, Nat.reduceAdd, Nat.reduceMul, Nat.reduceSub, Nat.reduceBEq, reduceCtorEq, ↓zR, zQ, Tr, StA, StT]
  exact hp v h' ho hp'
theorem c_FrogMoves (w : List UInt8) (hw : w.length < 2 ^ 60) {h : AH} {post : AV → AH → Prop} (hp : ∀ v h', OwL 2 encM h h' v (mvG [70] w) → Pre h h' → post (.tup [v, .bool (goodLine w)]) h') : S 377 [.str w] h post k := by
  refine S_of rfl T377 ?_; unfold fi377
  simp (maxSteps := 1000000) (disch := first | omega | rfl | (simp only [zL, two63, room] <;> omega) | fail) only [↓reduceIte, ↓zP, zW, WOp, evOp, evBin, binI, binSh, binS, evNil, keyIs, keyEq, mkv, AV.cells, AV.sc, optv, bnd, env, put, Env.get, Env.set, Env.del, Env.dels, Env.init, res1, resL, resV, fillP, splice, newRow, Nat.reduceEqDiff, Nat.reduceLT, Nat.reduceLeDiff, Nat.reduceAdd, Nat.reduceMul, Nat.reduceSub, Nat.reduceBEq, reduceCtorEq, ↓zR, zQ, Tr, StA, StT]
  refine c_movesIn w [70] hw ?_
  intro v h' ho hp'
  simp (maxSteps := 1000000) (disch := first | omega | rfl | (simp only [zL, two63, room] <;> omega) | fail) only [↓reduceIte, ↓zP, zW, WOp, evOp, evBin, binI, binSh, binS, evNil, keyIs, keyEq, mkv, AV.cells, AV.sc, optv, bnd, env, put, Env.get, Env.set, Env.del, Env.dels, Env.init, res1, resL, resV, fillP, splice, newRow, Nat.reduceEqDiff, Nat.reduceLT, Nat.reduceLeDiff, Nat.reduceAdd, Nat.reduceMul, Nat.reduceSub, Nat.reduceBEq, reduceCtorEq, ↓zR, zQ, Tr, StA, StT]
  exact hp v h' ho hp'
def wayG (w : List UInt8) : Int := if goodLine w then (wayN w : Nat) else 0
theorem psB_le (b : UInt8) : ∀ (l : List UInt8) (k : Nat), psB b k l ≤ l.length * (k + l.length)
  | [], k => by simp [psB]
  | x :: l, k => by
    have := psB_le b l (k + 1)
    simp only [psB, List.length_cons]
    have h1 : (l.length + 1) * (k + (l.length + 1)) = l.length * (k + (l.length + 1)) + (k + (l.length + 1)) := Nat.succ_mul _ _
    have h2 : l.length * (k + 1 + l.length) = l.length * (k + (l.length + 1)) := by rw [show k + 1 + l.length = k + (l.length + 1) by omega]
    split <;> omega
def pairsG (w : List UInt8) : Int := if goodLine w then (pairsB w : Nat) else 0
def blkG (w : List UInt8) : Bool := goodLine w && (movesB w [84, 70]).isEmpty
theorem len_beq {α : Type} (l : List α) : (((l.length : Nat) : Int) == 0) = l.isEmpty := by
  cases l with
  | nil => rfl
  | cons a l =>
    have : ¬ (((l.length + 1 : Nat) : Int) = 0) := by omega
    simpa using this
def othG (w : List UInt8) : List UInt8 := if goodLine w then otherL w else []
theorem c_OtherLine (w : List UInt8) (hw : w.length < 2 ^ 60) {h : AH} {post : AV → AH → Prop} (hp : ∀ h', Pre h h' → post (.tup [.str (othG w), .bool (goodLine w)]) h') : S 385 [.str w] h post k := by
  unfold othG at hp
  refine S_of rfl T385 ?_; unfold fi385
  cases hg : goodLine w <;> rw [hg] at hp
  · simp (maxSteps := 1000000) (disch := first | omega | rfl | (simp only [zL, two63, room] <;> omega) | fail) only [↓reduceIte, ↓zP, zW, WOp, evOp, evBin, binI, binSh, binS, evNil, keyIs, keyEq, mkv, AV.cells, AV.sc, optv, bnd, env, put, Env.get, Env.set, Env.del, Env.dels, Env.init, res1, resL, resV, fillP, splice, newRow, Nat.reduceEqDiff, Nat.reduceLT, Nat.reduceLeDiff, Nat.reduceAdd, Nat.reduceMul, Nat.reduceSub, Nat.reduceBEq, reduceCtorEq, ↓zR, zQ, Tr, StA, StT, e_IsLine w hw, hg]
    exact hp h (Pre.refl h)
  · have hl := good_all hg
    simp (maxSteps := 1000000) (disch := first | omega | rfl | (simp only [zL, two63, room] <;> omega) | fail) only [↓reduceIte, ↓zP, zW, WOp, evOp, evBin, binI, binSh, binS, evNil, keyIs, keyEq, mkv, AV.cells, AV.sc, optv, bnd, env, put, Env.get, Env.set, Env.del, Env.dels, Env.init, res1, resL, resV, fillP, splice, newRow, Nat.reduceEqDiff, Nat.reduceLT, Nat.reduceLeDiff, Nat.reduceAdd, Nat.reduceMul, Nat.reduceSub, Nat.reduceBEq, reduceCtorEq, ↓zR, zQ, Tr, StA, StT, e_IsLine w hw, hg]
    refine c_turned w (by omega) ?_
    intro h' hp'
    simp (maxSteps := 1000000) (disch := first | omega | rfl | (simp only [zL, two63, room] <;> omega) | fail) only [↓reduceIte, ↓zP, zW, WOp, evOp, evBin, binI, binSh, binS, evNil, keyIs, keyEq, mkv, AV.cells, AV.sc, optv, bnd, env, put, Env.get, Env.set, Env.del, Env.dels, Env.init, res1, resL, resV, fillP, splice, newRow, Nat.reduceEqDiff, Nat.reduceLT, Nat.reduceLeDiff, Nat.reduceAdd, Nat.reduceMul, Nat.reduceSub, Nat.reduceBEq, reduceCtorEq, ↓zR, zQ, Tr, StA, StT]
    exact hp h' hp'
end Go.Proofs.YtejhhdpfndiliaaGreatDoor.Ab

/- MOVES that can be made, jumps, lists of moves that are compared; moves that are drawn. -/
namespace Go.Proofs.YtejhhdpfndiliaaGreatDoor.Ab
open Go
set_option maxRecDepth 100000
set_option maxHeartbeats 4000000

theorem seqM (a b c d : Int) : seqL [0, 0] [.int .i64 a, .int .i64 b] [.int .i64 c, .int .i64 d] = some (((a, b) : Int × Int) == (c, d)) := by
  simp only [seqL, keyIs, keyEq, Bool.and_true, if_true]
  rfl
theorem canB_mv {w : List UInt8} {i t : Int} (h : canB w (i, t) = true) : ∃ i' t' : Nat, i = i' ∧ t = t' ∧ Mv w i' t' := by
  unfold canB at h
  obtain ⟨h1, h2, h3⟩ := of_decide_eq_true h
  exact ⟨i.toNat, t.toNat, by simp only at h1; omega, by simp only at h2; omega, h3⟩
theorem c_can (w : List UInt8) (i t : Int) (hw : w.length < 2 ^ 30) {h : AH} {post : AV → AH → Prop} (hp : ∀ h', Pre h h' → post (.bool (canB w (i, t))) h') : S 435 [.str w, mvV i t] h post k := by
  have hq : ∀ b, canB w (i, t) = b → post (.bool b) (h ++ [AO.row [AV.int .i64 i, AV.int .i64 t] 0 0 false]) := fun b hb => by rw [← hb]; exact hp _ (Pre.push _ _)
  refine S_of rfl T435 ?_; unfold fi435
  by_cases hi : 0 ≤ i ∧ i < w.length
  case neg =>
    have h1 : (0 ≤ i ∧ i ≤ (w.length : Int) - 1) = False := eq_false (by omega)
    simp (maxSteps := 1000000) (disch := first | omega | rfl | (simp only [zL, two63, room] <;> omega) | fail) only [↓reduceIte, ↓zP, zW, WOp, evOp, evBin, binI, binSh, binS, evNil, keyIs, keyEq, mkv, AV.cells, AV.sc, optv, bnd, env, put, Env.get, Env.set, Env.del, Env.dels, Env.init, res1, resL, resV, fillP, splice, newRow, Nat.reduceEqDiff, Nat.reduceLT, Nat.reduceLeDiff, Nat.reduceAdd, Nat.reduceMul, Nat.reduceSub, Nat.reduceBEq, reduceCtorEq, ↓zR, zQ, Tr, StA, StT, e_within, h1]
    exact hq _ (decide_eq_false (by rintro ⟨x1, x2, x3, _⟩; simp only at x1 x2 x3; omega))
  have h1 : (0 ≤ i ∧ i ≤ (w.length : Int) - 1) = True := eq_true (by omega)
  obtain ⟨i, rfl⟩ := Int.eq_ofNat_of_zero_le hi.1
  have hi' : i < w.length := by omega
  have hc := canB_goal (w := w) (t := t) hi'
  simp (maxSteps := 1000000) (disch := first | omega | rfl | (simp only [zL, two63, room] <;> omega) | fail) only [↓reduceIte, ↓zP, zW, WOp, evOp, evBin, binI, binSh, binS, evNil, keyIs, keyEq, mkv, AV.cells, AV.sc, optv, bnd, env, put, Env.get, Env.set, Env.del, Env.dels, Env.init, res1, resL, resV, fillP, splice, newRow, Nat.reduceEqDiff, Nat.reduceLT, Nat.reduceLeDiff, Nat.reduceAdd, Nat.reduceMul, Nat.reduceSub, Nat.reduceBEq, reduceCtorEq, ↓zR, zQ, Tr, StA, StT, e_within, h1]
  refine c_goal w i hi' (by omega) ?_
  unfold goalV
  cases hg : goalB w i with
  | none =>
    rw [hg] at hc
    simp (maxSteps := 1000000) (disch := first | omega | rfl | (simp only [zL, two63, room] <;> omega) | fail) only [↓reduceIte, ↓zP, zW, WOp, evOp, evBin, binI, binSh, binS, evNil, keyIs, keyEq, mkv, AV.cells, AV.sc, optv, bnd, env, put, Env.get, Env.set, Env.del, Env.dels, Env.init, res1, resL, resV, fillP, splice, newRow, Nat.reduceEqDiff, Nat.reduceLT, Nat.reduceLeDiff, Nat.reduceAdd, Nat.reduceMul, Nat.reduceSub, Nat.reduceBEq, reduceCtorEq, ↓zR, zQ, Tr, StA, StT]
    exact hq _ (by rw [hc]; rfl)
  | some t' =>
    rw [hg] at hc
    simp (maxSteps := 1000000) (disch := first | omega | rfl | (simp only [zL, two63, room] <;> omega) | fail) only [↓reduceIte, ↓zP, zW, WOp, evOp, evBin, binI, binSh, binS, evNil, keyIs, keyEq, mkv, AV.cells, AV.sc, optv, bnd, env, put, Env.get, Env.set, Env.del, Env.dels, Env.init, res1, resL, resV, fillP, splice, newRow, Nat.reduceEqDiff, Nat.reduceLT, Nat.reduceLeDiff, Nat.reduceAdd, Nat.reduceMul, Nat.reduceSub, Nat.reduceBEq, reduceCtorEq, ↓zR, zQ, Tr, StA, StT]
    refine hq _ ?_
    rw [hc]
    by_cases e : t' = t
    · subst e; simp
    · simp [e]
def okG (w : List UInt8) (m : Int × Int) : Bool := goodLine w && canB w m
def mkG (w : List UInt8) (m : Int × Int) : List UInt8 := if okG w m then madeB w m.1.toNat m.2.toNat else []
def jmG (w : List UInt8) (m : Int × Int) : Bool := okG w m && isJ m.1.toNat m.2.toNat
theorem mvRow (h : AH) (i t : Int) : rdRow (h ++ [AO.row [AV.int .i64 i, AV.int .i64 t] 0 0 false]) h.length 0 0 2 = some [.int .i64 i, .int .i64 t] ∧ rdRow (h ++ [AO.row [AV.int .i64 i, AV.int .i64 t] 0 0 false]) h.length 0 0 1 = some [.int .i64 i] ∧ rdRow (h ++ [AO.row [AV.int .i64 i, AV.int .i64 t] 0 0 false]) h.length 0 1 1 = some [.int .i64 t] := by
  refine ⟨?_, ?_, ?_⟩ <;> rw [rd_last] <;> simp
theorem c_MakeMove (w : List UInt8) (i t : Int) (hw : w.length < 2 ^ 60) {h : AH} {post : AV → AH → Prop} (hp : ∀ h', Pre h h' → post (.tup [.str (mkG w (i, t)), .bool (okG w (i, t))]) h') : S 389 [.str w, mvV i t] h post k := by
  unfold mkG okG at hp
  refine S_of rfl T389 ?_; unfold fi389
  cases hg : goodLine w <;> rw [hg] at hp
  · simp (maxSteps := 1000000) (disch := first | omega | rfl | (simp only [zL, two63, room] <;> omega) | fail) only [↓reduceIte, ↓zP, zW, WOp, evOp, evBin, binI, binSh, binS, evNil, keyIs, keyEq, mkv, AV.cells, AV.sc, optv, bnd, env, put, Env.get, Env.set, Env.del, Env.dels, Env.init, res1, resL, resV, fillP, splice, newRow, Nat.reduceEqDiff, Nat.reduceLT, Nat.reduceLeDiff, Nat.reduceAdd, Nat.reduceMul, Nat.reduceSub, Nat.reduceBEq, reduceCtorEq, ↓zR, zQ, Tr, StA, StT, e_IsLine w hw, hg]
    exact hp _ (Pre.push _ _)
  · have hl := good_all hg
    obtain ⟨q, -, -⟩ := mvRow h i t
    simp (maxSteps := 1000000) (disch := first | omega | rfl | (simp only [zL, two63, room] <;> omega) | fail) only [↓reduceIte, ↓zP, zW, WOp, evOp, evBin, binI, binSh, binS, evNil, keyIs, keyEq, mkv, AV.cells, AV.sc, optv, bnd, env, put, Env.get, Env.set, Env.del, Env.dels, Env.init, res1, resL, resV, fillP, splice, newRow, Nat.reduceEqDiff, Nat.reduceLT, Nat.reduceLeDiff, Nat.reduceAdd, Nat.reduceMul, Nat.reduceSub, Nat.reduceBEq, reduceCtorEq, ↓zR, zQ, Tr, StA, StT, e_IsLine w hw, hg]
    refine c_can w i t (by omega) ?_
    intro h2 hp2
    have q' := rdRow_pre hp2 q
    cases hc : canB w (i, t) <;> rw [hc] at hp
    · simp (maxSteps := 1000000) (disch := first | omega | rfl | (simp only [zL, two63, room] <;> omega) | fail) only [↓reduceIte, ↓zP, zW, WOp, evOp, evBin, binI, binSh, binS, evNil, keyIs, keyEq, mkv, AV.cells, AV.sc, optv, bnd, env, put, Env.get, Env.set, Env.del, Env.dels, Env.init, res1, resL, resV, fillP, splice, newRow, Nat.reduceEqDiff, Nat.reduceLT, Nat.reduceLeDiff, Nat.reduceAdd, Nat.reduceMul, Nat.reduceSub, Nat.reduceBEq, reduceCtorEq, ↓zR, zQ, Tr, StA, StT]
      exact hp h2 ((Pre.push _ _).trans hp2)
    · obtain ⟨i, t, rfl, rfl, hm⟩ := canB_mv hc
      simp (maxSteps := 1000000) (disch := first | omega | rfl | (simp only [zL, two63, room] <;> omega) | fail) only [↓reduceIte, ↓zP, zW, WOp, evOp, evBin, binI, binSh, binS, evNil, keyIs, keyEq, mkv, AV.cells, AV.sc, optv, bnd, env, put, Env.get, Env.set, Env.del, Env.dels, Env.init, res1, resL, resV, fillP, splice, newRow, Nat.reduceEqDiff, Nat.reduceLT, Nat.reduceLeDiff, Nat.reduceAdd, Nat.reduceMul, Nat.reduceSub, Nat.reduceBEq, reduceCtorEq, ↓zR, zQ, Tr, StA, StT, q']
      refine c_made w i t hm.1 hm.2.1 (by omega) ?_
      intro h3 hp3
      simp (maxSteps := 1000000) (disch := first | omega | rfl | (simp only [zL, two63, room] <;> omega) | fail) only [↓reduceIte, ↓zP, zW, WOp, evOp, evBin, binI, binSh, binS, evNil, keyIs, keyEq, mkv, AV.cells, AV.sc, optv, bnd, env, put, Env.get, Env.set, Env.del, Env.dels, Env.init, res1, resL, resV, fillP, splice, newRow, Nat.reduceEqDiff, Nat.reduceLT, Nat.reduceLeDiff, Nat.reduceAdd, Nat.reduceMul, Nat.reduceSub, Nat.reduceBEq, reduceCtorEq, ↓zR, zQ, Tr, StA, StT]
      exact hp h3 (((Pre.push _ _).trans hp2).trans hp3)
theorem Mv.far {w : List UInt8} {i t : Nat} (h : Mv w i t) : t = i + 1 ∨ t = i + 2 ∨ t + 1 = i ∨ t + 2 = i := by
  obtain ⟨_, _, _, h | h⟩ := h <;> omega
theorem Slc.fldM {h : AH} {c kk off n e : Nat} {pre rest : List (Int × Int)} {x : Int × Int} (hs : Slc 2 encM h (.slice c kk off n e) (pre ++ x :: rest)) : rdRow h c kk (off + pre.length * 2 + 0) 1 = some [.int .i64 x.1] ∧ rdRow h c kk (off + pre.length * 2 + 1) 1 = some [.int .i64 x.2] := by
  have hr := hs.rd hlM
  exact ⟨rd_part hr (o := 0) (m := 1) (by omega), rd_part hr (o := 1) (m := 1) (by omega)⟩
theorem c_big {cv mv : AV} {cs ms : List UInt8} {h : AH} (hs : Slc 1 encU h cv cs) (ht : Slc 1 encU h mv ms) {post : AV → AH → Prop} (hp : ∀ b, (b = false → cs.length ≤ 1048576 ∧ ms.length ≤ 1048576) → post (.bool b) h) : S 22 [cv, mv] h post k := by
  refine S_of rfl T22 ?_; unfold fi22
  have hv := fun g => Slc.lenV (hs) (g := g) (ρ := fun _ => _) (x := .t 0) rfl; simp only [evOp] at hv
  have hu := fun g => Slc.lenV (ht) (g := g) (ρ := fun _ => _) (x := .t 0) rfl; simp only [evOp] at hu
  by_cases h1 : (cs.length : Int) > 1048576
  · simp (maxSteps := 1000000) (disch := first | omega | rfl | (simp only [zL, two63, room] <;> omega) | fail) only [↓reduceIte, ↓zP, zW, WOp, evOp, evBin, binI, binSh, binS, evNil, keyIs, keyEq, mkv, AV.cells, AV.sc, optv, bnd, env, put, Env.get, Env.set, Env.del, Env.dels, Env.init, res1, resL, resV, fillP, splice, newRow, Nat.reduceEqDiff, Nat.reduceLT, Nat.reduceLeDiff, Nat.reduceAdd, Nat.reduceMul, Nat.reduceSub, Nat.reduceBEq, reduceCtorEq, ↓zR, zQ, Tr, StA, StT, hv, hu, h1]
    exact hp true (fun h => by cases h)
  · have w1 : IntKind.i64.wrap (1048576 - (cs.length : Int)) = 1048576 - (cs.length : Int) := wrap_i (by omega)
    by_cases h2 : (ms.length : Int) > 1048576 - (cs.length : Int)
    · simp (maxSteps := 1000000) (disch := first | omega | rfl | (simp only [zL, two63, room] <;> omega) | fail) only [↓reduceIte, ↓zP, zW, WOp, evOp, evBin, binI, binSh, binS, evNil, keyIs, keyEq, mkv, AV.cells, AV.sc, optv, bnd, env, put, Env.get, Env.set, Env.del, Env.dels, Env.init, res1, resL, resV, fillP, splice, newRow, Nat.reduceEqDiff, Nat.reduceLT, Nat.reduceLeDiff, Nat.reduceAdd, Nat.reduceMul, Nat.reduceSub, Nat.reduceBEq, reduceCtorEq, ↓zR, zQ, Tr, StA, StT, hv, hu, h1, w1, h2]
      exact hp true (fun h => by cases h)
    · simp (maxSteps := 1000000) (disch := first | omega | rfl | (simp only [zL, two63, room] <;> omega) | fail) only [↓reduceIte, ↓zP, zW, WOp, evOp, evBin, binI, binSh, binS, evNil, keyIs, keyEq, mkv, AV.cells, AV.sc, optv, bnd, env, put, Env.get, Env.set, Env.del, Env.dels, Env.init, res1, resL, resV, fillP, splice, newRow, Nat.reduceEqDiff, Nat.reduceLT, Nat.reduceLeDiff, Nat.reduceAdd, Nat.reduceMul, Nat.reduceSub, Nat.reduceBEq, reduceCtorEq, ↓zR, zQ, Tr, StA, StT, hv, hu, h1, w1, h2]
      exact hp false (fun _ => by omega)
end Go.Proofs.YtejhhdpfndiliaaGreatDoor.Ab

/- LINES AND MOVES that are drawn. -/
namespace Go.Proofs.YtejhhdpfndiliaaGreatDoor.Ab
open Go
set_option maxRecDepth 100000
set_option maxHeartbeats 4000000

/-- Where a drawn move is put. -/
theorem wr_res {h g : AH} (hp : Pre (h ++ [AO.row [.int .i64 0, .int .i64 0] 0 0 false]) g) (x y : Int) : wrRow g h.length 0 0 [.int .i64 x, .int .i64 y] = some (g.set h.length (.row [.int .i64 x, .int .i64 y] 0 0 false)) ∧
    rdRow (g.set h.length (.row [.int .i64 x, .int .i64 y] 0 0 false)) h.length 0 0 2 = some [.int .i64 x, .int .i64 y] ∧ Pre h (g.set h.length (.row [.int .i64 x, .int .i64 y] 0 0 false)) := by
  have hl : h.length < g.length := by have := hp.1; simp at this; omega
  have hr : g[h.length]? = some (.row [.int .i64 0, .int .i64 0] 0 0 false) := by rw [hp.2 _ (by simp)]; simp
  refine ⟨by simp [wrRow, hr, splice, AV.sc], ?_, ((Pre.push h _).trans hp).set (Nat.le_refl _)⟩
  unfold rdRow
  rw [List.getElem?_set, if_pos rfl, if_pos hl]
  simp
end Go.Proofs.YtejhhdpfndiliaaGreatDoor.Ab

/- RANKS of lines: how many lines there are, which rank a line has, which line a rank has. -/
namespace Go.Proofs.YtejhhdpfndiliaaGreatDoor.Ab
open Go

/-- n, times (a + k) over k, for so many k. -/
def loopN (a : Nat) : Nat → Nat → Nat → Nat
  | 0, _, n => n
  | m + 1, k, n => loopN a m (k + 1) (n * (a + k) / k)
/-- How many lines there are. -/
def mM (t g f : Nat) : Nat := loopN (t + g) f 1 (loopN t g 1 1)
def mS (t g f : Nat) : Nat := loopN g f 1 (loopN (g + f) t 1 1)
def gM (t g f : Nat) : Nat := if 0 < g then mM t (g - 1) f else 0
def fM (t g f : Nat) : Nat := if 0 < f then mM t g (f - 1) else 0
def tM (t g f : Nat) : Nat := if 0 < t then mM (t - 1) g f else 0
def allT (P : Nat → Nat → Nat → Bool) : Bool := (List.range 13).all fun t => (List.range (13 - t)).all fun g => (List.range (13 - t - g)).all fun f => P t g f
theorem allT_get {P : Nat → Nat → Nat → Bool} (h : allT P = true) {t g f : Nat} (hs : t + g + f ≤ 12) : P t g f = true := by
  have h1 := List.all_eq_true.1 h t (List.mem_range.2 (by omega))
  have h2 := List.all_eq_true.1 h1 g (List.mem_range.2 (by omega))
  exact List.all_eq_true.1 h2 f (List.mem_range.2 (by omega))
theorem mM_all : allT (fun t g f => decide (mS t g f = mM t g f) && (decide (t + g + f = 0) || decide (mM t g f = gM t g f + fM t g f + tM t g f)) && decide (mM t g f < 1000000) && decide (0 < mM t g f)) = true := by decide +kernel
theorem mM_facts {t g f : Nat} (hs : t + g + f ≤ 12) : mS t g f = mM t g f ∧ (0 < t + g + f → mM t g f = gM t g f + fM t g f + tM t g f) ∧ mM t g f < 1000000 ∧ 0 < mM t g f := by
  have := allT_get mM_all hs
  simp only [Bool.and_eq_true, Bool.or_eq_true, decide_eq_true_eq] at this
  obtain ⟨⟨⟨h1, h2⟩, h3⟩, h4⟩ := this
  exact ⟨h1, fun h => h2.resolve_left (by omega), h3, h4⟩

def bel (t g f : Nat) (x : UInt8) : Nat := if x = 46 then 0 else if x = 70 then gM t g f else gM t g f + fM t g f
def rankN : List UInt8 → Nat
  | [] => 0
  | x :: l => bel ((x :: l).count 84) ((x :: l).count 46) ((x :: l).count 70) x + rankN l
def mW (w : List UInt8) : Nat := mM (w.count 84) (w.count 46) (w.count 70)
theorem cntB1 (x b : UInt8) (l : List UInt8) : (x :: l).count b = l.count b + if x = b then 1 else 0 := by
  rw [List.count_cons]
  simp
/-- What is below a sign, and those that begin with it, are below the next sign. -/
theorem bel_next {x : UInt8} {l : List UInt8} (hg : signs (x :: l)) (hl : (x :: l).length ≤ 12) : bel ((x :: l).count 84) ((x :: l).count 46) ((x :: l).count 70) x + mW l ≤ mW (x :: l) ∧
    ∀ y : UInt8, isSign y = true → x < y → bel ((x :: l).count 84) ((x :: l).count 46) ((x :: l).count 70) x + mW l ≤ bel ((x :: l).count 84) ((x :: l).count 46) ((x :: l).count 70) y := by
  have hc := cnt3 hg
  have hp := (mM_facts (t := (x :: l).count 84) (g := (x :: l).count 46) (f := (x :: l).count 70) (by omega)).2.1 (by rw [← hc]; simp)
  have hx := (signs_cons.1 hg).1
  unfold mW
  rw [cntB1, cntB1, cntB1] at hp ⊢
  rcases sign3 hx with rfl | rfl | rfl
  · simp only [show ((84 : UInt8) = 46) = False by decide, show ((84 : UInt8) = 70) = False by decide, if_true, if_false, Nat.add_zero] at hp ⊢
    unfold bel
    simp only [show ((84 : UInt8) = 46) = False by decide, show ((84 : UInt8) = 70) = False by decide, if_false]
    have : tM (l.count 84 + 1) (l.count 46) (l.count 70) = mM (l.count 84) (l.count 46) (l.count 70) := by unfold tM; rw [if_pos (by omega), Nat.add_sub_cancel]
    refine ⟨by omega, ?_⟩
    intro y hy hlt
    rcases sign3 hy with rfl | rfl | rfl <;> exact absurd hlt (by decide)
  · simp only [show ((46 : UInt8) = 84) = False by decide, show ((46 : UInt8) = 70) = False by decide, if_true, if_false, Nat.add_zero] at hp ⊢
    have hgM : gM (l.count 84) (l.count 46 + 1) (l.count 70) = mM (l.count 84) (l.count 46) (l.count 70) := by unfold gM; rw [if_pos (by omega), Nat.add_sub_cancel]
    have hb : bel (l.count 84) (l.count 46 + 1) (l.count 70) 46 = 0 := rfl
    rw [hb]
    refine ⟨by omega, ?_⟩
    intro y hy hlt
    rcases sign3 hy with rfl | rfl | rfl
    · have : bel (l.count 84) (l.count 46 + 1) (l.count 70) 84 = gM (l.count 84) (l.count 46 + 1) (l.count 70) + fM (l.count 84) (l.count 46 + 1) (l.count 70) := rfl
      omega
    · exact absurd hlt (by decide)
    · have : bel (l.count 84) (l.count 46 + 1) (l.count 70) 70 = gM (l.count 84) (l.count 46 + 1) (l.count 70) := rfl
      omega
  · simp only [show ((70 : UInt8) = 84) = False by decide, show ((70 : UInt8) = 46) = False by decide, if_true, if_false, Nat.add_zero] at hp ⊢
    have hfM : fM (l.count 84) (l.count 46) (l.count 70 + 1) = mM (l.count 84) (l.count 46) (l.count 70) := by unfold fM; rw [if_pos (by omega), Nat.add_sub_cancel]
    have hb : bel (l.count 84) (l.count 46) (l.count 70 + 1) 70 = gM (l.count 84) (l.count 46) (l.count 70 + 1) := rfl
    rw [hb]
    refine ⟨by omega, ?_⟩
    intro y hy hlt
    rcases sign3 hy with rfl | rfl | rfl
    · have : bel (l.count 84) (l.count 46) (l.count 70 + 1) 84 = gM (l.count 84) (l.count 46) (l.count 70 + 1) + fM (l.count 84) (l.count 46) (l.count 70 + 1) := rfl
      omega
    · exact absurd hlt (by decide)
    · exact absurd hlt (by decide)
theorem rank_lt : ∀ {w : List UInt8}, signs w → w.length ≤ 12 → rankN w < mW w
  | [], _, _ => by decide
  | x :: l, hg, hl => by
    have h1 := rank_lt (signs_cons.1 hg).2 (by simp at hl; omega)
    have h2 := (bel_next hg hl).1
    simp only [rankN]
    omega
/-- Ranks of lines with as many of each tell their order. -/
theorem rank_lex : ∀ {w v : List UInt8}, signs w → signs v → w.length ≤ 12 → (∀ b, w.count b = v.count b) → (rankN w = rankN v → w = v) ∧ (rankN w < rankN v → Op.bytesLess w v = true)
  | [], [], _, _, _, _ => ⟨fun _ => rfl, fun h => absurd h (by decide)⟩
  | [], y :: m, _, _, _, hc => by
    have := hc y
    rw [List.count_nil, cntB1, if_pos rfl] at this
    omega
  | x :: l, [], _, _, _, hc => by
    have := hc x
    rw [List.count_nil, cntB1, if_pos rfl] at this
    omega
  | x :: l, y :: m, hg, hv, hl, hc => by
    have hx := (signs_cons.1 hg).1
    have hy := (signs_cons.1 hv).1
    have hlen : (y :: m).length ≤ 12 := by
      have h1 := cnt3 hg
      have h2 := cnt3 hv
      rw [hc, hc, hc] at h1
      omega
    by_cases hxy : x = y
    · subst hxy
      have ih := rank_lex (w := l) (v := m) (signs_cons.1 hg).2 (signs_cons.1 hv).2 (by simp at hl; omega) (fun b => by
        have := hc b
        rw [cntB1, cntB1] at this
        omega)
      have hirr : (x < x) = False := eq_false (by rw [UInt8.lt_iff_toNat_lt]; omega)
      simp only [rankN, hc, Op.bytesLess, hirr, decide_false, beq_self_eq_true, Bool.true_and, Bool.false_or]
      exact ⟨fun h => by rw [ih.1 (by omega)], fun h => ih.2 (by omega)⟩
    · have hlx := rank_lt (signs_cons.1 hg).2 (by simp at hl; omega)
      have hlm := rank_lt (signs_cons.1 hv).2 (by simp at hlen; omega)
      rcases Nat.lt_trichotomy x.toNat y.toNat with h | h | h
      · have hlt : x < y := UInt8.lt_iff_toNat_lt.2 h
        have := (bel_next hg hl).2 y hy hlt
        simp only [rankN]
        rw [hc, hc, hc] at this ⊢
        refine ⟨fun h => by omega, fun _ => ?_⟩
        simp only [Op.bytesLess, hlt, decide_true, Bool.true_or]
      · exact absurd (UInt8.toNat_inj.1 h) hxy
      · have hlt : y < x := UInt8.lt_iff_toNat_lt.2 h
        have := (bel_next hv hlen).2 x hx hlt
        simp only [rankN]
        rw [hc, hc, hc]
        refine ⟨fun h => by omega, fun h => by omega⟩
/-- The line of a rank. -/
def unr : Nat → Nat → Nat → Nat → Nat → List UInt8
  | 0, _, _, _, _ => []
  | n + 1, t, g, f, r => if r < gM t g f then 46 :: unr n t (g - 1) f r else if r < gM t g f + fM t g f then 70 :: unr n t g (f - 1) (r - gM t g f) else 84 :: unr n (t - 1) g f (r - (gM t g f + fM t g f))
theorem unr_ok : ∀ (n t g f r : Nat), t + g + f = n → n ≤ 12 → r < mM t g f → signs (unr n t g f r) ∧ (unr n t g f r).count 84 = t ∧ (unr n t g f r).count 46 = g ∧ (unr n t g f r).count 70 = f ∧ rankN (unr n t g f r) = r
  | 0, t, g, f, r, hs, hn, hr => by
    obtain rfl : t = 0 := by omega
    obtain rfl : g = 0 := by omega
    obtain rfl : f = 0 := by omega
    have : mM 0 0 0 = 1 := by decide
    rw [this] at hr
    exact ⟨rfl, rfl, rfl, rfl, by simp only [unr, rankN]; omega⟩
  | n + 1, t, g, f, r, hs, hn, hr => by
    have hp := (mM_facts (t := t) (g := g) (f := f) (by omega)).2.1 (by omega)
    simp only [unr]
    by_cases h1 : r < gM t g f
    · rw [if_pos h1]
      have hg0 : 0 < g := by
        by_cases h : 0 < g
        · exact h
        · unfold gM at h1; rw [if_neg h] at h1; omega
      have hm : gM t g f = mM t (g - 1) f := by unfold gM; rw [if_pos hg0]
      obtain ⟨i1, i2, i3, i4, i5⟩ := unr_ok n t (g - 1) f r (by omega) (by omega) (by omega)
      have c1 := cntB1 46 84 (unr n t (g - 1) f r)
      have c2 := cntB1 46 46 (unr n t (g - 1) f r)
      have c3 := cntB1 46 70 (unr n t (g - 1) f r)
      rw [i2] at c1; rw [i3] at c2; rw [i4] at c3
      rw [if_neg (by decide)] at c1 c3
      rw [if_pos rfl] at c2
      refine ⟨signs_cons.2 ⟨rfl, i1⟩, by omega, by omega, by omega, ?_⟩
      simp only [rankN, i5]
      simp [bel]
    · rw [if_neg h1]
      by_cases h2 : r < gM t g f + fM t g f
      · rw [if_pos h2]
        have hf0 : 0 < f := by
          by_cases h : 0 < f
          · exact h
          · unfold fM at h2; rw [if_neg h] at h2; omega
        have hm : fM t g f = mM t g (f - 1) := by unfold fM; rw [if_pos hf0]
        obtain ⟨i1, i2, i3, i4, i5⟩ := unr_ok n t g (f - 1) (r - gM t g f) (by omega) (by omega) (by omega)
        have c1 := cntB1 70 84 (unr n t g (f - 1) (r - gM t g f))
        have c2 := cntB1 70 46 (unr n t g (f - 1) (r - gM t g f))
        have c3 := cntB1 70 70 (unr n t g (f - 1) (r - gM t g f))
        rw [i2] at c1; rw [i3] at c2; rw [i4] at c3
        rw [if_neg (by decide)] at c1 c2
        rw [if_pos rfl] at c3
        have e1 : t + 0 = t := rfl
        rw [Nat.add_zero] at c1 c2
        rw [show f - 1 + 1 = f by omega] at c3
        refine ⟨signs_cons.2 ⟨rfl, i1⟩, c1, c2, c3, ?_⟩
        simp only [rankN, i5, c1, c2, c3]
        have : bel t g f 70 = gM t g f := rfl
        omega
      · rw [if_neg h2]
        have ht0 : 0 < t := by
          by_cases h : 0 < t
          · exact h
          · have : tM t g f = 0 := by unfold tM; rw [if_neg h]
            omega
        have hm : tM t g f = mM (t - 1) g f := by unfold tM; rw [if_pos ht0]
        obtain ⟨i1, i2, i3, i4, i5⟩ := unr_ok n (t - 1) g f (r - (gM t g f + fM t g f)) (by omega) (by omega) (by omega)
        have c1 := cntB1 84 84 (unr n (t - 1) g f (r - (gM t g f + fM t g f)))
        have c2 := cntB1 84 46 (unr n (t - 1) g f (r - (gM t g f + fM t g f)))
        have c3 := cntB1 84 70 (unr n (t - 1) g f (r - (gM t g f + fM t g f)))
        rw [i2] at c1; rw [i3] at c2; rw [i4] at c3
        rw [if_neg (by decide)] at c2 c3
        rw [if_pos rfl] at c1
        rw [Nat.add_zero] at c2 c3
        rw [show t - 1 + 1 = t by omega] at c1
        refine ⟨signs_cons.2 ⟨rfl, i1⟩, c1, c2, c3, ?_⟩
        simp only [rankN, i5, c1, c2, c3]
        have : bel t g f 84 = gM t g f + fM t g f := rfl
        omega
/-- A line is the line of its rank. -/
theorem unr_rank {w : List UInt8} (hg : signs w) (hl : w.length ≤ 12) : unr w.length (w.count 84) (w.count 46) (w.count 70) (rankN w) = w := by
  have hc := cnt3 hg
  obtain ⟨i1, i2, i3, i4, i5⟩ := unr_ok w.length (w.count 84) (w.count 46) (w.count 70) (rankN w) (by omega) hl (rank_lt hg hl)
  have hlen := cnt3 i1
  rw [i2, i3, i4] at hlen
  refine (rank_lex i1 hg (by omega) ?_).1 i5
  intro b
  by_cases h1 : b = 84
  · rw [h1]; exact i2
  · by_cases h2 : b = 46
    · rw [h2]; exact i3
    · by_cases h3 : b = 70
      · rw [h3]; exact i4
      · have no : ∀ {l : List UInt8}, signs l → l.count b = 0 := by
          intro l hl
          rw [List.count_eq_zero]
          intro hb
          rcases sign3 (List.all_eq_true.1 hl b hb) with h | h | h
          · exact h1 h
          · exact h2 h
          · exact h3 h
        rw [no i1, no hg]
end Go.Proofs.YtejhhdpfndiliaaGreatDoor.Ab

/- WHAT BOTH SIDES' functions answer on numbers of lines, first and last lines. -/
namespace Go.Proofs.YtejhhdpfndiliaaGreatDoor.Ab
open Go
set_option maxRecDepth 100000
set_option maxHeartbeats 4000000

def firB (t g f : Nat) : List UInt8 := List.replicate t 84 ++ List.replicate g 46 ++ List.replicate f 70
theorem repG (b : UInt8) : ∀ n : Nat, Go.Lib.repeatL [b] n = List.replicate n b
  | 0 => rfl
  | n + 1 => by rw [Go.Lib.repeatL, repG b n, List.replicate_succ]; rfl
theorem encG84 : (Utf8.encode (84 : Int)).data.toList = [84] := by decide +kernel
theorem encG70 : (Utf8.encode (70 : Int)).data.toList = [70] := by decide +kernel
def lasG (w : List UInt8) : List UInt8 := if goodLine w then lastB w else []
def cnG (w : List UInt8) (b : UInt8) : Int := if goodLine w then (w.count b : Nat) else 0
theorem step_ok {a k n m : Nat} (hk : 0 < k) (hak : a + k ≤ 24) (hb : n * 24 ^ (m + 1) ≤ 24 ^ 13) : n * (a + k) ≤ 24 ^ 13 ∧ n * (a + k) / k * 24 ^ m ≤ 24 ^ 13 := by
  have h1 : n * (a + k) ≤ n * 24 := Nat.mul_le_mul_left _ hak
  have h2 : n * 24 ≤ n * 24 ^ (m + 1) := Nat.mul_le_mul_left _ (by rw [Nat.pow_succ]; exact Nat.le_mul_of_pos_left _ (Nat.pos_of_ne_zero (by simp)))
  have h3 : n * (a + k) / k ≤ n * (a + k) := Nat.div_le_self _ _
  refine ⟨by omega, ?_⟩
  have h4 : n * (a + k) / k * 24 ^ m ≤ n * 24 * 24 ^ m := Nat.mul_le_mul_right _ (by omega)
  have h5 : n * 24 * 24 ^ m = n * 24 ^ (m + 1) := by rw [Nat.pow_succ, Nat.mul_comm (24 ^ m) 24, Nat.mul_assoc]
  omega
theorem p13 : (24 : Nat) ^ 13 < 2 ^ 62 := by decide
theorem wrap_lt {q : Nat} (h : q < 2 ^ 62) : ((q : Int) + 9223372036854775808) % 18446744073709551616 - 9223372036854775808 = q := by omega
theorem loop_ok {a : Nat} : ∀ (m k0 n : Nat) (j : Nat), 0 < k0 → a + k0 + m ≤ 25 → n * 24 ^ (m + j) ≤ 24 ^ 13 → loopN a m k0 n * 24 ^ j ≤ 24 ^ 13
  | 0, k0, n, j, _, _, h => by simpa [loopN] using h
  | m + 1, k0, n, j, h0, h1, h => by
    have h2 : n * 24 ^ (m + j + 1) ≤ 24 ^ 13 := by rw [show m + j + 1 = m + 1 + j by omega]; exact h
    exact loop_ok m (k0 + 1) _ j (by omega) (by omega) (step_ok (a := a) h0 (by omega) h2).2
end Go.Proofs.YtejhhdpfndiliaaGreatDoor.Ab

/- NUMBERS of toads, gaps and frogs: what both sides take, and what they tell of them. -/
namespace Go.Proofs.YtejhhdpfndiliaaGreatDoor.Ab
open Go
set_option maxRecDepth 100000
set_option maxHeartbeats 4000000

def nmG (t g f : Int) : Bool := decide ((0 ≤ t ∧ t ≤ 12) ∧ (0 ≤ g ∧ g ≤ 12) ∧ (0 ≤ f ∧ f ≤ 12) ∧ 1 ≤ t + g + f ∧ t + g + f ≤ 12)
theorem nmG_no1 {t g f : Int} (h : ¬ (0 ≤ t ∧ t ≤ 12)) : nmG t g f = false := decide_eq_false fun hh => h hh.1
theorem nmG_no2 {t g f : Int} (h : ¬ (0 ≤ g ∧ g ≤ 12)) : nmG t g f = false := decide_eq_false fun hh => h hh.2.1
theorem nmG_no3 {t g f : Int} (h : ¬ (0 ≤ f ∧ f ≤ 12)) : nmG t g f = false := decide_eq_false fun hh => h hh.2.2.1
theorem nmG_yes {t g f : Int} (h1 : 0 ≤ t ∧ t ≤ 12) (h2 : 0 ≤ g ∧ g ≤ 12) (h3 : 0 ≤ f ∧ f ≤ 12) : nmG t g f = decide (1 ≤ t + g + f ∧ t + g + f ≤ 12) := by
  unfold nmG
  rw [decide_eq_decide]
  exact ⟨fun h => h.2.2.2, fun h => ⟨h1, h2, h3, h⟩⟩
theorem nmG_nat {t g f : Int} (h : nmG t g f = true) : ∃ t' g' f' : Nat, t = t' ∧ g = g' ∧ f = f' ∧ 1 ≤ t' + g' + f' ∧ t' + g' + f' ≤ 12 := by
  obtain ⟨h1, h2, h3, h4, h5⟩ := of_decide_eq_true h
  exact ⟨t.toNat, g.toNat, f.toNat, by omega, by omega, by omega, by omega, by omega⟩
def cnL (t g f : Int) : Int := if nmG t g f then (mM t.toNat g.toNat f.toNat : Nat) else 0
def fiL (t g f : Int) : List UInt8 := if nmG t g f then firB t.toNat g.toNat f.toNat else []
end Go.Proofs.YtejhhdpfndiliaaGreatDoor.Ab

/- NUMBERS that are drawn. -/
namespace Go.Proofs.YtejhhdpfndiliaaGreatDoor.Ab
open Go
set_option maxRecDepth 100000
set_option maxHeartbeats 4000000

end Go.Proofs.YtejhhdpfndiliaaGreatDoor.Ab

/- MOVES that are drawn. -/
namespace Go.Proofs.YtejhhdpfndiliaaGreatDoor.Ab
open Go
set_option maxRecDepth 100000
set_option maxHeartbeats 4000000

theorem PreX.ag {c : Nat} {h1 h2 h3 : AH} (x : PreX c h1 h2) (y : Ag h1.length h2 h3) : PreX c h1 h3 := ⟨Nat.le_trans x.1 y.1, fun i hi hc => by rw [y.2 i hi, x.2 i hi hc]⟩
theorem OwL.x {α : Type} {esz : Nat} {enc : α → List AV} {c : Nat} {B h h' : AH} {v : AV} {L : List α} (ho : OwL esz enc B h v L) (hp : PreX c h h') (hc : c < B.length) : OwL esz enc B h' v L :=
  own_row ho fun r hr => hp.2 r (own_lt ho hr) (by have := own_ge ho hr; omega)
theorem Cur.ag {b : AH} {cv : AV} {bs : List UInt8} {K : Nat} {h h' : AH} (hc : Cur b cv bs K h) {n : Nat} (hn : b.length < n) (ha : Ag n h h') : Cur b cv bs K h' := by
  obtain ⟨h1, h2, h3, a, s, h4, h5⟩ := hc
  exact ⟨h1, h2, h3.trans' (ha.mono (by omega)), a, s, h4, by rw [ha.2 _ hn]; exact h5⟩
theorem rd_row {h h' : AH} {c k off n : Nat} {cs : List AV} (hc : h'[c]? = h[c]?) (hr : rdRow h c k off n = some cs) : rdRow h' c k off n = some cs := by
  unfold rdRow at hr ⊢; rw [hc]; exact hr
theorem rd_app1 {h : AH} {o : AO} {c k off n : Nat} {cs : List AV} (hr : rdRow h c k off n = some cs) : rdRow (h ++ [o]) c k off n = some cs := rdRow_pre (Pre.push _ _) hr
theorem Slc.upTo {α : Type} {esz : Nat} {enc : α → List AV} (hl : ∀ x, (enc x).length = esz) {h : AH} {c kk off n e : Nat} {L : List α} (hs : Slc esz enc h (.slice c kk off n e) L) {j : Nat} (hj : j ≤ L.length) {o2 n2 : Nat} (ho : o2 = off) (hn : n2 = j) : Slc esz enc h (.slice c kk o2 n2 esz) (L.take j) := by
  subst ho hn
  obtain ⟨h1, rfl, h3⟩ := hs.all
  unfold Slc Sl
  have hle : (L.take n2).length = n2 := by simp; omega
  have hm := Nat.mul_le_mul_right e (show n2 ≤ n by omega)
  refine ⟨rfl, hle.symm, by rw [flat_len hl], ?_⟩
  have h4 := hs.all.2.2
  conv at h4 => rhs; rw [← List.take_append_drop n2 L, List.flatMap_append]
  have := Slc.ahead hl (pre := L.take n2) (rest := L.drop n2) (by rw [List.take_append_drop]; exact hs)
  exact this
end Go.Proofs.YtejhhdpfndiliaaGreatDoor.Ab

/- GAMES of the program: one line, its best moves, the play. -/
namespace Go.Proofs.YtejhhdpfndiliaaGreatDoor.Ab
open Go
set_option maxRecDepth 100000
set_option maxHeartbeats 4000000

/-- append to a slice of one's own that may be written; what lies behind it is given up. -/
theorem ap_w {α : Type} {esz : Nat} {enc : α → List AV} (hl : ∀ x, (enc x).length = esz) (hsc : ∀ x, (enc x).all AV.sc = true) {b h : AH} {v : AV} {L M : List α} (ho : OwW esz enc b h v L) (hb : b.length ≤ h.length) (hr : L.length + M.length ≤ 1099511627776) :
    ∃ v' h', apRow h esz v M.length (M.flatMap enc) = some (v', h') ∧ OwL esz enc b h' v' (L ++ M) ∧ (∀ i, i < h.length → rowOf v ≠ some i → h'[i]? = h[i]?) ∧ h.length ≤ h'.length := by
  have hscM : (M.flatMap enc).all AV.sc = true := by
    rw [List.all_eq_true]
    intro y hy
    obtain ⟨a, _, ha⟩ := List.mem_flatMap.1 hy
    exact List.all_eq_true.1 (hsc a) y ha
  have hml := flat_len hl M
  have hll := flat_len hl L
  have fresh : ∀ u : AV, L = [] → rowOf u = none → (u = .nilS ∨ u = .empS) → ∃ v' h', (if M.length = 0 then some (u, h) else if M.length ≤ room then (newRow h (M.flatMap enc)).map fun (c, h') => (AV.slice c 0 0 M.length esz, h') else none) = some (v', h') ∧ OwL esz enc b h' v' (L ++ M) ∧ (∀ i, i < h.length → rowOf u ≠ some i → h'[i]? = h[i]?) ∧ h.length ≤ h'.length := by
    intro u hL hu hu2
    subst hL
    by_cases h0 : M.length = 0
    · have : M = [] := List.eq_nil_of_length_eq_zero h0
      subst this
      refine ⟨u, h, by simp, ?_, fun _ _ _ => rfl, Nat.le_refl _⟩
      rcases hu2 with rfl | rfl
      · exact OwL.nil
      · exact OwL.emp
    · rw [if_neg h0, if_pos (by unfold room; simp at hr; omega)]
      refine ⟨.slice h.length 0 0 M.length esz, h ++ [.row (M.flatMap enc) 0 0 false], by simp only [newRow, hscM, if_true, Option.map_some], ?_, fun i hi _ => List.getElem?_append_left hi, by simp⟩
      unfold OwL Own
      simp only [List.nil_append]
      exact ⟨trivial, trivial, hml.symm, hb, _, 0, by rw [List.getElem?_append_right (Nat.le_refl _), Nat.sub_self]; rfl, Nat.le_refl _, by have := hml; rw [List.flatMap] at this; rw [this]; omega, rfl⟩
  unfold OwW at ho
  cases v <;> simp only at ho <;> first
    | exact fresh _ ho rfl (.inl rfl)
    | exact fresh _ ho rfl (.inr rfl)
    | exact ho.elim
    | skip
  rename_i c kk off len e
  obtain ⟨rfl, rfl, h3, A, Z, fl, h4, h5, h6⟩ := ho
  have hlt := (List.getElem?_eq_some_iff.1 h4).1
  have hfin : ∀ (k' fl' : Nat), fl' ≤ k' → OwL e enc b (h.set c (.row (A ++ L.flatMap enc ++ M.flatMap enc) k' fl' false)) (.slice c k' off (L.length + M.length) e) (L ++ M) := by
    intro k' fl' hk
    unfold OwL Own
    simp only
    refine ⟨trivial, by simp, by rw [List.flatMap_append, List.length_append, List.length_append, hll, hml, Nat.add_mul], h3, _, fl', by rw [List.getElem?_set, if_pos rfl, if_pos hlt], hk, ?_, ?_⟩
    · simp only [List.length_append, hll, hml, Nat.add_mul]; omega
    · rw [List.append_assoc, List.drop_left' h6, List.flatMap_append]
  have hfr : ∀ o, (∀ i, i < h.length → rowOf (.slice c kk off L.length e) ≠ some i → (h.set c o)[i]? = h[i]?) ∧ h.length ≤ (h.set c o).length := fun o => ⟨fun i _ hr => by rw [List.getElem?_set, if_neg (fun e => hr (by simp [rowOf, e]))], by simp⟩
  simp only [apRow, h4]
  by_cases hz : off + L.length * e = (A ++ L.flatMap enc ++ Z).length
  · rw [if_pos ⟨trivial, trivial, hz, h5, hscM, hr⟩]
    have hZ : Z = [] := by
      simp only [List.length_append, hll] at hz
      exact List.eq_nil_of_length_eq_zero (by omega)
    subst hZ
    rw [List.append_nil]
    exact ⟨_, _, rfl, hfin _ _ (by omega), (hfr _).1, (hfr _).2⟩
  · rw [if_neg (fun hh => hz hh.2.2.1), if_pos ⟨trivial, trivial, by simp only [List.length_append, hll]; omega, h5, hscM, hr⟩]
    have : (A ++ L.flatMap enc ++ Z).take (off + L.length * e) = A ++ L.flatMap enc := by
      rw [List.take_left' (by simp only [List.length_append, hll]; omega)]
    rw [this]
    exact ⟨_, _, rfl, hfin _ _ (by omega), (hfr _).1, (hfr _).2⟩

theorem Mh.keep {σ : Type} {key : σ → List UInt8} {val : σ → AV} {c : Nat} {h h' : AH} (hm : Mh key val c h) (hc : h'[c]? = h[c]?) : Mh key val c h' := by
  obtain ⟨es, h1, h2⟩ := hm
  exact ⟨es, by rw [hc]; exact h1, h2⟩
/-- A line of at most ten cells. -/
def plG10 (w : List UInt8) : Bool := decide (1 ≤ (w.length : Int) ∧ (w.length : Int) ≤ 10) && w.all isSign
theorem pl10 {w : List UInt8} (h : plG10 w = true) : 1 ≤ w.length ∧ w.length ≤ 10 ∧ signs w := by
  unfold plG10 at h
  rw [Bool.and_eq_true, decide_eq_true_eq] at h
  exact ⟨by omega, by omega, h.2⟩
theorem pl10_good (w : List UInt8) : plG10 w = (goodLine w && decide (w.length ≤ 10)) := by
  unfold plG10 goodLine
  cases w.all isSign
  · simp only [Bool.and_false, Bool.false_and]
  · rw [Bool.eq_iff_iff]
    simp only [Bool.and_true, Bool.and_eq_true, decide_eq_true_eq]
    omega
theorem e_isPlayed (s : List UInt8) (hs : s.length < 2 ^ 60) {h : AH} {post : AV → AH → Prop} : S 254 [.str s] h post k = post (.bool (plG10 s)) h := S_eq fun _ hp => c_isPlayed s hs hp
theorem e_gaFew (s : List UInt8) (hs : s.length < 2 ^ 60) {h : AH} {post : AV → AH → Prop} : S 447 [.str s] h post k = post (.bool (plG10 s)) h := S_eq fun _ hp => by
  rw [pl10_good] at hp
  refine S_of rfl T447 ?_; unfold fi447
  cases hg : goodLine s <;> simp only [hg, Bool.false_and, Bool.true_and] at hp
  · simp (maxSteps := 1000000) (disch := first | omega | rfl | (simp only [zL, two63, room] <;> omega) | fail) only [↓reduceIte, ↓zP, zW, WOp, evOp, evBin, binI, binSh, binS, evNil, keyIs, keyEq, mkv, AV.cells, AV.sc, optv, bnd, env, put, Env.get, Env.set, Env.del, Env.dels, Env.init, res1, resL, resV, fillP, splice, newRow, Nat.reduceEqDiff, Nat.reduceLT, Nat.reduceLeDiff, Nat.reduceAdd, Nat.reduceMul, Nat.reduceSub, Nat.reduceBEq, reduceCtorEq, ↓zR, zQ, Tr, StA, StT, e_liGoodG s hs, hg]
    exact hp
  · have he : decide ((s.length : Int) ≤ 10) = decide (s.length ≤ 10) := decide_eq_decide.2 (by omega)
    by_cases hl : s.length ≤ 10
    · have n1 : (s.length : Int) ≤ 10 := by omega
      simp only [hl, decide_true] at hp
      simp (maxSteps := 1000000) (disch := first | omega | rfl | (simp only [zL, two63, room] <;> omega) | fail) only [↓reduceIte, ↓zP, zW, WOp, evOp, evBin, binI, binSh, binS, evNil, keyIs, keyEq, mkv, AV.cells, AV.sc, optv, bnd, env, put, Env.get, Env.set, Env.del, Env.dels, Env.init, res1, resL, resV, fillP, splice, newRow, Nat.reduceEqDiff, Nat.reduceLT, Nat.reduceLeDiff, Nat.reduceAdd, Nat.reduceMul, Nat.reduceSub, Nat.reduceBEq, reduceCtorEq, ↓zR, zQ, Tr, StA, StT, e_liGoodG s hs, hg, n1]
      exact hp
    · have n1 : ¬ ((s.length : Int) ≤ 10) := by omega
      simp only [hl, decide_false] at hp
      simp (maxSteps := 1000000) (disch := first | omega | rfl | (simp only [zL, two63, room] <;> omega) | fail) only [↓reduceIte, ↓zP, zW, WOp, evOp, evBin, binI, binSh, binS, evNil, keyIs, keyEq, mkv, AV.cells, AV.sc, optv, bnd, env, put, Env.get, Env.set, Env.del, Env.dels, Env.init, res1, resL, resV, fillP, splice, newRow, Nat.reduceEqDiff, Nat.reduceLT, Nat.reduceLeDiff, Nat.reduceAdd, Nat.reduceMul, Nat.reduceSub, Nat.reduceBEq, reduceCtorEq, ↓zR, zQ, Tr, StA, StT, e_liGoodG s hs, hg, n1]
      exact hp
theorem join1 (x : List UInt8) : Go.Lib.join [x] [32] = x := by simp [Go.Lib.join, List.intercalate, List.intersperse]
theorem c_sumOf1 (w : List UInt8) (hw : w.length < 2 ^ 60) {h : AH} {c kk off : Nat} (hs : Slc 1 encS h (.slice c kk off 1 1) [w]) {post : AV → AH → Prop} (hp : post (.tup [.str (if plG10 w then w else []), .bool (plG10 w)]) h) : S 249 [.slice c kk off 1 1] h post k := by
  obtain ⟨_, _, hrd⟩ := hs.all
  have hr : rdRow h c kk off 1 = some [.str w] := by simpa using hrd
  have n0 : (0 : Int) < 1 := by omega
  have n1 : ¬ ((1 : Int) < 1) := by omega
  have z0 : (0 : Int).toNat * 1 = 0 := rfl
  refine S_of rfl T249 ?_; unfold fi249
  simp (maxSteps := 1000000) (disch := first | omega | rfl | (simp only [zL, two63, room] <;> omega) | fail) only [↓reduceIte, ↓zP, zW, WOp, evOp, evBin, binI, binSh, binS, evNil, keyIs, keyEq, mkv, AV.cells, AV.sc, optv, bnd, env, put, Env.get, Env.set, Env.del, Env.dels, Env.init, res1, resL, resV, fillP, splice, newRow, Nat.reduceEqDiff, Nat.reduceLT, Nat.reduceLeDiff, Nat.reduceAdd, Nat.reduceMul, Nat.reduceSub, Nat.reduceBEq, reduceCtorEq, ↓zR, zQ, Tr, StA, StT]
  rw [w_loopb (c := lp249_0) (d := lb249_0) rfl]; unfold lb249_0
  cases e : plG10 w
  · rw [e] at hp
    simp (maxSteps := 1000000) (disch := first | omega | rfl | (simp only [zL, two63, room] <;> omega) | fail) only [↓reduceIte, ↓zP, zW, WOp, evOp, evBin, binI, binSh, binS, evNil, keyIs, keyEq, mkv, AV.cells, AV.sc, optv, bnd, env, put, Env.get, Env.set, Env.del, Env.dels, Env.init, res1, resL, resV, fillP, splice, newRow, Nat.reduceEqDiff, Nat.reduceLT, Nat.reduceLeDiff, Nat.reduceAdd, Nat.reduceMul, Nat.reduceSub, Nat.reduceBEq, reduceCtorEq, ↓zR, zQ, Tr, StA, StT, n0, z0, Nat.add_zero, hr, e_isPlayed w hw, e]
    exact hp
  · rw [e] at hp
    obtain ⟨h1, h2, h3⟩ := pl10 e
    have w1 : IntKind.i64.wrap (0 + (w.length : Int)) = (w.length : Int) := by rw [Int.zero_add]; exact wrap_i (by omega)
    have w2 : IntKind.i64.wrap (w.length : Int) = (w.length : Int) := wrap_i (by omega)
    have w3 : IntKind.i64.wrap (0 + 1) = 1 := rfl
    simp (maxSteps := 1000000) (disch := first | omega | rfl | (simp only [zL, two63, room] <;> omega) | fail) only [↓reduceIte, ↓zP, zW, WOp, evOp, evBin, binI, binSh, binS, evNil, keyIs, keyEq, mkv, AV.cells, AV.sc, optv, bnd, env, put, Env.get, Env.set, Env.del, Env.dels, Env.init, res1, resL, resV, fillP, splice, newRow, Nat.reduceEqDiff, Nat.reduceLT, Nat.reduceLeDiff, Nat.reduceAdd, Nat.reduceMul, Nat.reduceSub, Nat.reduceBEq, reduceCtorEq, ↓zR, zQ, Tr, StA, StT, n0, z0, Nat.add_zero, hr, e_isPlayed w hw, e, w1, w2, w3]
    rw [w_loopn (c := lp249_0) rfl]
    simp (maxSteps := 1000000) (disch := first | omega | rfl | (simp only [zL, two63, room] <;> omega) | fail) only [↓reduceIte, ↓zP, zW, WOp, evOp, evBin, binI, binSh, binS, evNil, keyIs, keyEq, mkv, AV.cells, AV.sc, optv, bnd, env, put, Env.get, Env.set, Env.del, Env.dels, Env.init, res1, resL, resV, fillP, splice, newRow, Nat.reduceEqDiff, Nat.reduceLT, Nat.reduceLeDiff, Nat.reduceAdd, Nat.reduceMul, Nat.reduceSub, Nat.reduceBEq, reduceCtorEq, ↓zR, zQ, Tr, StA, StT]
    rw [w_loopb (c := lp249_0) (d := lb249_0) rfl]; unfold lb249_0
    simp (maxSteps := 1000000) (disch := first | omega | rfl | (simp only [zL, two63, room] <;> omega) | fail) only [↓reduceIte, ↓zP, zW, WOp, evOp, evBin, binI, binSh, binS, evNil, keyIs, keyEq, mkv, AV.cells, AV.sc, optv, bnd, env, put, Env.get, Env.set, Env.del, Env.dels, Env.init, res1, resL, resV, fillP, splice, newRow, Nat.reduceEqDiff, Nat.reduceLT, Nat.reduceLeDiff, Nat.reduceAdd, Nat.reduceMul, Nat.reduceSub, Nat.reduceBEq, reduceCtorEq, ↓zR, zQ, Tr, StA, StT, n1]
    refine S_ext (r := .str w) rfl ?_ ?_
    · simp only [xJoin, if_true]
      rw [hr]
      simp only [strsOf, Option.map_some]
      rw [join1, if_pos ⟨by omega, by omega⟩]
    · have h10 : (w.length : Int) ≤ 10 := by omega
      have hin : decide ((1 : Int) ≤ 1 ∧ (1 : Int) ≤ 3) = true := by decide
      simp (maxSteps := 1000000) (disch := first | omega | rfl | (simp only [zL, two63, room] <;> omega) | fail) only [↓reduceIte, ↓zP, zW, WOp, evOp, evBin, binI, binSh, binS, evNil, keyIs, keyEq, mkv, AV.cells, AV.sc, optv, bnd, env, put, Env.get, Env.set, Env.del, Env.dels, Env.init, res1, resL, resV, fillP, splice, newRow, Nat.reduceEqDiff, Nat.reduceLT, Nat.reduceLeDiff, Nat.reduceAdd, Nat.reduceMul, Nat.reduceSub, Nat.reduceBEq, reduceCtorEq, ↓zR, zQ, Tr, StA, StT, e_within, hin, h10]
      exact hp
theorem slc1 (h : AH) (x : List UInt8) : Slc 1 encS (h ++ [AO.row [.str x] 0 0 false]) (.slice h.length 0 0 1 1) [x] := ⟨rfl, rfl, rfl, by rw [show [x].length * 1 = 1 from rfl, rd_last, if_pos (by simp)]; rfl⟩
def wnG (w : List UInt8) (t : Bool) : Bool := plG10 w && winB w t
def ocG (w : List UInt8) : List UInt8 := if plG10 w then outcS (winB w true) (winB w false) else []
theorem c_WinsMoving (w : List UInt8) (t : Bool) (hw : w.length < 2 ^ 60) {h : AH} {post : AV → AH → Prop} (hp : ∀ h', Pre h h' → post (.tup [.bool (wnG w t), .bool (plG10 w)]) h') : S 415 [.str w, .bool t] h post k := by
  refine S_of rfl T415 ?_; unfold fi415
  simp (maxSteps := 1000000) (disch := first | omega | rfl | (simp only [zL, two63, room] <;> omega) | fail) only [↓reduceIte, ↓zP, zW, WOp, evOp, evBin, binI, binSh, binS, evNil, keyIs, keyEq, mkv, AV.cells, AV.sc, optv, bnd, env, put, Env.get, Env.set, Env.del, Env.dels, Env.init, res1, resL, resV, fillP, splice, newRow, Nat.reduceEqDiff, Nat.reduceLT, Nat.reduceLeDiff, Nat.reduceAdd, Nat.reduceMul, Nat.reduceSub, Nat.reduceBEq, reduceCtorEq, ↓zR, zQ, Tr, StA, StT]
  refine S_of rfl T446 ?_; unfold fi446
  simp (maxSteps := 1000000) (disch := first | omega | rfl | (simp only [zL, two63, room] <;> omega) | fail) only [↓reduceIte, ↓zP, zW, WOp, evOp, evBin, binI, binSh, binS, evNil, keyIs, keyEq, mkv, AV.cells, AV.sc, optv, bnd, env, put, Env.get, Env.set, Env.del, Env.dels, Env.init, res1, resL, resV, fillP, splice, newRow, Nat.reduceEqDiff, Nat.reduceLT, Nat.reduceLeDiff, Nat.reduceAdd, Nat.reduceMul, Nat.reduceSub, Nat.reduceBEq, reduceCtorEq, ↓zR, zQ, Tr, StA, StT]
  refine c_sumOf1 w hw (slc1 h w) ?_
  unfold wnG at hp
  cases e : plG10 w <;> rw [e] at hp
  · simp (maxSteps := 1000000) (disch := first | omega | rfl | (simp only [zL, two63, room] <;> omega) | fail) only [↓reduceIte, ↓zP, zW, WOp, evOp, evBin, binI, binSh, binS, evNil, keyIs, keyEq, mkv, AV.cells, AV.sc, optv, bnd, env, put, Env.get, Env.set, Env.del, Env.dels, Env.init, res1, resL, resV, fillP, splice, newRow, Nat.reduceEqDiff, Nat.reduceLT, Nat.reduceLeDiff, Nat.reduceAdd, Nat.reduceMul, Nat.reduceSub, Nat.reduceBEq, reduceCtorEq, ↓zR, zQ, Tr, StA, StT]
    exact hp _ (Pre.push _ _)
  · obtain ⟨h1, h2, h3⟩ := pl10 e
    simp (maxSteps := 1000000) (disch := first | omega | rfl | (simp only [zL, two63, room] <;> omega) | fail) only [↓reduceIte, ↓zP, zW, WOp, evOp, evBin, binI, binSh, binS, evNil, keyIs, keyEq, mkv, AV.cells, AV.sc, optv, bnd, env, put, Env.get, Env.set, Env.del, Env.dels, Env.init, res1, resL, resV, fillP, splice, newRow, Nat.reduceEqDiff, Nat.reduceLT, Nat.reduceLeDiff, Nat.reduceAdd, Nat.reduceMul, Nat.reduceSub, Nat.reduceBEq, reduceCtorEq, ↓zR, zQ, Tr, StA, StT]
    refine c_newGames ?_
    intro c2 h2 hp2 hc2 hm2
    simp (maxSteps := 1000000) (disch := first | omega | rfl | (simp only [zL, two63, room] <;> omega) | fail) only [↓reduceIte, ↓zP, zW, WOp, evOp, evBin, binI, binSh, binS, evNil, keyIs, keyEq, mkv, AV.cells, AV.sc, optv, bnd, env, put, Env.get, Env.set, Env.del, Env.dels, Env.init, res1, resL, resV, fillP, splice, newRow, Nat.reduceEqDiff, Nat.reduceLT, Nat.reduceLeDiff, Nat.reduceAdd, Nat.reduceMul, Nat.reduceSub, Nat.reduceBEq, reduceCtorEq, ↓zR, zQ, Tr, StA, StT]
    refine c_win (mu w + 1) w t c2 _ (by omega) (by omega) hm2 _ ?_
    intro h3 hp3 hm3
    simp (maxSteps := 1000000) (disch := first | omega | rfl | (simp only [zL, two63, room] <;> omega) | fail) only [↓reduceIte, ↓zP, zW, WOp, evOp, evBin, binI, binSh, binS, evNil, keyIs, keyEq, mkv, AV.cells, AV.sc, optv, bnd, env, put, Env.get, Env.set, Env.del, Env.dels, Env.init, res1, resL, resV, fillP, splice, newRow, Nat.reduceEqDiff, Nat.reduceLT, Nat.reduceLeDiff, Nat.reduceAdd, Nat.reduceMul, Nat.reduceSub, Nat.reduceBEq, reduceCtorEq, ↓zR, zQ, Tr, StA, StT]
    refine hp h3 ((Pre.push h (AO.row [.str w] 0 0 false)).trans (hp2.trans' ⟨hp3.1, fun i hi => hp3.2 i (by have := hp2.1; omega) (by omega)⟩))
theorem c_OutcomeOf (w : List UInt8) (hw : w.length < 2 ^ 60) {h : AH} {post : AV → AH → Prop} (hp : ∀ h', Pre h h' → post (.tup [.str (ocG w), .bool (plG10 w)]) h') : S 430 [.str w] h post k := by
  refine S_of rfl T430 ?_; unfold fi430
  simp (maxSteps := 1000000) (disch := first | omega | rfl | (simp only [zL, two63, room] <;> omega) | fail) only [↓reduceIte, ↓zP, zW, WOp, evOp, evBin, binI, binSh, binS, evNil, keyIs, keyEq, mkv, AV.cells, AV.sc, optv, bnd, env, put, Env.get, Env.set, Env.del, Env.dels, Env.init, res1, resL, resV, fillP, splice, newRow, Nat.reduceEqDiff, Nat.reduceLT, Nat.reduceLeDiff, Nat.reduceAdd, Nat.reduceMul, Nat.reduceSub, Nat.reduceBEq, reduceCtorEq, ↓zR, zQ, Tr, StA, StT]
  refine S_of rfl T241 ?_; unfold fi241
  simp (maxSteps := 1000000) (disch := first | omega | rfl | (simp only [zL, two63, room] <;> omega) | fail) only [↓reduceIte, ↓zP, zW, WOp, evOp, evBin, binI, binSh, binS, evNil, keyIs, keyEq, mkv, AV.cells, AV.sc, optv, bnd, env, put, Env.get, Env.set, Env.del, Env.dels, Env.init, res1, resL, resV, fillP, splice, newRow, Nat.reduceEqDiff, Nat.reduceLT, Nat.reduceLeDiff, Nat.reduceAdd, Nat.reduceMul, Nat.reduceSub, Nat.reduceBEq, reduceCtorEq, ↓zR, zQ, Tr, StA, StT]
  refine c_sumOf1 w hw (slc1 h w) ?_
  unfold ocG at hp
  cases e : plG10 w <;> rw [e] at hp
  · simp (maxSteps := 1000000) (disch := first | omega | rfl | (simp only [zL, two63, room] <;> omega) | fail) only [↓reduceIte, ↓zP, zW, WOp, evOp, evBin, binI, binSh, binS, evNil, keyIs, keyEq, mkv, AV.cells, AV.sc, optv, bnd, env, put, Env.get, Env.set, Env.del, Env.dels, Env.init, res1, resL, resV, fillP, splice, newRow, Nat.reduceEqDiff, Nat.reduceLT, Nat.reduceLeDiff, Nat.reduceAdd, Nat.reduceMul, Nat.reduceSub, Nat.reduceBEq, reduceCtorEq, ↓zR, zQ, Tr, StA, StT]
    exact hp _ (Pre.push _ _)
  · obtain ⟨h1, h2, h3⟩ := pl10 e
    simp (maxSteps := 1000000) (disch := first | omega | rfl | (simp only [zL, two63, room] <;> omega) | fail) only [↓reduceIte, ↓zP, zW, WOp, evOp, evBin, binI, binSh, binS, evNil, keyIs, keyEq, mkv, AV.cells, AV.sc, optv, bnd, env, put, Env.get, Env.set, Env.del, Env.dels, Env.init, res1, resL, resV, fillP, splice, newRow, Nat.reduceEqDiff, Nat.reduceLT, Nat.reduceLeDiff, Nat.reduceAdd, Nat.reduceMul, Nat.reduceSub, Nat.reduceBEq, reduceCtorEq, ↓zR, zQ, Tr, StA, StT]
    refine c_newGames ?_
    intro c2 h2 hp2 hc2 hm2
    simp (maxSteps := 1000000) (disch := first | omega | rfl | (simp only [zL, two63, room] <;> omega) | fail) only [↓reduceIte, ↓zP, zW, WOp, evOp, evBin, binI, binSh, binS, evNil, keyIs, keyEq, mkv, AV.cells, AV.sc, optv, bnd, env, put, Env.get, Env.set, Env.del, Env.dels, Env.init, res1, resL, resV, fillP, splice, newRow, Nat.reduceEqDiff, Nat.reduceLT, Nat.reduceLeDiff, Nat.reduceAdd, Nat.reduceMul, Nat.reduceSub, Nat.reduceBEq, reduceCtorEq, ↓zR, zQ, Tr, StA, StT]
    refine c_outcome w (by omega) hm2 ?_
    intro h3 hp3
    simp (maxSteps := 1000000) (disch := first | omega | rfl | (simp only [zL, two63, room] <;> omega) | fail) only [↓reduceIte, ↓zP, zW, WOp, evOp, evBin, binI, binSh, binS, evNil, keyIs, keyEq, mkv, AV.cells, AV.sc, optv, bnd, env, put, Env.get, Env.set, Env.del, Env.dels, Env.init, res1, resL, resV, fillP, splice, newRow, Nat.reduceEqDiff, Nat.reduceLT, Nat.reduceLeDiff, Nat.reduceAdd, Nat.reduceMul, Nat.reduceSub, Nat.reduceBEq, reduceCtorEq, ↓zR, zQ, Tr, StA, StT]
    exact hp h3 ((Pre.push h (AO.row [.str w] 0 0 false)).trans (hp2.trans' ⟨hp3.1, fun i hi => hp3.2 i (by have := hp2.1; omega) (by omega)⟩))
theorem c_IsNothing (w : List UInt8) (hw : w.length < 2 ^ 60) {h : AH} {post : AV → AH → Prop} (hp : ∀ h', Pre h h' → post (.tup [.bool (ocG w == [50]), .bool (plG10 w)]) h') : S 431 [.str w] h post k := by
  refine S_of rfl T431 ?_; unfold fi431
  simp (maxSteps := 1000000) (disch := first | omega | rfl | (simp only [zL, two63, room] <;> omega) | fail) only [↓reduceIte, ↓zP, zW, WOp, evOp, evBin, binI, binSh, binS, evNil, keyIs, keyEq, mkv, AV.cells, AV.sc, optv, bnd, env, put, Env.get, Env.set, Env.del, Env.dels, Env.init, res1, resL, resV, fillP, splice, newRow, Nat.reduceEqDiff, Nat.reduceLT, Nat.reduceLeDiff, Nat.reduceAdd, Nat.reduceMul, Nat.reduceSub, Nat.reduceBEq, reduceCtorEq, ↓zR, zQ, Tr, StA, StT]
  refine c_OutcomeOf w hw ?_
  intro h2 hp2
  simp (maxSteps := 1000000) (disch := first | omega | rfl | (simp only [zL, two63, room] <;> omega) | fail) only [↓reduceIte, ↓zP, zW, WOp, evOp, evBin, binI, binSh, binS, evNil, keyIs, keyEq, mkv, AV.cells, AV.sc, optv, bnd, env, put, Env.get, Env.set, Env.del, Env.dels, Env.init, res1, resL, resV, fillP, splice, newRow, Nat.reduceEqDiff, Nat.reduceLT, Nat.reduceLeDiff, Nat.reduceAdd, Nat.reduceMul, Nat.reduceSub, Nat.reduceBEq, reduceCtorEq, ↓zR, zQ, Tr, StA, StT]
  exact hp h2 hp2

/-! ### The best moves -/
theorem c_best1 {w : List UInt8} {t : Bool} (hw : w.length < 2 ^ 30) {c c3 c4 c5 : Nat} {h : AH} (hm : Mh winK winV c h) (r3 : rdRow h c3 0 0 1 = some [.map c]) (r4 : rdRow h c4 0 0 1 = some [.str w]) (r5 : rdRow h c5 0 0 1 = some [.bool t])
    {m : Int × Int} (hmm : m ∈ movesB w (kindS t)) {post : AV → AH → Prop} (hp : ∀ h', PreX c h h' → Mh winK winV c h' → post (.bool (winB (madeB w m.1.toNat m.2.toNat) (!t))) h') :
    S 456 [.agg (encM m), .ptr c3 0 0 1, .ptr c4 0 0 1, .ptr c5 0 0 1] h post k := by
  obtain ⟨i, t', rfl, hmv⟩ := movesB_mv hmm
  have hpush := Pre.push h (AO.row (encM ((i : Int), (t' : Int))) 0 0 false)
  have q3 := rdRow_pre hpush r3
  have q4 := rdRow_pre hpush r4
  have q5 := rdRow_pre hpush r5
  refine S_of rfl T456 ?_; unfold fi456
  simp (maxSteps := 1000000) (disch := first | omega | rfl | (simp only [zL, two63, room] <;> omega) | fail) only [↓reduceIte, ↓zP, zW, WOp, evOp, evBin, binI, binSh, binS, evNil, keyIs, keyEq, mkv, AV.cells, AV.sc, optv, bnd, env, put, Env.get, Env.set, Env.del, Env.dels, Env.init, res1, resL, resV, fillP, splice, newRow, Nat.reduceEqDiff, Nat.reduceLT, Nat.reduceLeDiff, Nat.reduceAdd, Nat.reduceMul, Nat.reduceSub, Nat.reduceBEq, reduceCtorEq, ↓zR, zQ, Tr, StA, StT, q3, q4, q5]
  refine w_drw ?_
  simp (maxSteps := 1000000) (disch := first | omega | rfl | (simp only [zL, two63, room] <;> omega) | fail) only [↓reduceIte, ↓zP, zW, WOp, evOp, evBin, binI, binSh, binS, evNil, keyIs, keyEq, mkv, AV.cells, AV.sc, optv, bnd, env, put, Env.get, Env.set, Env.del, Env.dels, Env.init, res1, resL, resV, fillP, splice, newRow, Nat.reduceEqDiff, Nat.reduceLT, Nat.reduceLeDiff, Nat.reduceAdd, Nat.reduceMul, Nat.reduceSub, Nat.reduceBEq, reduceCtorEq, ↓zR, zQ, Tr, StA, StT, q3, q4, q5]
  refine c_made w i t' hmv.fst hmv.snd hw ?_
  intro h2 hp2
  have hp1 := hpush.trans hp2
  have k5 := rdRow_pre hp2 q5
  have k3 := rdRow_pre hp2 q3
  simp (maxSteps := 1000000) (disch := first | omega | rfl | (simp only [zL, two63, room] <;> omega) | fail) only [↓reduceIte, ↓zP, zW, WOp, evOp, evBin, binI, binSh, binS, evNil, keyIs, keyEq, mkv, AV.cells, AV.sc, optv, bnd, env, put, Env.get, Env.set, Env.del, Env.dels, Env.init, res1, resL, resV, fillP, splice, newRow, Nat.reduceEqDiff, Nat.reduceLT, Nat.reduceLeDiff, Nat.reduceAdd, Nat.reduceMul, Nat.reduceSub, Nat.reduceBEq, reduceCtorEq, ↓zR, zQ, Tr, StA, StT, q3, q4, q5, k3, k5]
  refine c_win (mu (madeB w i t') + 1) _ _ _ _ (by omega) (by rw [madeB_length]; exact hw) (hm.pre hp1) _ ?_
  intro h3 hp3 hm3
  simp (maxSteps := 1000000) (disch := first | omega | rfl | (simp only [zL, two63, room] <;> omega) | fail) only [↓reduceIte, ↓zP, zW, WOp, evOp, evBin, binI, binSh, binS, evNil, keyIs, keyEq, mkv, AV.cells, AV.sc, optv, bnd, env, put, Env.get, Env.set, Env.del, Env.dels, Env.init, res1, resL, resV, fillP, splice, newRow, Nat.reduceEqDiff, Nat.reduceLT, Nat.reduceLeDiff, Nat.reduceAdd, Nat.reduceMul, Nat.reduceSub, Nat.reduceBEq, reduceCtorEq, ↓zR, zQ, Tr, StA, StT, q3, q4, q5, k3, k5]
  exact hp _ ((hp1.x c).trans hp3) hm3
theorem c_best (w : List UInt8) (t : Bool) (hw : w.length < 2 ^ 30) {c : Nat} {h : AH} (hm : Mh winK winV c h) {post : AV → AH → Prop}
    (hp : ∀ v' h', OwW 2 encM h h' v' (bestB w t) → PreX c h h' → Mh winK winV c h' → post v' h') : S 448 [.agg [.map c], .str w, .bool t] h post k := by
  have p1 := Pre.push h (AO.row [.map c] 0 0 false)
  have p2 := Pre.push (h ++ [AO.row [.map c] 0 0 false]) (AO.row [.str w] 0 0 false)
  have p3 := Pre.push (h ++ [AO.row [.map c] 0 0 false] ++ [AO.row [.str w] 0 0 false]) (AO.row [.bool t] 0 0 false)
  have p123 := p1.trans (p2.trans p3)
  have hl1 : (h ++ [AO.row [.map c] 0 0 false]).length = h.length + 1 := by simp
  have hl2 : (h ++ [AO.row [.map c] 0 0 false] ++ [AO.row [.str w] 0 0 false]).length = h.length + 2 := by simp
  have r3 : rdRow (h ++ [AO.row [.map c] 0 0 false] ++ [AO.row [.str w] 0 0 false] ++ [AO.row [.bool t] 0 0 false]) h.length 0 0 1 = some [.map c] := rdRow_pre (p2.trans p3) (by rw [rd_last, if_pos (by simp)]; simp)
  have r4 : rdRow (h ++ [AO.row [.map c] 0 0 false] ++ [AO.row [.str w] 0 0 false] ++ [AO.row [.bool t] 0 0 false]) (h.length + 1) 0 0 1 = some [.str w] := rdRow_pre p3 (by rw [← hl1, rd_last, if_pos (by simp)]; simp)
  have r5 : rdRow (h ++ [AO.row [.map c] 0 0 false] ++ [AO.row [.str w] 0 0 false] ++ [AO.row [.bool t] 0 0 false]) (h.length + 2) 0 0 1 = some [.bool t] := by rw [← hl2, rd_last, if_pos (by simp)]; simp
  have hcl := hm.lt
  have hbd := movesB_len w (kindS t)
  refine S_of rfl T448 ?_; unfold fi448
  simp (maxSteps := 1000000) (disch := first | omega | rfl | (simp only [zL, two63, room] <;> omega) | fail) only [↓reduceIte, ↓zP, zW, WOp, evOp, evBin, binI, binSh, binS, evNil, keyIs, keyEq, mkv, AV.cells, AV.sc, optv, bnd, env, put, Env.get, Env.set, Env.del, Env.dels, Env.init, res1, resL, resV, fillP, splice, newRow, Nat.reduceEqDiff, Nat.reduceLT, Nat.reduceLeDiff, Nat.reduceAdd, Nat.reduceMul, Nat.reduceSub, Nat.reduceBEq, reduceCtorEq, ↓zR, zQ, Tr, StA, StT, hl1, hl2, r3, r4, r5]
  refine w_drw ?_
  simp (maxSteps := 1000000) (disch := first | omega | rfl | (simp only [zL, two63, room] <;> omega) | fail) only [↓reduceIte, ↓zP, zW, WOp, evOp, evBin, binI, binSh, binS, evNil, keyIs, keyEq, mkv, AV.cells, AV.sc, optv, bnd, env, put, Env.get, Env.set, Env.del, Env.dels, Env.init, res1, resL, resV, fillP, splice, newRow, Nat.reduceEqDiff, Nat.reduceLT, Nat.reduceLeDiff, Nat.reduceAdd, Nat.reduceMul, Nat.reduceSub, Nat.reduceBEq, reduceCtorEq, ↓zR, zQ, Tr, StA, StT, hl1, hl2, r3, r4, r5, e_kindOf]
  refine c_moves w (kindS t) hw ?_
  intro vm h2 ho2 hp2
  have hoL : OwL 2 encM (h ++ [AO.row [.map c] 0 0 false] ++ [AO.row [.str w] 0 0 false] ++ [AO.row [.bool t] 0 0 false]) h2 vm (movesB w (kindS t)) := ho2
  have hown : ∀ r, rowOf vm = some r → h.length + 3 ≤ r := fun r hr => by have := own_ge ho2 hr; simp at this; omega
  have q3 := rdRow_pre hp2 r3
  have q4 := rdRow_pre hp2 r4
  have q5 := rdRow_pre hp2 r5
  have hpe := p123.trans hp2
  simp (maxSteps := 1000000) (disch := first | omega | rfl | (simp only [zL, two63, room] <;> omega) | fail) only [↓reduceIte, ↓zP, zW, WOp, evOp, evBin, binI, binSh, binS, evNil, keyIs, keyEq, mkv, AV.cells, AV.sc, optv, bnd, env, put, Env.get, Env.set, Env.del, Env.dels, Env.init, res1, resL, resV, fillP, splice, newRow, Nat.reduceEqDiff, Nat.reduceLT, Nat.reduceLeDiff, Nat.reduceAdd, Nat.reduceMul, Nat.reduceSub, Nat.reduceBEq, reduceCtorEq, ↓zR, zQ, Tr, StA, StT, q3, q4, q5]
  refine c_DeleteFuncM _ [.ptr h.length 0 0 1, .ptr (h.length + 1) 0 0 1, .ptr (h.length + 2) 0 0 1] (fun m => winB (madeB w m.1.toNat m.2.toNat) (!t)) (cm := c) (b := h) (h := h2) (Nat.lt_of_lt_of_le hcl hpe.1) (fun h' => Mh winK winV c h') (fun a a' h1 h2 => h1.keep h2) (hoL.w.base (by simp)) (fun r hr => by have := hown r hr; omega) (by omega) (hm.pre hpe) ?_ ?_
  · intro x hx h' hpy hmh post hpost
    have g : ∀ (r : Nat) (y : AV), r < h.length + 3 → r ≠ c → rdRow h2 r 0 0 1 = some [y] → rdRow h' r 0 0 1 = some [y] := by
      intro r y hr hrc hrd
      rw [← hrd]
      unfold rdRow
      rw [hpy.2 r (rd_lt hrd) hrc fun e => by have := hown _ e; omega]
    refine c_best1 hw hmh (g _ _ (by omega) (by omega) q3) (g _ _ (by omega) (by omega) q4) (g _ _ (by omega) (by omega) q5) hx ?_
    exact fun h'' a b => hpost h'' a b
  · intro v' h' ho' hpy hm'
    simp (maxSteps := 1000000) (disch := first | omega | rfl | (simp only [zL, two63, room] <;> omega) | fail) only [↓reduceIte, ↓zP, zW, WOp, evOp, evBin, binI, binSh, binS, evNil, keyIs, keyEq, mkv, AV.cells, AV.sc, optv, bnd, env, put, Env.get, Env.set, Env.del, Env.dels, Env.init, res1, resL, resV, fillP, splice, newRow, Nat.reduceEqDiff, Nat.reduceLT, Nat.reduceLeDiff, Nat.reduceAdd, Nat.reduceMul, Nat.reduceSub, Nat.reduceBEq, reduceCtorEq, ↓zR, zQ, Tr, StA, StT]
    refine hp v' h' ho' ⟨Nat.le_trans hpe.1 hpy.1, fun i hi hc => ?_⟩ hm'
    rw [hpy.2 i (Nat.lt_of_lt_of_le hi hpe.1) hc fun e => by have := hown _ e; omega, hpe.2 i hi]
def bmG (w : List UInt8) (t : Bool) : List (Int × Int) := if plG10 w then bestB w t else []
theorem c_BestMoves (w : List UInt8) (t : Bool) (hw : w.length < 2 ^ 60) {h : AH} {post : AV → AH → Prop} (hp : ∀ v h', Slc 2 encM h' v (bmG w t) → Pre h h' → post (.tup [v, .bool (plG10 w)]) h') : S 417 [.str w, .bool t] h post k := by
  unfold bmG at hp
  refine S_of rfl T417 ?_; unfold fi417
  cases e : plG10 w <;> rw [e] at hp
  · simp (maxSteps := 1000000) (disch := first | omega | rfl | (simp only [zL, two63, room] <;> omega) | fail) only [↓reduceIte, ↓zP, zW, WOp, evOp, evBin, binI, binSh, binS, evNil, keyIs, keyEq, mkv, AV.cells, AV.sc, optv, bnd, env, put, Env.get, Env.set, Env.del, Env.dels, Env.init, res1, resL, resV, fillP, splice, newRow, Nat.reduceEqDiff, Nat.reduceLT, Nat.reduceLeDiff, Nat.reduceAdd, Nat.reduceMul, Nat.reduceSub, Nat.reduceBEq, reduceCtorEq, ↓zR, zQ, Tr, StA, StT, e_isPlayed w hw, e]
    exact hp _ h Slc.nil (Pre.refl h)
  · obtain ⟨h1, h2, h3⟩ := pl10 e
    simp (maxSteps := 1000000) (disch := first | omega | rfl | (simp only [zL, two63, room] <;> omega) | fail) only [↓reduceIte, ↓zP, zW, WOp, evOp, evBin, binI, binSh, binS, evNil, keyIs, keyEq, mkv, AV.cells, AV.sc, optv, bnd, env, put, Env.get, Env.set, Env.del, Env.dels, Env.init, res1, resL, resV, fillP, splice, newRow, Nat.reduceEqDiff, Nat.reduceLT, Nat.reduceLeDiff, Nat.reduceAdd, Nat.reduceMul, Nat.reduceSub, Nat.reduceBEq, reduceCtorEq, ↓zR, zQ, Tr, StA, StT, e_isPlayed w hw, e]
    refine c_newGames ?_
    intro c2 h2 hp2 hc2 hm2
    simp (maxSteps := 1000000) (disch := first | omega | rfl | (simp only [zL, two63, room] <;> omega) | fail) only [↓reduceIte, ↓zP, zW, WOp, evOp, evBin, binI, binSh, binS, evNil, keyIs, keyEq, mkv, AV.cells, AV.sc, optv, bnd, env, put, Env.get, Env.set, Env.del, Env.dels, Env.init, res1, resL, resV, fillP, splice, newRow, Nat.reduceEqDiff, Nat.reduceLT, Nat.reduceLeDiff, Nat.reduceAdd, Nat.reduceMul, Nat.reduceSub, Nat.reduceBEq, reduceCtorEq, ↓zR, zQ, Tr, StA, StT]
    refine c_best w t (by omega) hm2 ?_
    intro v h3 ho3 hp3 _
    simp (maxSteps := 1000000) (disch := first | omega | rfl | (simp only [zL, two63, room] <;> omega) | fail) only [↓reduceIte, ↓zP, zW, WOp, evOp, evBin, binI, binSh, binS, evNil, keyIs, keyEq, mkv, AV.cells, AV.sc, optv, bnd, env, put, Env.get, Env.set, Env.del, Env.dels, Env.init, res1, resL, resV, fillP, splice, newRow, Nat.reduceEqDiff, Nat.reduceLT, Nat.reduceLeDiff, Nat.reduceAdd, Nat.reduceMul, Nat.reduceSub, Nat.reduceBEq, reduceCtorEq, ↓zR, zQ, Tr, StA, StT]
    exact hp v h3 (ho3.slc hlM) (hp2.trans' ⟨hp3.1, fun i hi => hp3.2 i (by have := hp2.1; omega) (by omega)⟩)

/-! ### The play -/
def gmP (o : Option (Int × Int)) : Int × Int := match o with
  | some m => m
  | none => (0, 0)
theorem c_move (w : List UInt8) (t : Bool) (hw : w.length < 2 ^ 30) {c : Nat} {h : AH} (hm : Mh winK winV c h) {post : AV → AH → Prop}
    (hp : ∀ h', PreX c h h' → Mh winK winV c h' → post (.tup [.agg (encM (gmP (gmB w t))), .bool (gmB w t).isSome]) h') : S 450 [.agg [.map c], .str w, .bool t] h post k := by
  have p1 := Pre.push h (AO.row [.map c] 0 0 false)
  have p2 := Pre.push (h ++ [AO.row [.map c] 0 0 false]) (AO.row [.int .i64 0, .int .i64 0] 0 0 false)
  have p12 := p1.trans p2
  have hl1 : (h ++ [AO.row [.map c] 0 0 false]).length = h.length + 1 := by simp
  have hl2 : (h ++ [AO.row [.map c] 0 0 false] ++ [AO.row [.int .i64 0, .int .i64 0] 0 0 false]).length = h.length + 2 := by simp
  have r3 : rdRow (h ++ [AO.row [.map c] 0 0 false] ++ [AO.row [.int .i64 0, .int .i64 0] 0 0 false]) h.length 0 0 1 = some [.map c] := rdRow_pre p2 (by rw [rd_last, if_pos (by simp)]; simp)
  have hcl := hm.lt
  have hbd := movesB_len w (kindS t)
  have hbb : (bestB w t).length ≤ w.length := Nat.le_trans (List.length_filter_le _ _) hbd
  refine S_of rfl T450 ?_; unfold fi450
  simp (maxSteps := 1000000) (disch := first | omega | rfl | (simp only [zL, two63, room] <;> omega) | fail) only [↓reduceIte, ↓zP, zW, WOp, evOp, evBin, binI, binSh, binS, evNil, keyIs, keyEq, mkv, AV.cells, AV.sc, optv, bnd, env, put, Env.get, Env.set, Env.del, Env.dels, Env.init, res1, resL, resV, fillP, splice, newRow, Nat.reduceEqDiff, Nat.reduceLT, Nat.reduceLeDiff, Nat.reduceAdd, Nat.reduceMul, Nat.reduceSub, Nat.reduceBEq, reduceCtorEq, ↓zR, zQ, Tr, StA, StT, hl1, hl2, r3]
  refine c_best w t hw (hm.pre p12) ?_
  intro v2 h2 ho2 hp2 hm2
  simp (maxSteps := 1000000) (disch := first | omega | rfl | (simp only [zL, two63, room] <;> omega) | fail) only [↓reduceIte, ↓zP, zW, WOp, evOp, evBin, binI, binSh, binS, evNil, keyIs, keyEq, mkv, AV.cells, AV.sc, optv, bnd, env, put, Env.get, Env.set, Env.del, Env.dels, Env.init, res1, resL, resV, fillP, splice, newRow, Nat.reduceEqDiff, Nat.reduceLT, Nat.reduceLeDiff, Nat.reduceAdd, Nat.reduceMul, Nat.reduceSub, Nat.reduceBEq, reduceCtorEq, ↓zR, zQ, Tr, StA, StT, e_kindOf]
  refine c_moves w (kindS t) hw ?_
  intro v3 h3 ho3 hp3
  have hoL : OwL 2 encM h2 h3 v3 (movesB w (kindS t)) := ho3
  have ho2' := ho2.pre hp3
  obtain ⟨v4, h4, ha, ho4, hfr, hle4⟩ := ap_w (M := movesB w (kindS t)) hlM scM ho2' (Nat.le_trans hp2.1 hp3.1) (by omega)
  have hx23 := hp2.trans (hp3.x c)
  have e6 : h3[h.length + 1]? = some (.row [.int .i64 0, .int .i64 0] 0 0 false) := by
    rw [hx23.2 (h.length + 1) (by simp) (by omega)]
    rw [← hl1]; simp
  have hown : ∀ r, rowOf v2 = some r → h.length + 2 ≤ r := by
    intro r hr
    have := ho2
    unfold OwW at this
    cases v2 <;> simp only [rowOf] at hr <;> first
      | (cases hr; done)
      | (cases hr; have := this.2.2.1; rw [hl2] at this; exact this)
  have e6' : h4[h.length + 1]? = some (.row [.int .i64 0, .int .i64 0] 0 0 false) := by
    rw [hfr _ (List.getElem?_eq_some_iff.1 e6).1 (fun hr => by have := hown _ hr; omega)]; exact e6
  have hlt4 := (List.getElem?_eq_some_iff.1 e6').1
  have hmk : ∀ m : Int × Int, wrRow h4 (h.length + 1) 0 0 [.int .i64 m.1, .int .i64 m.2] = some (h4.set (h.length + 1) (.row [.int .i64 m.1, .int .i64 m.2] 0 0 false)) ∧
      rdRow (h4.set (h.length + 1) (.row [.int .i64 m.1, .int .i64 m.2] 0 0 false)) (h.length + 1) 0 0 2 = some [.int .i64 m.1, .int .i64 m.2] := by
    intro m
    refine ⟨by simp [wrRow, e6', splice, AV.sc], ?_⟩
    unfold rdRow
    rw [List.getElem?_set, if_pos rfl, if_pos hlt4]; simp
  have hfin : ∀ o, PreX c h (h4.set (h.length + 1) o) ∧ Mh winK winV c (h4.set (h.length + 1) o) := by
    intro o
    have hx : ∀ i, i < h.length → i ≠ c → (h4.set (h.length + 1) o)[i]? = h[i]? := by
      intro i hi hc
      rw [List.getElem?_set, if_neg (by omega), hfr i (by have := p12.1; have := hx23.1; omega) (fun hr => by have := hown _ hr; omega), hx23.2 i (by have := p12.1; omega) hc, p12.2 i hi]
    have hc2 := hm2.lt
    have hm3 := hm2.pre hp3
    refine ⟨⟨by have := p12.1; have := hx23.1; simp; omega, hx⟩, hm3.keep ?_⟩
    rw [List.getElem?_set, if_neg (by omega), hfr c (Nat.lt_of_lt_of_le hc2 hp3.1) (fun hr => by have := hown _ hr; omega)]
  obtain ⟨f1, f2⟩ := hfin (.row [.int .i64 (gmP (gmB w t)).1, .int .i64 (gmP (gmB w t)).2] 0 0 false)
  have hq := hp _ f1 f2
  obtain ⟨k1, k2⟩ := hmk (gmP (gmB w t))
  have hs4 := ho4.slc
  have hg : gmB w t = (bestB w t ++ movesB w (kindS t)).head? := rfl
  rw [hg] at hq k1 k2
  have l4 := fun g => Slc.lenV (hs4) (g := g) (ρ := fun _ => _) (x := .t 0) rfl; simp only [evOp] at l4
  have key : ∀ hA : apRow h3 2 v2 (movesB w (kindS t)).length ((movesB w (kindS t)).flatMap encM) = some (v4, h4), True := fun _ => trivial
  have hsl := hoL.slc
  generalize bestB w t ++ movesB w (kindS t) = L at *
  rcases hsl.cases with ⟨rfl, h0⟩ | ⟨rfl, h0⟩ | ⟨c', kk', off', rfl⟩
  all_goals
    first
      | (rw [h0] at ha; simp only [List.length_nil, List.flatMap_nil] at ha; simp (maxSteps := 1000000) (disch := first | omega | rfl | (simp only [zL, two63, room] <;> omega) | fail) only [↓reduceIte, ↓zP, zW, WOp, evOp, evBin, binI, binSh, binS, evNil, keyIs, keyEq, mkv, AV.cells, AV.sc, optv, bnd, env, put, Env.get, Env.set, Env.del, Env.dels, Env.init, res1, resL, resV, fillP, splice, newRow, Nat.reduceEqDiff, Nat.reduceLT, Nat.reduceLeDiff, Nat.reduceAdd, Nat.reduceMul, Nat.reduceSub, Nat.reduceBEq, reduceCtorEq, ↓zR, zQ, Tr, StA, StT, ha, l4])
      | (obtain ⟨_, _, hall⟩ := hsl.all; simp (maxSteps := 1000000) (disch := first | omega | rfl | (simp only [zL, two63, room] <;> omega) | fail) only [↓reduceIte, ↓zP, zW, WOp, evOp, evBin, binI, binSh, binS, evNil, keyIs, keyEq, mkv, AV.cells, AV.sc, optv, bnd, env, put, Env.get, Env.set, Env.del, Env.dels, Env.init, res1, resL, resV, fillP, splice, newRow, Nat.reduceEqDiff, Nat.reduceLT, Nat.reduceLeDiff, Nat.reduceAdd, Nat.reduceMul, Nat.reduceSub, Nat.reduceBEq, reduceCtorEq, ↓zR, zQ, Tr, StA, StT, hall, ha, l4])
    cases L with
    | nil =>
      have z0 : ((([] : List (Int × Int)).length : Nat) : Int) = 0 := rfl
      simp only [List.head?_nil, gmP, Option.isSome_none] at hq k1 k2
      simp (maxSteps := 1000000) (disch := first | omega | rfl | (simp only [zL, two63, room] <;> omega) | fail) only [↓reduceIte, ↓zP, zW, WOp, evOp, evBin, binI, binSh, binS, evNil, keyIs, keyEq, mkv, AV.cells, AV.sc, optv, bnd, env, put, Env.get, Env.set, Env.del, Env.dels, Env.init, res1, resL, resV, fillP, splice, newRow, Nat.reduceEqDiff, Nat.reduceLT, Nat.reduceLeDiff, Nat.reduceAdd, Nat.reduceMul, Nat.reduceSub, Nat.reduceBEq, reduceCtorEq, ↓zR, zQ, Tr, StA, StT, z0, k1, k2]
      exact hq
    | cons m rest =>
      obtain ⟨c4, kk4, off4, rfl, hr4⟩ := Slc.at hlM (pre := []) hs4
      have z0 : ((((m :: rest : List (Int × Int)).length : Nat) : Int) == 0) = false := by rw [beq_eq_false_iff_ne]; simp; omega
      have z1 : (0 : Int) < (((m :: rest : List (Int × Int)).length : Nat) : Int) := by simp
      have z2 : (0 : Int).toNat * 2 = 0 := rfl
      have hr4' : rdRow h4 c4 kk4 off4 2 = some [.int .i64 m.1, .int .i64 m.2] := by simpa using hr4
      simp only [List.head?_cons, gmP, Option.isSome_some] at hq k1 k2
      simp (maxSteps := 1000000) (disch := first | omega | rfl | (simp only [zL, two63, room] <;> omega) | fail) only [↓reduceIte, ↓zP, zW, WOp, evOp, evBin, binI, binSh, binS, evNil, keyIs, keyEq, mkv, AV.cells, AV.sc, optv, bnd, env, put, Env.get, Env.set, Env.del, Env.dels, Env.init, res1, resL, resV, fillP, splice, newRow, Nat.reduceEqDiff, Nat.reduceLT, Nat.reduceLeDiff, Nat.reduceAdd, Nat.reduceMul, Nat.reduceSub, Nat.reduceBEq, reduceCtorEq, ↓zR, zQ, Tr, StA, StT, z0, z1, z2, Nat.add_zero, hr4', k1, k2]
      exact hq
def mvG10 (w : List UInt8) (t : Bool) : Option (Int × Int) := if plG10 w then gmB w t else none
theorem c_GameMove (w : List UInt8) (t : Bool) (hw : w.length < 2 ^ 60) {h : AH} {post : AV → AH → Prop} (hp : ∀ h', Pre h h' → post (.tup [.agg (encM (gmP (mvG10 w t))), .bool (mvG10 w t).isSome]) h') : S 419 [.str w, .bool t] h post k := by
  unfold mvG10 at hp
  have hz := rd_last h [.int .i64 0, .int .i64 0] false 0 2
  refine S_of rfl T419 ?_; unfold fi419
  cases e : plG10 w <;> rw [e] at hp
  · simp (maxSteps := 1000000) (disch := first | omega | rfl | (simp only [zL, two63, room] <;> omega) | fail) only [↓reduceIte, ↓zP, zW, WOp, evOp, evBin, binI, binSh, binS, evNil, keyIs, keyEq, mkv, AV.cells, AV.sc, optv, bnd, env, put, Env.get, Env.set, Env.del, Env.dels, Env.init, res1, resL, resV, fillP, splice, newRow, Nat.reduceEqDiff, Nat.reduceLT, Nat.reduceLeDiff, Nat.reduceAdd, Nat.reduceMul, Nat.reduceSub, Nat.reduceBEq, reduceCtorEq, ↓zR, zQ, Tr, StA, StT, e_isPlayed w hw, e]
    exact hp _ (Pre.push _ _)
  · obtain ⟨h1, h2, h3⟩ := pl10 e
    simp (maxSteps := 1000000) (disch := first | omega | rfl | (simp only [zL, two63, room] <;> omega) | fail) only [↓reduceIte, ↓zP, zW, WOp, evOp, evBin, binI, binSh, binS, evNil, keyIs, keyEq, mkv, AV.cells, AV.sc, optv, bnd, env, put, Env.get, Env.set, Env.del, Env.dels, Env.init, res1, resL, resV, fillP, splice, newRow, Nat.reduceEqDiff, Nat.reduceLT, Nat.reduceLeDiff, Nat.reduceAdd, Nat.reduceMul, Nat.reduceSub, Nat.reduceBEq, reduceCtorEq, ↓zR, zQ, Tr, StA, StT, e_isPlayed w hw, e]
    refine c_newGames ?_
    intro c2 h2 hp2 hc2 hm2
    simp (maxSteps := 1000000) (disch := first | omega | rfl | (simp only [zL, two63, room] <;> omega) | fail) only [↓reduceIte, ↓zP, zW, WOp, evOp, evBin, binI, binSh, binS, evNil, keyIs, keyEq, mkv, AV.cells, AV.sc, optv, bnd, env, put, Env.get, Env.set, Env.del, Env.dels, Env.init, res1, resL, resV, fillP, splice, newRow, Nat.reduceEqDiff, Nat.reduceLT, Nat.reduceLeDiff, Nat.reduceAdd, Nat.reduceMul, Nat.reduceSub, Nat.reduceBEq, reduceCtorEq, ↓zR, zQ, Tr, StA, StT]
    refine c_move w t (by omega) hm2 ?_
    intro h3 hp3 _
    have hpre : Pre (h ++ [AO.row [.int .i64 0, .int .i64 0] 0 0 false]) h3 := hp2.trans' ⟨hp3.1, fun i hi => hp3.2 i (by have := hp2.1; omega) (by omega)⟩
    obtain ⟨r1, r2, r3⟩ := wr_res hpre (gmP (gmB w t)).1 (gmP (gmB w t)).2
    simp (maxSteps := 1000000) (disch := first | omega | rfl | (simp only [zL, two63, room] <;> omega) | fail) only [↓reduceIte, ↓zP, zW, WOp, evOp, evBin, binI, binSh, binS, evNil, keyIs, keyEq, mkv, AV.cells, AV.sc, optv, bnd, env, put, Env.get, Env.set, Env.del, Env.dels, Env.init, res1, resL, resV, fillP, splice, newRow, Nat.reduceEqDiff, Nat.reduceLT, Nat.reduceLeDiff, Nat.reduceAdd, Nat.reduceMul, Nat.reduceSub, Nat.reduceBEq, reduceCtorEq, ↓zR, zQ, Tr, StA, StT, r1, r2]
    exact hp _ r3
theorem muF_leG (n : Nat) : ∀ (l : List UInt8) (i : Nat), i + l.length ≤ n → muF n i l ≤ l.length * n
  | [], _, _ => by simp [muF]
  | b :: l, i, h => by
    have := muF_leG n l (i + 1) (by simp at h; omega)
    have hb : fmu n i b ≤ n := by
      unfold fmu
      simp at h
      split
      · omega
      · split <;> omega
    simp only [muF, List.length_cons, Nat.succ_mul]
    omega
theorem mu_leG (w : List UInt8) : mu w ≤ w.length * w.length := muF_leG _ _ _ (by omega)
theorem lp_gplay {c p6 : Nat} {B : AH} (hcB : c < B.length) (hpB : p6 < B.length) (hcp : p6 ≠ c) {R : X → Env → AH → Prop} : ∀ (n : Nat) (w : List UInt8) (t : Bool) (v : AV) (out : List (Int × Int)) (h : AH), mu w < n → w.length < 2 ^ 30 → out.length + n ≤ 2 ^ 30 → Mh winK winV c h → rdRow h p6 0 0 1 = some [.map c] → OwL 2 encM B h v out → PreX c B h →
    (∀ v' h', OwL 2 encM B h' v' (out ++ plyB w t) → PreX c B h' → R .ret [(4, v'), (5, .bool true)] h') →
    Cx (.loop lp421_0) [(0, .str w), (1, .bool t), (6, .ptr p6 0 0 1), (7, v)] h R k k
  | 0, _, _, _, _, _, hn, _, _, _, _, _, _, _ => by omega
  | n + 1, w, t, v, out, h, hn, hw, ho, hm, h6, hv, hx, hR => by
    have ih := lp_gplay hcB hpB hcp (R := R) n
    rw [w_loopb (c := lp421_0) (d := lb421_0) rfl]; unfold lb421_0
    simp (maxSteps := 1000000) (disch := first | omega | rfl | (simp only [zL, two63, room] <;> omega) | fail) only [↓reduceIte, ↓zP, zW, WOp, evOp, evBin, binI, binSh, binS, evNil, keyIs, keyEq, mkv, AV.cells, AV.sc, optv, bnd, env, put, Env.get, Env.set, Env.del, Env.dels, Env.init, res1, resL, resV, fillP, splice, newRow, Nat.reduceEqDiff, Nat.reduceLT, Nat.reduceLeDiff, Nat.reduceAdd, Nat.reduceMul, Nat.reduceSub, Nat.reduceBEq, reduceCtorEq, ↓zR, zQ, Tr, StA, StT, h6]
    refine c_move w t hw hm ?_
    intro h2 hp2 hm2
    have hx2 := hx.trans hp2
    have hv2 := hv.x hp2 hcB
    have k6 := rdRow_prex hp2 hcp h6
    cases e : gmB w t with
    | none =>
      simp only [gmP, Option.isSome_none]
      simp (maxSteps := 1000000) (disch := first | omega | rfl | (simp only [zL, two63, room] <;> omega) | fail) only [↓reduceIte, ↓zP, zW, WOp, evOp, evBin, binI, binSh, binS, evNil, keyIs, keyEq, mkv, AV.cells, AV.sc, optv, bnd, env, put, Env.get, Env.set, Env.del, Env.dels, Env.init, res1, resL, resV, fillP, splice, newRow, Nat.reduceEqDiff, Nat.reduceLT, Nat.reduceLeDiff, Nat.reduceAdd, Nat.reduceMul, Nat.reduceSub, Nat.reduceBEq, reduceCtorEq, ↓zR, zQ, Tr, StA, StT]
      refine hR v _ ?_ (hx2.trans ((Pre.push _ _).x c))
      rw [plyB_none e, List.append_nil]
      exact hv2.pre (Pre.push _ _)
    | some m =>
      have hmm := gmB_mem e
      obtain ⟨i, u, rfl, hmv⟩ := movesB_mv hmm
      have pu := (Pre.push h2 (AO.row [.int .i64 i, .int .i64 u] 0 0 false)).trans (Pre.push _ (AO.row [.int .i64 i, .int .i64 u] 0 0 false))
      obtain ⟨v3, h3, ha, hv3, hag⟩ := apA hlM scM (hv2.pre pu) (Nat.le_trans hx2.1 pu.1) ((i : Int), (u : Int)) (by omega)
      have hrow : rowOf v ≠ some h2.length := by
        intro hr
        have := own_lt hv2 hr
        omega
      have q3 : rdRow h3 h2.length 0 0 2 = some [.int .i64 i, .int .i64 u] := by
        refine rd_row ((apRow_fr ha).1 h2.length (by simp) hrow) ?_
        exact rd_app1 (mvRow h2 i u).1
      simp only [gmP, Option.isSome_some]
      simp (maxSteps := 1000000) (disch := first | omega | rfl | (simp only [zL, two63, room] <;> omega) | fail) only [↓reduceIte, ↓zP, zW, WOp, evOp, evBin, binI, binSh, binS, evNil, keyIs, keyEq, mkv, AV.cells, AV.sc, optv, bnd, env, put, Env.get, Env.set, Env.del, Env.dels, Env.init, res1, resL, resV, fillP, splice, newRow, Nat.reduceEqDiff, Nat.reduceLT, Nat.reduceLeDiff, Nat.reduceAdd, Nat.reduceMul, Nat.reduceSub, Nat.reduceBEq, reduceCtorEq, ↓zR, zQ, Tr, StA, StT, ha, q3]
      refine c_made w i u hmv.1 hmv.2.1 hw ?_
      intro h4 hp4
      simp (maxSteps := 1000000) (disch := first | omega | rfl | (simp only [zL, two63, room] <;> omega) | fail) only [↓reduceIte, ↓zP, zW, WOp, evOp, evBin, binI, binSh, binS, evNil, keyIs, keyEq, mkv, AV.cells, AV.sc, optv, bnd, env, put, Env.get, Env.set, Env.del, Env.dels, Env.init, res1, resL, resV, fillP, splice, newRow, Nat.reduceEqDiff, Nat.reduceLT, Nat.reduceLeDiff, Nat.reduceAdd, Nat.reduceMul, Nat.reduceSub, Nat.reduceBEq, reduceCtorEq, ↓zR, zQ, Tr, StA, StT]
      rw [w_loopn (c := lp421_0) rfl]
      simp (maxSteps := 1000000) (disch := first | omega | rfl | (simp only [zL, two63, room] <;> omega) | fail) only [↓reduceIte, ↓zP, zW, WOp, evOp, evBin, binI, binSh, binS, evNil, keyIs, keyEq, mkv, AV.cells, AV.sc, optv, bnd, env, put, Env.get, Env.set, Env.del, Env.dels, Env.init, res1, resL, resV, fillP, splice, newRow, Nat.reduceEqDiff, Nat.reduceLT, Nat.reduceLeDiff, Nat.reduceAdd, Nat.reduceMul, Nat.reduceSub, Nat.reduceBEq, reduceCtorEq, ↓zR, zQ, Tr, StA, StT]
      have hx3 : PreX c B h3 := (hx2.trans (pu.x c)).ag hag
      refine ih (madeB w i u) (!t) v3 (out ++ [((i : Int), (u : Int))]) h4 (by have := mu_made hmv; omega) (by rw [madeB_length]; exact hw) (by simp; omega) ?_ ?_ (hv3.pre hp4) (hx3.trans (hp4.x c)) ?_
      · exact ((hm2.pre pu).keep (hag.2 c hcB)).pre hp4
      · refine rdRow_pre hp4 (rd_row (hag.2 p6 hpB) (rdRow_pre pu k6))
      · intro v' h' a1 a2
        refine hR v' h' ?_ a2
        rw [plyB_some e]
        simpa using a1
def gpG (w : List UInt8) (t : Bool) : List (Int × Int) := if plG10 w then plyB w t else []
theorem c_GamePlay (w : List UInt8) (t : Bool) (hw : w.length < 2 ^ 60) {h : AH} {post : AV → AH → Prop} (hp : ∀ v h', Slc 2 encM h' v (gpG w t) → Pre h h' → post (.tup [v, .bool (plG10 w)]) h') : S 421 [.str w, .bool t] h post k := by
  unfold gpG at hp
  refine S_of rfl T421 ?_; unfold fi421
  cases e : plG10 w <;> rw [e] at hp
  · simp (maxSteps := 1000000) (disch := first | omega | rfl | (simp only [zL, two63, room] <;> omega) | fail) only [↓reduceIte, ↓zP, zW, WOp, evOp, evBin, binI, binSh, binS, evNil, keyIs, keyEq, mkv, AV.cells, AV.sc, optv, bnd, env, put, Env.get, Env.set, Env.del, Env.dels, Env.init, res1, resL, resV, fillP, splice, newRow, Nat.reduceEqDiff, Nat.reduceLT, Nat.reduceLeDiff, Nat.reduceAdd, Nat.reduceMul, Nat.reduceSub, Nat.reduceBEq, reduceCtorEq, ↓zR, zQ, Tr, StA, StT, e_isPlayed w hw, e]
    exact hp _ h Slc.nil (Pre.refl h)
  · obtain ⟨h1, h2, h3⟩ := pl10 e
    have hmu := mu_leG w
    have hmm : w.length * w.length ≤ 10 * 10 := Nat.mul_le_mul h2 h2
    simp (maxSteps := 1000000) (disch := first | omega | rfl | (simp only [zL, two63, room] <;> omega) | fail) only [↓reduceIte, ↓zP, zW, WOp, evOp, evBin, binI, binSh, binS, evNil, keyIs, keyEq, mkv, AV.cells, AV.sc, optv, bnd, env, put, Env.get, Env.set, Env.del, Env.dels, Env.init, res1, resL, resV, fillP, splice, newRow, Nat.reduceEqDiff, Nat.reduceLT, Nat.reduceLeDiff, Nat.reduceAdd, Nat.reduceMul, Nat.reduceSub, Nat.reduceBEq, reduceCtorEq, ↓zR, zQ, Tr, StA, StT, e_isPlayed w hw, e]
    refine c_newGames ?_
    intro c2 h2 hp2 hc2 hm2
    have hcl := hm2.lt
    simp (maxSteps := 1000000) (disch := first | omega | rfl | (simp only [zL, two63, room] <;> omega) | fail) only [↓reduceIte, ↓zP, zW, WOp, evOp, evBin, binI, binSh, binS, evNil, keyIs, keyEq, mkv, AV.cells, AV.sc, optv, bnd, env, put, Env.get, Env.set, Env.del, Env.dels, Env.init, res1, resL, resV, fillP, splice, newRow, Nat.reduceEqDiff, Nat.reduceLT, Nat.reduceLeDiff, Nat.reduceAdd, Nat.reduceMul, Nat.reduceSub, Nat.reduceBEq, reduceCtorEq, ↓zR, zQ, Tr, StA, StT]
    have hp3 := Pre.push h2 (AO.row [.map c2] 0 0 false)
    have r6 : rdRow (h2 ++ [AO.row [.map c2] 0 0 false]) h2.length 0 0 1 = some [.map c2] := by rw [rd_last, if_pos (by simp)]; simp
    refine lp_gplay (B := h2 ++ [AO.row [.map c2] 0 0 false]) (by simp; omega) (by simp) (by omega) (mu w + 1) w t .empS [] _ (by omega) (by omega) (by simp; omega) (hm2.pre hp3) r6 OwL.emp (PreX.refl _ _) ?_
    intro v h3 ho3 hx3
    simp (maxSteps := 1000000) (disch := first | omega | rfl | (simp only [zL, two63, room] <;> omega) | fail) only [↓reduceIte, ↓zP, zW, WOp, evOp, evBin, binI, binSh, binS, evNil, keyIs, keyEq, mkv, AV.cells, AV.sc, optv, bnd, env, put, Env.get, Env.set, Env.del, Env.dels, Env.init, res1, resL, resV, fillP, splice, newRow, Nat.reduceEqDiff, Nat.reduceLT, Nat.reduceLeDiff, Nat.reduceAdd, Nat.reduceMul, Nat.reduceSub, Nat.reduceBEq, reduceCtorEq, ↓zR, zQ, Tr, StA, StT]
    rw [List.nil_append] at ho3
    exact hp v h3 ho3.slc ((hp2.trans hp3).trans' ⟨hx3.1, fun i hi => hx3.2 i (by have := (hp2.trans hp3).1; omega) (by omega)⟩)
end Go.Proofs.YtejhhdpfndiliaaGreatDoor.Ab

/- GAMES of the reference: best moves, the play. -/
namespace Go.Proofs.YtejhhdpfndiliaaGreatDoor.Ab
open Go
set_option maxRecDepth 100000
set_option maxHeartbeats 4000000

def NGk (c : Nat) (h : AH) (v : AV) : Prop := ∀ r, rowOf v = some r → ¬ gr c h r
theorem gr_keepK {c : Nat} {h h' : AH} (hc : h'[c]? = h[c]?) (i : Nat) : gr c h' i ↔ gr c h i := by unfold gr; rw [hc]
theorem KN.keep {N c : Nat} {h h' : AH} {K : List (List UInt8)} (hk : KN N c h K) (he : ∀ i, gr c h i → h'[i]? = h[i]?) : KN N c h' K := by
  have hc := he c (.inl rfl)
  obtain ⟨v1, v2, W, h1, h2, h3, h4⟩ := hk
  exact ⟨v1, v2, W, by rw [hc]; exact h1, own_row h2 fun r hr => he r (.inr ⟨v1, v2, h1, .inl hr⟩), own_row h3 fun r hr => he r (.inr ⟨v1, v2, h1, .inr hr⟩), h4⟩
theorem NGk.fr {c : Nat} {h h' : AH} {v : AV} (hn : NGk c h v) (hf : FrG c h h') (hl : ∀ r, rowOf v = some r → r < h.length) : NGk c h' v := fun r hr => (hf.2 r (hl r hr) (hn r hr)).2
theorem own_frK {α : Type} {esz : Nat} {enc : α → List AV} {c : Nat} {b h h' : AH} {v : AV} {L : List α} (ho : OwL esz enc b h v L) (hn : NGk c h v) (hf : FrG c h h') : OwL esz enc b h' v L := own_row ho fun r hr => (hf.2 r (own_lt ho hr) (hn r hr)).1
theorem apGK {α : Type} {esz : Nat} {enc : α → List AV} (hl : ∀ x, (enc x).length = esz) (hsc : ∀ x, (enc x).all AV.sc = true) {N c : Nat} {b h : AH} {v : AV} {L : List α} {K : List (List UInt8)} (ho : OwL esz enc b h v L) (hb : b.length ≤ h.length) (hng : NGk c h v) (hk : KN N c h K) (hL : L.length + 1 ≤ 1099511627776) (x : α) :
    ∃ v' h', apRow h esz v 1 (enc x) = some (v', h') ∧ OwL esz enc b h' v' (L ++ [x]) ∧ NGk c h' v' ∧ KN N c h' K ∧ h.length ≤ h'.length ∧ (∀ i, i < h.length → rowOf v ≠ some i → h'[i]? = h[i]?) ∧ ∀ i, gr c h' i ↔ gr c h i := by
  obtain ⟨v', h', ha, ho', _⟩ := apA hl hsc ho hb x hL
  obtain ⟨f1, f2, f3⟩ := apRow_fr ha
  have hg : ∀ i, gr c h i → h'[i]? = h[i]? := fun i hi => f1 i (hk.gr_lt hi) fun e => hng i e hi
  have hgr := gr_keepK (h := h) (h' := h') (hg c (.inl rfl))
  refine ⟨v', h', ha, ho', fun r hr hgr' => ?_, hk.keep hg, f2, f1, hgr⟩
  rw [hgr] at hgr'
  rcases f3 r hr with h1 | h1
  · exact hng r h1 hgr'
  · have := hk.gr_lt hgr'; omega
theorem FrG.app {c : Nat} {h0 h h' : AH} (hf : FrG c h0 h) (hle : h.length ≤ h'.length) (hr : ∀ i, i < h0.length → ¬ gr c h0 i → h'[i]? = h[i]?) (hg : ∀ i, gr c h' i ↔ gr c h i) : FrG c h0 h' := ⟨Nat.le_trans hf.1 hle, fun i hi hn => by
  obtain ⟨h1, h2⟩ := hf.2 i hi hn
  exact ⟨by rw [hr i hi hn, h1], by rw [hg]; exact h2⟩⟩
theorem ok1 {w : List UInt8} (t : Bool) (hg : signs w) : OkS (w.length + 2) ([w], t) := ⟨by simpa using hg, by simp [gaK, gaTail]⟩
theorem ok1_made {w : List UInt8} {t : Bool} {i u : Nat} (hg : signs w) (hi : i < w.length) : OkS (w.length + 2) ([madeB w i u], !t) := (ok1 t hg).step (pre := []) (rest := []) i u hi
theorem signs_madeG {w : List UInt8} {i u : Nat} (hg : signs w) (hi : i < w.length) : signs (madeB w i u) := (ok1_made (t := true) (u := u) hg hi).1 _ (by simp)
theorem lp_gaBest {N c : Nat} {w : List UInt8} {t : Bool} (hN : w.length + 2 = N) (hN2 : N ≤ 14) (hg : signs w) {B : AH} {vm : AV} (hvm : ∀ r, rowOf vm = some r → r < B.length) {R : X → Env → AH → Prop} : ∀ (mr mp out : List (Int × Int)) (v : AV) (h : AH) (K : List (List UInt8)), movesB w (kindS t) = mp ++ mr → KN N c h K → FrG c B h → SlcG 2 encM c h vm (movesB w (kindS t)) → OwL 2 encM B h v out → NGk c h v → (∀ r, rowOf v = some r → B.length ≤ r) → out.length ≤ mp.length →
    (∀ v' h' K', KN N c h' K' → FrG c B h' → OwL 2 encM B h' v' (out ++ mr.filter fun m => !winB (madeB w m.1.toNat m.2.toNat) (!t)) → NGk c h' v' → R (.exit 0) [(7, v')] h') →
    Cx (.loop lp449_0) [(0, .ptr c 0 0 2), (1, .str w), (2, .bool t), (7, v), (14, vm), (15, .int .i64 (movesB w (kindS t)).length), (16, .int .i64 mp.length)] h R k k := by
  intro mr
  induction mr with
  | nil =>
    intro mp out v h K hL hk hf hs ho hn hrv hl hR
    have hll : (movesB w (kindS t)).length = mp.length := by rw [hL]; simp
    rw [hll]
    rw [w_loopb (c := lp449_0) (d := lb449_0) rfl]; unfold lb449_0
    simp (maxSteps := 1000000) (disch := first | omega | rfl | (simp only [zL, two63, room] <;> omega) | fail) only [↓reduceIte, ↓zP, zW, WOp, evOp, evBin, binI, binSh, binS, evNil, keyIs, keyEq, mkv, AV.cells, AV.sc, optv, bnd, env, put, Env.get, Env.set, Env.del, Env.dels, Env.init, res1, resL, resV, fillP, splice, newRow, Nat.reduceEqDiff, Nat.reduceLT, Nat.reduceLeDiff, Nat.reduceAdd, Nat.reduceMul, Nat.reduceSub, Nat.reduceBEq, reduceCtorEq, ↓zR, zQ, Tr, StA, StT]
    exact hR v h K hk hf (by simpa using ho) hn
  | cons m mr ih =>
    intro mp out v h K hL hk hf hs ho hn hrv hl hR
    have hmm : m ∈ movesB w (kindS t) := by rw [hL]; simp
    obtain ⟨i, u, rfl, hmv⟩ := movesB_mv hmm
    have hlen := movesB_len w (kindS t)
    have hml : (movesB w (kindS t)).length = mp.length + 1 + mr.length := by rw [hL]; simp; omega
    have hs' := hs
    rw [hL] at hs'
    obtain ⟨r1, k1, o1, hv1, hr⟩ := hs'.1.at hlM
    rw [← hL, hml] at hv1
    subst hv1
    rw [hml] at ih ⊢
    have hr' : rdRow h r1 k1 (o1 + mp.length * 2) 2 = some [.int .i64 i, .int .i64 u] := hr
    have hlt : (mp.length : Int) < ((mp.length + 1 + mr.length : Nat) : Int) := by omega
    have hw1 : (mp.length : Int) + 1 = ((mp ++ [(((i : Int), (u : Int)) : Int × Int)]).length : Int) := by simp
    have hw2 : IntKind.i64.wrap ((mp ++ [(((i : Int), (u : Int)) : Int × Int)]).length : Int) = ((mp ++ [(((i : Int), (u : Int)) : Int × Int)]).length : Int) := wrap_i (by simp; omega)
    have hcl := hk.lt
    have p1 := Pre.push h (AO.row [.int .i64 i, .int .i64 u] 0 0 false)
    rw [w_loopb (c := lp449_0) (d := lb449_0) rfl]; unfold lb449_0
    simp (maxSteps := 1000000) (disch := first | omega | rfl | (simp only [zL, two63, room] <;> omega) | fail) only [↓reduceIte, ↓zP, zW, WOp, evOp, evBin, binI, binSh, binS, evNil, keyIs, keyEq, mkv, AV.cells, AV.sc, optv, bnd, env, put, Env.get, Env.set, Env.del, Env.dels, Env.init, res1, resL, resV, fillP, splice, newRow, Nat.reduceEqDiff, Nat.reduceLT, Nat.reduceLeDiff, Nat.reduceAdd, Nat.reduceMul, Nat.reduceSub, Nat.reduceBEq, reduceCtorEq, ↓zR, zQ, Tr, StA, StT, hlt, hr']
    refine c_liMake w i u hmv.1 hmv.2.1 hmv.ne (by omega) ?_
    intro h2 hp2
    have p12 := p1.trans hp2
    have p3 := Pre.push h2 (AO.row [.str (madeB w i u)] 0 0 false)
    have p123 := p12.trans p3
    have hk3 := hk.pre p123
    have hf3 := p123.frg hcl
    have q3 : rdRow (h2 ++ [AO.row [.str (madeB w i u)] 0 0 false]) h.length 0 0 2 = some [.int .i64 i, .int .i64 u] := rdRow_pre (hp2.trans p3) (mvRow h i u).1
    have ng3 : ¬ gr c (h2 ++ [AO.row [.str (madeB w i u)] 0 0 false]) h.length := hk.fresh p123 (Nat.le_refl _)
    have hsl : SlcG 1 encS c (h2 ++ [AO.row [.str (madeB w i u)] 0 0 false]) (.slice h2.length 0 0 1 1) [madeB w i u] := ⟨slc1 h2 _, fun r hr => by cases hr; exact (hk.pre p12).fresh p3 (Nat.le_refl _)⟩
    simp (maxSteps := 1000000) (disch := first | omega | rfl | (simp only [zL, two63, room] <;> omega) | fail) only [↓reduceIte, ↓zP, zW, WOp, evOp, evBin, binI, binSh, binS, evNil, keyIs, keyEq, mkv, AV.cells, AV.sc, optv, bnd, env, put, Env.get, Env.set, Env.del, Env.dels, Env.init, res1, resL, resV, fillP, splice, newRow, Nat.reduceEqDiff, Nat.reduceLT, Nat.reduceLeDiff, Nat.reduceAdd, Nat.reduceMul, Nat.reduceSub, Nat.reduceBEq, reduceCtorEq, ↓zR, zQ, Tr, StA, StT]
    refine c_gaWin hN2 _ [madeB w i u] (!t) _ _ _ _ (Nat.lt_succ_self _) (by rw [← hN]; exact ok1_made hg hmv.1) hk3 hsl _ ?_
    intro h4 K4 hf4 hk4 _
    have hwl : winL [madeB w i u] (!t) = winB (madeB w i u) (!t) := winL_one _ _ _ (Nat.lt_succ_self _)
    have hf04 := hf3.trans hf4
    have ho4 := own_frK ho hn hf04
    have hn4 := hn.fr hf04 (fun r hr => own_lt ho hr)
    have q4 := rd_fr hf4 ng3 q3
    have hs4 := hs.fr hf04
    have hfB := hf.trans hf04
    rw [hwl]
    cases e : winB (madeB w i u) (!t)
    · have p5 := Pre.push h4 (AO.row [.int .i64 i, .int .i64 u] 0 0 false)
      obtain ⟨v', h5, ha, ho5, hn5, hk5, hle5, hfr5, hgr5⟩ := apGK hlM scM (ho4.pre p5) (Nat.le_trans hfB.1 p5.1) (fun r hr => by rw [gr_pre p5 hk4.lt]; exact hn4 r hr) (hk4.pre p5) (by omega) ((i : Int), (u : Int))
      simp (maxSteps := 1000000) (disch := first | omega | rfl | (simp only [zL, two63, room] <;> omega) | fail) only [↓reduceIte, ↓zP, zW, WOp, evOp, evBin, binI, binSh, binS, evNil, keyIs, keyEq, mkv, AV.cells, AV.sc, optv, bnd, env, put, Env.get, Env.set, Env.del, Env.dels, Env.init, res1, resL, resV, fillP, splice, newRow, Nat.reduceEqDiff, Nat.reduceLT, Nat.reduceLeDiff, Nat.reduceAdd, Nat.reduceMul, Nat.reduceSub, Nat.reduceBEq, reduceCtorEq, ↓zR, zQ, Tr, StA, StT, q4, ha, hw1, hw2]
      rw [w_loopn (c := lp449_0) rfl]
      simp (maxSteps := 1000000) (disch := first | omega | rfl | (simp only [zL, two63, room] <;> omega) | fail) only [↓reduceIte, ↓zP, zW, WOp, evOp, evBin, binI, binSh, binS, evNil, keyIs, keyEq, mkv, AV.cells, AV.sc, optv, bnd, env, put, Env.get, Env.set, Env.del, Env.dels, Env.init, res1, resL, resV, fillP, splice, newRow, Nat.reduceEqDiff, Nat.reduceLT, Nat.reduceLeDiff, Nat.reduceAdd, Nat.reduceMul, Nat.reduceSub, Nat.reduceBEq, reduceCtorEq, ↓zR, zQ, Tr, StA, StT]
      have hf5 : FrG c B h5 := (hfB.trans (p5.frg hk4.lt)).app hle5 (fun i hi _ => hfr5 i (Nat.lt_of_lt_of_le hi (Nat.le_trans hfB.1 p5.1)) (fun hr => by have := hrv _ hr; omega)) hgr5
      have hs5 : SlcG 2 encM c h5 (.slice r1 k1 o1 (mp.length + 1 + mr.length) 2) (movesB w (kindS t)) := by
        have h6 := hs4.fr (p5.frg hk4.lt)
        refine ⟨h6.1.stay fun r hr => ?_, fun r hr => by rw [hgr5]; exact h6.2 r hr⟩
        have h7 := hvm r hr
        exact hfr5 r (Nat.lt_of_lt_of_le h7 (Nat.le_trans hfB.1 p5.1)) (fun h8 => by have := hrv r h8; omega)
      refine ih (mp ++ [((i : Int), (u : Int))]) (out ++ [((i : Int), (u : Int))]) v' h5 K4 (by rw [hL]; simp) hk5 hf5 hs5 ho5 hn5 (fun r hr => own_ge ho5 hr) (by simp; omega) ?_
      intro v'' h' K' a1 a2 a3 a4
      refine hR v'' h' K' a1 a2 ?_ a4
      simp only [List.filter_cons, Int.toNat_natCast, e, Bool.not_false, if_true]
      simpa using a3
    · simp (maxSteps := 1000000) (disch := first | omega | rfl | (simp only [zL, two63, room] <;> omega) | fail) only [↓reduceIte, ↓zP, zW, WOp, evOp, evBin, binI, binSh, binS, evNil, keyIs, keyEq, mkv, AV.cells, AV.sc, optv, bnd, env, put, Env.get, Env.set, Env.del, Env.dels, Env.init, res1, resL, resV, fillP, splice, newRow, Nat.reduceEqDiff, Nat.reduceLT, Nat.reduceLeDiff, Nat.reduceAdd, Nat.reduceMul, Nat.reduceSub, Nat.reduceBEq, reduceCtorEq, ↓zR, zQ, Tr, StA, StT, hw1, hw2]
      rw [w_loopn (c := lp449_0) rfl]
      simp (maxSteps := 1000000) (disch := first | omega | rfl | (simp only [zL, two63, room] <;> omega) | fail) only [↓reduceIte, ↓zP, zW, WOp, evOp, evBin, binI, binSh, binS, evNil, keyIs, keyEq, mkv, AV.cells, AV.sc, optv, bnd, env, put, Env.get, Env.set, Env.del, Env.dels, Env.init, res1, resL, resV, fillP, splice, newRow, Nat.reduceEqDiff, Nat.reduceLT, Nat.reduceLeDiff, Nat.reduceAdd, Nat.reduceMul, Nat.reduceSub, Nat.reduceBEq, reduceCtorEq, ↓zR, zQ, Tr, StA, StT]
      refine ih (mp ++ [((i : Int), (u : Int))]) out v h4 K4 (by rw [hL]; simp) hk4 hfB hs4 ho4 hn4 hrv (by simp; omega) ?_
      intro v'' h' K' a1 a2 a3 a4
      refine hR v'' h' K' a1 a2 ?_ a4
      simp only [List.filter_cons, Int.toNat_natCast, e, Bool.not_true, Bool.false_eq_true, if_false]
      exact a3
theorem c_gaBest {N c : Nat} {w : List UInt8} {t : Bool} (hN : w.length + 2 = N) (hN2 : N ≤ 14) (hg : signs w) {h : AH} {K : List (List UInt8)} (hk : KN N c h K) {post : AV → AH → Prop}
    (hp : ∀ v' h' K', KN N c h' K' → FrG c h h' → Slc 2 encM h' v' (bestB w t) → NGk c h' v' → post v' h') : S 449 [.ptr c 0 0 2, .str w, .bool t] h post k := by
  have hlen := movesB_len w (kindS t)
  refine S_of rfl T449 ?_; unfold fi449
  simp (maxSteps := 1000000) (disch := first | omega | rfl | (simp only [zL, two63, room] <;> omega) | fail) only [↓reduceIte, ↓zP, zW, WOp, evOp, evBin, binI, binSh, binS, evNil, keyIs, keyEq, mkv, AV.cells, AV.sc, optv, bnd, env, put, Env.get, Env.set, Env.del, Env.dels, Env.init, res1, resL, resV, fillP, splice, newRow, Nat.reduceEqDiff, Nat.reduceLT, Nat.reduceLeDiff, Nat.reduceAdd, Nat.reduceMul, Nat.reduceSub, Nat.reduceBEq, reduceCtorEq, ↓zR, zQ, Tr, StA, StT]
  refine c_liMoves w hg (by omega) t (!t) ?_
  intro vm h2 ho2 hp2
  rw [liMovesB_eq, kindsS_not] at ho2
  have hsm := ho2.slcG hk hp2
  have hf2 := hp2.frg (c := c) hk.lt
  have lv := fun g => Slc.lenV (hsm.1) (g := g) (ρ := fun _ => _) (x := .t 0) rfl; simp only [evOp] at lv
  simp (maxSteps := 1000000) (disch := first | omega | rfl | (simp only [zL, two63, room] <;> omega) | fail) only [↓reduceIte, ↓zP, zW, WOp, evOp, evBin, binI, binSh, binS, evNil, keyIs, keyEq, mkv, AV.cells, AV.sc, optv, bnd, env, put, Env.get, Env.set, Env.del, Env.dels, Env.init, res1, resL, resV, fillP, splice, newRow, Nat.reduceEqDiff, Nat.reduceLT, Nat.reduceLeDiff, Nat.reduceAdd, Nat.reduceMul, Nat.reduceSub, Nat.reduceBEq, reduceCtorEq, ↓zR, zQ, Tr, StA, StT, lv]
  refine lp_gaBest hN hN2 hg (B := h2) (fun r hr => own_lt ho2 hr) (movesB w (kindS t)) [] [] .nilS h2 K rfl (hk.pre hp2) (FrG.refl _ _) hsm OwL.nil (fun r hr => by cases hr) (fun r hr => by cases hr) (by simp) ?_
  intro v' h' K' a1 a2 a3 a4
  simp (maxSteps := 1000000) (disch := first | omega | rfl | (simp only [zL, two63, room] <;> omega) | fail) only [↓reduceIte, ↓zP, zW, WOp, evOp, evBin, binI, binSh, binS, evNil, keyIs, keyEq, mkv, AV.cells, AV.sc, optv, bnd, env, put, Env.get, Env.set, Env.del, Env.dels, Env.init, res1, resL, resV, fillP, splice, newRow, Nat.reduceEqDiff, Nat.reduceLT, Nat.reduceLeDiff, Nat.reduceAdd, Nat.reduceMul, Nat.reduceSub, Nat.reduceBEq, reduceCtorEq, ↓zR, zQ, Tr, StA, StT]
  rw [List.nil_append] at a3
  exact hp v' h' K' a1 (hf2.trans a2) a3.slc a4
theorem kn_box (h : AH) : h ++ [AO.row [.nilS, .nilS] 0 0 false] = h ++ [AO.row ([.nilS, .nilS] : List AV) 0 0 false] := rfl
theorem ng_old {h : AH} {r : Nat} (hr : r < h.length) : ¬ gr h.length (h ++ [.row [.nilS, .nilS] 0 0 false]) r := by
  rintro (rfl | ⟨v1, v2, e1, e2⟩)
  · exact Nat.lt_irrefl _ hr
  · simp at e1
    obtain ⟨rfl, rfl⟩ := e1
    simp [rowOf] at e2
theorem pre_new {h h' : AH} (hf : FrG h.length (h ++ [.row [.nilS, .nilS] 0 0 false]) h') : Pre h h' := ⟨by have := hf.1; simp at this; omega, fun i hi => by rw [(hf.2 i (by simp; omega) (ng_old hi)).1, List.getElem?_append_left hi]⟩
theorem c_sWinsMoving (w : List UInt8) (t : Bool) (hw : w.length < 2 ^ 60) {h : AH} {post : AV → AH → Prop} (hp : ∀ h', Pre h h' → post (.tup [.bool (wnG w t), .bool (plG10 w)]) h') : S 416 [.str w, .bool t] h post k := by
  unfold wnG at hp
  refine S_of rfl T416 ?_; unfold fi416
  cases e : plG10 w <;> rw [e] at hp
  · simp (maxSteps := 1000000) (disch := first | omega | rfl | (simp only [zL, two63, room] <;> omega) | fail) only [↓reduceIte, ↓zP, zW, WOp, evOp, evBin, binI, binSh, binS, evNil, keyIs, keyEq, mkv, AV.cells, AV.sc, optv, bnd, env, put, Env.get, Env.set, Env.del, Env.dels, Env.init, res1, resL, resV, fillP, splice, newRow, Nat.reduceEqDiff, Nat.reduceLT, Nat.reduceLeDiff, Nat.reduceAdd, Nat.reduceMul, Nat.reduceSub, Nat.reduceBEq, reduceCtorEq, ↓zR, zQ, Tr, StA, StT, e_gaFew w hw, e]
    exact hp h (Pre.refl h)
  · obtain ⟨h1, h2, h3⟩ := pl10 e
    have hk0 : KN (w.length + 2) h.length (h ++ [.row [.nilS, .nilS] 0 0 false]) [] := KN.new
    have p1 := Pre.push (h ++ [AO.row [.nilS, .nilS] 0 0 false]) (AO.row [.str w] 0 0 false)
    simp (maxSteps := 1000000) (disch := first | omega | rfl | (simp only [zL, two63, room] <;> omega) | fail) only [↓reduceIte, ↓zP, zW, WOp, evOp, evBin, binI, binSh, binS, evNil, keyIs, keyEq, mkv, AV.cells, AV.sc, optv, bnd, env, put, Env.get, Env.set, Env.del, Env.dels, Env.init, res1, resL, resV, fillP, splice, newRow, Nat.reduceEqDiff, Nat.reduceLT, Nat.reduceLeDiff, Nat.reduceAdd, Nat.reduceMul, Nat.reduceSub, Nat.reduceBEq, reduceCtorEq, ↓zR, zQ, Tr, StA, StT, e_gaFew w hw, e]
    refine c_gaWin (N := w.length + 2) (by omega) _ [w] t _ _ _ _ (Nat.lt_succ_self _) (ok1 t h3) (hk0.pre p1) ⟨slc1 _ _, fun r hr => by cases hr; exact hk0.fresh p1 (by simp)⟩ _ ?_
    intro h4 K4 hf4 _ _
    have hwl : winL [w] t = winB w t := winL_one _ _ _ (Nat.lt_succ_self _)
    rw [hwl]
    simp (maxSteps := 1000000) (disch := first | omega | rfl | (simp only [zL, two63, room] <;> omega) | fail) only [↓reduceIte, ↓zP, zW, WOp, evOp, evBin, binI, binSh, binS, evNil, keyIs, keyEq, mkv, AV.cells, AV.sc, optv, bnd, env, put, Env.get, Env.set, Env.del, Env.dels, Env.init, res1, resL, resV, fillP, splice, newRow, Nat.reduceEqDiff, Nat.reduceLT, Nat.reduceLeDiff, Nat.reduceAdd, Nat.reduceMul, Nat.reduceSub, Nat.reduceBEq, reduceCtorEq, ↓zR, zQ, Tr, StA, StT]
    exact hp h4 (pre_new ((p1.frg hk0.lt).trans hf4))
theorem c_sBestMoves (w : List UInt8) (t : Bool) (hw : w.length < 2 ^ 60) {h : AH} {post : AV → AH → Prop} (hp : ∀ v h', Slc 2 encM h' v (bmG w t) → Pre h h' → post (.tup [v, .bool (plG10 w)]) h') : S 418 [.str w, .bool t] h post k := by
  unfold bmG at hp
  refine S_of rfl T418 ?_; unfold fi418
  cases e : plG10 w <;> rw [e] at hp
  · simp (maxSteps := 1000000) (disch := first | omega | rfl | (simp only [zL, two63, room] <;> omega) | fail) only [↓reduceIte, ↓zP, zW, WOp, evOp, evBin, binI, binSh, binS, evNil, keyIs, keyEq, mkv, AV.cells, AV.sc, optv, bnd, env, put, Env.get, Env.set, Env.del, Env.dels, Env.init, res1, resL, resV, fillP, splice, newRow, Nat.reduceEqDiff, Nat.reduceLT, Nat.reduceLeDiff, Nat.reduceAdd, Nat.reduceMul, Nat.reduceSub, Nat.reduceBEq, reduceCtorEq, ↓zR, zQ, Tr, StA, StT, e_gaFew w hw, e]
    exact hp _ h Slc.nil (Pre.refl h)
  · obtain ⟨h1, h2, h3⟩ := pl10 e
    simp (maxSteps := 1000000) (disch := first | omega | rfl | (simp only [zL, two63, room] <;> omega) | fail) only [↓reduceIte, ↓zP, zW, WOp, evOp, evBin, binI, binSh, binS, evNil, keyIs, keyEq, mkv, AV.cells, AV.sc, optv, bnd, env, put, Env.get, Env.set, Env.del, Env.dels, Env.init, res1, resL, resV, fillP, splice, newRow, Nat.reduceEqDiff, Nat.reduceLT, Nat.reduceLeDiff, Nat.reduceAdd, Nat.reduceMul, Nat.reduceSub, Nat.reduceBEq, reduceCtorEq, ↓zR, zQ, Tr, StA, StT, e_gaFew w hw, e]
    refine c_gaBest (N := w.length + 2) rfl (by omega) h3 KN.new ?_
    intro v h4 K4 _ hf4 hs4 _
    simp (maxSteps := 1000000) (disch := first | omega | rfl | (simp only [zL, two63, room] <;> omega) | fail) only [↓reduceIte, ↓zP, zW, WOp, evOp, evBin, binI, binSh, binS, evNil, keyIs, keyEq, mkv, AV.cells, AV.sc, optv, bnd, env, put, Env.get, Env.set, Env.del, Env.dels, Env.init, res1, resL, resV, fillP, splice, newRow, Nat.reduceEqDiff, Nat.reduceLT, Nat.reduceLeDiff, Nat.reduceAdd, Nat.reduceMul, Nat.reduceSub, Nat.reduceBEq, reduceCtorEq, ↓zR, zQ, Tr, StA, StT]
    exact hp v h4 hs4 (pre_new hf4)
theorem frg_set {c : Nat} {h h' : AH} {o : AO} {i : Nat} (hf : FrG c h h') (hi : h.length ≤ i) (hc : c < h.length) : FrG c h (h'.set i o) :=
  hf.app (by simp) (fun j hj _ => by rw [List.getElem?_set, if_neg (by omega)]) (gr_keepK (by rw [List.getElem?_set, if_neg (by omega)]))
theorem c_gaMove {N c : Nat} {w : List UInt8} {t : Bool} (hN : w.length + 2 = N) (hN2 : N ≤ 14) (hg : signs w) {h : AH} {K : List (List UInt8)} (hk : KN N c h K) {post : AV → AH → Prop}
    (hp : ∀ h' K', KN N c h' K' → FrG c h h' → post (.tup [.agg (encM (gmP (gmB w t))), .bool (gmB w t).isSome]) h') : S 451 [.ptr c 0 0 2, .str w, .bool t] h post k := by
  have p1 := Pre.push h (AO.row [.int .i64 0, .int .i64 0] 0 0 false)
  have hcl := hk.lt
  have hlen := movesB_len w (kindS t)
  have hbb : (bestB w t).length ≤ w.length := Nat.le_trans (List.length_filter_le _ _) hlen
  have ngp : ¬ gr c (h ++ [AO.row [.int .i64 0, .int .i64 0] 0 0 false]) h.length := hk.fresh p1 (Nat.le_refl _)
  have hrow0 : (h ++ [AO.row [.int .i64 0, .int .i64 0] 0 0 false])[h.length]? = some (.row [.int .i64 0, .int .i64 0] 0 0 false) := by simp
  have fin : ∀ (h' : AH) (K' : List (List UInt8)) (m : Int × Int), KN N c h' K' → FrG c (h ++ [AO.row [.int .i64 0, .int .i64 0] 0 0 false]) h' → wrRow h' h.length 0 0 [.int .i64 m.1, .int .i64 m.2] = some (h'.set h.length (.row [.int .i64 m.1, .int .i64 m.2] 0 0 false)) ∧
      rdRow (h'.set h.length (.row [.int .i64 m.1, .int .i64 m.2] 0 0 false)) h.length 0 0 2 = some [.int .i64 m.1, .int .i64 m.2] ∧ KN N c (h'.set h.length (.row [.int .i64 m.1, .int .i64 m.2] 0 0 false)) K' ∧ FrG c h (h'.set h.length (.row [.int .i64 m.1, .int .i64 m.2] 0 0 false)) := by
    intro h' K' m hk' hf'
    have hl : h.length < (h ++ [AO.row [.int .i64 0, .int .i64 0] 0 0 false]).length := by simp
    obtain ⟨e1, e2⟩ := hf'.2 h.length hl ngp
    rw [hrow0] at e1
    have hlt := (List.getElem?_eq_some_iff.1 e1).1
    refine ⟨by simp [wrRow, e1, splice, AV.sc], ?_, hk'.keep fun i hi => ?_, frg_set ((p1.frg hcl).trans hf') (Nat.le_refl _) hcl⟩
    · unfold rdRow
      rw [List.getElem?_set, if_pos rfl, if_pos hlt]; simp
    · rw [List.getElem?_set, if_neg]
      rintro rfl
      exact e2 hi
  refine S_of rfl T451 ?_; unfold fi451
  simp (maxSteps := 1000000) (disch := first | omega | rfl | (simp only [zL, two63, room] <;> omega) | fail) only [↓reduceIte, ↓zP, zW, WOp, evOp, evBin, binI, binSh, binS, evNil, keyIs, keyEq, mkv, AV.cells, AV.sc, optv, bnd, env, put, Env.get, Env.set, Env.del, Env.dels, Env.init, res1, resL, resV, fillP, splice, newRow, Nat.reduceEqDiff, Nat.reduceLT, Nat.reduceLeDiff, Nat.reduceAdd, Nat.reduceMul, Nat.reduceSub, Nat.reduceBEq, reduceCtorEq, ↓zR, zQ, Tr, StA, StT]
  refine c_gaBest hN hN2 hg (hk.pre p1) ?_
  intro v2 h2 K2 hk2 hf2 hs2 hn2
  have hgm : gmB w t = (bestB w t ++ movesB w (kindS t)).head? := rfl
  have l2 := fun g => Slc.lenV (hs2) (g := g) (ρ := fun _ => _) (x := .t 0) rfl; simp only [evOp] at l2
  cases hb : bestB w t with
  | cons m rest =>
    rw [hb] at hs2 l2
    obtain ⟨c4, kk4, off4, rfl, hr4⟩ := Slc.at hlM (pre := []) hs2
    have z0 : ((((m :: rest : List (Int × Int)).length : Nat) : Int) > 0) := by simp
    have z1 : (0 : Int) < (((m :: rest : List (Int × Int)).length : Nat) : Int) := by simp
    have z2 : (0 : Int).toNat * 2 = 0 := rfl
    have hr4' : rdRow h2 c4 kk4 off4 2 = some [.int .i64 m.1, .int .i64 m.2] := by simpa using hr4
    obtain ⟨k1, k2, k3, k4⟩ := fin h2 K2 m hk2 hf2
    have e : gmB w t = some m := by rw [hgm, hb]; rfl
    rw [e] at hp
    simp only [gmP, Option.isSome_some] at hp
    simp (maxSteps := 1000000) (disch := first | omega | rfl | (simp only [zL, two63, room] <;> omega) | fail) only [↓reduceIte, ↓zP, zW, WOp, evOp, evBin, binI, binSh, binS, evNil, keyIs, keyEq, mkv, AV.cells, AV.sc, optv, bnd, env, put, Env.get, Env.set, Env.del, Env.dels, Env.init, res1, resL, resV, fillP, splice, newRow, Nat.reduceEqDiff, Nat.reduceLT, Nat.reduceLeDiff, Nat.reduceAdd, Nat.reduceMul, Nat.reduceSub, Nat.reduceBEq, reduceCtorEq, ↓zR, zQ, Tr, StA, StT, l2, z0, z1, z2, Nat.add_zero, hr4', k1, k2]
    exact hp _ K2 k3 k4
  | nil =>
    rw [hb] at l2 hgm
    have z0 : ¬ ((((([] : List (Int × Int)).length : Nat) : Int)) > 0) := by simp
    simp (maxSteps := 1000000) (disch := first | omega | rfl | (simp only [zL, two63, room] <;> omega) | fail) only [↓reduceIte, ↓zP, zW, WOp, evOp, evBin, binI, binSh, binS, evNil, keyIs, keyEq, mkv, AV.cells, AV.sc, optv, bnd, env, put, Env.get, Env.set, Env.del, Env.dels, Env.init, res1, resL, resV, fillP, splice, newRow, Nat.reduceEqDiff, Nat.reduceLT, Nat.reduceLeDiff, Nat.reduceAdd, Nat.reduceMul, Nat.reduceSub, Nat.reduceBEq, reduceCtorEq, ↓zR, zQ, Tr, StA, StT, l2, z0]
    refine c_liMoves w hg (by omega) t (!t) ?_
    intro v3 h3 ho3 hp3
    rw [liMovesB_eq, kindsS_not] at ho3
    have hk3 := hk2.pre hp3
    have hf3 := hf2.trans (hp3.frg hk2.lt)
    have hs3 := ho3.slc
    have l3 := fun g => Slc.lenV (hs3) (g := g) (ρ := fun _ => _) (x := .t 0) rfl; simp only [evOp] at l3
    cases hm : movesB w (kindS t) with
    | cons m rest =>
      rw [hm] at hs3 l3
      obtain ⟨c4, kk4, off4, rfl, hr4⟩ := Slc.at hlM (pre := []) hs3
      have z0 : ((((m :: rest : List (Int × Int)).length : Nat) : Int) > 0) := by simp
      have z1 : (0 : Int) < (((m :: rest : List (Int × Int)).length : Nat) : Int) := by simp
      have z2 : (0 : Int).toNat * 2 = 0 := rfl
      have hr4' : rdRow h3 c4 kk4 off4 2 = some [.int .i64 m.1, .int .i64 m.2] := by simpa using hr4
      obtain ⟨k1, k2, k3, k4⟩ := fin h3 K2 m hk3 hf3
      have e : gmB w t = some m := by rw [hgm, hm]; rfl
      rw [e] at hp
      simp only [gmP, Option.isSome_some] at hp
      simp (maxSteps := 1000000) (disch := first | omega | rfl | (simp only [zL, two63, room] <;> omega) | fail) only [↓reduceIte, ↓zP, zW, WOp, evOp, evBin, binI, binSh, binS, evNil, keyIs, keyEq, mkv, AV.cells, AV.sc, optv, bnd, env, put, Env.get, Env.set, Env.del, Env.dels, Env.init, res1, resL, resV, fillP, splice, newRow, Nat.reduceEqDiff, Nat.reduceLT, Nat.reduceLeDiff, Nat.reduceAdd, Nat.reduceMul, Nat.reduceSub, Nat.reduceBEq, reduceCtorEq, ↓zR, zQ, Tr, StA, StT, l3, z0, z1, z2, Nat.add_zero, hr4', k1, k2]
      exact hp _ K2 k3 k4
    | nil =>
      rw [hm] at l3
      obtain ⟨k1, k2, k3, k4⟩ := fin h3 K2 (0, 0) hk3 hf3
      have e : gmB w t = none := by rw [hgm, hm]; rfl
      rw [e] at hp
      simp only [gmP, Option.isSome_none] at hp
      simp (maxSteps := 1000000) (disch := first | omega | rfl | (simp only [zL, two63, room] <;> omega) | fail) only [↓reduceIte, ↓zP, zW, WOp, evOp, evBin, binI, binSh, binS, evNil, keyIs, keyEq, mkv, AV.cells, AV.sc, optv, bnd, env, put, Env.get, Env.set, Env.del, Env.dels, Env.init, res1, resL, resV, fillP, splice, newRow, Nat.reduceEqDiff, Nat.reduceLT, Nat.reduceLeDiff, Nat.reduceAdd, Nat.reduceMul, Nat.reduceSub, Nat.reduceBEq, reduceCtorEq, ↓zR, zQ, Tr, StA, StT, l3, z0, k1, k2]
      exact hp _ K2 k3 k4
theorem c_sGameMove (w : List UInt8) (t : Bool) (hw : w.length < 2 ^ 60) {h : AH} {post : AV → AH → Prop} (hp : ∀ h', Pre h h' → post (.tup [.agg (encM (gmP (mvG10 w t))), .bool (mvG10 w t).isSome]) h') : S 420 [.str w, .bool t] h post k := by
  unfold mvG10 at hp
  refine S_of rfl T420 ?_; unfold fi420
  cases e : plG10 w <;> rw [e] at hp
  · simp (maxSteps := 1000000) (disch := first | omega | rfl | (simp only [zL, two63, room] <;> omega) | fail) only [↓reduceIte, ↓zP, zW, WOp, evOp, evBin, binI, binSh, binS, evNil, keyIs, keyEq, mkv, AV.cells, AV.sc, optv, bnd, env, put, Env.get, Env.set, Env.del, Env.dels, Env.init, res1, resL, resV, fillP, splice, newRow, Nat.reduceEqDiff, Nat.reduceLT, Nat.reduceLeDiff, Nat.reduceAdd, Nat.reduceMul, Nat.reduceSub, Nat.reduceBEq, reduceCtorEq, ↓zR, zQ, Tr, StA, StT, e_gaFew w hw, e]
    exact hp _ (Pre.push _ _)
  · obtain ⟨h1, h2, h3⟩ := pl10 e
    have hl1 : (h ++ [AO.row [.int .i64 0, .int .i64 0] 0 0 false]).length = h.length + 1 := by simp
    simp (maxSteps := 1000000) (disch := first | omega | rfl | (simp only [zL, two63, room] <;> omega) | fail) only [↓reduceIte, ↓zP, zW, WOp, evOp, evBin, binI, binSh, binS, evNil, keyIs, keyEq, mkv, AV.cells, AV.sc, optv, bnd, env, put, Env.get, Env.set, Env.del, Env.dels, Env.init, res1, resL, resV, fillP, splice, newRow, Nat.reduceEqDiff, Nat.reduceLT, Nat.reduceLeDiff, Nat.reduceAdd, Nat.reduceMul, Nat.reduceSub, Nat.reduceBEq, reduceCtorEq, ↓zR, zQ, Tr, StA, StT, e_gaFew w hw, e]
    refine c_gaMove (N := w.length + 2) rfl (by omega) h3 KN.new ?_
    intro h4 K4 _ hf4
    obtain ⟨r1, r2, r3⟩ := wr_res (pre_new hf4) (gmP (gmB w t)).1 (gmP (gmB w t)).2
    simp (maxSteps := 1000000) (disch := first | omega | rfl | (simp only [zL, two63, room] <;> omega) | fail) only [↓reduceIte, ↓zP, zW, WOp, evOp, evBin, binI, binSh, binS, evNil, keyIs, keyEq, mkv, AV.cells, AV.sc, optv, bnd, env, put, Env.get, Env.set, Env.del, Env.dels, Env.init, res1, resL, resV, fillP, splice, newRow, Nat.reduceEqDiff, Nat.reduceLT, Nat.reduceLeDiff, Nat.reduceAdd, Nat.reduceMul, Nat.reduceSub, Nat.reduceBEq, reduceCtorEq, ↓zR, zQ, Tr, StA, StT, r1, r2]
    exact hp _ r3
theorem lp_sgplay {N c : Nat} (hN2 : N ≤ 14) {B : AH} (hcB : c < B.length) {R : X → Env → AH → Prop} : ∀ (n : Nat) (w : List UInt8) (t : Bool) (v : AV) (out : List (Int × Int)) (h : AH) (K : List (List UInt8)), mu w < n → w.length + 2 = N → signs w → out.length + n ≤ 2 ^ 30 → KN N c h K → FrG c B h → OwL 2 encM B h v out → NGk c h v → (∀ r, rowOf v = some r → B.length ≤ r) →
    (∀ v' h', OwL 2 encM B h' v' (out ++ plyB w t) → FrG c B h' → R .ret [(4, v'), (5, .bool true)] h') →
    Cx (.loop lp422_0) [(0, .str w), (1, .bool t), (6, .ptr c 0 0 2), (7, v)] h R k k
  | 0, _, _, _, _, _, _, hn, _, _, _, _, _, _, _, _, _ => by omega
  | n + 1, w, t, v, out, h, K, hn, hN, hg, ho, hk, hf, hv, hng, hrv, hR => by
    have ih := lp_sgplay hN2 hcB (R := R) n
    rw [w_loopb (c := lp422_0) (d := lb422_0) rfl]; unfold lb422_0
    simp (maxSteps := 1000000) (disch := first | omega | rfl | (simp only [zL, two63, room] <;> omega) | fail) only [↓reduceIte, ↓zP, zW, WOp, evOp, evBin, binI, binSh, binS, evNil, keyIs, keyEq, mkv, AV.cells, AV.sc, optv, bnd, env, put, Env.get, Env.set, Env.del, Env.dels, Env.init, res1, resL, resV, fillP, splice, newRow, Nat.reduceEqDiff, Nat.reduceLT, Nat.reduceLeDiff, Nat.reduceAdd, Nat.reduceMul, Nat.reduceSub, Nat.reduceBEq, reduceCtorEq, ↓zR, zQ, Tr, StA, StT]
    refine c_gaMove hN hN2 hg hk ?_
    intro h2 K2 hk2 hf2
    have hf02 := hf.trans hf2
    have hv2 := own_frK hv hng hf2
    have hn2 := hng.fr hf2 (fun r hr => own_lt hv hr)
    cases e : gmB w t with
    | none =>
      simp only [gmP, Option.isSome_none]
      simp (maxSteps := 1000000) (disch := first | omega | rfl | (simp only [zL, two63, room] <;> omega) | fail) only [↓reduceIte, ↓zP, zW, WOp, evOp, evBin, binI, binSh, binS, evNil, keyIs, keyEq, mkv, AV.cells, AV.sc, optv, bnd, env, put, Env.get, Env.set, Env.del, Env.dels, Env.init, res1, resL, resV, fillP, splice, newRow, Nat.reduceEqDiff, Nat.reduceLT, Nat.reduceLeDiff, Nat.reduceAdd, Nat.reduceMul, Nat.reduceSub, Nat.reduceBEq, reduceCtorEq, ↓zR, zQ, Tr, StA, StT]
      refine hR v _ ?_ (hf02.trans ((Pre.push _ _).frg hk2.lt))
      rw [plyB_none e, List.append_nil]
      exact hv2.pre (Pre.push _ _)
    | some m =>
      have hmm := gmB_mem e
      obtain ⟨i, u, rfl, hmv⟩ := movesB_mv hmm
      have pu := (Pre.push h2 (AO.row [.int .i64 i, .int .i64 u] 0 0 false)).trans (Pre.push _ (AO.row [.int .i64 i, .int .i64 u] 0 0 false))
      obtain ⟨v3, h3, ha, hv3, hn3, hk3, hle3, hfr3, hgr3⟩ := apGK hlM scM (hv2.pre pu) (Nat.le_trans hf02.1 pu.1) (fun r hr => by rw [gr_pre pu hk2.lt]; exact hn2 r hr) (hk2.pre pu) (by omega) ((i : Int), (u : Int))
      have hrow : rowOf v ≠ some h2.length := by
        intro hr
        have := own_lt hv2 hr
        omega
      have q3 : rdRow h3 h2.length 0 0 2 = some [.int .i64 i, .int .i64 u] := by
        refine rd_row (hfr3 h2.length (by simp) hrow) ?_
        exact rd_app1 (mvRow h2 i u).1
      simp only [gmP, Option.isSome_some]
      simp (maxSteps := 1000000) (disch := first | omega | rfl | (simp only [zL, two63, room] <;> omega) | fail) only [↓reduceIte, ↓zP, zW, WOp, evOp, evBin, binI, binSh, binS, evNil, keyIs, keyEq, mkv, AV.cells, AV.sc, optv, bnd, env, put, Env.get, Env.set, Env.del, Env.dels, Env.init, res1, resL, resV, fillP, splice, newRow, Nat.reduceEqDiff, Nat.reduceLT, Nat.reduceLeDiff, Nat.reduceAdd, Nat.reduceMul, Nat.reduceSub, Nat.reduceBEq, reduceCtorEq, ↓zR, zQ, Tr, StA, StT, ha, q3]
      refine c_liMake w i u hmv.1 hmv.2.1 hmv.ne (by omega) ?_
      intro h4 hp4
      simp (maxSteps := 1000000) (disch := first | omega | rfl | (simp only [zL, two63, room] <;> omega) | fail) only [↓reduceIte, ↓zP, zW, WOp, evOp, evBin, binI, binSh, binS, evNil, keyIs, keyEq, mkv, AV.cells, AV.sc, optv, bnd, env, put, Env.get, Env.set, Env.del, Env.dels, Env.init, res1, resL, resV, fillP, splice, newRow, Nat.reduceEqDiff, Nat.reduceLT, Nat.reduceLeDiff, Nat.reduceAdd, Nat.reduceMul, Nat.reduceSub, Nat.reduceBEq, reduceCtorEq, ↓zR, zQ, Tr, StA, StT]
      rw [w_loopn (c := lp422_0) rfl]
      simp (maxSteps := 1000000) (disch := first | omega | rfl | (simp only [zL, two63, room] <;> omega) | fail) only [↓reduceIte, ↓zP, zW, WOp, evOp, evBin, binI, binSh, binS, evNil, keyIs, keyEq, mkv, AV.cells, AV.sc, optv, bnd, env, put, Env.get, Env.set, Env.del, Env.dels, Env.init, res1, resL, resV, fillP, splice, newRow, Nat.reduceEqDiff, Nat.reduceLT, Nat.reduceLeDiff, Nat.reduceAdd, Nat.reduceMul, Nat.reduceSub, Nat.reduceBEq, reduceCtorEq, ↓zR, zQ, Tr, StA, StT]
      have hf3 : FrG c B h3 := (hf02.trans (pu.frg hk2.lt)).app hle3 (fun i hi _ => hfr3 i (Nat.lt_of_lt_of_le hi (Nat.le_trans hf02.1 pu.1)) (fun hr => by have := hrv _ hr; omega)) hgr3
      refine ih (madeB w i u) (!t) v3 (out ++ [((i : Int), (u : Int))]) h4 K2 (by have := mu_made hmv; omega) (by rw [madeB_length]; exact hN) (signs_madeG hg hmv.1) (by simp; omega) (hk3.pre hp4) (hf3.trans (hp4.frg hk3.lt)) (hv3.pre hp4) (fun r hr => by rw [gr_pre hp4 hk3.lt]; exact hn3 r hr) (fun r hr => own_ge hv3 hr) ?_
      intro v' h' a1 a2
      refine hR v' h' ?_ a2
      rw [plyB_some e]
      simpa using a1
theorem c_sGamePlay (w : List UInt8) (t : Bool) (hw : w.length < 2 ^ 60) {h : AH} {post : AV → AH → Prop} (hp : ∀ v h', Slc 2 encM h' v (gpG w t) → Pre h h' → post (.tup [v, .bool (plG10 w)]) h') : S 422 [.str w, .bool t] h post k := by
  unfold gpG at hp
  refine S_of rfl T422 ?_; unfold fi422
  cases e : plG10 w <;> rw [e] at hp
  · simp (maxSteps := 1000000) (disch := first | omega | rfl | (simp only [zL, two63, room] <;> omega) | fail) only [↓reduceIte, ↓zP, zW, WOp, evOp, evBin, binI, binSh, binS, evNil, keyIs, keyEq, mkv, AV.cells, AV.sc, optv, bnd, env, put, Env.get, Env.set, Env.del, Env.dels, Env.init, res1, resL, resV, fillP, splice, newRow, Nat.reduceEqDiff, Nat.reduceLT, Nat.reduceLeDiff, Nat.reduceAdd, Nat.reduceMul, Nat.reduceSub, Nat.reduceBEq, reduceCtorEq, ↓zR, zQ, Tr, StA, StT, e_gaFew w hw, e]
    exact hp _ h Slc.nil (Pre.refl h)
  · obtain ⟨h1, h2, h3⟩ := pl10 e
    have hmu := mu_leG w
    have hmm : w.length * w.length ≤ 10 * 10 := Nat.mul_le_mul h2 h2
    simp (maxSteps := 1000000) (disch := first | omega | rfl | (simp only [zL, two63, room] <;> omega) | fail) only [↓reduceIte, ↓zP, zW, WOp, evOp, evBin, binI, binSh, binS, evNil, keyIs, keyEq, mkv, AV.cells, AV.sc, optv, bnd, env, put, Env.get, Env.set, Env.del, Env.dels, Env.init, res1, resL, resV, fillP, splice, newRow, Nat.reduceEqDiff, Nat.reduceLT, Nat.reduceLeDiff, Nat.reduceAdd, Nat.reduceMul, Nat.reduceSub, Nat.reduceBEq, reduceCtorEq, ↓zR, zQ, Tr, StA, StT, e_gaFew w hw, e]
    refine lp_sgplay (N := w.length + 2) (by omega) (c := h.length) (B := h ++ [AO.row [.nilS, .nilS] 0 0 false]) (by simp) (mu w + 1) w t .nilS [] _ [] (by omega) rfl h3 (by simp; omega) KN.new (FrG.refl _ _) OwL.nil (fun r hr => by cases hr) (fun r hr => by cases hr) ?_
    intro v h3 ho3 hf3
    simp (maxSteps := 1000000) (disch := first | omega | rfl | (simp only [zL, two63, room] <;> omega) | fail) only [↓reduceIte, ↓zP, zW, WOp, evOp, evBin, binI, binSh, binS, evNil, keyIs, keyEq, mkv, AV.cells, AV.sc, optv, bnd, env, put, Env.get, Env.set, Env.del, Env.dels, Env.init, res1, resL, resV, fillP, splice, newRow, Nat.reduceEqDiff, Nat.reduceLT, Nat.reduceLeDiff, Nat.reduceAdd, Nat.reduceMul, Nat.reduceSub, Nat.reduceBEq, reduceCtorEq, ↓zR, zQ, Tr, StA, StT]
    rw [List.nil_append] at ho3
    exact hp v h3 ho3.slc (pre_new hf3)
end Go.Proofs.YtejhhdpfndiliaaGreatDoor.Ab

/- LENGTHS of games, the program's. -/
namespace Go.Proofs.YtejhhdpfndiliaaGreatDoor.Ab
open Go
set_option maxRecDepth 100000
set_option maxHeartbeats 4000000

theorem loF_snoc (l : List Nat) (y : Nat) : loF (l ++ [y]) = max (loF l) (y + 1) := by unfold loF; rw [List.foldl_append]; rfl
theorem shF_snoc {l : List Nat} (h : l ≠ []) (y : Nat) : shF (l ++ [y]) = min (shF l) (y + 1) := by
  cases l with
  | nil => exact absurd rfl h
  | cons x l => simp only [shF, List.cons_append, List.foldl_append, List.foldl_cons, List.foldl_nil]
theorem lo_le : ∀ (n : Nat) (w : List UInt8) (t : Bool), mu w < n → (lnB w t).1 ≤ mu w
  | 0, _, _, h => by omega
  | n + 1, w, t, h => by
    rw [lnB_eq w t]
    simp only [lnSt, List.map_map]
    have key : ∀ (l : List Nat) (a M : Nat), a ≤ M → (∀ y ∈ l, y + 1 ≤ M) → l.foldl (fun a y => max a (y + 1)) a ≤ M := by
      intro l
      induction l with
      | nil => intro a M ha _; exact ha
      | cons y l ih =>
        intro a M ha hl
        simp only [List.foldl_cons]
        have := hl y (by simp)
        exact ih _ M (by omega) (fun z hz => hl z (by simp [hz]))
    refine key _ 0 _ (by omega) ?_
    intro y hy
    obtain ⟨m, hm, rfl⟩ := List.mem_map.1 hy
    have h1 := mvm hm
    have h2 := lo_le n (madeB w m.1.toNat m.2.toNat) (!t) (by omega)
    simp only [Function.comp_apply]
    omega
def ln1 (w : List UInt8) (t : Bool) (m : Int × Int) : Nat := (lnB (madeB w m.1.toNat m.2.toNat) (!t)).1
def ln2 (w : List UInt8) (t : Bool) (m : Int × Int) : Nat := (lnB (madeB w m.1.toNat m.2.toNat) (!t)).2.1
def ln3 (w : List UInt8) (t : Bool) (m : Int × Int) : Nat := (lnB (madeB w m.1.toNat m.2.toNat) (!t)).2.2
/-- What is reckoned of so many moves. -/
def acL (w : List UInt8) (t : Bool) (l : List (Int × Int)) : Nat := loF (l.map (ln1 w t))
def acS (w : List UInt8) (t : Bool) (l : List (Int × Int)) : Nat := shF (l.map (ln2 w t))
def acM (w : List UInt8) (t : Bool) (l : List (Int × Int)) : Nat := (l.map (ln3 w t)).sum
theorem ac_all (w : List UInt8) (t : Bool) : (lnB w t).1 = acL w t (movesB w (kindS t)) ∧ (lnB w t).2.1 = acS w t (movesB w (kindS t)) ∧ (lnB w t).2.2 = if movesB w (kindS t) = [] then 1 else acM w t (movesB w (kindS t)) := by
  rw [lnB_eq w t]
  simp only [lnSt, List.map_map, List.map_eq_nil_iff]
  exact ⟨rfl, rfl, rfl⟩
theorem acM_le {w : List UInt8} {t : Bool} {pre rest : List (Int × Int)} (h : movesB w (kindS t) = pre ++ rest) (hg : signs w) (hl : w.length ≤ 10) : acM w t pre < 2 ^ 60 := by
  have h1 := (games_lt t hg hl).2
  rw [(ac_all w t).2.2] at h1
  have h2 : acM w t (movesB w (kindS t)) = acM w t pre + acM w t rest := by unfold acM; rw [h, List.map_append, List.sum_append]
  split at h1
  · rename_i h0
    rw [h] at h0
    have := (List.append_eq_nil_iff.1 h0).1
    subst this
    simp [acM]
  · omega
theorem ln_few {w : List UInt8} {t : Bool} {m : Int × Int} (hm : m ∈ movesB w (kindS t)) (hl : w.length ≤ 10) : ln1 w t m < 1000 ∧ ln2 w t m < 1000 := by
  obtain ⟨i, u, rfl, hmv⟩ := movesB_mv hm
  have h1 := mu_leG (madeB w i u)
  rw [madeB_length] at h1
  have h2 : w.length * w.length ≤ 10 * 10 := Nat.mul_le_mul hl hl
  have h3 := lo_le _ (madeB w i u) (!t) (Nat.lt_succ_self _)
  have h4 := sh_lo (madeB w i u) (!t)
  unfold ln1 ln2
  simp only [Int.toNat_natCast]
  omega
def lenV (s : List UInt8 × Bool) : AV := .agg [.int .i64 (lnB s.1 s.2).1, .int .i64 (lnB s.1 s.2).2.1, .int .i64 (lnB s.1 s.2).2.2]
theorem lenK_inj (s s' : List UInt8 × Bool) (h : winK s = winK s') : lenV s = lenV s' := by
  obtain ⟨w, t⟩ := s
  obtain ⟨w', t'⟩ := s'
  cases t <;> cases t' <;> simp [winK, kindS] at h ⊢ <;> subst h <;> rfl
def LenAt (c a b : Nat) (n : Nat) : Prop := ∀ (w : List UInt8) (t : Bool) (h : AH), mu w < n → signs w → w.length ≤ 10 → Mh winK lenV c h → rdRow h a 0 0 1 = some [.map c] → rdRow h b 0 0 1 = some [.fn 457 [.ptr a 0 0 1, .ptr b 0 0 1]] → ∀ post : AV → AH → Prop, (∀ h', PreX c h h' → Mh winK lenV c h' → post (lenV (w, t)) h') →
  S 457 [.str w, .bool t, .ptr a 0 0 1, .ptr b 0 0 1] h post k
theorem mmx_max (a b : Nat) : (if ((b : Nat) : Int) > (a : Int) then ((b : Nat) : Int) else (a : Int)) = ((max a b : Nat) : Int) := by
  split <;> omega
theorem mmx_min (a b : Nat) : (if ((b : Nat) : Int) < (a : Int) then ((b : Nat) : Int) else (a : Int)) = ((min a b : Nat) : Int) := by
  split <;> omega
theorem out3 {H : AH} {p : Nat} {x0 y0 z0 : AV} (h : H[p]? = some (.row [x0, y0, z0] 0 0 false)) : (∀ o, (H.set p o)[p]? = some o) ∧ rdRow H p 0 0 1 = some [x0] ∧ rdRow H p 0 1 1 = some [y0] ∧ rdRow H p 0 2 1 = some [z0] ∧
    (∀ x y z, rdRow (H.set p (.row [x, y, z] 0 0 false)) p 0 0 1 = some [x]) ∧ (∀ x y z, rdRow (H.set p (.row [x, y, z] 0 0 false)) p 0 1 1 = some [y]) ∧ (∀ x y z, rdRow (H.set p (.row [x, y, z] 0 0 false)) p 0 2 1 = some [z]) ∧
    (∀ v, wrRow H p 0 0 [.int .i64 v] = some (H.set p (.row [.int .i64 v, y0, z0] 0 0 false))) ∧ (∀ v, wrRow H p 0 1 [.int .i64 v] = some (H.set p (.row [x0, .int .i64 v, z0] 0 0 false))) ∧
    (∀ x y z v, wrRow (H.set p (.row [x, y, z] 0 0 false)) p 0 0 [.int .i64 v] = some (H.set p (.row [.int .i64 v, y, z] 0 0 false))) ∧
    (∀ x y z v, wrRow (H.set p (.row [x, y, z] 0 0 false)) p 0 1 [.int .i64 v] = some (H.set p (.row [x, .int .i64 v, z] 0 0 false))) ∧
    (∀ x y z v, wrRow (H.set p (.row [x, y, z] 0 0 false)) p 0 2 [.int .i64 v] = some (H.set p (.row [x, y, .int .i64 v] 0 0 false))) := by
  have hl := (List.getElem?_eq_some_iff.1 h).1
  have hset : ∀ o, (H.set p o)[p]? = some o := fun o => by rw [List.getElem?_set, if_pos rfl, if_pos hl]
  refine ⟨hset, by simp [rdRow, h], by simp [rdRow, h], by simp [rdRow, h], fun x y z => by simp [rdRow, hset], fun x y z => by simp [rdRow, hset], fun x y z => by simp [rdRow, hset], fun v => by simp [wrRow, h, splice, AV.sc], fun v => by simp [wrRow, h, splice, AV.sc],
    fun x y z v => by simp [wrRow, hset, splice, AV.sc], fun x y z v => by simp [wrRow, hset, splice, AV.sc], fun x y z v => by simp [wrRow, hset, splice, AV.sc]⟩
theorem oth3 {H : AH} {p q : Nat} {x0 y0 z0 : AV} (hne : q ≠ p) (h : H[q]? = some (.row [x0, y0, z0] 0 0 false)) : rdRow H q 0 0 1 = some [x0] ∧ rdRow H q 0 1 1 = some [y0] ∧ rdRow H q 0 2 1 = some [z0] ∧
    (∀ o, rdRow (H.set p o) q 0 0 1 = some [x0]) ∧ (∀ o, rdRow (H.set p o) q 0 1 1 = some [y0]) ∧ (∀ o, rdRow (H.set p o) q 0 2 1 = some [z0]) := by
  have hset : ∀ o, (H.set p o)[q]? = some (.row [x0, y0, z0] 0 0 false) := fun o => by rw [List.getElem?_set, if_neg (Ne.symm hne)]; exact h
  exact ⟨by simp [rdRow, h], by simp [rdRow, h], by simp [rdRow, h], fun o => by simp [rdRow, hset], fun o => by simp [rdRow, hset], fun o => by simp [rdRow, hset]⟩
theorem lp_len {c a b n : Nat} (ih : LenAt c a b n) (hac : a ≠ c) (hbc : b ≠ c) {w : List UInt8} {t : Bool} (hn : mu w < n + 1) (hg : signs w) (hl : w.length ≤ 10) {p6 p10 : Nat} (h10 : p10 ≠ c) (key : AV) {B : AH} (hB10 : p10 < B.length) (hBa : a < B.length) (hBb : b < B.length) (ha10 : a ≠ p10) (hb10 : b ≠ p10) {vm : AV} (hvm : Slc 2 encM B vm (movesB w (kindS t))) (hvc : ∀ r, rowOf vm = some r → r ≠ c ∧ r ≠ p10) {R : X → Env → AH → Prop} :
    ∀ (rest pre : List (Int × Int)) (h : AH), movesB w (kindS t) = pre ++ rest → Mh winK lenV c h → rdRow h a 0 0 1 = some [.map c] → rdRow h b 0 0 1 = some [.fn 457 [.ptr a 0 0 1, .ptr b 0 0 1]] → h[p10]? = some (.row [.int .i64 (acL w t pre), .int .i64 (acS w t pre), .int .i64 (acM w t pre)] 0 0 false) →
    (B.length ≤ h.length ∧ ∀ i, i < B.length → i ≠ c → i ≠ p10 → h[i]? = B[i]?) →
    (∀ h', Mh winK lenV c h' → h'[p10]? = some (.row [.int .i64 (lnB w t).1, .int .i64 (lnB w t).2.1, .int .i64 (acM w t (movesB w (kindS t)))] 0 0 false) → (B.length ≤ h'.length ∧ ∀ i, i < B.length → i ≠ c → i ≠ p10 → h'[i]? = B[i]?) → R (.exit 0) [(2, .ptr a 0 0 1), (6, .ptr p6 0 0 3), (7, key), (10, .ptr p10 0 0 3)] h') →
    Cx (.loop lp457_0) [(0, .str w), (1, .bool t), (2, .ptr a 0 0 1), (3, .ptr b 0 0 1), (6, .ptr p6 0 0 3), (7, key), (10, .ptr p10 0 0 3), (30, vm), (31, .int .i64 (movesB w (kindS t)).length), (32, .int .i64 pre.length)] h R k k := by
  intro rest
  induction rest with
  | nil =>
    intro pre h hL hm r2 r3 r10 hB hR
    have hll : (movesB w (kindS t)).length = pre.length := by rw [hL]; simp
    rw [hll]
    rw [List.append_nil] at hL
    rw [← hL, ← (ac_all w t).1, ← (ac_all w t).2.1] at r10
    rw [w_loopb (c := lp457_0) (d := lb457_0) rfl]; unfold lb457_0
    simp (maxSteps := 1000000) (disch := first | omega | rfl | (simp only [zL, two63, room] <;> omega) | fail) only [↓reduceIte, ↓zP, zW, WOp, evOp, evBin, binI, binSh, binS, evNil, keyIs, keyEq, mkv, AV.cells, AV.sc, optv, bnd, env, put, Env.get, Env.set, Env.del, Env.dels, Env.init, res1, resL, resV, fillP, splice, newRow, Nat.reduceEqDiff, Nat.reduceLT, Nat.reduceLeDiff, Nat.reduceAdd, Nat.reduceMul, Nat.reduceSub, Nat.reduceBEq, reduceCtorEq, ↓zR, zQ, Tr, StA, StT]
    exact hR h hm r10 hB
  | cons m rest ihl =>
    intro pre h hL hm r2 r3 r10 hB hR
    have hmm : m ∈ movesB w (kindS t) := by rw [hL]; simp
    obtain ⟨b1, b2⟩ := ln_few hmm hl
    have bM := acM_le (pre := pre ++ [m]) (rest := rest) (by rw [hL]; simp) hg hl
    have eL : acL w t (pre ++ [m]) = max (acL w t pre) (ln1 w t m + 1) := by unfold acL; rw [List.map_append]; exact loF_snoc _ _
    have eM : acM w t (pre ++ [m]) = acM w t pre + ln3 w t m := by unfold acM; rw [List.map_append, List.sum_append]; simp
    have hs : Slc 2 encM h vm (movesB w (kindS t)) := hvm.stay fun r hr => hB.2 r (hvm.lt hr) (hvc r hr).1 (hvc r hr).2
    obtain ⟨i, u, rfl, hmv⟩ := movesB_mv hmm
    have hlen := movesB_len w (kindS t)
    have hml : (movesB w (kindS t)).length = pre.length + 1 + rest.length := by rw [hL]; simp; omega
    have hs' := hs
    rw [hL] at hs'
    obtain ⟨r1, k1, o1, hv1, hr⟩ := hs'.at hlM
    rw [← hL, hml] at hv1
    subst hv1
    rw [hml] at ihl ⊢
    have hr' : rdRow h r1 k1 (o1 + pre.length * 2) 2 = some [.int .i64 i, .int .i64 u] := hr
    have hlt : (pre.length : Int) < ((pre.length + 1 + rest.length : Nat) : Int) := by omega
    have hw1 : (pre.length : Int) + 1 = ((pre ++ [(((i : Int), (u : Int)) : Int × Int)]).length : Int) := by simp
    have hw2 : IntKind.i64.wrap ((pre ++ [(((i : Int), (u : Int)) : Int × Int)]).length : Int) = ((pre ++ [(((i : Int), (u : Int)) : Int × Int)]).length : Int) := wrap_i (by simp; omega)
    have p1 := Pre.push h (AO.row [.int .i64 i, .int .i64 u] 0 0 false)
    have qm := (mvRow h i u).1
    have q3 := rdRow_pre p1 r3
    have hcl := hm.lt
    have h10l := (List.getElem?_eq_some_iff.1 r10).1
    rw [w_loopb (c := lp457_0) (d := lb457_0) rfl]; unfold lb457_0
    simp (maxSteps := 1000000) (disch := first | omega | rfl | (simp only [zL, two63, room] <;> omega) | fail) only [↓reduceIte, ↓zP, zW, WOp, evOp, evBin, binI, binSh, binS, evNil, keyIs, keyEq, mkv, AV.cells, AV.sc, optv, bnd, env, put, Env.get, Env.set, Env.del, Env.dels, Env.init, res1, resL, resV, fillP, splice, newRow, Nat.reduceEqDiff, Nat.reduceLT, Nat.reduceLeDiff, Nat.reduceAdd, Nat.reduceMul, Nat.reduceSub, Nat.reduceBEq, reduceCtorEq, ↓zR, zQ, Tr, StA, StT, hlt, hr']
    refine w_drw ?_
    simp (maxSteps := 1000000) (disch := first | omega | rfl | (simp only [zL, two63, room] <;> omega) | fail) only [↓reduceIte, ↓zP, zW, WOp, evOp, evBin, binI, binSh, binS, evNil, keyIs, keyEq, mkv, AV.cells, AV.sc, optv, bnd, env, put, Env.get, Env.set, Env.del, Env.dels, Env.init, res1, resL, resV, fillP, splice, newRow, Nat.reduceEqDiff, Nat.reduceLT, Nat.reduceLeDiff, Nat.reduceAdd, Nat.reduceMul, Nat.reduceSub, Nat.reduceBEq, reduceCtorEq, ↓zR, zQ, Tr, StA, StT, q3, qm]
    refine c_made w i u hmv.1 hmv.2.1 (by omega) ?_
    intro h2 hp2
    have p12 := p1.trans hp2
    have q3b := rdRow_pre hp2 q3
    have qmb := rdRow_pre hp2 qm
    simp (maxSteps := 1000000) (disch := first | omega | rfl | (simp only [zL, two63, room] <;> omega) | fail) only [↓reduceIte, ↓zP, zW, WOp, evOp, evBin, binI, binSh, binS, evNil, keyIs, keyEq, mkv, AV.cells, AV.sc, optv, bnd, env, put, Env.get, Env.set, Env.del, Env.dels, Env.init, res1, resL, resV, fillP, splice, newRow, Nat.reduceEqDiff, Nat.reduceLT, Nat.reduceLeDiff, Nat.reduceAdd, Nat.reduceMul, Nat.reduceSub, Nat.reduceBEq, reduceCtorEq, ↓zR, zQ, Tr, StA, StT, q3, qm, q3b, qmb]
    refine ih (madeB w i u) (!t) h2 (by have := mu_made hmv; omega) (signs_madeG hg hmv.1) (by rw [madeB_length]; exact hl) (hm.pre p12) (rdRow_pre p12 r2) q3b _ ?_
    intro h3 hp3 hm3
    have q3c := rdRow_prex hp3 hbc q3b
    have qmc := rdRow_prex hp3 (show h.length ≠ c by omega) qmb
    have hB3 : B.length ≤ h3.length ∧ ∀ i, i < B.length → i ≠ c → i ≠ p10 → h3[i]? = B[i]? := ⟨Nat.le_trans hB.1 (Nat.le_trans p12.1 hp3.1), fun j hj h1 h2 => by rw [hp3.2 j (by have := p12.1; have := hB.1; omega) h1, p12.2 j (by have := hB.1; omega), hB.2 j hj h1 h2]⟩
    have e10 : h3[p10]? = some (.row [.int .i64 (acL w t pre), .int .i64 (acS w t pre), .int .i64 (acM w t pre)] 0 0 false) := by rw [hp3.2 p10 (by have := p12.1; omega) h10, p12.2 p10 h10l, r10]
    have r2c := rdRow_prex hp3 hac (rdRow_pre p12 r2)
    have h3l : p10 < h3.length := (List.getElem?_eq_some_iff.1 e10).1
    have hln : lenV (madeB w i u, !t) = .agg [.int .i64 (ln1 w t ((i : Int), (u : Int))), .int .i64 (ln2 w t ((i : Int), (u : Int))), .int .i64 (ln3 w t ((i : Int), (u : Int)))] := rfl
    rw [hln]
    generalize ln1 w t ((i : Int), (u : Int)) = n1 at *
    have eS : acS w t (pre ++ [((i : Int), (u : Int))]) = if pre = [] then ln2 w t ((i : Int), (u : Int)) + 1 else min (acS w t pre) (ln2 w t ((i : Int), (u : Int)) + 1) := by
      unfold acS
      rw [List.map_append]
      split
      · rename_i h0; subst h0; rfl
      · rename_i h0; exact shF_snoc (by simpa using h0) _
    generalize ln2 w t ((i : Int), (u : Int)) = n2 at *
    generalize ln3 w t ((i : Int), (u : Int)) = n3 at *
    have hlh : h.length < h3.length := Nat.lt_of_lt_of_le (by simp) (Nat.le_trans hp2.1 hp3.1)
    obtain ⟨hset, a0, a1, a2, g0, g1, g2, u0, u1, v0, v1, v2⟩ := out3 e10
    have d : ∀ (o : AO) (off : Nat), rdRow (h3.set p10 o ++ [AO.row [.int .i64 n1, .int .i64 n2, .int .i64 n3] 0 0 false]) h3.length 0 off 1 = if off + 1 ≤ 3 then some ((([.int .i64 n1, .int .i64 n2, .int .i64 n3] : List AV).drop off).take 1) else none := by
      intro o off
      have := rd_last (h3.set p10 o) [.int .i64 n1, .int .i64 n2, .int .i64 n3] false off 1
      rwa [List.length_set] at this
    have d0 : ∀ o, rdRow (h3.set p10 o ++ [AO.row [.int .i64 n1, .int .i64 n2, .int .i64 n3] 0 0 false]) h3.length 0 0 1 = some [.int .i64 n1] := fun o => by rw [d]; rfl
    have d1 : ∀ o, rdRow (h3.set p10 o ++ [AO.row [.int .i64 n1, .int .i64 n2, .int .i64 n3] 0 0 false]) h3.length 0 1 1 = some [.int .i64 n2] := fun o => by rw [d]; rfl
    have d2 : ∀ o, rdRow (h3.set p10 o ++ [AO.row [.int .i64 n1, .int .i64 n2, .int .i64 n3] 0 0 false]) h3.length 0 2 1 = some [.int .i64 n3] := fun o => by rw [d]; rfl
    have hls : ∀ o, p10 < (h3.set p10 o).length := fun o => by rw [List.length_set]; exact h3l
    clear d
    have w1 : IntKind.i64.wrap ((n1 : Int) + 1) = ((n1 + 1 : Nat) : Int) := by rw [IntKind.wrap_i64]; omega
    have w2 : IntKind.i64.wrap ((n2 : Int) + 1) = ((n2 + 1 : Nat) : Int) := by rw [IntKind.wrap_i64]; omega
    have w3 : IntKind.i64.wrap (((acM w t pre : Nat) : Int) + (n3 : Int)) = ((acM w t pre + n3 : Nat) : Int) := by rw [IntKind.wrap_i64]; omega
    have fin : ∀ S' : Nat, S' = acS w t (pre ++ [((i : Int), (u : Int))]) → Cx (.loop lp457_0) [(0, .str w), (1, .bool t), (2, .ptr a 0 0 1), (3, .ptr b 0 0 1), (6, .ptr p6 0 0 3), (7, key), (10, .ptr p10 0 0 3), (30, .slice r1 k1 o1 (pre.length + 1 + rest.length) 2), (31, .int .i64 ((pre.length + 1 + rest.length : Nat) : Int)), (32, .int .i64 (pre ++ [((i : Int), (u : Int))]).length)]
        (h3.set p10 (.row [.int .i64 ((max (acL w t pre) (n1 + 1) : Nat) : Int), .int .i64 S', .int .i64 ((acM w t pre + n3 : Nat) : Int)] 0 0 false) ++ [AO.row [.int .i64 n1, .int .i64 n2, .int .i64 n3] 0 0 false]) R k k := by
      rintro S' rfl
      have hget : ∀ j o, j < h3.length → j ≠ p10 → (h3.set p10 o ++ [AO.row [.int .i64 n1, .int .i64 n2, .int .i64 n3] 0 0 false])[j]? = h3[j]? := fun j o h1 h2 => by rw [List.getElem?_append_left (by rw [List.length_set]; exact h1), List.getElem?_set, if_neg (Ne.symm h2)]
      have hc3 := hm3.lt
      refine ihl (pre ++ [((i : Int), (u : Int))]) _ (by rw [hL]; simp) (hm3.keep (hget c _ hc3 (Ne.symm h10))) (rd_row (hget a _ (rd_lt r2c) ha10) r2c) (rd_row (hget b _ (rd_lt q3c) hb10) q3c) (by rw [List.getElem?_append_left (hls _), hset, eL, eM]) ⟨by have := hB3.1; rw [List.length_append, List.length_set]; omega, fun j hj h1 h2 => by rw [hget j _ (by have := hB3.1; omega) h2]; exact hB3.2 j hj h1 h2⟩ hR
    by_cases h0 : pre = []
    · have k0 : (((pre.length : Nat) : Int) == 0) = true := by rw [h0]; rfl
      have z0 : acL w t pre = 0 := by rw [h0]; rfl
      simp (maxSteps := 1000000) (disch := first | omega | rfl | (simp only [zL, two63, room] <;> omega) | fail) only [↓reduceIte, ↓zP, zW, WOp, evOp, evBin, binI, binSh, binS, evNil, keyIs, keyEq, mkv, AV.cells, AV.sc, optv, bnd, env, put, Env.get, Env.set, Env.del, Env.dels, Env.init, res1, resL, resV, fillP, splice, newRow, Nat.reduceEqDiff, Nat.reduceLT, Nat.reduceLeDiff, Nat.reduceAdd, Nat.reduceMul, Nat.reduceSub, Nat.reduceBEq, reduceCtorEq, ↓zR, zQ, Tr, StA, StT, q3, qm, q3b, qmb, q3c, qmc, k0, hls, a0, a1, a2, d0, d1, d2, g0, g1, g2, u0, u1, v0, v1, v2, w1, w2, w3]
      try refine w_drw ?_
      simp (maxSteps := 1000000) (disch := first | omega | rfl | (simp only [zL, two63, room] <;> omega) | fail) only [↓reduceIte, ↓zP, zW, WOp, evOp, evBin, binI, binSh, binS, evNil, keyIs, keyEq, mkv, AV.cells, AV.sc, optv, bnd, env, put, Env.get, Env.set, Env.del, Env.dels, Env.init, res1, resL, resV, fillP, splice, newRow, Nat.reduceEqDiff, Nat.reduceLT, Nat.reduceLeDiff, Nat.reduceAdd, Nat.reduceMul, Nat.reduceSub, Nat.reduceBEq, reduceCtorEq, ↓zR, zQ, Tr, StA, StT, hls, a0, a1, a2, d0, d1, d2, g0, g1, g2, u0, u1, v0, v1, v2, w1, w2, w3, mmx_max, mmx_min, hw1, hw2]
      rw [w_loopn (c := lp457_0) rfl]
      simp (maxSteps := 1000000) (disch := first | omega | rfl | (simp only [zL, two63, room] <;> omega) | fail) only [↓reduceIte, ↓zP, zW, WOp, evOp, evBin, binI, binSh, binS, evNil, keyIs, keyEq, mkv, AV.cells, AV.sc, optv, bnd, env, put, Env.get, Env.set, Env.del, Env.dels, Env.init, res1, resL, resV, fillP, splice, newRow, Nat.reduceEqDiff, Nat.reduceLT, Nat.reduceLeDiff, Nat.reduceAdd, Nat.reduceMul, Nat.reduceSub, Nat.reduceBEq, reduceCtorEq, ↓zR, zQ, Tr, StA, StT]
      have := fin _ (by rw [eS, if_pos h0])
      rw [show max (acL w t pre) (n1 + 1) = n1 + 1 by omega] at this
      exact this
    · have k0 : (((pre.length : Nat) : Int) == 0) = false := by
        rw [beq_eq_false_iff_ne]
        intro hh
        exact h0 (List.eq_nil_of_length_eq_zero (by omega))
      simp (maxSteps := 1000000) (disch := first | omega | rfl | (simp only [zL, two63, room] <;> omega) | fail) only [↓reduceIte, ↓zP, zW, WOp, evOp, evBin, binI, binSh, binS, evNil, keyIs, keyEq, mkv, AV.cells, AV.sc, optv, bnd, env, put, Env.get, Env.set, Env.del, Env.dels, Env.init, res1, resL, resV, fillP, splice, newRow, Nat.reduceEqDiff, Nat.reduceLT, Nat.reduceLeDiff, Nat.reduceAdd, Nat.reduceMul, Nat.reduceSub, Nat.reduceBEq, reduceCtorEq, ↓zR, zQ, Tr, StA, StT, q3, qm, q3b, qmb, q3c, qmc, k0, hls, a0, a1, a2, d0, d1, d2, g0, g1, g2, u0, u1, v0, v1, v2, w1, w2, w3]
      try refine w_drw ?_
      simp (maxSteps := 1000000) (disch := first | omega | rfl | (simp only [zL, two63, room] <;> omega) | fail) only [↓reduceIte, ↓zP, zW, WOp, evOp, evBin, binI, binSh, binS, evNil, keyIs, keyEq, mkv, AV.cells, AV.sc, optv, bnd, env, put, Env.get, Env.set, Env.del, Env.dels, Env.init, res1, resL, resV, fillP, splice, newRow, Nat.reduceEqDiff, Nat.reduceLT, Nat.reduceLeDiff, Nat.reduceAdd, Nat.reduceMul, Nat.reduceSub, Nat.reduceBEq, reduceCtorEq, ↓zR, zQ, Tr, StA, StT, hls, a0, a1, a2, d0, d1, d2, g0, g1, g2, u0, u1, v0, v1, v2, w1, w2, w3, mmx_max, mmx_min, hw1, hw2]
      rw [w_loopn (c := lp457_0) rfl]
      simp (maxSteps := 1000000) (disch := first | omega | rfl | (simp only [zL, two63, room] <;> omega) | fail) only [↓reduceIte, ↓zP, zW, WOp, evOp, evBin, binI, binSh, binS, evNil, keyIs, keyEq, mkv, AV.cells, AV.sc, optv, bnd, env, put, Env.get, Env.set, Env.del, Env.dels, Env.init, res1, resL, resV, fillP, splice, newRow, Nat.reduceEqDiff, Nat.reduceLT, Nat.reduceLeDiff, Nat.reduceAdd, Nat.reduceMul, Nat.reduceSub, Nat.reduceBEq, reduceCtorEq, ↓zR, zQ, Tr, StA, StT]
      exact fin _ (by rw [eS, if_neg h0])
theorem u2of {H : AH} {p : Nat} {x0 y0 z0 : AV} (h : H[p]? = some (.row [x0, y0, z0] 0 0 false)) (v : Int) : wrRow H p 0 2 [.int .i64 v] = some (H.set p (.row [x0, y0, .int .i64 v] 0 0 false)) := by simp [wrRow, h, splice, AV.sc]
theorem w3of {H : AH} {p : Nat} {x0 y0 z0 : AV} (h : H[p]? = some (.row [x0, y0, z0] 0 0 false)) (x y z : Int) : wrRow H p 0 0 [.int .i64 x, .int .i64 y, .int .i64 z] = some (H.set p (.row [.int .i64 x, .int .i64 y, .int .i64 z] 0 0 false)) := by simp [wrRow, h, splice, AV.sc]
theorem r3of {H : AH} {p : Nat} {x0 y0 z0 : AV} (h : H[p]? = some (.row [x0, y0, z0] 0 0 false)) : rdRow H p 0 0 3 = some [x0, y0, z0] := by simp [rdRow, h]
theorem c_len {c a b : Nat} (hac : a ≠ c) (hbc : b ≠ c) : ∀ n : Nat, LenAt c a b n
  | 0 => fun w t h hn _ _ _ _ _ _ _ => by omega
  | n + 1 => by
    intro w t h hn hg hl hm r2 r3 post hp
    have ih := c_len hac hbc n
    have hlt := hm.lt
    have hal := rd_lt r2
    have hbl := rd_lt r3
    have hm0 := hm
    obtain ⟨es, he, hks, hgood⟩ := hm
    have p1 := Pre.push h (AO.row [.int .i64 0, .int .i64 0, .int .i64 0] 0 0 false)
    have hm1 : (h ++ [AO.row [.int .i64 0, .int .i64 0, .int .i64 0] 0 0 false])[c]? = some (.map es) := by rw [p1.2 c hlt, he]
    have q2 := rdRow_pre p1 r2
    obtain ⟨o, ho⟩ := mfind_some hks (kindS t ++ w)
    have hkl := kindS_len t
    have hadd : (kindS t).length + w.length ≤ two63 := by simp only [two63]; omega
    refine S_of rfl T457 ?_; unfold fi457
    cases o with
    | some v =>
      obtain rfl : v = lenV (w, t) := hgood (w, t) v ho
      simp only [lenV] at ho hp
      simp (maxSteps := 1000000) (disch := first | omega | rfl | (simp only [zL, two63, room] <;> omega) | fail) only [↓reduceIte, ↓zP, zW, WOp, evOp, evBin, binI, binSh, binS, evNil, keyIs, keyEq, mkv, AV.cells, AV.sc, optv, bnd, env, put, Env.get, Env.set, Env.del, Env.dels, Env.init, res1, resL, resV, fillP, splice, newRow, Nat.reduceEqDiff, Nat.reduceLT, Nat.reduceLeDiff, Nat.reduceAdd, Nat.reduceMul, Nat.reduceSub, Nat.reduceBEq, reduceCtorEq, ↓zR, zQ, Tr, StA, StT, e_kindOf, hadd, q2, hm1, ho]
      exact hp _ (((Pre.push h _).trans (Pre.push _ _)).x c) (hm0.pre ((Pre.push h _).trans (Pre.push _ _)))
    | none =>
      have pp := (Pre.push h (AO.row [.int .i64 0, .int .i64 0, .int .i64 0] 0 0 false)).trans ((Pre.push _ (AO.row [.int .i64 0, .int .i64 0, .int .i64 0] 0 0 false)).trans (Pre.push _ (AO.row [.int .i64 0, .int .i64 0, .int .i64 0] 0 0 false)))
      have hl2 : (h ++ [AO.row [.int .i64 0, .int .i64 0, .int .i64 0] 0 0 false] ++ [AO.row [.int .i64 0, .int .i64 0, .int .i64 0] 0 0 false]).length = h.length + 2 := by simp
      have hl3 : (h ++ [AO.row [.int .i64 0, .int .i64 0, .int .i64 0] 0 0 false] ++ [AO.row [.int .i64 0, .int .i64 0, .int .i64 0] 0 0 false] ++ [AO.row [.int .i64 0, .int .i64 0, .int .i64 0] 0 0 false]).length = h.length + 3 := by simp
      have x6 : (h ++ [AO.row [.int .i64 0, .int .i64 0, .int .i64 0] 0 0 false] ++ [AO.row [.int .i64 0, .int .i64 0, .int .i64 0] 0 0 false] ++ [AO.row [.int .i64 0, .int .i64 0, .int .i64 0] 0 0 false])[h.length]? = some (.row [.int .i64 0, .int .i64 0, .int .i64 0] 0 0 false) := by
        rw [List.getElem?_append_left (by simp), List.getElem?_append_left (by simp)]; simp
      have x10 : (h ++ [AO.row [.int .i64 0, .int .i64 0, .int .i64 0] 0 0 false] ++ [AO.row [.int .i64 0, .int .i64 0, .int .i64 0] 0 0 false] ++ [AO.row [.int .i64 0, .int .i64 0, .int .i64 0] 0 0 false])[h.length + 2]? = some (.row [.int .i64 0, .int .i64 0, .int .i64 0] 0 0 false) := by
        rw [← hl2]; simp
      simp (maxSteps := 1000000) (disch := first | omega | rfl | (simp only [zL, two63, room] <;> omega) | fail) only [↓reduceIte, ↓zP, zW, WOp, evOp, evBin, binI, binSh, binS, evNil, keyIs, keyEq, mkv, AV.cells, AV.sc, optv, bnd, env, put, Env.get, Env.set, Env.del, Env.dels, Env.init, res1, resL, resV, fillP, splice, newRow, Nat.reduceEqDiff, Nat.reduceLT, Nat.reduceLeDiff, Nat.reduceAdd, Nat.reduceMul, Nat.reduceSub, Nat.reduceBEq, reduceCtorEq, ↓zR, zQ, Tr, StA, StT, e_kindOf, hadd, q2, hm1, ho]
      refine c_moves w (kindS t) (by omega) ?_
      intro vm h2 ho2 hp2
      have hoL : OwL 2 encM _ h2 vm (movesB w (kindS t)) := ho2
      have hown : ∀ r, rowOf vm = some r → h.length + 3 ≤ r := fun r hr => by have := own_ge ho2 hr; rw [hl3] at this; exact this
      have h2l := hp2.1
      rw [hl3] at h2l
      have e6 : h2[h.length]? = some (.row [.int .i64 0, .int .i64 0, .int .i64 0] 0 0 false) := by rw [hp2.2 _ (by rw [hl3]; omega), x6]
      have e10 : h2[h.length + 2]? = some (.row [.int .i64 0, .int .i64 0, .int .i64 0] 0 0 false) := by rw [hp2.2 _ (by rw [hl3]; omega), x10]
      have pp2 := pp.trans hp2
      have lv := fun g => Slc.lenV (hoL.slc) (g := g) (ρ := fun _ => _) (x := .t 0) rfl; simp only [evOp] at lv
      simp only [hl2]
      simp (maxSteps := 1000000) (disch := first | omega | rfl | (simp only [zL, two63, room] <;> omega) | fail) only [↓reduceIte, ↓zP, zW, WOp, evOp, evBin, binI, binSh, binS, evNil, keyIs, keyEq, mkv, AV.cells, AV.sc, optv, bnd, env, put, Env.get, Env.set, Env.del, Env.dels, Env.init, res1, resL, resV, fillP, splice, newRow, Nat.reduceEqDiff, Nat.reduceLT, Nat.reduceLeDiff, Nat.reduceAdd, Nat.reduceMul, Nat.reduceSub, Nat.reduceBEq, reduceCtorEq, ↓zR, zQ, Tr, StA, StT, lv]
      refine lp_len ih hac hbc hn hg hl (p6 := h.length) (p10 := h.length + 2) (by omega) (.str (kindS t ++ w)) (B := h2) (by omega) (by omega) (by omega) (by omega) (by omega) hoL.slc (fun r hr => by have := hown r hr; omega) (movesB w (kindS t)) [] h2 rfl (hm0.pre pp2) (rdRow_pre pp2 r2) (rdRow_pre pp2 r3) e10 ⟨Nat.le_refl _, fun _ _ _ _ => rfl⟩ ?_
      intro h3 hm3 k10 hB3
      have k6 : h3[h.length]? = some (.row [.int .i64 0, .int .i64 0, .int .i64 0] 0 0 false) := by rw [hB3.2 _ (by omega) (by omega) (by omega), e6]
      have ka : rdRow h3 a 0 0 1 = some [.map c] := rd_row (hB3.2 a (by omega) hac (by omega)) (rdRow_pre pp2 r2)
      have hM : max 1 (acM w t (movesB w (kindS t))) = (lnB w t).2.2 := by
        have h1 := (games_lt t hg hl).1
        have h4 := (ac_all w t).2.2
        by_cases h0 : movesB w (kindS t) = []
        · rw [if_pos h0] at h4
          rw [h4, h0]; rfl
        · rw [if_neg h0] at h4
          omega
      obtain ⟨hset, a0, a1, a2, g0, g1, g2, u0, u1, v0, v1, v2⟩ := out3 k10
      have u2 := u2of k10
      have hc3 := hm3.lt
      have hm4 : Mh winK lenV c (h3.set (h.length + 2) (.row [.int .i64 (lnB w t).1, .int .i64 (lnB w t).2.1, .int .i64 (lnB w t).2.2] 0 0 false)) := hm3.keep (by rw [List.getElem?_set, if_neg (by omega)])
      obtain ⟨es4, f1, ⟨o4, f2⟩, hm5⟩ := hm4.put lenK_inj (w, t)
      have r10 := r3of (hset (.row [.int .i64 (lnB w t).1, .int .i64 (lnB w t).2.1, .int .i64 (lnB w t).2.2] 0 0 false))
      have ka4 : rdRow (h3.set (h.length + 2) (.row [.int .i64 (lnB w t).1, .int .i64 (lnB w t).2.1, .int .i64 (lnB w t).2.2] 0 0 false)) a 0 0 1 = some [.map c] := by rw [rd_ne (by omega)]; exact ka
      have r10' : ∀ es, rdRow ((h3.set (h.length + 2) (.row [.int .i64 (lnB w t).1, .int .i64 (lnB w t).2.1, .int .i64 (lnB w t).2.2] 0 0 false)).set c (.map es)) (h.length + 2) 0 0 3 = some [.int .i64 (lnB w t).1, .int .i64 (lnB w t).2.1, .int .i64 (lnB w t).2.2] := fun es => by rw [rd_ne (by omega)]; exact r10
      have k6' : ∀ es, ((h3.set (h.length + 2) (.row [.int .i64 (lnB w t).1, .int .i64 (lnB w t).2.1, .int .i64 (lnB w t).2.2] 0 0 false)).set c (.map es))[h.length]? = some (.row [.int .i64 0, .int .i64 0, .int .i64 0] 0 0 false) := fun es => by rw [List.getElem?_set, if_neg (by omega), List.getElem?_set, if_neg (by omega), k6]
      have s6 := fun es => w3of (k6' es) (lnB w t).1 (lnB w t).2.1 (lnB w t).2.2
      have z6 : ∀ es, rdRow (((h3.set (h.length + 2) (.row [.int .i64 (lnB w t).1, .int .i64 (lnB w t).2.1, .int .i64 (lnB w t).2.2] 0 0 false)).set c (.map es)).set h.length (.row [.int .i64 (lnB w t).1, .int .i64 (lnB w t).2.1, .int .i64 (lnB w t).2.2] 0 0 false)) h.length 0 0 3 = some [.int .i64 (lnB w t).1, .int .i64 (lnB w t).2.1, .int .i64 (lnB w t).2.2] := fun es => r3of (by rw [List.getElem?_set, if_pos rfl, if_pos (List.getElem?_eq_some_iff.1 (k6' es)).1])
      have hmx : (if ((acM w t (movesB w (kindS t)) : Nat) : Int) > 1 then ((acM w t (movesB w (kindS t)) : Nat) : Int) else 1) = (((lnB w t).2.2 : Nat) : Int) := by
        rw [← hM]; split <;> omega
      simp only [lenV, winK] at f2 hm5 hp
      simp (maxSteps := 1000000) (disch := first | omega | rfl | (simp only [zL, two63, room] <;> omega) | fail) only [↓reduceIte, ↓zP, zW, WOp, evOp, evBin, binI, binSh, binS, evNil, keyIs, keyEq, mkv, AV.cells, AV.sc, optv, bnd, env, put, Env.get, Env.set, Env.del, Env.dels, Env.init, res1, resL, resV, fillP, splice, newRow, Nat.reduceEqDiff, Nat.reduceLT, Nat.reduceLeDiff, Nat.reduceAdd, Nat.reduceMul, Nat.reduceSub, Nat.reduceBEq, reduceCtorEq, ↓zR, zQ, Tr, StA, StT, a2, hmx, u2, ka4, f1, f2, r10, r10', s6, z6]
      refine hp _ ⟨?_, fun i hi hic => ?_⟩ (hm5.keep (by rw [List.getElem?_set, if_neg (by omega)]))
      · have := hB3.1
        simp only [List.length_set]; omega
      · rw [List.getElem?_set, if_neg (by omega), List.getElem?_set, if_neg (by omega), List.getElem?_set, if_neg (by omega), hB3.2 i (by omega) hic (by omega), pp2.2 i hi]
def lnI (w : List UInt8) (t : Bool) : Nat × Nat × Nat := if plG10 w then lnB w t else (0, 0, 0)
theorem c_gamesFrom (w : List UInt8) (t : Bool) (hw : w.length < 2 ^ 60) {h : AH} {post : AV → AH → Prop} (hp : ∀ h', Pre h h' → post (.tup [.agg [.int .i64 (lnI w t).1, .int .i64 (lnI w t).2.1, .int .i64 (lnI w t).2.2], .bool (plG10 w)]) h') : S 452 [.str w, .bool t] h post k := by
  unfold lnI at hp
  refine S_of rfl T452 ?_; unfold fi452
  cases e : plG10 w <;> rw [e] at hp
  · simp (maxSteps := 1000000) (disch := first | omega | rfl | (simp only [zL, two63, room] <;> omega) | fail) only [↓reduceIte, ↓zP, zW, WOp, evOp, evBin, binI, binSh, binS, evNil, keyIs, keyEq, mkv, AV.cells, AV.sc, optv, bnd, env, put, Env.get, Env.set, Env.del, Env.dels, Env.init, res1, resL, resV, fillP, splice, newRow, Nat.reduceEqDiff, Nat.reduceLT, Nat.reduceLeDiff, Nat.reduceAdd, Nat.reduceMul, Nat.reduceSub, Nat.reduceBEq, reduceCtorEq, ↓zR, zQ, Tr, StA, StT, e_isPlayed w hw, e]
    exact hp _ (Pre.push _ _)
  · obtain ⟨h1, h2, h3⟩ := pl10 e
    have pA := Pre.push h (AO.row [.int .i64 0, .int .i64 0, .int .i64 0] 0 0 false)
    have pB := Pre.push (h ++ [AO.row [.int .i64 0, .int .i64 0, .int .i64 0] 0 0 false]) (AO.map [])
    have pC := Pre.push (h ++ [AO.row [.int .i64 0, .int .i64 0, .int .i64 0] 0 0 false] ++ [AO.map []]) (AO.row [.map (h.length + 1)] 0 0 false)
    have pD := Pre.push (h ++ [AO.row [.int .i64 0, .int .i64 0, .int .i64 0] 0 0 false] ++ [AO.map []] ++ [AO.row [.map (h.length + 1)] 0 0 false]) (AO.row [.fn 457 [.ptr (h.length + 2) 0 0 1, .ptr (h.length + 3) 0 0 1]] 0 0 false)
    have l1 : (h ++ [AO.row [.int .i64 0, .int .i64 0, .int .i64 0] 0 0 false]).length = h.length + 1 := by simp
    have l2 : (h ++ [AO.row [.int .i64 0, .int .i64 0, .int .i64 0] 0 0 false] ++ [AO.map []]).length = h.length + 2 := by simp
    have l3 : (h ++ [AO.row [.int .i64 0, .int .i64 0, .int .i64 0] 0 0 false] ++ [AO.map []] ++ [AO.row [.map (h.length + 1)] 0 0 false]).length = h.length + 3 := by simp
    have hmA : Mh winK lenV (h.length + 1) (h ++ [AO.row [.int .i64 0, .int .i64 0, .int .i64 0] 0 0 false] ++ [AO.map []]) := Mh.new' l1.symm
    have rA : rdRow (h ++ [AO.row [.int .i64 0, .int .i64 0, .int .i64 0] 0 0 false] ++ [AO.map []] ++ [AO.row [.map (h.length + 1)] 0 0 false]) (h.length + 2) 0 0 1 = some [.map (h.length + 1)] := by rw [← l2, rd_last, if_pos (by simp)]; simp
    have rB : rdRow (h ++ [AO.row [.int .i64 0, .int .i64 0, .int .i64 0] 0 0 false] ++ [AO.map []] ++ [AO.row [.map (h.length + 1)] 0 0 false] ++ [AO.row [.fn 457 [.ptr (h.length + 2) 0 0 1, .ptr (h.length + 3) 0 0 1]] 0 0 false]) (h.length + 3) 0 0 1 = some [.fn 457 [.ptr (h.length + 2) 0 0 1, .ptr (h.length + 3) 0 0 1]] := by rw [← l3, rd_last, if_pos (by simp)]; simp
    have k4 : (h ++ [AO.row [.int .i64 0, .int .i64 0, .int .i64 0] 0 0 false] ++ [AO.map []] ++ [AO.row [.map (h.length + 1)] 0 0 false] ++ [AO.row [.fn 457 [.ptr (h.length + 2) 0 0 1, .ptr (h.length + 3) 0 0 1]] 0 0 false])[h.length]? = some (.row [.int .i64 0, .int .i64 0, .int .i64 0] 0 0 false) := by
      rw [List.getElem?_append_left (by simp), List.getElem?_append_left (by simp), List.getElem?_append_left (by simp)]; simp
    have p4 := (pA.trans pB).trans (pC.trans pD)
    simp (maxSteps := 1000000) (disch := first | omega | rfl | (simp only [zL, two63, room] <;> omega) | fail) only [↓reduceIte, ↓zP, zW, WOp, evOp, evBin, binI, binSh, binS, evNil, keyIs, keyEq, mkv, AV.cells, AV.sc, optv, bnd, env, put, Env.get, Env.set, Env.del, Env.dels, Env.init, res1, resL, resV, fillP, splice, newRow, Nat.reduceEqDiff, Nat.reduceLT, Nat.reduceLeDiff, Nat.reduceAdd, Nat.reduceMul, Nat.reduceSub, Nat.reduceBEq, reduceCtorEq, ↓zR, zQ, Tr, StA, StT, e_isPlayed w hw, e]
    simp only [l1, l2, l3]
    refine c_len (c := h.length + 1) (a := h.length + 2) (b := h.length + 3) (by omega) (by omega) (mu w + 1) w t _ (by omega) h3 h2 ((hmA.pre pC).pre pD) (rdRow_pre pD rA) rB _ ?_
    intro h5 hp5 hm5
    have k5 : h5[h.length]? = some (.row [.int .i64 0, .int .i64 0, .int .i64 0] 0 0 false) := by rw [hp5.2 _ (List.getElem?_eq_some_iff.1 k4).1 (by omega), k4]
    have s5 := w3of k5 (lnB w t).1 (lnB w t).2.1 (lnB w t).2.2
    have z5 := r3of (show (h5.set h.length (.row [.int .i64 (lnB w t).1, .int .i64 (lnB w t).2.1, .int .i64 (lnB w t).2.2] 0 0 false))[h.length]? = _ by rw [List.getElem?_set, if_pos rfl, if_pos (List.getElem?_eq_some_iff.1 k5).1])
    simp only [lenV]
    simp (maxSteps := 1000000) (disch := first | omega | rfl | (simp only [zL, two63, room] <;> omega) | fail) only [↓reduceIte, ↓zP, zW, WOp, evOp, evBin, binI, binSh, binS, evNil, keyIs, keyEq, mkv, AV.cells, AV.sc, optv, bnd, env, put, Env.get, Env.set, Env.del, Env.dels, Env.init, res1, resL, resV, fillP, splice, newRow, Nat.reduceEqDiff, Nat.reduceLT, Nat.reduceLeDiff, Nat.reduceAdd, Nat.reduceMul, Nat.reduceSub, Nat.reduceBEq, reduceCtorEq, ↓zR, zQ, Tr, StA, StT, s5, z5]
    refine hp _ ⟨?_, fun i hi => ?_⟩
    · have := hp5.1
      simp only [List.length_set, List.length_append, List.length_cons, List.length_nil] at this ⊢; omega
    · rw [List.getElem?_set, if_neg (by omega), hp5.2 i (Nat.lt_of_lt_of_le hi p4.1) (by omega), p4.2 i hi]
theorem c_LongestGame (w : List UInt8) (t : Bool) (hw : w.length < 2 ^ 60) {h : AH} {post : AV → AH → Prop} (hp : ∀ h', Pre h h' → post (.tup [.int .i64 ((lnI w t).1 : Nat), .bool (plG10 w)]) h') : S 423 [.str w, .bool t] h post k := by
  refine S_of rfl T423 ?_; unfold fi423
  simp (maxSteps := 1000000) (disch := first | omega | rfl | (simp only [zL, two63, room] <;> omega) | fail) only [↓reduceIte, ↓zP, zW, WOp, evOp, evBin, binI, binSh, binS, evNil, keyIs, keyEq, mkv, AV.cells, AV.sc, optv, bnd, env, put, Env.get, Env.set, Env.del, Env.dels, Env.init, res1, resL, resV, fillP, splice, newRow, Nat.reduceEqDiff, Nat.reduceLT, Nat.reduceLeDiff, Nat.reduceAdd, Nat.reduceMul, Nat.reduceSub, Nat.reduceBEq, reduceCtorEq, ↓zR, zQ, Tr, StA, StT]
  refine c_gamesFrom w t hw ?_
  intro h2 hp2
  simp (maxSteps := 1000000) (disch := first | omega | rfl | (simp only [zL, two63, room] <;> omega) | fail) only [↓reduceIte, ↓zP, zW, WOp, evOp, evBin, binI, binSh, binS, evNil, keyIs, keyEq, mkv, AV.cells, AV.sc, optv, bnd, env, put, Env.get, Env.set, Env.del, Env.dels, Env.init, res1, resL, resV, fillP, splice, newRow, Nat.reduceEqDiff, Nat.reduceLT, Nat.reduceLeDiff, Nat.reduceAdd, Nat.reduceMul, Nat.reduceSub, Nat.reduceBEq, reduceCtorEq, ↓zR, zQ, Tr, StA, StT]
  exact hp _ (hp2.trans (Pre.push _ _))
theorem c_ShortestGame (w : List UInt8) (t : Bool) (hw : w.length < 2 ^ 60) {h : AH} {post : AV → AH → Prop} (hp : ∀ h', Pre h h' → post (.tup [.int .i64 ((lnI w t).2.1 : Nat), .bool (plG10 w)]) h') : S 425 [.str w, .bool t] h post k := by
  refine S_of rfl T425 ?_; unfold fi425
  simp (maxSteps := 1000000) (disch := first | omega | rfl | (simp only [zL, two63, room] <;> omega) | fail) only [↓reduceIte, ↓zP, zW, WOp, evOp, evBin, binI, binSh, binS, evNil, keyIs, keyEq, mkv, AV.cells, AV.sc, optv, bnd, env, put, Env.get, Env.set, Env.del, Env.dels, Env.init, res1, resL, resV, fillP, splice, newRow, Nat.reduceEqDiff, Nat.reduceLT, Nat.reduceLeDiff, Nat.reduceAdd, Nat.reduceMul, Nat.reduceSub, Nat.reduceBEq, reduceCtorEq, ↓zR, zQ, Tr, StA, StT]
  refine c_gamesFrom w t hw ?_
  intro h2 hp2
  simp (maxSteps := 1000000) (disch := first | omega | rfl | (simp only [zL, two63, room] <;> omega) | fail) only [↓reduceIte, ↓zP, zW, WOp, evOp, evBin, binI, binSh, binS, evNil, keyIs, keyEq, mkv, AV.cells, AV.sc, optv, bnd, env, put, Env.get, Env.set, Env.del, Env.dels, Env.init, res1, resL, resV, fillP, splice, newRow, Nat.reduceEqDiff, Nat.reduceLT, Nat.reduceLeDiff, Nat.reduceAdd, Nat.reduceMul, Nat.reduceSub, Nat.reduceBEq, reduceCtorEq, ↓zR, zQ, Tr, StA, StT]
  exact hp _ (hp2.trans (Pre.push _ _))
theorem c_CountGames (w : List UInt8) (t : Bool) (hw : w.length < 2 ^ 60) {h : AH} {post : AV → AH → Prop} (hp : ∀ h', Pre h h' → post (.tup [.int .i64 ((lnI w t).2.2 : Nat), .bool (plG10 w)]) h') : S 427 [.str w, .bool t] h post k := by
  refine S_of rfl T427 ?_; unfold fi427
  simp (maxSteps := 1000000) (disch := first | omega | rfl | (simp only [zL, two63, room] <;> omega) | fail) only [↓reduceIte, ↓zP, zW, WOp, evOp, evBin, binI, binSh, binS, evNil, keyIs, keyEq, mkv, AV.cells, AV.sc, optv, bnd, env, put, Env.get, Env.set, Env.del, Env.dels, Env.init, res1, resL, resV, fillP, splice, newRow, Nat.reduceEqDiff, Nat.reduceLT, Nat.reduceLeDiff, Nat.reduceAdd, Nat.reduceMul, Nat.reduceSub, Nat.reduceBEq, reduceCtorEq, ↓zR, zQ, Tr, StA, StT]
  refine c_gamesFrom w t hw ?_
  intro h2 hp2
  simp (maxSteps := 1000000) (disch := first | omega | rfl | (simp only [zL, two63, room] <;> omega) | fail) only [↓reduceIte, ↓zP, zW, WOp, evOp, evBin, binI, binSh, binS, evNil, keyIs, keyEq, mkv, AV.cells, AV.sc, optv, bnd, env, put, Env.get, Env.set, Env.del, Env.dels, Env.init, res1, resL, resV, fillP, splice, newRow, Nat.reduceEqDiff, Nat.reduceLT, Nat.reduceLeDiff, Nat.reduceAdd, Nat.reduceMul, Nat.reduceSub, Nat.reduceBEq, reduceCtorEq, ↓zR, zQ, Tr, StA, StT]
  exact hp _ (hp2.trans (Pre.push _ _))
end Go.Proofs.YtejhhdpfndiliaaGreatDoor.Ab

/- LENGTHS of games, the reference's: what is known lies in slices of one struct. -/
namespace Go.Proofs.YtejhhdpfndiliaaGreatDoor.Ab
open Go
set_option maxRecDepth 100000
set_option maxHeartbeats 4000000

/-! ### A struct of slices of one's own -/
def KS (c : Nat) (h : AH) (vs : List AV) (Ls : List (List AV)) : Prop := h[c]? = some (.row vs 0 0 false) ∧ vs.length = Ls.length ∧ (∀ (j : Nat) v L, vs[j]? = some v → Ls[j]? = some L → Own 1 [] h v L.length L) ∧
  (∀ (j : Nat) v, vs[j]? = some v → rowOf v ≠ some c) ∧ ∀ (i j : Nat) u v r, i ≠ j → vs[i]? = some u → vs[j]? = some v → rowOf u = some r → rowOf v ≠ some r
def grS (c : Nat) (h : AH) (i : Nat) : Prop := i = c ∨ ∃ vs v, h[c]? = some (.row vs 0 0 false) ∧ v ∈ vs ∧ rowOf v = some i
def FrS (c : Nat) (h h' : AH) : Prop := h.length ≤ h'.length ∧ ∀ i, i < h.length → ¬ grS c h i → h'[i]? = h[i]? ∧ ¬ grS c h' i
theorem FrS.refl (c : Nat) (h : AH) : FrS c h h := ⟨Nat.le_refl _, fun _ _ hg => ⟨rfl, hg⟩⟩
theorem FrS.trans {c : Nat} {x y z : AH} (p : FrS c x y) (q : FrS c y z) : FrS c x z := ⟨Nat.le_trans p.1 q.1, fun i hi hg => by
  obtain ⟨h1, h2⟩ := p.2 i hi hg
  obtain ⟨h3, h4⟩ := q.2 i (Nat.lt_of_lt_of_le hi p.1) h2
  exact ⟨by rw [h3, h1], h4⟩⟩
theorem grS_pre {c : Nat} {h h' : AH} (hp : Pre h h') (hc : c < h.length) (i : Nat) : grS c h' i ↔ grS c h i := by
  unfold grS; rw [hp.2 c hc]
theorem Pre.frs {c : Nat} {h h' : AH} (hp : Pre h h') (hc : c < h.length) : FrS c h h' := ⟨hp.1, fun i hi hg => ⟨hp.2 i hi, by rw [grS_pre hp hc]; exact hg⟩⟩
section
variable {c : Nat} {h h' : AH} {vs : List AV} {Ls : List (List AV)}
theorem KS.lt (hk : KS c h vs Ls) : c < h.length := (List.getElem?_eq_some_iff.1 hk.1).1
theorem KS.gr_iff (hk : KS c h vs Ls) (i : Nat) : grS c h i ↔ i = c ∨ ∃ v ∈ vs, rowOf v = some i := by
  unfold grS
  constructor
  · rintro (rfl | ⟨us, v, h1, h2, h3⟩)
    · exact .inl rfl
    · rw [hk.1] at h1
      simp only [Option.some.injEq, AO.row.injEq, and_true] at h1
      subst h1
      exact .inr ⟨v, h2, h3⟩
  · rintro (rfl | ⟨v, h2, h3⟩)
    · exact .inl rfl
    · exact .inr ⟨vs, v, hk.1, h2, h3⟩
theorem KS.gr_lt (hk : KS c h vs Ls) {i : Nat} (hg : grS c h i) : i < h.length := by
  rcases (hk.gr_iff i).1 hg with rfl | ⟨v, h2, h3⟩
  · exact hk.lt
  · obtain ⟨j, hj⟩ := List.mem_iff_getElem?.1 h2
    have hjl := (List.getElem?_eq_some_iff.1 hj).1
    exact own_lt (hk.2.2.1 j v (Ls[j]'(by rw [← hk.2.1]; exact hjl)) hj (by simp)) h3
theorem KS.pre (hk : KS c h vs Ls) (hp : Pre h h') : KS c h' vs Ls := by
  have := hk.lt
  exact ⟨by rw [hp.2 c this]; exact hk.1, hk.2.1, fun j v L h1 h2 => Own.pre hp (hk.2.2.1 j v L h1 h2), hk.2.2.2⟩
theorem KS.fresh (hk : KS c h vs Ls) (hp : Pre h h') {r : Nat} (hr : h.length ≤ r) : ¬ grS c h' r := by
  rw [grS_pre hp hk.lt]
  intro hg
  have := hk.gr_lt hg
  omega
theorem KS.rd (hk : KS c h vs Ls) {j : Nat} {v : AV} (hv : vs[j]? = some v) : rdRow h c 0 j 1 = some [v] := by
  have hj := (List.getElem?_eq_some_iff.1 hv).1
  rw [rd_of hk.1 ⟨Nat.le_refl _, Nat.le_refl _, by omega⟩, List.drop_eq_getElem_cons hj]
  obtain ⟨_, e⟩ := List.getElem?_eq_some_iff.1 hv
  rw [e]; rfl
/-- One element more in one of the slices. -/
theorem KS.push (hk : KS c h vs Ls) {j : Nat} {v : AV} {L : List AV} (hv : vs[j]? = some v) (hL : Ls[j]? = some L) (hl : L.length + 1 ≤ 1099511627776) {x : AV} (hx : x.sc = true) :
    ∃ v' g1, apRow (h ++ [.row [x] 0 0 false]) 1 v 1 [x] = some (v', g1) ∧ v'.cells = [v'] ∧ v'.sc = true ∧ wrRow g1 c 0 j [v'] = some (g1.set c (.row (vs.set j v') 0 0 false)) ∧ KS c (g1.set c (.row (vs.set j v') 0 0 false)) (vs.set j v') (Ls.set j (L ++ [x])) ∧
      FrS c h (g1.set c (.row (vs.set j v') 0 0 false)) := by
  have pu := Pre.push h (AO.row [x] 0 0 false)
  have hk1 := hk.pre pu
  have ho := hk1.2.2.1 j v L hv hL
  obtain ⟨v', g1, ha, ho', hag⟩ := ap_ag (b := []) ho (by simp) (q := 1) (vs := [x]) (by simp) (by simp [hx]) hl
  obtain ⟨f1, f2, f3⟩ := apRow_fr ha
  have hcl := hk1.lt
  have hjl := (List.getElem?_eq_some_iff.1 hv).1
  have hjl2 := (List.getElem?_eq_some_iff.1 hL).1
  have hcv : v'.cells = [v'] ∧ v'.sc = true := by
    unfold Own at ho'
    cases v' <;> simp only at ho' <;> first
      | exact ⟨rfl, rfl⟩
      | exact ho'.elim
  have rc : g1[c]? = some (.row vs 0 0 false) := by rw [f1 c hcl (hk.2.2.2.1 j v hv)]; exact hk1.1
  have hcl1 := (List.getElem?_eq_some_iff.1 rc).1
  have hgl : (h ++ [AO.row [x] 0 0 false]).length = h.length + 1 := by simp
  -- the rows of the new slice
  have hnew : ∀ r, rowOf v' = some r → rowOf v = some r ∨ r = h.length + 1 := fun r hr => by
    rcases f3 r hr with h1 | h1
    · exact .inl h1
    · exact .inr (by omega)
  have hold : ∀ (i : Nat) u r, vs[i]? = some u → rowOf u = some r → r < h.length := by
    intro i u r hu hr
    have hil := (List.getElem?_eq_some_iff.1 hu).1
    exact own_lt (hk.2.2.1 i u (Ls[i]'(by rw [← hk.2.1]; exact hil)) hu (by simp)) hr
  have hset : (g1.set c (.row (vs.set j v') 0 0 false))[c]? = some (.row (vs.set j v') 0 0 false) := by rw [List.getElem?_set, if_pos rfl, if_pos hcl1]
  have hks : KS c (g1.set c (.row (vs.set j v') 0 0 false)) (vs.set j v') (Ls.set j (L ++ [x])) := by
    refine ⟨hset, by simp [hk.2.1], ?_, ?_, ?_⟩
    · intro i u M hu hM
      by_cases hij : j = i
      · subst hij
        rw [List.getElem?_set, if_pos rfl, if_pos hjl] at hu
        rw [List.getElem?_set, if_pos rfl, if_pos hjl2] at hM
        cases hu; cases hM
        have h1 : Own 1 [] g1 v' (L ++ [x]).length (L ++ [x]) := by rw [List.length_append]; exact ho'
        refine own_row h1 fun r hr => ?_
        rw [List.getElem?_set, if_neg]
        rintro rfl
        rcases hnew c hr with h2 | h2
        · exact hk.2.2.2.1 j v hv h2
        · have := hk.lt; omega
      · rw [List.getElem?_set, if_neg hij] at hu hM
        refine own_row (hk1.2.2.1 i u M hu hM) fun r hr => ?_
        rw [List.getElem?_set, if_neg (by rintro rfl; exact hk.2.2.2.1 i u hu hr)]
        exact f1 r (by have := hold i u r hu hr; omega) (hk.2.2.2.2 i j u v r (Ne.symm hij) hu hv hr)
    · intro i u hu
      by_cases hij : j = i
      · subst hij
        rw [List.getElem?_set, if_pos rfl, if_pos hjl] at hu
        cases hu
        intro hr
        rcases hnew c hr with h2 | h2
        · exact hk.2.2.2.1 j v hv h2
        · have := hk.lt; omega
      · rw [List.getElem?_set, if_neg hij] at hu
        exact hk.2.2.2.1 i u hu
    · intro i1 i2 u1 u2 r hne h1 h2 h3 h4
      by_cases e1 : j = i1
      · subst e1
        rw [List.getElem?_set, if_pos rfl, if_pos hjl] at h1
        rw [List.getElem?_set, if_neg hne] at h2
        cases h1
        rcases hnew r h3 with h5 | h5
        · exact hk.2.2.2.2 j i2 v u2 r hne hv h2 h5 h4
        · have := hold i2 u2 r h2 h4; omega
      · rw [List.getElem?_set, if_neg e1] at h1
        by_cases e2 : j = i2
        · subst e2
          rw [List.getElem?_set, if_pos rfl, if_pos hjl] at h2
          cases h2
          rcases hnew r h4 with h5 | h5
          · exact hk.2.2.2.2 i1 j u1 v r hne h1 hv h3 h5
          · have := hold i1 u1 r h1 h3; omega
        · rw [List.getElem?_set, if_neg e2] at h2
          exact hk.2.2.2.2 i1 i2 u1 u2 r hne h1 h2 h3 h4
  refine ⟨v', g1, ha, hcv.1, hcv.2, ?_, hks, ?_⟩
  · rw [wr_of rc ⟨rfl, Nat.le_refl _, by simp; omega⟩, if_pos (by simp [hcv.2]), splice_one hjl]
  · refine ⟨by simp only [List.length_set]; have := pu.1; omega, fun i hi hn => ⟨?_, ?_⟩⟩
    · have hic : i ≠ c := fun e => hn (.inl e)
      rw [List.getElem?_set, if_neg (Ne.symm hic), f1 i (by omega) (fun hr => hn ((hk.gr_iff i).2 (.inr ⟨v, List.mem_of_getElem? hv, hr⟩))), pu.2 i hi]
    · rw [hks.gr_iff]
      rintro (rfl | ⟨u, hu, hr⟩)
      · exact hn (.inl rfl)
      · obtain ⟨q, hq⟩ := List.mem_iff_getElem?.1 hu
        by_cases hij : j = q
        · subst hij
          rw [List.getElem?_set, if_pos rfl, if_pos hjl] at hq
          cases hq
          rcases hnew i hr with h2 | h2
          · exact hn ((hk.gr_iff i).2 (.inr ⟨v, List.mem_of_getElem? hv, h2⟩))
          · omega
        · rw [List.getElem?_set, if_neg hij] at hq
          exact hn ((hk.gr_iff i).2 (.inr ⟨u, List.mem_of_getElem? hq, hr⟩))
end
def SlcS {α : Type} (esz : Nat) (enc : α → List AV) (c : Nat) (h : AH) (v : AV) (L : List α) : Prop := Slc esz enc h v L ∧ ∀ r, rowOf v = some r → ¬ grS c h r
theorem SlcS.fr {α : Type} {esz : Nat} {enc : α → List AV} {c : Nat} {h h' : AH} {v : AV} {L : List α} (hs : SlcS esz enc c h v L) (hf : FrS c h h') : SlcS esz enc c h' v L :=
  ⟨hs.1.stay fun r hr => (hf.2 r (hs.1.lt hr) (hs.2 r hr)).1, fun r hr => (hf.2 r (hs.1.lt hr) (hs.2 r hr)).2⟩
theorem Slc.getK {α : Type} {esz : Nat} {enc : α → List AV} (hl : ∀ x, (enc x).length = esz) {h : AH} {v : AV} {L : List α} (hs : Slc esz enc h v L) {i : Nat} {x : α} (hi : L[i]? = some x) : ∃ c kk off, v = .slice c kk off L.length esz ∧ rdRow h c kk (off + i * esz) esz = some (enc x) := by
  obtain ⟨hlt, e⟩ := List.getElem?_eq_some_iff.1 hi
  have hLe : L = L.take i ++ x :: L.drop (i + 1) := by
    have := (List.take_append_drop i L).symm
    rwa [List.drop_eq_getElem_cons hlt, e] at this
  have hs2 := hs
  rw [hLe] at hs2
  obtain ⟨c, kk, off, hv, hr⟩ := hs2.at hl
  rw [← hLe] at hv
  rw [List.length_take, show min i L.length = i by omega] at hr
  exact ⟨c, kk, off, hv, hr⟩
theorem ks_own {α : Type} {enc : α → List AV} (hl : ∀ x, (enc x).length = 1) {h : AH} {v : AV} {L : List α} (ho : Own 1 [] h v (L.flatMap enc).length (L.flatMap enc)) : OwL 1 enc [] h v L := by
  have := flat_len hl L
  rw [Nat.mul_one] at this
  rw [this] at ho
  exact ho
end Go.Proofs.YtejhhdpfndiliaaGreatDoor.Ab
