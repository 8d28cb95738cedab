/- Part 5 of the proof of a law of the given program: the rules that it leans on, and what the functions that it reaches answer; the conditions stand with each theorem. -/
import Derived.Test.YtejhhdpfndiliaaGreatDoorQ3
set_option linter.unusedSimpArgs false
set_option linter.unusedVariables false
/- REACHING, the reference's side: texts in order with one more, layers of lines. -/
namespace Go.Proofs.YtejhhdpfndiliaaGreatDoor.Ab
open Go
set_option maxRecDepth 100000
set_option maxHeartbeats 4000000

theorem two_ne : ((2 : Int) = 0) = False := by simp
def fewB (s : Ln) : Bool := goodLine s && decide ((s.length : Int) ≤ 10)
end Go.Proofs.YtejhhdpfndiliaaGreatDoor.Ab

/- REACHING, the reference's side: layers of lines. -/
namespace Go.Proofs.YtejhhdpfndiliaaGreatDoor.Ab
open Go
set_option maxRecDepth 100000
set_option maxHeartbeats 4000000

def GoodL (n : Nat) (A : List Ln) : Prop := Srt A ∧ ∀ x ∈ A, x.length = n ∧ x.all isSign = true
theorem GoodL.len {n : Nat} {A : List Ln} (h : GoodL n A) (hn : n ≤ 10) : A.length ≤ 59049 := by
  have := nodup_bound (A := [46, 70, 84]) (n := n) h.1.nodup (fun x hx => ⟨(h.2 x hx).1, fun b hb => by
    have := List.all_eq_true.1 (h.2 x hx).2 b hb
    unfold isSign at this
    simp at this ⊢
    rcases this with h | h
    · rcases h with h | h <;> simp [h]
    · simp [h]⟩)
  exact Nat.le_trans this (Nat.le_trans (Nat.pow_le_pow_right (by simp) hn) (by decide))
theorem GoodL.nil {n : Nat} : GoodL n [] := ⟨List.Pairwise.nil, fun x hx => by simp at hx⟩
theorem GoodL.ins {n : Nat} {A : List Ln} (h : GoodL n A) {x : Ln} (hx : x.length = n ∧ x.all isSign = true) : GoodL n (insS x A) :=
  ⟨insS_srt x h.1, fun y hy => by
    rcases (insS_mem x y A).1 hy with rfl | hy
    · exact hx
    · exact h.2 y hy⟩
theorem GoodL.add {n : Nat} : ∀ {l A : List Ln}, GoodL n A → (∀ x ∈ l, x.length = n ∧ x.all isSign = true) → GoodL n (addS l A)
  | [], _, h, _ => h
  | x :: l, A, h, hx => GoodL.add (l := l) (h.ins (hx x (by simp))) fun y hy => hx y (by simp [hy])
theorem nx_good {w v : Ln} (hg : w.all isSign = true) (h : v ∈ nx w) : v.length = w.length ∧ v.all isSign = true := by
  obtain ⟨i, t, _, hm, rfl⟩ := nextB_mv h
  exact ⟨madeB_length w i t, signs_made hm hg⟩
theorem lay_good {w : Ln} (hg : w.all isSign = true) : ∀ j, GoodL w.length (lay w j)
  | 0 => ⟨lay_srt w 0, fun x hx => by
    simp only [lay, List.mem_singleton] at hx
    subst hx; exact ⟨rfl, hg⟩⟩
  | j + 1 => ⟨lay_srt w _, fun x hx => by
    obtain ⟨u, hu, hv⟩ := (stepL_mem _ _).1 hx
    obtain ⟨h1, h2⟩ := (lay_good hg j).2 u hu
    obtain ⟨h3, h4⟩ := nx_good h2 hv
    exact ⟨h3.trans h1, h4⟩⟩
theorem muF_le (n : Nat) : ∀ (l : Ln) (i : Nat), i + l.length ≤ n → muF n i l ≤ n * l.length
  | [], _, _ => by simp [muF]
  | b :: l, i, h => by
    have := muF_le n l (i + 1) (by simp at h; omega)
    have hb : fmu n i b ≤ n := by
      unfold fmu
      simp at h
      split
      · omega
      · split <;> omega
    simp only [muF, List.length_cons, Nat.mul_add, Nat.mul_one]
    omega
theorem mu_le (w : Ln) (hw : w.length ≤ 10) : mu w ≤ 100 := by
  have := muF_le w.length w 0 (by omega)
  unfold mu
  exact Nat.le_trans this (Nat.mul_le_mul hw hw)
def mkM (w : Ln) (m : Int × Int) : Ln := madeB w m.1.toNat m.2.toNat
theorem nx_eq (w : Ln) : nx w = (movesB w [84, 70]).map (mkM w) := rfl
theorem liM_eq (w : Ln) : liMovesB w true true = movesB w [84, 70] := liMovesB_eq w true true

/-- A value that fills one cell. -/
abbrev SV := {v : AV // v.sc = true}
def encV (x : SV) : List AV := [x.1]
theorem hlV (x : SV) : (encV x).length = 1 := rfl
theorem scV (x : SV) : (encV x).all AV.sc = true := by simp [encV, x.2]
def LL (h : AH) (o : AV) (vs : List SV) (Ls : List (List Ln)) : Prop := vs.length = Ls.length ∧ ∀ (i : Nat) (v : SV) (L : List Ln), vs[i]? = some v → Ls[i]? = some L → Slc 1 encS h v.1 L ∧ ∀ r, rowOf v.1 = some r → rowOf o ≠ some r
theorem Slc.lt {α : Type} {esz : Nat} {enc : α → List AV} {h : AH} {v : AV} {L : List α} (hs : Slc esz enc h v L) {r : Nat} (hr : rowOf v = some r) : r < h.length := by
  cases v <;> simp only [rowOf] at hr <;> try (cases hr; done)
  cases hr
  exact hs.row_lt _ _ _ _ _ rfl
theorem Slc.stay {α : Type} {esz : Nat} {enc : α → List AV} {h h' : AH} {v : AV} {L : List α} (hs : Slc esz enc h v L) (hr : ∀ r, rowOf v = some r → h'[r]? = h[r]?) : Slc esz enc h' v L := by
  unfold Slc Sl at *
  cases v <;> simp only [rowOf] at * <;> first
    | exact hs
    | (obtain ⟨k1, k2, k3, k4⟩ := hs
       refine ⟨k1, k2, k3, ?_⟩
       unfold rdRow at k4 ⊢
       rw [hr _ rfl]; exact k4)
theorem LL.pre {h h' : AH} {o : AV} {vs : List SV} {Ls : List (List Ln)} (hl : LL h o vs Ls) (hp : Pre h h') : LL h' o vs Ls := ⟨hl.1, fun i v L h1 h2 => ⟨(hl.2 i v L h1 h2).1.pre hp, (hl.2 i v L h1 h2).2⟩⟩
/-- Behind an append to the outer slice. -/
theorem LL.app {h h3 : AH} {o o3 : AV} {vs : List SV} {Ls : List (List Ln)} (hl : LL h o vs Ls) {w : SV} {M : List Ln} (hw : Slc 1 encS h w.1 M) (hn : ∀ r, rowOf w.1 = some r → rowOf o ≠ some r)
    (f1 : ∀ i, i < h.length → rowOf o ≠ some i → h3[i]? = h[i]?) (f3 : ∀ r, rowOf o3 = some r → rowOf o = some r ∨ h.length ≤ r) : LL h3 o3 (vs ++ [w]) (Ls ++ [M]) := by
  have one : ∀ {v : SV} {L : List Ln}, Slc 1 encS h v.1 L → (∀ r, rowOf v.1 = some r → rowOf o ≠ some r) → Slc 1 encS h3 v.1 L ∧ ∀ r, rowOf v.1 = some r → rowOf o3 ≠ some r := by
    intro v L hs hd
    refine ⟨hs.stay fun r hr => f1 r (hs.lt hr) (hd r hr), fun r hr e => ?_⟩
    rcases f3 r e with h1 | h1
    · exact hd r hr h1
    · have := hs.lt hr; omega
  refine ⟨by simp [hl.1], fun i u N h1 h2 => ?_⟩
  have h0 := hl.1
  rcases Nat.lt_trichotomy i vs.length with hi | hi | hi
  · rw [List.getElem?_append_left hi] at h1
    rw [List.getElem?_append_left (by omega)] at h2
    obtain ⟨g1, g2⟩ := hl.2 i u N h1 h2
    exact one g1 g2
  · subst hi
    rw [List.getElem?_append_right (Nat.le_refl _)] at h1
    rw [List.getElem?_append_right (by omega), ← h0] at h2
    simp at h1 h2
    subst h1; subst h2; exact one hw hn
  · rw [List.getElem?_eq_none (by simp; omega)] at h1; cases h1
def lays (w : Ln) (n : Nat) : List (List Ln) := (List.range n).map (lay w)
theorem lays_succ (w : Ln) (n : Nat) : lays w (n + 1) = lays w n ++ [lay w n] := by unfold lays; rw [List.range_succ, List.map_append]; rfl
end Go.Proofs.YtejhhdpfndiliaaGreatDoor.Ab

/- CHOICES that are drawn from bytes: of what is drawn, only the bounds are told. -/
namespace Go.Proofs.YtejhhdpfndiliaaGreatDoor.Ab
open Go
set_option maxRecDepth 100000
set_option maxHeartbeats 4000000

/-- A reader of bytes, made in b; so many bytes at most have been taken. -/
def Cur (b : AH) (cv : AV) (bs : List UInt8) (K : Nat) (h : AH) : Prop := Slc 1 encU b cv bs ∧ bs.length < 2 ^ 40 ∧ Pre b h ∧ ∃ (a : Nat) (s : Int), a ≤ K ∧ h[b.length]? = some (.row [cv, .int .i64 a, .int .u64 s] 0 0 false)
theorem Cur.le {b : AH} {cv : AV} {bs : List UInt8} {K K' : Nat} {h : AH} (hc : Cur b cv bs K h) (hk : K ≤ K') : Cur b cv bs K' h := by
  obtain ⟨h1, h2, h3, a, s, h4, h5⟩ := hc
  exact ⟨h1, h2, h3, a, s, by omega, h5⟩
theorem Cur.lt {b : AH} {cv : AV} {bs : List UInt8} {K : Nat} {h : AH} (hc : Cur b cv bs K h) : b.length < h.length := by
  obtain ⟨h1, h2, h3, a, s, h4, h5⟩ := hc
  exact (List.getElem?_eq_some_iff.1 h5).1
theorem Cur.pre {b : AH} {cv : AV} {bs : List UInt8} {K : Nat} {h h' : AH} (hc : Cur b cv bs K h) (hp : Pre h h') : Cur b cv bs K h' := by
  have hl := hc.lt
  obtain ⟨h1, h2, h3, a, s, h4, h5⟩ := hc
  exact ⟨h1, h2, h3.trans hp, a, s, h4, by rw [hp.2 _ hl]; exact h5⟩
theorem Cur.new {b : AH} {cv : AV} {bs : List UInt8} (hs : Slc 1 encU b cv bs) (hb : bs.length < 2 ^ 40) : Cur b cv bs 0 (b ++ [.row [cv, .int .i64 0, .int .u64 0] 0 0 false]) :=
  ⟨hs, hb, Pre.push _ _, 0, 0, Nat.le_refl _, by simp⟩
theorem Cur.done {b : AH} {cv : AV} {bs : List UInt8} {K : Nat} {h : AH} (hc : Cur b cv bs K h) : Pre b h := hc.2.2.1

theorem bits255 (x : Int) : ∃ n : Nat, n < 256 ∧ bits .and .u64 x 255 = n := by
  refine ⟨(BitVec.ofInt 64 x &&& BitVec.ofInt 64 255).toNat, ?_, ?_⟩
  · rw [BitVec.toNat_and]
    refine Nat.lt_of_le_of_lt Nat.and_le_right ?_
    decide
  · have h1 : (BitVec.ofInt 64 x &&& BitVec.ofInt 64 255).toNat < 256 := by
      rw [BitVec.toNat_and]
      refine Nat.lt_of_le_of_lt Nat.and_le_right ?_
      decide
    unfold bits
    show IntKind.u64.wrap ((BitVec.ofInt 64 x &&& BitVec.ofInt 64 255).toNat : Int) = _
    rw [IntKind.wrap_u64]
    omega

section
variable {b : AH} {cv : AV} {bs : List UInt8} {K : Nat} {h : AH} {post : AV → AH → Prop}

theorem c_next (hc : Cur b cv bs K h) (hK : K < 2 ^ 50) (hp : ∀ (x : Nat) h', x < 256 → Cur b cv bs (K + 1) h' → PreX b.length h h' → post (.int .i64 x) h') : S 107 [.ptr b.length 0 0 3] h post k := by
  have hl := hc.lt
  obtain ⟨hs, hbs, hpre, a, s, ha, hr⟩ := hc
  have r0 : rdRow h b.length 0 0 1 = some [cv] := by simp [rdRow, hr]
  have r1 : rdRow h b.length 0 1 1 = some [.int .i64 a] := by simp [rdRow, hr]
  have hset : ∀ o, (h.set b.length o)[b.length]? = some o := fun o => by rw [List.getElem?_set, if_pos rfl, if_pos hl]
  have w1 : ∀ v, wrRow h b.length 0 1 [.int .i64 v] = some (h.set b.length (.row [cv, .int .i64 v, .int .u64 s] 0 0 false)) := fun v => by simp [wrRow, hr, splice, AV.sc]
  have w2 : ∀ v y, wrRow (h.set b.length (.row [cv, y, .int .u64 s] 0 0 false)) b.length 0 2 [.int .u64 v] = some (h.set b.length (.row [cv, y, .int .u64 v] 0 0 false)) := fun v y => by simp [wrRow, hset, splice, AV.sc]
  have q0 : ∀ x y z, rdRow (h.set b.length (.row [x, y, z] 0 0 false)) b.length 0 0 1 = some [x] := fun x y z => by simp [rdRow, hset]
  have q1 : ∀ x y z, rdRow (h.set b.length (.row [x, y, z] 0 0 false)) b.length 0 1 1 = some [y] := fun x y z => by simp [rdRow, hset]
  have q2 : ∀ x y z, rdRow (h.set b.length (.row [x, y, z] 0 0 false)) b.length 0 2 1 = some [z] := fun x y z => by simp [rdRow, hset]
  have s2 : rdRow h b.length 0 2 1 = some [.int .u64 s] := by simp [rdRow, hr]
  have hw : IntKind.i64.wrap ((a : Int) + 1) = ((a + 1 : Nat) : Int) := by rw [IntKind.wrap_i64]; omega
  have fin0 : ∀ (x : Nat) (t : Int), x < 256 → post (.int .i64 x) (h.set b.length (.row [cv, .int .i64 ((a + 1 : Nat) : Int), .int .u64 t] 0 0 false)) := by
    intro x t hx
    refine hp x _ hx ⟨hs, hbs, hpre.set (Nat.le_refl _), a + 1, t, by omega, hset _⟩ (PreX.refl _ _).set
  have fin : ∀ (q t : Int), post (.int .i64 (IntKind.i64.wrap (bits .and .u64 q 255))) (h.set b.length (.row [cv, .int .i64 ((a + 1 : Nat) : Int), .int .u64 t] 0 0 false)) := by
    intro q t
    obtain ⟨n, hn, e⟩ := bits255 q
    rw [e, show IntKind.i64.wrap (n : Int) = n by rw [IntKind.wrap_i64]; omega]
    exact fin0 n t hn
  refine S_of rfl T107 ?_; unfold fi107
  rcases hs.cases with ⟨rfl, rfl⟩ | ⟨rfl, rfl⟩ | ⟨c, kk, off, hv⟩
  · have n1 : ¬ ((a : Int) < 0) := by omega
    have n2 : ¬ (((a + 1 : Nat) : Int) ≤ 0) := by omega
    simp (maxSteps := 1000000) (disch := first | omega | rfl | (simp only [zL, two63, room] <;> omega) | fail) only [↓reduceIte, ↓zP, zW, WOp, evOp, evBin, binI, binSh, binS, evNil, keyIs, keyEq, mkv, AV.cells, AV.sc, optv, bnd, env, put, Env.get, Env.set, Env.del, Env.dels, Env.init, res1, resL, resV, fillP, splice, newRow, Nat.reduceEqDiff, Nat.reduceLT, Nat.reduceLeDiff, Nat.reduceAdd, Nat.reduceMul, Nat.reduceSub, Nat.reduceBEq, reduceCtorEq, ↓zR, zQ, Tr, StA, StT, r0, r1, n1, n2, w1, w2, q0, q1, q2, s2, hw]
    exact fin _ _
  · have n1 : ¬ ((a : Int) < 0) := by omega
    have n2 : ¬ (((a + 1 : Nat) : Int) ≤ 0) := by omega
    simp (maxSteps := 1000000) (disch := first | omega | rfl | (simp only [zL, two63, room] <;> omega) | fail) only [↓reduceIte, ↓zP, zW, WOp, evOp, evBin, binI, binSh, binS, evNil, keyIs, keyEq, mkv, AV.cells, AV.sc, optv, bnd, env, put, Env.get, Env.set, Env.del, Env.dels, Env.init, res1, resL, resV, fillP, splice, newRow, Nat.reduceEqDiff, Nat.reduceLT, Nat.reduceLeDiff, Nat.reduceAdd, Nat.reduceMul, Nat.reduceSub, Nat.reduceBEq, reduceCtorEq, ↓zR, zQ, Tr, StA, StT, r0, r1, n1, n2, w1, w2, q0, q1, q2, s2, hw]
    exact fin _ _
  · by_cases hlt : a < bs.length
    · have hL : bs = bs.take a ++ bs[a] :: bs.drop (a + 1) := by
        have := (List.take_append_drop a bs).symm
        rwa [List.drop_eq_getElem_cons hlt] at this
      have hs2 := hs
      rw [hv, hL] at hs2
      have hrd := rdRow_pre hpre (hs2.rd hlU)
      rw [List.length_take, show min a bs.length = a by omega] at hrd
      subst hv
      have n1 : (a : Int) < (bs.length : Int) := by omega
      have n2 : ((a + 1 : Nat) : Int) ≤ (bs.length : Int) := by omega
      have hx : (bs[a]).toNat < 256 := bs[a].toNat_lt
      have hrd' : rdRow h c kk (off + a * 1) 1 = some [.int .u8 (bs[a]).toNat] := hrd
      generalize (bs[a]).toNat = x at hrd' hx
      have hwx : IntKind.i64.wrap (x : Int) = x := by rw [IntKind.wrap_i64]; omega
      simp (maxSteps := 1000000) (disch := first | omega | rfl | (simp only [zL, two63, room] <;> omega) | fail) only [↓reduceIte, ↓zP, zW, WOp, evOp, evBin, binI, binSh, binS, evNil, keyIs, keyEq, mkv, AV.cells, AV.sc, optv, bnd, env, put, Env.get, Env.set, Env.del, Env.dels, Env.init, res1, resL, resV, fillP, splice, newRow, Nat.reduceEqDiff, Nat.reduceLT, Nat.reduceLeDiff, Nat.reduceAdd, Nat.reduceMul, Nat.reduceSub, Nat.reduceBEq, reduceCtorEq, ↓zR, zQ, Tr, StA, StT, r0, r1, n1, n2, w1, w2, q0, q1, q2, s2, hw, hrd', hwx]
      exact fin0 x _ hx
    · subst hv
      have n1 : ¬ ((a : Int) < (bs.length : Int)) := by omega
      have n2 : ¬ (((a + 1 : Nat) : Int) ≤ (bs.length : Int)) := by omega
      simp (maxSteps := 1000000) (disch := first | omega | rfl | (simp only [zL, two63, room] <;> omega) | fail) only [↓reduceIte, ↓zP, zW, WOp, evOp, evBin, binI, binSh, binS, evNil, keyIs, keyEq, mkv, AV.cells, AV.sc, optv, bnd, env, put, Env.get, Env.set, Env.del, Env.dels, Env.init, res1, resL, resV, fillP, splice, newRow, Nat.reduceEqDiff, Nat.reduceLT, Nat.reduceLeDiff, Nat.reduceAdd, Nat.reduceMul, Nat.reduceSub, Nat.reduceBEq, reduceCtorEq, ↓zR, zQ, Tr, StA, StT, r0, r1, n1, n2, w1, w2, q0, q1, q2, s2, hw]
      exact fin _ _

/-- pick: less than n. -/
theorem c_pick (hc : Cur b cv bs K h) (hK : K < 2 ^ 49) (n : Nat) (hn : n < 2 ^ 40) (hp : ∀ (x : Nat) h', (x < n ∨ x = 0) → Cur b cv bs (K + 2) h' → PreX b.length h h' → post (.int .i64 x) h') : S 63 [.ptr b.length 0 0 3, .int .i64 n] h post k := by
  refine S_of rfl T63 ?_; unfold fi63
  by_cases h1 : n ≤ 1
  · have n1 : (n : Int) ≤ 1 := by omega
    simp (maxSteps := 1000000) (disch := first | omega | rfl | (simp only [zL, two63, room] <;> omega) | fail) only [↓reduceIte, ↓zP, zW, WOp, evOp, evBin, binI, binSh, binS, evNil, keyIs, keyEq, mkv, AV.cells, AV.sc, optv, bnd, env, put, Env.get, Env.set, Env.del, Env.dels, Env.init, res1, resL, resV, fillP, splice, newRow, Nat.reduceEqDiff, Nat.reduceLT, Nat.reduceLeDiff, Nat.reduceAdd, Nat.reduceMul, Nat.reduceSub, Nat.reduceBEq, reduceCtorEq, ↓zR, zQ, Tr, StA, StT, n1]
    exact hp 0 h (.inr rfl) (hc.le (by omega)) (PreX.refl _ _)
  have n1 : ¬ ((n : Int) ≤ 1) := by omega
  have fin : ∀ (x : Nat) h', Cur b cv bs (K + 2) h' → PreX b.length h h' → post (.int .i64 ((x : Int).tmod n)) h' := by
    intro x h' hc' hx
    have : (x : Int).tmod n = ((x % n : Nat) : Int) := by rw [Int.tmod_eq_emod_of_nonneg (by omega)]; omega
    rw [this]
    exact hp _ h' (.inl (Nat.mod_lt _ (by omega))) hc' hx
  have n0 : ((n : Int) == 0) = false := by simp; omega
  have n0' : ¬ ((n : Int) = 0) := by omega
  simp (maxSteps := 1000000) (disch := first | omega | rfl | (simp only [zL, two63, room] <;> omega) | fail) only [↓reduceIte, ↓zP, zW, WOp, evOp, evBin, binI, binSh, binS, evNil, keyIs, keyEq, mkv, AV.cells, AV.sc, optv, bnd, env, put, Env.get, Env.set, Env.del, Env.dels, Env.init, res1, resL, resV, fillP, splice, newRow, Nat.reduceEqDiff, Nat.reduceLT, Nat.reduceLeDiff, Nat.reduceAdd, Nat.reduceMul, Nat.reduceSub, Nat.reduceBEq, reduceCtorEq, ↓zR, zQ, Tr, StA, StT, n1]
  refine c_next hc (by omega) ?_
  intro x h2 hx hc2 hp2
  by_cases h3 : 200 < n
  · have n2 : (n : Int) > 200 := by omega
    have w1 : IntKind.i64.wrap ((x : Int) * 256) = ((x * 256 : Nat) : Int) := by rw [IntKind.wrap_i64]; omega
    simp (maxSteps := 1000000) (disch := first | omega | rfl | (simp only [zL, two63, room] <;> omega) | fail) only [↓reduceIte, ↓zP, zW, WOp, evOp, evBin, binI, binSh, binS, evNil, keyIs, keyEq, mkv, AV.cells, AV.sc, optv, bnd, env, put, Env.get, Env.set, Env.del, Env.dels, Env.init, res1, resL, resV, fillP, splice, newRow, Nat.reduceEqDiff, Nat.reduceLT, Nat.reduceLeDiff, Nat.reduceAdd, Nat.reduceMul, Nat.reduceSub, Nat.reduceBEq, reduceCtorEq, ↓zR, zQ, Tr, StA, StT, n2, w1]
    refine c_next hc2 (by omega) ?_
    intro y h3 hy hc3 hp3
    have w2 : IntKind.i64.wrap (((x * 256 : Nat) : Int) + (y : Int)) = ((x * 256 + y : Nat) : Int) := by rw [IntKind.wrap_i64]; omega
    simp (maxSteps := 1000000) (disch := first | omega | rfl | (simp only [zL, two63, room] <;> omega) | fail) only [↓reduceIte, ↓zP, zW, WOp, evOp, evBin, binI, binSh, binS, evNil, keyIs, keyEq, mkv, AV.cells, AV.sc, optv, bnd, env, put, Env.get, Env.set, Env.del, Env.dels, Env.init, res1, resL, resV, fillP, splice, newRow, Nat.reduceEqDiff, Nat.reduceLT, Nat.reduceLeDiff, Nat.reduceAdd, Nat.reduceMul, Nat.reduceSub, Nat.reduceBEq, reduceCtorEq, ↓zR, zQ, Tr, StA, StT, w2, n0, n0']
    exact fin _ _ hc3 (hp2.trans hp3)
  · have n2 : ¬ ((n : Int) > 200) := by omega
    simp (maxSteps := 1000000) (disch := first | omega | rfl | (simp only [zL, two63, room] <;> omega) | fail) only [↓reduceIte, ↓zP, zW, WOp, evOp, evBin, binI, binSh, binS, evNil, keyIs, keyEq, mkv, AV.cells, AV.sc, optv, bnd, env, put, Env.get, Env.set, Env.del, Env.dels, Env.init, res1, resL, resV, fillP, splice, newRow, Nat.reduceEqDiff, Nat.reduceLT, Nat.reduceLeDiff, Nat.reduceAdd, Nat.reduceMul, Nat.reduceSub, Nat.reduceBEq, reduceCtorEq, ↓zR, zQ, Tr, StA, StT, n2, n0, n0']
    exact fin _ _ (hc2.le (by omega)) hp2
theorem c_one (hc : Cur b cv bs K h) (hK : K < 2 ^ 49) (n : Nat) (hn : n < 2 ^ 40) (hp : ∀ (x : Bool) h', Cur b cv bs (K + 2) h' → PreX b.length h h' → post (.bool x) h') : S 64 [.ptr b.length 0 0 3, .int .i64 n] h post k := by
  refine S_of rfl T64 ?_; unfold fi64
  simp (maxSteps := 1000000) (disch := first | omega | rfl | (simp only [zL, two63, room] <;> omega) | fail) only [↓reduceIte, ↓zP, zW, WOp, evOp, evBin, binI, binSh, binS, evNil, keyIs, keyEq, mkv, AV.cells, AV.sc, optv, bnd, env, put, Env.get, Env.set, Env.del, Env.dels, Env.init, res1, resL, resV, fillP, splice, newRow, Nat.reduceEqDiff, Nat.reduceLT, Nat.reduceLeDiff, Nat.reduceAdd, Nat.reduceMul, Nat.reduceSub, Nat.reduceBEq, reduceCtorEq, ↓zR, zQ, Tr, StA, StT]
  refine c_pick hc hK n hn ?_
  intro x h' _ hc' hp'
  simp (maxSteps := 1000000) (disch := first | omega | rfl | (simp only [zL, two63, room] <;> omega) | fail) only [↓reduceIte, ↓zP, zW, WOp, evOp, evBin, binI, binSh, binS, evNil, keyIs, keyEq, mkv, AV.cells, AV.sc, optv, bnd, env, put, Env.get, Env.set, Env.del, Env.dels, Env.init, res1, resL, resV, fillP, splice, newRow, Nat.reduceEqDiff, Nat.reduceLT, Nat.reduceLeDiff, Nat.reduceAdd, Nat.reduceMul, Nat.reduceSub, Nat.reduceBEq, reduceCtorEq, ↓zR, zQ, Tr, StA, StT]
  exact hp _ h' hc' hp'
/-- An element of a list. -/
theorem c_of (hc : Cur b cv bs K h) (hK : K < 2 ^ 49) {lv : AV} {L : List (List UInt8)} (hs : Slc 1 encS h lv L) (hne : ∀ r, rowOf lv = some r → r ≠ b.length) (h0 : 0 < L.length) (hL : L.length < 2 ^ 40)
    (hp : ∀ x ∈ L, ∀ h', Cur b cv bs (K + 2) h' → PreX b.length h h' → post (.str x) h') : S 71 [.ptr b.length 0 0 3, lv] h post k := by
  rcases hs.cases with ⟨rfl, rfl⟩ | ⟨rfl, rfl⟩ | ⟨c, kk, off, rfl⟩
  · simp at h0
  · simp at h0
  refine S_of rfl T71 ?_; unfold fi71
  simp (maxSteps := 1000000) (disch := first | omega | rfl | (simp only [zL, two63, room] <;> omega) | fail) only [↓reduceIte, ↓zP, zW, WOp, evOp, evBin, binI, binSh, binS, evNil, keyIs, keyEq, mkv, AV.cells, AV.sc, optv, bnd, env, put, Env.get, Env.set, Env.del, Env.dels, Env.init, res1, resL, resV, fillP, splice, newRow, Nat.reduceEqDiff, Nat.reduceLT, Nat.reduceLeDiff, Nat.reduceAdd, Nat.reduceMul, Nat.reduceSub, Nat.reduceBEq, reduceCtorEq, ↓zR, zQ, Tr, StA, StT]
  refine c_pick hc hK L.length hL ?_
  intro x h2 hx hc2 hp2
  have hlt : x < L.length := by omega
  have hLe : L = L.take x ++ L[x] :: L.drop (x + 1) := by
    have := (List.take_append_drop x L).symm
    rwa [List.drop_eq_getElem_cons hlt] at this
  have hs2 := hs
  rw [hLe] at hs2
  have hrd := rdRow_prex hp2 (hne c rfl) (hs2.rd hlS)
  rw [List.length_take, show min x L.length = x by omega] at hrd
  have hrd' : rdRow h2 c kk (off + x * 1) 1 = some [.str L[x]] := hrd
  have n1 : (x : Int) < (L.length : Int) := by omega
  simp (maxSteps := 1000000) (disch := first | omega | rfl | (simp only [zL, two63, room] <;> omega) | fail) only [↓reduceIte, ↓zP, zW, WOp, evOp, evBin, binI, binSh, binS, evNil, keyIs, keyEq, mkv, AV.cells, AV.sc, optv, bnd, env, put, Env.get, Env.set, Env.del, Env.dels, Env.init, res1, resL, resV, fillP, splice, newRow, Nat.reduceEqDiff, Nat.reduceLT, Nat.reduceLeDiff, Nat.reduceAdd, Nat.reduceMul, Nat.reduceSub, Nat.reduceBEq, reduceCtorEq, ↓zR, zQ, Tr, StA, StT, n1, hrd']
  exact hp _ (List.getElem_mem hlt) h2 hc2 hp2
/-- A number of a list. -/
theorem c_among (hc : Cur b cv bs K h) (hK : K < 2 ^ 49) {lv : AV} {L : List Int} (hs : Slc 1 encI h lv L) (hne : ∀ r, rowOf lv = some r → r ≠ b.length) (h0 : 0 < L.length) (hL : L.length < 2 ^ 40)
    (hp : ∀ x ∈ L, ∀ h', Cur b cv bs (K + 2) h' → PreX b.length h h' → post (.int .i64 x) h') : S 62 [.ptr b.length 0 0 3, lv] h post k := by
  rcases hs.cases with ⟨rfl, rfl⟩ | ⟨rfl, rfl⟩ | ⟨c, kk, off, rfl⟩
  · simp at h0
  · simp at h0
  refine S_of rfl T62 ?_; unfold fi62
  simp (maxSteps := 1000000) (disch := first | omega | rfl | (simp only [zL, two63, room] <;> omega) | fail) only [↓reduceIte, ↓zP, zW, WOp, evOp, evBin, binI, binSh, binS, evNil, keyIs, keyEq, mkv, AV.cells, AV.sc, optv, bnd, env, put, Env.get, Env.set, Env.del, Env.dels, Env.init, res1, resL, resV, fillP, splice, newRow, Nat.reduceEqDiff, Nat.reduceLT, Nat.reduceLeDiff, Nat.reduceAdd, Nat.reduceMul, Nat.reduceSub, Nat.reduceBEq, reduceCtorEq, ↓zR, zQ, Tr, StA, StT]
  refine c_pick hc hK L.length hL ?_
  intro x h2 hx hc2 hp2
  have hlt : x < L.length := by omega
  have hLe : L = L.take x ++ L[x] :: L.drop (x + 1) := by
    have := (List.take_append_drop x L).symm
    rwa [List.drop_eq_getElem_cons hlt] at this
  have hs2 := hs
  rw [hLe] at hs2
  have hrd := rdRow_prex hp2 (hne c rfl) (hs2.rd hlI)
  rw [List.length_take, show min x L.length = x by omega] at hrd
  have hrd' : rdRow h2 c kk (off + x * 1) 1 = some [.int .i64 L[x]] := hrd
  have n1 : (x : Int) < (L.length : Int) := by omega
  simp (maxSteps := 1000000) (disch := first | omega | rfl | (simp only [zL, two63, room] <;> omega) | fail) only [↓reduceIte, ↓zP, zW, WOp, evOp, evBin, binI, binSh, binS, evNil, keyIs, keyEq, mkv, AV.cells, AV.sc, optv, bnd, env, put, Env.get, Env.set, Env.del, Env.dels, Env.init, res1, resL, resV, fillP, splice, newRow, Nat.reduceEqDiff, Nat.reduceLT, Nat.reduceLeDiff, Nat.reduceAdd, Nat.reduceMul, Nat.reduceSub, Nat.reduceBEq, reduceCtorEq, ↓zR, zQ, Tr, StA, StT, n1, hrd']
  exact hp _ (List.getElem_mem hlt) h2 hc2 hp2
end
theorem slc_litS (h : AH) (L : List (List UInt8)) : Slc 1 encS (h ++ [.row (L.map AV.str) 0 0 false]) (.slice h.length 0 0 L.length 1) L := by
  have e : L.flatMap encS = L.map AV.str := by
    induction L with
    | nil => rfl
    | cons a L ih => rw [List.flatMap_cons, ih]; rfl
  unfold Slc Sl
  refine ⟨rfl, rfl, by simp [e], ?_⟩
  rw [e]
  exact rdRow_push h _ false (by simp)
theorem slc_litI (h : AH) (L : List Int) : Slc 1 encI (h ++ [.row (L.map (AV.int .i64)) 0 0 false]) (.slice h.length 0 0 L.length 1) L := by
  have e : L.flatMap encI = L.map (AV.int .i64) := by
    induction L with
    | nil => rfl
    | cons a L ih => rw [List.flatMap_cons, ih]; rfl
  unfold Slc Sl
  refine ⟨rfl, rfl, by simp [e], ?_⟩
  rw [e]
  exact rdRow_push h _ false (by simp)
theorem Pre.x2 {h h1 h2 : AH} {c : Nat} (hp : Pre h h1) (hx : PreX c h1 h2) : PreX c h h2 := (hp.x c).trans hx

/-! ### Lines -/
theorem lp_liTimesG (b : UInt8) {h : AH} {R : X → Env → AH → Prop} : ∀ (n : Nat) (out : List UInt8), out.length + n ≤ 1000 → R (.exit 0) [(5, .str (out ++ List.replicate n b))] h →
    Cx (.loop lp124_0) [(0, .str [b]), (1, .int .i64 n), (5, .str out)] h R k k
  | 0, out, hn, hR => by
    rw [w_loopb (c := lp124_0) (d := lb124_0) rfl]; unfold lb124_0
    simp (maxSteps := 1000000) (disch := first | omega | rfl | (simp only [zL, two63, room] <;> omega) | fail) only [↓reduceIte, ↓zP, zW, WOp, evOp, evBin, binI, binSh, binS, evNil, keyIs, keyEq, mkv, AV.cells, AV.sc, optv, bnd, env, put, Env.get, Env.set, Env.del, Env.dels, Env.init, res1, resL, resV, fillP, splice, newRow, Nat.reduceEqDiff, Nat.reduceLT, Nat.reduceLeDiff, Nat.reduceAdd, Nat.reduceMul, Nat.reduceSub, Nat.reduceBEq, reduceCtorEq, ↓zR, zQ, Tr, StA, StT]
    simpa using hR
  | n + 1, out, hn, hR => by
    have ih := lp_liTimesG b (h := h) (R := R) n (out ++ [b])
    have hg : ((n + 1 : Nat) : Int) > 0 := by omega
    have hs : ((n + 1 : Nat) : Int) - 1 = (n : Int) := by omega
    have hl : out.length + [b].length ≤ two63 := by simp only [two63, List.length_cons, List.length_nil]; omega
    rw [w_loopb (c := lp124_0) (d := lb124_0) rfl]; unfold lb124_0
    simp (maxSteps := 1000000) (disch := first | omega | rfl | (simp only [zL, two63, room] <;> omega) | fail) only [↓reduceIte, ↓zP, zW, WOp, evOp, evBin, binI, binSh, binS, evNil, keyIs, keyEq, mkv, AV.cells, AV.sc, optv, bnd, env, put, Env.get, Env.set, Env.del, Env.dels, Env.init, res1, resL, resV, fillP, splice, newRow, Nat.reduceEqDiff, Nat.reduceLT, Nat.reduceLeDiff, Nat.reduceAdd, Nat.reduceMul, Nat.reduceSub, Nat.reduceBEq, reduceCtorEq, ↓zR, zQ, Tr, StA, StT, hg, hs, hl]
    rw [w_loopn (c := lp124_0) rfl]
    simp (maxSteps := 1000000) (disch := first | omega | rfl | (simp only [zL, two63, room] <;> omega) | fail) only [↓reduceIte, ↓zP, zW, WOp, evOp, evBin, binI, binSh, binS, evNil, keyIs, keyEq, mkv, AV.cells, AV.sc, optv, bnd, env, put, Env.get, Env.set, Env.del, Env.dels, Env.init, res1, resL, resV, fillP, splice, newRow, Nat.reduceEqDiff, Nat.reduceLT, Nat.reduceLeDiff, Nat.reduceAdd, Nat.reduceMul, Nat.reduceSub, Nat.reduceBEq, reduceCtorEq, ↓zR, zQ, Tr, StA, StT]
    refine ih (by simp; omega) ?_
    rw [List.append_assoc, List.singleton_append, ← List.replicate_succ]
    exact hR
theorem e_liTimesG (b : UInt8) (n : Nat) (hn : n ≤ 1000) {h : AH} {post : AV → AH → Prop} : S 124 [.str [b], .int .i64 n] h post k = post (.str (List.replicate n b)) h := by
  refine S_eq fun post hp => ?_
  refine S_of rfl T124 ?_; unfold fi124
  simp (maxSteps := 1000000) (disch := first | omega | rfl | (simp only [zL, two63, room] <;> omega) | fail) only [↓reduceIte, ↓zP, zW, WOp, evOp, evBin, binI, binSh, binS, evNil, keyIs, keyEq, mkv, AV.cells, AV.sc, optv, bnd, env, put, Env.get, Env.set, Env.del, Env.dels, Env.init, res1, resL, resV, fillP, splice, newRow, Nat.reduceEqDiff, Nat.reduceLT, Nat.reduceLeDiff, Nat.reduceAdd, Nat.reduceMul, Nat.reduceSub, Nat.reduceBEq, reduceCtorEq, ↓zR, zQ, Tr, StA, StT]
  refine lp_liTimesG b n [] (by simpa using hn) ?_
  simp (maxSteps := 1000000) (disch := first | omega | rfl | (simp only [zL, two63, room] <;> omega) | fail) only [↓reduceIte, ↓zP, zW, WOp, evOp, evBin, binI, binSh, binS, evNil, keyIs, keyEq, mkv, AV.cells, AV.sc, optv, bnd, env, put, Env.get, Env.set, Env.del, Env.dels, Env.init, res1, resL, resV, fillP, splice, newRow, Nat.reduceEqDiff, Nat.reduceLT, Nat.reduceLeDiff, Nat.reduceAdd, Nat.reduceMul, Nat.reduceSub, Nat.reduceBEq, reduceCtorEq, ↓zR, zQ, Tr, StA, StT]
  exact hp
theorem e_liFirstG (t g f : Nat) (ht : t ≤ 100) (hg : g ≤ 100) (hf : f ≤ 100) {h : AH} {post : AV → AH → Prop} : S 100 [.int .i64 t, .int .i64 g, .int .i64 f] h post k = post (.str (List.replicate t 84 ++ List.replicate g 46 ++ List.replicate f 70)) h := by
  refine S_eq fun post hp => ?_
  refine S_of rfl T100 ?_; unfold fi100
  have l1 : (List.replicate t (84 : UInt8)).length + (List.replicate g (46 : UInt8)).length ≤ two63 := by simp [two63]; omega
  have l2 : (List.replicate t (84 : UInt8) ++ List.replicate g 46).length + (List.replicate f (70 : UInt8)).length ≤ two63 := by simp [two63]; omega
  simp (maxSteps := 1000000) (disch := first | omega | rfl | (simp only [zL, two63, room] <;> omega) | fail) only [↓reduceIte, ↓zP, zW, WOp, evOp, evBin, binI, binSh, binS, evNil, keyIs, keyEq, mkv, AV.cells, AV.sc, optv, bnd, env, put, Env.get, Env.set, Env.del, Env.dels, Env.init, res1, resL, resV, fillP, splice, newRow, Nat.reduceEqDiff, Nat.reduceLT, Nat.reduceLeDiff, Nat.reduceAdd, Nat.reduceMul, Nat.reduceSub, Nat.reduceBEq, reduceCtorEq, ↓zR, zQ, Tr, StA, StT, e_liTimesG 84 t (by omega), e_liTimesG 46 g (by omega), e_liTimesG 70 f (by omega), l1, l2]
  exact hp

section
variable {b : AH} {cv : AV} {bs : List UInt8} {post : AV → AH → Prop}
theorem lp_sure {R : X → Env → AH → Prop} : ∀ (d : Nat) (w : List UInt8) (K : Nat) (h : AH), Cur b cv bs K h → K + 2 * d < 2 ^ 49 → w.length + d < 2 ^ 30 → signs w →
    (∀ w' h', w'.length = w.length + d → signs w' → Cur b cv bs (K + 2 * d) h' → PreX b.length h h' → R (.exit 0) [(0, .ptr b.length 0 0 3), (5, .str w')] h') →
    Cx (.loop lp99_0) [(0, .ptr b.length 0 0 3), (5, .str w), (6, .int .i64 d)] h R k k
  | 0, w, K, h, hc, hK, hw, hg, hR => by
    have n1 : ¬ (((0 : Nat) : Int) > 0) := by omega
    rw [w_loopb (c := lp99_0) (d := lb99_0) rfl]; unfold lb99_0
    simp (maxSteps := 1000000) (disch := first | omega | rfl | (simp only [zL, two63, room] <;> omega) | fail) only [↓reduceIte, ↓zP, zW, WOp, evOp, evBin, binI, binSh, binS, evNil, keyIs, keyEq, mkv, AV.cells, AV.sc, optv, bnd, env, put, Env.get, Env.set, Env.del, Env.dels, Env.init, res1, resL, resV, fillP, splice, newRow, Nat.reduceEqDiff, Nat.reduceLT, Nat.reduceLeDiff, Nat.reduceAdd, Nat.reduceMul, Nat.reduceSub, Nat.reduceBEq, reduceCtorEq, ↓zR, zQ, Tr, StA, StT, n1]
    exact hR w h rfl hg hc (PreX.refl _ _)
  | d + 1, w, K, h, hc, hK, hw, hg, hR => by
    have ih := lp_sure (R := R) d
    have n1 : ((d + 1 : Nat) : Int) > 0 := by omega
    have hs : ((d + 1 : Nat) : Int) - 1 = (d : Int) := by omega
    have hwr : IntKind.i64.wrap (d : Int) = (d : Int) := wrap_i (by omega)
    rw [w_loopb (c := lp99_0) (d := lb99_0) rfl]; unfold lb99_0
    simp (maxSteps := 1000000) (disch := first | omega | rfl | (simp only [zL, two63, room] <;> omega) | fail) only [↓reduceIte, ↓zP, zW, WOp, evOp, evBin, binI, binSh, binS, evNil, keyIs, keyEq, mkv, AV.cells, AV.sc, optv, bnd, env, put, Env.get, Env.set, Env.del, Env.dels, Env.init, res1, resL, resV, fillP, splice, newRow, Nat.reduceEqDiff, Nat.reduceLT, Nat.reduceLeDiff, Nat.reduceAdd, Nat.reduceMul, Nat.reduceSub, Nat.reduceBEq, reduceCtorEq, ↓zR, zQ, Tr, StA, StT, n1]
    refine c_of (hc.pre (Pre.push _ _)) (by omega) (slc_litS h [[84], [70], [46], [84], [70]]) (fun r hr => by cases hr; have := hc.lt; omega) (by simp) (by simp) ?_
    intro x hx h2 hc2 hp2
    have hx1 : x.length = 1 := by
      simp only [List.mem_cons, List.not_mem_nil, or_false] at hx
      rcases hx with rfl | rfl | rfl | rfl | rfl <;> rfl
    have hxg : signs x := by
      simp only [List.mem_cons, List.not_mem_nil, or_false] at hx
      rcases hx with rfl | rfl | rfl | rfl | rfl <;> rfl
    have hl : w.length + x.length ≤ two63 := by simp only [two63]; omega
    simp (maxSteps := 1000000) (disch := first | omega | rfl | (simp only [zL, two63, room] <;> omega) | fail) only [↓reduceIte, ↓zP, zW, WOp, evOp, evBin, binI, binSh, binS, evNil, keyIs, keyEq, mkv, AV.cells, AV.sc, optv, bnd, env, put, Env.get, Env.set, Env.del, Env.dels, Env.init, res1, resL, resV, fillP, splice, newRow, Nat.reduceEqDiff, Nat.reduceLT, Nat.reduceLeDiff, Nat.reduceAdd, Nat.reduceMul, Nat.reduceSub, Nat.reduceBEq, reduceCtorEq, ↓zR, zQ, Tr, StA, StT, hl, hs, hwr]
    rw [w_loopn (c := lp99_0) rfl]
    simp (maxSteps := 1000000) (disch := first | omega | rfl | (simp only [zL, two63, room] <;> omega) | fail) only [↓reduceIte, ↓zP, zW, WOp, evOp, evBin, binI, binSh, binS, evNil, keyIs, keyEq, mkv, AV.cells, AV.sc, optv, bnd, env, put, Env.get, Env.set, Env.del, Env.dels, Env.init, res1, resL, resV, fillP, splice, newRow, Nat.reduceEqDiff, Nat.reduceLT, Nat.reduceLeDiff, Nat.reduceAdd, Nat.reduceMul, Nat.reduceSub, Nat.reduceBEq, reduceCtorEq, ↓zR, zQ, Tr, StA, StT]
    refine ih (w ++ x) (K + 2) h2 hc2 (by omega) (by simp; omega) ?_ ?_
    · unfold signs at *
      rw [List.all_append, hg, hxg]; rfl
    · intro w' h' h1 h3 h4 h5
      refine hR w' h' (by simp at h1; omega) h3 (h4.le (by omega)) ((Pre.push _ _).x2 (hp2.trans h5))
variable {K : Nat} {h : AH}
theorem put_signs {w : List UInt8} (hg : signs w) (i : Nat) : signs (w.take i ++ [46] ++ w.drop (i + 1)) := by
  unfold signs at *
  rw [List.all_eq_true] at *
  intro x hx
  simp only [List.mem_append, List.mem_singleton] at hx
  rcases hx with (hx | rfl) | hx
  · exact hg x (List.mem_of_mem_take hx)
  · rfl
  · exact hg x (List.mem_of_mem_drop hx)
theorem c_sureLine (hc : Cur b cv bs K h) (n : Nat) (hn : n < 2 ^ 20) (h0 : 0 < n) (hK : K < 2 ^ 48) (hp : ∀ w h', 1 ≤ w.length → w.length ≤ n → signs w → Cur b cv bs (K + 2 * n + 6) h' → PreX b.length h h' → post (.str w) h') :
    S 99 [.ptr b.length 0 0 3, .int .i64 n] h post k := by
  refine S_of rfl T99 ?_; unfold fi99
  simp (maxSteps := 1000000) (disch := first | omega | rfl | (simp only [zL, two63, room] <;> omega) | fail) only [↓reduceIte, ↓zP, zW, WOp, evOp, evBin, binI, binSh, binS, evNil, keyIs, keyEq, mkv, AV.cells, AV.sc, optv, bnd, env, put, Env.get, Env.set, Env.del, Env.dels, Env.init, res1, resL, resV, fillP, splice, newRow, Nat.reduceEqDiff, Nat.reduceLT, Nat.reduceLeDiff, Nat.reduceAdd, Nat.reduceMul, Nat.reduceSub, Nat.reduceBEq, reduceCtorEq, ↓zR, zQ, Tr, StA, StT]
  refine c_pick hc (by omega) n (by omega) ?_
  intro x h2 hx hc2 hp2
  have hw : IntKind.i64.wrap (1 + (x : Int)) = ((x + 1 : Nat) : Int) := by rw [IntKind.wrap_i64]; omega
  simp (maxSteps := 1000000) (disch := first | omega | rfl | (simp only [zL, two63, room] <;> omega) | fail) only [↓reduceIte, ↓zP, zW, WOp, evOp, evBin, binI, binSh, binS, evNil, keyIs, keyEq, mkv, AV.cells, AV.sc, optv, bnd, env, put, Env.get, Env.set, Env.del, Env.dels, Env.init, res1, resL, resV, fillP, splice, newRow, Nat.reduceEqDiff, Nat.reduceLT, Nat.reduceLeDiff, Nat.reduceAdd, Nat.reduceMul, Nat.reduceSub, Nat.reduceBEq, reduceCtorEq, ↓zR, zQ, Tr, StA, StT, hw]
  refine lp_sure (x + 1) [] (K + 2) h2 hc2 (by omega) (by simp; omega) (by rfl) ?_
  intro w h3 hl hg hc3 hp3
  have hl' : w.length = x + 1 := by simpa using hl
  have hp23 := hp2.trans hp3
  have stop : ∀ K' h', K' ≤ K + 2 * n + 6 → Cur b cv bs K' h' → PreX b.length h h' → post (.str w) h' := fun K' h' h1 h4 h5 => hp w h' (by omega) (by omega) hg (h4.le h1) h5
  by_cases h46 : w.count 46 = 0
  · have n1 : ((w.count 46 : Nat) : Int) = 0 := by omega
    have n1' : (((w.count 46 : Nat) : Int) == 0) = true := by simp [h46]
    simp (maxSteps := 1000000) (disch := first | omega | rfl | (simp only [zL, two63, room] <;> omega) | fail) only [↓reduceIte, ↓zP, zW, WOp, evOp, evBin, binI, binSh, binS, evNil, keyIs, keyEq, mkv, AV.cells, AV.sc, optv, bnd, env, put, Env.get, Env.set, Env.del, Env.dels, Env.init, res1, resL, resV, fillP, splice, newRow, Nat.reduceEqDiff, Nat.reduceLT, Nat.reduceLeDiff, Nat.reduceAdd, Nat.reduceMul, Nat.reduceSub, Nat.reduceBEq, reduceCtorEq, ↓zR, zQ, Tr, StA, StT, e_liCountD w (by omega), n1', h46]
    refine c_one hc3 (by omega) 8 (by omega) ?_
    intro o h4 hc4 hp4
    cases o
    · simp (maxSteps := 1000000) (disch := first | omega | rfl | (simp only [zL, two63, room] <;> omega) | fail) only [↓reduceIte, ↓zP, zW, WOp, evOp, evBin, binI, binSh, binS, evNil, keyIs, keyEq, mkv, AV.cells, AV.sc, optv, bnd, env, put, Env.get, Env.set, Env.del, Env.dels, Env.init, res1, resL, resV, fillP, splice, newRow, Nat.reduceEqDiff, Nat.reduceLT, Nat.reduceLeDiff, Nat.reduceAdd, Nat.reduceMul, Nat.reduceSub, Nat.reduceBEq, reduceCtorEq, ↓zR, zQ, Tr, StA, StT]
      refine c_pick hc4 (by omega) w.length (by omega) ?_
      intro y h5 hy hc5 hp5
      have hyl : y < w.length := by omega
      simp (maxSteps := 1000000) (disch := first | omega | rfl | (simp only [zL, two63, room] <;> omega) | fail) only [↓reduceIte, ↓zP, zW, WOp, evOp, evBin, binI, binSh, binS, evNil, keyIs, keyEq, mkv, AV.cells, AV.sc, optv, bnd, env, put, Env.get, Env.set, Env.del, Env.dels, Env.init, res1, resL, resV, fillP, splice, newRow, Nat.reduceEqDiff, Nat.reduceLT, Nat.reduceLeDiff, Nat.reduceAdd, Nat.reduceMul, Nat.reduceSub, Nat.reduceBEq, reduceCtorEq, ↓zR, zQ, Tr, StA, StT]
      refine c_liPut w y [46] hyl (by omega) (by simp) ?_
      simp (maxSteps := 1000000) (disch := first | omega | rfl | (simp only [zL, two63, room] <;> omega) | fail) only [↓reduceIte, ↓zP, zW, WOp, evOp, evBin, binI, binSh, binS, evNil, keyIs, keyEq, mkv, AV.cells, AV.sc, optv, bnd, env, put, Env.get, Env.set, Env.del, Env.dels, Env.init, res1, resL, resV, fillP, splice, newRow, Nat.reduceEqDiff, Nat.reduceLT, Nat.reduceLeDiff, Nat.reduceAdd, Nat.reduceMul, Nat.reduceSub, Nat.reduceBEq, reduceCtorEq, ↓zR, zQ, Tr, StA, StT]
      refine hp _ h5 ?_ ?_ (put_signs hg y) (hc5.le (by omega)) (hp23.trans (hp4.trans hp5))
      · simp; omega
      · simp; omega
    · simp (maxSteps := 1000000) (disch := first | omega | rfl | (simp only [zL, two63, room] <;> omega) | fail) only [↓reduceIte, ↓zP, zW, WOp, evOp, evBin, binI, binSh, binS, evNil, keyIs, keyEq, mkv, AV.cells, AV.sc, optv, bnd, env, put, Env.get, Env.set, Env.del, Env.dels, Env.init, res1, resL, resV, fillP, splice, newRow, Nat.reduceEqDiff, Nat.reduceLT, Nat.reduceLeDiff, Nat.reduceAdd, Nat.reduceMul, Nat.reduceSub, Nat.reduceBEq, reduceCtorEq, ↓zR, zQ, Tr, StA, StT]
      exact stop _ h4 (by omega) hc4 (hp23.trans hp4)
  · have n1' : (((w.count 46 : Nat) : Int) == 0) = false := by simp; omega
    simp (maxSteps := 1000000) (disch := first | omega | rfl | (simp only [zL, two63, room] <;> omega) | fail) only [↓reduceIte, ↓zP, zW, WOp, evOp, evBin, binI, binSh, binS, evNil, keyIs, keyEq, mkv, AV.cells, AV.sc, optv, bnd, env, put, Env.get, Env.set, Env.del, Env.dels, Env.init, res1, resL, resV, fillP, splice, newRow, Nat.reduceEqDiff, Nat.reduceLT, Nat.reduceLeDiff, Nat.reduceAdd, Nat.reduceMul, Nat.reduceSub, Nat.reduceBEq, reduceCtorEq, ↓zR, zQ, Tr, StA, StT, e_liCountD w (by omega), n1']
    exact stop _ h3 (by omega) hc3 hp23
theorem c_line (hc : Cur b cv bs K h) (hK : K < 2 ^ 47) (hp : ∀ w h', w.length ≤ 13 → Cur b cv bs (K + 40) h' → PreX b.length h h' → post (.str w) h') : S 101 [.ptr b.length 0 0 3] h post k := by
  refine S_of rfl T101 ?_; unfold fi101
  simp (maxSteps := 1000000) (disch := first | omega | rfl | (simp only [zL, two63, room] <;> omega) | fail) only [↓reduceIte, ↓zP, zW, WOp, evOp, evBin, binI, binSh, binS, evNil, keyIs, keyEq, mkv, AV.cells, AV.sc, optv, bnd, env, put, Env.get, Env.set, Env.del, Env.dels, Env.init, res1, resL, resV, fillP, splice, newRow, Nat.reduceEqDiff, Nat.reduceLT, Nat.reduceLeDiff, Nat.reduceAdd, Nat.reduceMul, Nat.reduceSub, Nat.reduceBEq, reduceCtorEq, ↓zR, zQ, Tr, StA, StT]
  refine c_pick hc (by omega) 16 (by omega) ?_
  intro x h2 hx hc2 hp2
  by_cases hx0 : x = 0
  · subst hx0
    simp (maxSteps := 1000000) (disch := first | omega | rfl | (simp only [zL, two63, room] <;> omega) | fail) only [↓reduceIte, ↓zP, zW, WOp, evOp, evBin, binI, binSh, binS, evNil, keyIs, keyEq, mkv, AV.cells, AV.sc, optv, bnd, env, put, Env.get, Env.set, Env.del, Env.dels, Env.init, res1, resL, resV, fillP, splice, newRow, Nat.reduceEqDiff, Nat.reduceLT, Nat.reduceLeDiff, Nat.reduceAdd, Nat.reduceMul, Nat.reduceSub, Nat.reduceBEq, reduceCtorEq, ↓zR, zQ, Tr, StA, StT]
    refine c_of (hc2.pre (Pre.push _ _)) (by omega) (slc_litS h2 [[], [120], [84, 32, 70], [84, 46, 70, 46, 84, 46, 70, 46, 84, 46, 70, 46, 84], [116, 46, 102]]) (fun r hr => by cases hr; have := hc2.lt; omega) (by simp) (by simp) ?_
    intro x hx h3 hc3 hp3
    simp (maxSteps := 1000000) (disch := first | omega | rfl | (simp only [zL, two63, room] <;> omega) | fail) only [↓reduceIte, ↓zP, zW, WOp, evOp, evBin, binI, binSh, binS, evNil, keyIs, keyEq, mkv, AV.cells, AV.sc, optv, bnd, env, put, Env.get, Env.set, Env.del, Env.dels, Env.init, res1, resL, resV, fillP, splice, newRow, Nat.reduceEqDiff, Nat.reduceLT, Nat.reduceLeDiff, Nat.reduceAdd, Nat.reduceMul, Nat.reduceSub, Nat.reduceBEq, reduceCtorEq, ↓zR, zQ, Tr, StA, StT]
    refine hp x h3 ?_ (hc3.le (by omega)) (hp2.trans ((Pre.push _ _).x2 hp3))
    simp only [List.mem_cons, List.not_mem_nil, or_false] at hx
    rcases hx with rfl | rfl | rfl | rfl | rfl <;> simp
  by_cases hx3 : x ≤ 3
  · have ww : ∀ y : Nat, y ≤ 2 → IntKind.i64.wrap (1 + (y : Int)) = ((y + 1 : Nat) : Int) := fun y hy => by rw [IntKind.wrap_i64]; omega
    have fin : ∀ (y1 y2 y3 : Nat) g, y1 ≤ 2 → y2 ≤ 2 → y3 ≤ 2 → Cur b cv bs (K + 8) g → PreX b.length h g → post (.str (List.replicate (y1 + 1) 84 ++ List.replicate (y2 + 1) 46 ++ List.replicate (y3 + 1) 70)) g := by
      intro y1 y2 y3 g h1 h2 h3 h4 h5
      exact hp _ g (by simp; omega) (h4.le (by omega)) h5
    obtain rfl | rfl | rfl : x = 1 ∨ x = 2 ∨ x = 3 := by omega
    all_goals
      simp (maxSteps := 1000000) (disch := first | omega | rfl | (simp only [zL, two63, room] <;> omega) | fail) only [↓reduceIte, ↓zP, zW, WOp, evOp, evBin, binI, binSh, binS, evNil, keyIs, keyEq, mkv, AV.cells, AV.sc, optv, bnd, env, put, Env.get, Env.set, Env.del, Env.dels, Env.init, res1, resL, resV, fillP, splice, newRow, Nat.reduceEqDiff, Nat.reduceLT, Nat.reduceLeDiff, Nat.reduceAdd, Nat.reduceMul, Nat.reduceSub, Nat.reduceBEq, reduceCtorEq, ↓zR, zQ, Tr, StA, StT]
      refine c_pick hc2 (by omega) 3 (by omega) ?_
      intro y1 g1 hy1 hg1 hpg1
      have y1' : y1 ≤ 2 := by omega
      simp (maxSteps := 1000000) (disch := first | omega | rfl | (simp only [zL, two63, room] <;> omega) | fail) only [↓reduceIte, ↓zP, zW, WOp, evOp, evBin, binI, binSh, binS, evNil, keyIs, keyEq, mkv, AV.cells, AV.sc, optv, bnd, env, put, Env.get, Env.set, Env.del, Env.dels, Env.init, res1, resL, resV, fillP, splice, newRow, Nat.reduceEqDiff, Nat.reduceLT, Nat.reduceLeDiff, Nat.reduceAdd, Nat.reduceMul, Nat.reduceSub, Nat.reduceBEq, reduceCtorEq, ↓zR, zQ, Tr, StA, StT, ww y1 y1']
      refine c_pick hg1 (by omega) 2 (by omega) ?_
      intro y2 g2 hy2 hg2 hpg2
      have y2' : y2 ≤ 2 := by omega
      simp (maxSteps := 1000000) (disch := first | omega | rfl | (simp only [zL, two63, room] <;> omega) | fail) only [↓reduceIte, ↓zP, zW, WOp, evOp, evBin, binI, binSh, binS, evNil, keyIs, keyEq, mkv, AV.cells, AV.sc, optv, bnd, env, put, Env.get, Env.set, Env.del, Env.dels, Env.init, res1, resL, resV, fillP, splice, newRow, Nat.reduceEqDiff, Nat.reduceLT, Nat.reduceLeDiff, Nat.reduceAdd, Nat.reduceMul, Nat.reduceSub, Nat.reduceBEq, reduceCtorEq, ↓zR, zQ, Tr, StA, StT, ww y2 y2']
      refine c_pick hg2 (by omega) 3 (by omega) ?_
      intro y3 g3 hy3 hg3 hpg3
      have y3' : y3 ≤ 2 := by omega
      simp (maxSteps := 1000000) (disch := first | omega | rfl | (simp only [zL, two63, room] <;> omega) | fail) only [↓reduceIte, ↓zP, zW, WOp, evOp, evBin, binI, binSh, binS, evNil, keyIs, keyEq, mkv, AV.cells, AV.sc, optv, bnd, env, put, Env.get, Env.set, Env.del, Env.dels, Env.init, res1, resL, resV, fillP, splice, newRow, Nat.reduceEqDiff, Nat.reduceLT, Nat.reduceLeDiff, Nat.reduceAdd, Nat.reduceMul, Nat.reduceSub, Nat.reduceBEq, reduceCtorEq, ↓zR, zQ, Tr, StA, StT, ww y3 y3', e_liFirstG (y1 + 1) (y2 + 1) (y3 + 1) (by omega) (by omega) (by omega)]
      exact fin y1 y2 y3 g3 y1' y2' y3' (hg3.le (by omega)) (hp2.trans (hpg1.trans (hpg2.trans hpg3)))
  · have n0 : ((x : Int) == 0) = false := by simp; omega
    have n1 : ((x : Int) == 1) = false := by simp; omega
    have n2 : ((x : Int) == 2) = false := by simp; omega
    have n3 : ((x : Int) == 3) = false := by simp; omega
    simp (maxSteps := 1000000) (disch := first | omega | rfl | (simp only [zL, two63, room] <;> omega) | fail) only [↓reduceIte, ↓zP, zW, WOp, evOp, evBin, binI, binSh, binS, evNil, keyIs, keyEq, mkv, AV.cells, AV.sc, optv, bnd, env, put, Env.get, Env.set, Env.del, Env.dels, Env.init, res1, resL, resV, fillP, splice, newRow, Nat.reduceEqDiff, Nat.reduceLT, Nat.reduceLeDiff, Nat.reduceAdd, Nat.reduceMul, Nat.reduceSub, Nat.reduceBEq, reduceCtorEq, ↓zR, zQ, Tr, StA, StT, n0, n1, n2, n3]
    refine c_sureLine hc2 9 (by omega) (by omega) (by omega) ?_
    intro w h3 h1 h4 _ hc3 hp3
    simp (maxSteps := 1000000) (disch := first | omega | rfl | (simp only [zL, two63, room] <;> omega) | fail) only [↓reduceIte, ↓zP, zW, WOp, evOp, evBin, binI, binSh, binS, evNil, keyIs, keyEq, mkv, AV.cells, AV.sc, optv, bnd, env, put, Env.get, Env.set, Env.del, Env.dels, Env.init, res1, resL, resV, fillP, splice, newRow, Nat.reduceEqDiff, Nat.reduceLT, Nat.reduceLeDiff, Nat.reduceAdd, Nat.reduceMul, Nat.reduceSub, Nat.reduceBEq, reduceCtorEq, ↓zR, zQ, Tr, StA, StT]
    exact hp w h3 (by omega) (hc3.le (by omega)) (hp2.trans hp3)
end
end Go.Proofs.YtejhhdpfndiliaaGreatDoor.Ab

/- THE WAY that all have to go, the pairs, the moves from the other side: what moves make of them. -/
namespace Go.Proofs.YtejhhdpfndiliaaGreatDoor.Ab
open Go

def inv (f : UInt8 → UInt8 → Nat) : List UInt8 → Nat
  | [] => 0
  | a :: l => (l.map (f a)).sum + inv f l
def crossB (f : UInt8 → UInt8 → Nat) (A B : List UInt8) : Nat := (A.map fun a => (B.map (f a)).sum).sum
theorem inv_append (f : UInt8 → UInt8 → Nat) : ∀ A B : List UInt8, inv f (A ++ B) = inv f A + inv f B + crossB f A B
  | [], B => by simp [inv, crossB]
  | a :: A, B => by
    simp only [List.cons_append, inv, inv_append f A B, List.map_append, List.sum_append, crossB, List.map_cons, List.sum_cons]
    omega
theorem inv_mid (f : UInt8 → UInt8 → Nat) (A B X X' : List UInt8) (hX : ∀ g : UInt8 → Nat, (X'.map g).sum = (X.map g).sum) : inv f (A ++ (X' ++ B)) + inv f X = inv f (A ++ (X ++ B)) + inv f X' := by
  have h1 : crossB f X' B = crossB f X B := hX _
  have h2 : crossB f A (X' ++ B) = crossB f A (X ++ B) := by
    unfold crossB
    congr 1
    refine List.map_congr_left fun a _ => ?_
    rw [List.map_append, List.map_append, List.sum_append, List.sum_append, hX]
  simp only [inv_append, h1, h2]
  omega
theorem inv_rev (f : UInt8 → UInt8 → Nat) : ∀ l : List UInt8, inv f l.reverse = inv (fun a b => f b a) l
  | [] => rfl
  | a :: l => by
    rw [List.reverse_cons, inv_append, inv_rev f l]
    have : crossB f l.reverse [a] = (l.map fun b => f b a).sum := by
      simp [crossB, List.map_reverse, List.sum_reverse]
    rw [this]
    simp only [inv, List.map_nil, List.sum_nil]
    omega
theorem inv_map (f : UInt8 → UInt8 → Nat) (g : UInt8 → UInt8) : ∀ l : List UInt8, inv f (l.map g) = inv (fun a b => f (g a) (g b)) l
  | [] => rfl
  | a :: l => by
    simp only [List.map_cons, inv, inv_map f g l, List.map_map]
    rfl
theorem inv_zero {f : UInt8 → UInt8 → Nat} : ∀ {l : List UInt8}, l.Pairwise (fun a b => f a b = 0) → inv f l = 0
  | [], _ => rfl
  | a :: l, h => by
    rw [List.pairwise_cons] at h
    have : (l.map (f a)).sum = 0 := by
      have : l.map (f a) = l.map fun _ => 0 := List.map_congr_left fun b hb => h.1 b hb
      rw [this]
      clear this h
      induction l with
      | nil => rfl
      | cons b l ih => simpa using ih
    simp only [inv, this, inv_zero h.2]

def vW (a b : UInt8) : Nat := if a = 84 then (if b = 70 then 2 else if b = 46 then 1 else 0) else if a = 46 then (if b = 70 then 1 else 0) else 0
def vP (a b : UInt8) : Nat := if a = 84 then (if b = 70 then 1 else 0) else 0
def wayN (w : List UInt8) : Nat := inv vW w

theorem sumW84 : ∀ l : List UInt8, (l.map (vW 84)).sum = 2 * l.count 70 + l.count 46
  | [] => rfl
  | b :: l => by
    rw [List.map_cons, List.sum_cons, sumW84 l]
    by_cases h1 : b = 70
    · subst h1; simp [vW, List.count_cons]; omega
    · by_cases h2 : b = 46
      · subst h2; simp [vW, List.count_cons]; omega
      · simp [vW, List.count_cons, h1, h2]
theorem sumW46 : ∀ l : List UInt8, (l.map (vW 46)).sum = l.count 70
  | [] => rfl
  | b :: l => by
    rw [List.map_cons, List.sum_cons, sumW46 l]
    by_cases h1 : b = 70
    · subst h1; simp [vW, List.count_cons]; omega
    · simp [vW, List.count_cons, h1]
theorem sum_z {α : Type} : ∀ l : List α, (l.map fun _ => 0).sum = 0
  | [] => rfl
  | _ :: l => by simpa using sum_z l
theorem sumW70 (l : List UInt8) : (l.map (vW 70)).sum = 0 := by
  have : l.map (vW 70) = l.map fun _ => 0 := List.map_congr_left fun b _ => rfl
  rw [this, sum_z]
theorem sumP84 : ∀ l : List UInt8, (l.map (vP 84)).sum = l.count 70
  | [] => rfl
  | b :: l => by
    rw [List.map_cons, List.sum_cons, sumP84 l]
    by_cases h1 : b = 70
    · subst h1; simp [vP, List.count_cons]; omega
    · simp [vP, List.count_cons, h1]
theorem sumPx {a : UInt8} (ha : a ≠ 84) (l : List UInt8) : (l.map (vP a)).sum = 0 := by
  have : l.map (vP a) = l.map fun _ => 0 := List.map_congr_left fun b _ => by simp [vP, ha]
  rw [this, sum_z]
theorem sign3 {b : UInt8} (h : isSign b = true) : b = 84 ∨ b = 46 ∨ b = 70 := by
  unfold isSign at h
  simp only [Bool.or_eq_true, beq_iff_eq] at h
  rcases h with (h | h) | h
  · exact .inl h
  · exact .inr (.inr h)
  · exact .inr (.inl h)
theorem signs_cons {b : UInt8} {l : List UInt8} : signs (b :: l) ↔ isSign b = true ∧ signs l := by
  unfold signs; rw [List.all_cons, Bool.and_eq_true]
theorem cnt3 : ∀ {l : List UInt8}, signs l → l.length = l.count 84 + l.count 46 + l.count 70
  | [], _ => rfl
  | b :: l, h => by
    rw [signs_cons] at h
    have := cnt3 h.2
    rcases sign3 h.1 with rfl | rfl | rfl <;> simp [List.count_cons] <;> omega

/-! ### Pairs -/
theorem pairsL_inv : ∀ (l : List UInt8) (t s : Nat), pairsL l t s = s + t * l.count 70 + inv vP l
  | [], t, s => by simp [pairsL, inv]
  | b :: l, t, s => by
    simp only [pairsL, inv]
    by_cases h1 : b = 84
    · subst h1
      simp only [beq_self_eq_true, if_true, pairsL_inv l, sumP84]
      have : (84 :: l : List UInt8).count 70 = l.count 70 := by simp [List.count_cons]
      rw [this, Nat.succ_mul]; omega
    · have e1 : (b == 84) = false := by simpa using h1
      by_cases h2 : b = 70
      · subst h2
        have : (70 :: l : List UInt8).count 70 = l.count 70 + 1 := by simp [List.count_cons]
        simp only [e1, beq_self_eq_true, if_true, Bool.false_eq_true, if_false, pairsL_inv l, sumPx h1, this, Nat.mul_succ]
        omega
      · have e2 : (b == 70) = false := by simpa using h2
        have : (b :: l : List UInt8).count 70 = l.count 70 := by simp [List.count_cons, h2]
        simp only [e1, e2, Bool.false_eq_true, if_false, pairsL_inv l, sumPx h1, this]
        omega
theorem pairsB_inv (w : List UInt8) : pairsB w = inv vP w := by
  unfold pairsB; rw [pairsL_inv]; omega

/-! ### Moves -/
theorem set2 (A B : List UInt8) (x y v u : UInt8) : ((A ++ ([x, y] ++ B)).set (A.length + 1) v).set A.length u = A ++ ([u, v] ++ B) := by
  simp [List.set_append]
theorem set2' (A B : List UInt8) (x y v u : UInt8) : ((A ++ ([x, y] ++ B)).set A.length v).set (A.length + 1) u = A ++ ([v, u] ++ B) := by
  simp [List.set_append]
theorem set3 (A B : List UInt8) (x y z v u : UInt8) : ((A ++ ([x, y, z] ++ B)).set (A.length + 2) v).set A.length u = A ++ ([u, y, v] ++ B) := by
  simp [List.set_append]
theorem set3' (A B : List UInt8) (x y z v u : UInt8) : ((A ++ ([x, y, z] ++ B)).set A.length v).set (A.length + 2) u = A ++ ([v, y, u] ++ B) := by
  simp [List.set_append]
theorem split2 {w : List UInt8} {i : Nat} (h : i + 1 < w.length) : w = w.take i ++ ([w.getD i 0, w.getD (i + 1) 0] ++ w.drop (i + 2)) := by
  have e1 : w.getD i 0 = w[i] := by simp [List.getD_eq_getElem?_getD, show i < w.length by omega]
  have e2 : w.getD (i + 1) 0 = w[i + 1] := by simp [List.getD_eq_getElem?_getD, h]
  rw [e1, e2]
  simp
theorem split3 {w : List UInt8} {i : Nat} (h : i + 2 < w.length) : w = w.take i ++ ([w.getD i 0, w.getD (i + 1) 0, w.getD (i + 2) 0] ++ w.drop (i + 3)) := by
  have e1 : w.getD i 0 = w[i] := by simp [List.getD_eq_getElem?_getD, show i < w.length by omega]
  have e2 : w.getD (i + 1) 0 = w[i + 1] := by simp [List.getD_eq_getElem?_getD, show i + 1 < w.length by omega]
  have e3 : w.getD (i + 2) 0 = w[i + 2] := by simp [List.getD_eq_getElem?_getD, h]
  rw [e1, e2, e3]
  simp
/-- How a move turns a line. -/
theorem mv_parts {w : List UInt8} {i t : Nat} (h : Mv w i t) : ∃ A X X' B, w = A ++ (X ++ B) ∧ madeB w i t = A ++ (X' ++ B) ∧
    ((t = i + 1 ∧ X = [84, 46] ∧ X' = [46, 84]) ∨ (t = i + 2 ∧ X = [84, 70, 46] ∧ X' = [46, 70, 84]) ∨ (t + 1 = i ∧ X = [46, 70] ∧ X' = [70, 46]) ∨ (t + 2 = i ∧ X = [46, 84, 70] ∧ X' = [70, 84, 46])) := by
  obtain ⟨hi, ht, h46, h⟩ := h
  unfold madeB
  rcases h with ⟨ha, rfl | ⟨rfl, hb⟩⟩ | ⟨ha, rfl | ⟨rfl, hb⟩⟩
  · have hs := split2 ht
    have hA : (w.take i).length = i := by simp; omega
    rw [ha, h46] at hs
    refine ⟨w.take i, _, _, _, hs, ?_, .inl ⟨rfl, rfl, rfl⟩⟩
    have := set2 (w.take i) (w.drop (i + 2)) 84 46 84 46
    rw [hA, ← hs] at this
    rw [ha]; exact this
  · have hs := split3 ht
    have hA : (w.take i).length = i := by simp; omega
    rw [ha, hb, h46] at hs
    refine ⟨w.take i, _, _, _, hs, ?_, .inr (.inl ⟨rfl, rfl, rfl⟩)⟩
    have := set3 (w.take i) (w.drop (i + 3)) 84 70 46 84 46
    rw [hA, ← hs] at this
    rw [ha]; exact this
  · have hs := split2 hi
    have hA : (w.take t).length = t := by simp; omega
    rw [ha, h46] at hs
    refine ⟨w.take t, _, _, _, hs, ?_, .inr (.inr (.inl ⟨rfl, rfl, rfl⟩))⟩
    have := set2' (w.take t) (w.drop (t + 2)) 46 70 70 46
    rw [hA, ← hs] at this
    rw [ha]; exact this
  · have hs := split3 hi
    have hA : (w.take t).length = t := by simp; omega
    have hb' : w.getD (t + 1) 0 = 84 := hb
    rw [ha, hb', h46] at hs
    refine ⟨w.take t, _, _, _, hs, ?_, .inr (.inr (.inr ⟨rfl, rfl, rfl⟩))⟩
    have := set3' (w.take t) (w.drop (t + 3)) 46 84 70 70 46
    rw [hA, ← hs] at this
    rw [ha]; exact this
def isJ (i t : Nat) : Bool := decide (t = i + 2 ∨ t + 2 = i)
theorem made_way {w : List UInt8} {i t : Nat} (h : Mv w i t) : wayN (madeB w i t) + (if isJ i t then 2 else 1) = wayN w ∧ pairsB (madeB w i t) + (if isJ i t then 1 else 0) = pairsB w := by
  rw [pairsB_inv, pairsB_inv]
  unfold wayN
  obtain ⟨A, X, X', B, hw, hm, hc⟩ := mv_parts h
  rw [hm]
  have hX : ∀ g : UInt8 → Nat, (X'.map g).sum = (X.map g).sum := by
    intro g
    rcases hc with ⟨_, rfl, rfl⟩ | ⟨_, rfl, rfl⟩ | ⟨_, rfl, rfl⟩ | ⟨_, rfl, rfl⟩ <;> simp <;> omega
  have h1 := inv_mid vW A B X X' hX
  have h2 := inv_mid vP A B X X' hX
  rw [← hw] at h1 h2
  rcases hc with ⟨rfl, rfl, rfl⟩ | ⟨rfl, rfl, rfl⟩ | ⟨rfl, rfl, rfl⟩ | ⟨rfl, rfl, rfl⟩
  · have hj : isJ i (i + 1) = false := by simp [isJ]; omega
    have a1 : inv vW [84, 46] = 1 := by decide
    have a2 : inv vW [46, 84] = 0 := by decide
    have a3 : inv vP [84, 46] = 0 := by decide
    have a4 : inv vP [46, 84] = 0 := by decide
    simp only [hj, Bool.false_eq_true, if_false]; omega
  · have hj : isJ i (i + 2) = true := by simp [isJ]
    have a1 : inv vW [84, 70, 46] = 3 := by decide
    have a2 : inv vW [46, 70, 84] = 1 := by decide
    have a3 : inv vP [84, 70, 46] = 1 := by decide
    have a4 : inv vP [46, 70, 84] = 0 := by decide
    simp only [hj, if_true]; omega
  · have hj : isJ (t + 1) t = false := by simp [isJ]; omega
    have a1 : inv vW [46, 70] = 1 := by decide
    have a2 : inv vW [70, 46] = 0 := by decide
    have a3 : inv vP [46, 70] = 0 := by decide
    have a4 : inv vP [70, 46] = 0 := by decide
    simp only [hj, Bool.false_eq_true, if_false]; omega
  · have hj : isJ (t + 2) t = true := by simp [isJ]
    have a1 : inv vW [46, 84, 70] = 3 := by decide
    have a2 : inv vW [70, 84, 46] = 1 := by decide
    have a3 : inv vP [46, 84, 70] = 1 := by decide
    have a4 : inv vP [70, 84, 46] = 0 := by decide
    simp only [hj, if_true]; omega

/-! ### The way, as both sides count it -/
def wayL : List UInt8 → Int → Int → Int → Int → Int
  | [], _, _, _, s => s
  | b :: l, t, f, i, s => if b == 84 then wayL l (t + 1) f (i + 1) (s + (t - i)) else if b == 70 then wayL l t (f + 1) (i + 1) (s + (i - f)) else wayL l t f (i + 1) s
theorem wayL_inv : ∀ (l : List UInt8) (d i f : Nat) (t s : Int), signs l → (i : Int) - f = d → t = i + (l.count 46 + l.count 70 : Nat) → wayL l t f i s = s + (d * l.count 70 + inv vW l : Nat)
  | [], d, i, f, t, s, _, _, _ => by simp [wayL, inv]
  | b :: l, d, i, f, t, s, hg, hd, ht => by
    rw [signs_cons] at hg
    rcases sign3 hg.1 with rfl | rfl | rfl
    · have c1 : (84 :: l : List UInt8).count 46 = l.count 46 := by simp [List.count_cons]
      have c2 : (84 :: l : List UInt8).count 70 = l.count 70 := by simp [List.count_cons]
      rw [c1, c2] at ht
      have := wayL_inv l (d + 1) (i + 1) f (t + 1) (s + (t - i)) hg.2 (by omega) (by omega)
      simp only [wayL, beq_self_eq_true, if_true, inv, sumW84, c2]
      rw [show ((i : Int) + 1) = ((i + 1 : Nat) : Int) by omega, this, Nat.succ_mul]
      omega
    · have c1 : (46 :: l : List UInt8).count 46 = l.count 46 + 1 := by simp [List.count_cons]
      have c2 : (46 :: l : List UInt8).count 70 = l.count 70 := by simp [List.count_cons]
      rw [c1, c2] at ht
      have := wayL_inv l (d + 1) (i + 1) f t s hg.2 (by omega) (by omega)
      have e1 : ((46 : UInt8) == 84) = false := rfl
      have e2 : ((46 : UInt8) == 70) = false := rfl
      simp only [wayL, e1, e2, Bool.false_eq_true, if_false, inv, sumW46, c2]
      rw [show ((i : Int) + 1) = ((i + 1 : Nat) : Int) by omega, this, Nat.succ_mul]
      omega
    · have c1 : (70 :: l : List UInt8).count 46 = l.count 46 := by simp [List.count_cons]
      have c2 : (70 :: l : List UInt8).count 70 = l.count 70 + 1 := by simp [List.count_cons]
      rw [c1, c2] at ht
      have := wayL_inv l d (i + 1) (f + 1) t (s + (i - f)) hg.2 (by omega) (by omega)
      have e1 : ((70 : UInt8) == 84) = false := rfl
      simp only [wayL, e1, beq_self_eq_true, Bool.false_eq_true, if_false, if_true, inv, sumW70, c2]
      rw [show ((i : Int) + 1) = ((i + 1 : Nat) : Int) by omega, show ((f : Int) + 1) = ((f + 1 : Nat) : Int) by omega, this, Nat.mul_succ]
      omega
theorem wayL_N {w : List UInt8} (hg : signs w) : wayL w ((w.length : Int) - (w.count 84 : Nat)) 0 0 0 = (wayN w : Nat) := by
  have := wayL_inv w 0 0 0 ((w.length : Int) - (w.count 84 : Nat)) 0 hg (by omega) (by have := cnt3 hg; omega)
  simpa [wayN] using this
def psB (b : UInt8) : Nat → List UInt8 → Nat
  | _, [] => 0
  | k, x :: l => (if x = b then k else 0) + psB b (k + 1) l
def tri : Nat → Nat
  | 0 => 0
  | m + 1 => tri m + m
theorem ps_way : ∀ (w : List UInt8) (k : Nat), signs w → psB 70 k w + w.count 84 * (k + w.count 46 + w.count 70) + tri (w.count 84) = psB 84 k w + w.count 70 * k + tri (w.count 70) + inv vW w
  | [], k, _ => by simp [psB, tri, inv]
  | b :: l, k, hg => by
    rw [signs_cons] at hg
    have ih := ps_way l (k + 1) hg.2
    generalize hT : l.count 84 = T at ih
    generalize hG : l.count 46 = G at ih
    generalize hF : l.count 70 = FF at ih
    have m1 : T * (k + 1 + G + FF) = T * (k + G + FF) + T := by rw [show k + 1 + G + FF = k + G + FF + 1 by omega, Nat.mul_succ]
    have m2 : FF * (k + 1) = FF * k + FF := Nat.mul_succ _ _
    rw [m1, m2] at ih
    rcases sign3 hg.1 with rfl | rfl | rfl
    · have c1 : (84 :: l : List UInt8).count 84 = T + 1 := by simp [List.count_cons, hT]
      have c2 : (84 :: l : List UInt8).count 46 = G := by simp [List.count_cons, hG]
      have c3 : (84 :: l : List UInt8).count 70 = FF := by simp [List.count_cons, hF]
      have p1 : psB 70 k (84 :: l) = psB 70 (k + 1) l := by simp [psB]
      have p2 : psB 84 k (84 :: l) = k + psB 84 (k + 1) l := by simp [psB]
      rw [c1, c2, c3, p1, p2, Nat.succ_mul]
      simp only [tri, inv, sumW84, hF, hG]
      omega
    · have c1 : (46 :: l : List UInt8).count 84 = T := by simp [List.count_cons, hT]
      have c2 : (46 :: l : List UInt8).count 46 = G + 1 := by simp [List.count_cons, hG]
      have c3 : (46 :: l : List UInt8).count 70 = FF := by simp [List.count_cons, hF]
      have p1 : psB 70 k (46 :: l) = psB 70 (k + 1) l := by simp [psB]
      have p2 : psB 84 k (46 :: l) = psB 84 (k + 1) l := by simp [psB]
      rw [c1, c2, c3, p1, p2, show k + (G + 1) + FF = k + G + FF + 1 by omega, Nat.mul_succ]
      simp only [inv, sumW46, hF]
      omega
    · have c1 : (70 :: l : List UInt8).count 84 = T := by simp [List.count_cons, hT]
      have c2 : (70 :: l : List UInt8).count 46 = G := by simp [List.count_cons, hG]
      have c3 : (70 :: l : List UInt8).count 70 = FF + 1 := by simp [List.count_cons, hF]
      have p1 : psB 70 k (70 :: l) = k + psB 70 (k + 1) l := by simp [psB]
      have p2 : psB 84 k (70 :: l) = psB 84 (k + 1) l := by simp [psB]
      rw [c1, c2, c3, p1, p2, show k + G + (FF + 1) = k + G + FF + 1 by omega, Nat.mul_succ, Nat.succ_mul]
      simp only [tri, inv, sumW70]
      omega
def lastB (w : List UInt8) : List UInt8 := List.replicate (w.count 70) 70 ++ List.replicate (w.count 46) 46 ++ List.replicate (w.count 84) 84
theorem lastB_count (w : List UInt8) : (lastB w).count 84 = w.count 84 ∧ (lastB w).count 46 = w.count 46 ∧ (lastB w).count 70 = w.count 70 := by
  simp [lastB, List.count_append, List.count_replicate]
theorem lastB_signs (w : List UInt8) : signs (lastB w) := by
  unfold signs
  rw [List.all_eq_true]
  intro x hx
  simp only [lastB, List.mem_append, List.mem_replicate] at hx
  rcases hx with (⟨_, rfl⟩ | ⟨_, rfl⟩) | ⟨_, rfl⟩ <;> rfl
theorem lastB_len {w : List UInt8} (hg : signs w) : (lastB w).length = w.length := by
  have := cnt3 hg
  simp [lastB]; omega
theorem lastB_way (w : List UInt8) : wayN (lastB w) = 0 := by
  refine inv_zero ?_
  unfold lastB
  rw [List.pairwise_append, List.pairwise_append]
  refine ⟨⟨?_, ?_, ?_⟩, ?_, ?_⟩
  · rw [List.pairwise_replicate]; exact .inr rfl
  · rw [List.pairwise_replicate]; exact .inr rfl
  · intro a ha b hb
    rw [List.eq_of_mem_replicate ha, List.eq_of_mem_replicate hb]; rfl
  · rw [List.pairwise_replicate]; exact .inr rfl
  · intro a ha b hb
    rw [List.eq_of_mem_replicate hb]
    rw [List.mem_append] at ha
    rcases ha with ha | ha <;> rw [List.eq_of_mem_replicate ha] <;> rfl
theorem way_ps {w : List UInt8} (hg : signs w) : ((psB 84 0 (lastB w) : Nat) : Int) - (psB 84 0 w : Nat) + (psB 70 0 w : Nat) - (psB 70 0 (lastB w) : Nat) = (wayN w : Nat) := by
  have h1 := ps_way w 0 hg
  have h2 := ps_way (lastB w) 0 (lastB_signs w)
  obtain ⟨k1, k2, k3⟩ := lastB_count w
  have h3 := lastB_way w
  unfold wayN at h3 ⊢
  rw [k1, k2, k3, h3] at h2
  omega
theorem way_other (w : List UInt8) : wayN (otherL w) = wayN w := by
  unfold wayN otherL
  rw [inv_rev, inv_map]
  congr 1
  funext a b
  unfold vW otherB
  by_cases a1 : a = 84
  · subst a1
    by_cases b1 : b = 84
    · subst b1; rfl
    · by_cases b2 : b = 70
      · subst b2; rfl
      · by_cases b3 : b = 46
        · subst b3; rfl
        · simp [b1, b2, b3]
  · by_cases a2 : a = 70
    · subst a2
      by_cases b1 : b = 84
      · subst b1; rfl
      · by_cases b2 : b = 70
        · subst b2; rfl
        · by_cases b3 : b = 46
          · subst b3; rfl
          · simp [b1, b2, b3]
    · by_cases a3 : a = 46
      · subst a3
        by_cases b1 : b = 84
        · subst b1; rfl
        · by_cases b2 : b = 70
          · subst b2; rfl
          · simp [b1, b2]
      · simp [a1, a2, a3]
end Go.Proofs.YtejhhdpfndiliaaGreatDoor.Ab

/- WHAT BOTH SIDES' functions of lines answer: moves, ways, pairs, jumps. -/
namespace Go.Proofs.YtejhhdpfndiliaaGreatDoor.Ab
open Go
set_option maxRecDepth 100000
set_option maxHeartbeats 4000000

theorem good_all {w : List UInt8} (h : goodLine w = true) : 1 ≤ w.length ∧ w.length ≤ 12 ∧ signs w := by
  unfold goodLine at h
  simp only [Bool.and_eq_true, decide_eq_true_eq] at h
  exact ⟨h.1.1, h.1.2, h.2⟩
theorem c_IsLine (s : List UInt8) (hs : s.length < 2 ^ 60) {h : AH} {post : AV → AH → Prop} (hp : post (.bool (goodLine s)) h) : S 106 [.str s] h post k := by
  refine S_of rfl T106 ?_; unfold fi106
  simp (maxSteps := 1000000) (disch := first | omega | rfl | (simp only [zL, two63, room] <;> omega) | fail) only [↓reduceIte, ↓zP, zW, WOp, evOp, evBin, binI, binSh, binS, evNil, keyIs, keyEq, mkv, AV.cells, AV.sc, optv, bnd, env, put, Env.get, Env.set, Env.del, Env.dels, Env.init, res1, resL, resV, fillP, splice, newRow, Nat.reduceEqDiff, Nat.reduceLT, Nat.reduceLeDiff, Nat.reduceAdd, Nat.reduceMul, Nat.reduceSub, Nat.reduceBEq, reduceCtorEq, ↓zR, zQ, Tr, StA, StT]
  refine c_isLineOf s 12 (by omega) hs ?_
  have : (decide (1 ≤ (s.length : Int) ∧ (s.length : Int) ≤ 12) && s.all isSign) = goodLine s := by
    unfold goodLine
    congr 1
    exact decide_eq_decide.2 (by omega)
  rw [this]
  simp (maxSteps := 1000000) (disch := first | omega | rfl | (simp only [zL, two63, room] <;> omega) | fail) only [↓reduceIte, ↓zP, zW, WOp, evOp, evBin, binI, binSh, binS, evNil, keyIs, keyEq, mkv, AV.cells, AV.sc, optv, bnd, env, put, Env.get, Env.set, Env.del, Env.dels, Env.init, res1, resL, resV, fillP, splice, newRow, Nat.reduceEqDiff, Nat.reduceLT, Nat.reduceLeDiff, Nat.reduceAdd, Nat.reduceMul, Nat.reduceSub, Nat.reduceBEq, reduceCtorEq, ↓zR, zQ, Tr, StA, StT]
  exact hp
theorem e_IsLine (s : List UInt8) (hs : s.length < 2 ^ 60) {h : AH} {post : AV → AH → Prop} : S 106 [.str s] h post k = post (.bool (goodLine s)) h := S_eq fun _ => c_IsLine s hs
theorem e_liGoodG (s : List UInt8) (hs : s.length < 2 ^ 60) {h : AH} {post : AV → AH → Prop} : S 104 [.str s] h post k = post (.bool (goodLine s)) h := S_eq fun _ hp => c_liGood s hs hp
def mvG (kd w : List UInt8) : List (Int × Int) := if goodLine w then movesB w kd else []
theorem lp_way (w : List UInt8) (hw : w.length < 1048576) {h : AH} {R : X → Env → AH → Prop} : ∀ (rest pre : List UInt8) (t f s : Int), w = pre ++ rest → -1048576 ≤ t → t ≤ 2097152 + pre.length → 0 ≤ f → f ≤ pre.length → -((pre.length : Int) * 16777216) ≤ s → s ≤ (pre.length : Int) * 16777216 → R (.exit 0) [(6, .int .i64 (wayL rest t f pre.length s))] h →
    Cx (.loop lp305_0) [(0, .str w), (6, .int .i64 s), (7, .int .i64 t), (8, .int .i64 f), (21, .int .i64 w.length), (22, .int .i64 pre.length)] h R k k := by
  intro rest
  induction rest with
  | nil =>
    intro pre t f s hpre h1 h2 h3 h4 h5 h6 hR
    subst hpre
    rw [w_loopb (c := lp305_0) (d := lb305_0) rfl]; unfold lb305_0
    simp only [List.append_nil]
    simp (maxSteps := 1000000) (disch := first | omega | rfl | (simp only [zL, two63, room] <;> omega) | fail) only [↓reduceIte, ↓zP, zW, WOp, evOp, evBin, binI, binSh, binS, evNil, keyIs, keyEq, mkv, AV.cells, AV.sc, optv, bnd, env, put, Env.get, Env.set, Env.del, Env.dels, Env.init, res1, resL, resV, fillP, splice, newRow, Nat.reduceEqDiff, Nat.reduceLT, Nat.reduceLeDiff, Nat.reduceAdd, Nat.reduceMul, Nat.reduceSub, Nat.reduceBEq, reduceCtorEq, ↓zR, zQ, Tr, StA, StT]
    exact hR
  | cons x rest ihr =>
    intro pre t f s hpre h1 h2 h3 h4 h5 h6 hR
    have ih := ihr (pre ++ [x])
    have hl : w.length = pre.length + 1 + rest.length := by rw [hpre]; simp; omega
    have hlt : (pre.length : Int) < (w.length : Int) := by omega
    have hx : w.getD pre.length 0 = x := by rw [hpre]; simp [List.getD]
    have hlen : ((pre ++ [x]).length : Int) = (pre.length : Int) + 1 := by simp
    have hw1 : IntKind.i64.wrap ((pre.length : Int) + 1) = (pre.length : Int) + 1 := wrap_i (by omega)
    have hw2 : IntKind.i64.wrap (t - pre.length) = t - pre.length := wrap_i (by omega)
    have hw3 : IntKind.i64.wrap (s + (t - pre.length)) = s + (t - pre.length) := wrap_i (by omega)
    have hw4 : IntKind.i64.wrap (t + 1) = t + 1 := wrap_i (by omega)
    have hw5 : IntKind.i64.wrap (pre.length - f) = pre.length - f := wrap_i (by omega)
    have hw6 : IntKind.i64.wrap (s + (pre.length - f)) = s + (pre.length - f) := wrap_i (by omega)
    have hw7 : IntKind.i64.wrap (f + 1) = f + 1 := wrap_i (by omega)
    rw [w_loopb (c := lp305_0) (d := lb305_0) rfl]; unfold lb305_0
    cases e1 : (x == 84)
    · cases e2 : (x == 70)
      · simp only [wayL, e1, e2, Bool.false_eq_true, if_false] at hR
        simp (maxSteps := 1000000) (disch := first | omega | rfl | (simp only [zL, two63, room] <;> omega) | fail) only [↓reduceIte, ↓zP, zW, WOp, evOp, evBin, binI, binSh, binS, evNil, keyIs, keyEq, mkv, AV.cells, AV.sc, optv, bnd, env, put, Env.get, Env.set, Env.del, Env.dels, Env.init, res1, resL, resV, fillP, splice, newRow, Nat.reduceEqDiff, Nat.reduceLT, Nat.reduceLeDiff, Nat.reduceAdd, Nat.reduceMul, Nat.reduceSub, Nat.reduceBEq, reduceCtorEq, ↓zR, zQ, Tr, StA, StT, hlt, hx, e1, e2, hw1]
        rw [w_loopn (c := lp305_0) rfl]
        have := ih t f s (by rw [hpre]; simp) (by omega) (by omega) (by omega) (by omega) (by omega) (by omega) (by rw [hlen]; exact hR)
        rw [hlen] at this
        simp (maxSteps := 1000000) (disch := first | omega | rfl | (simp only [zL, two63, room] <;> omega) | fail) only [↓reduceIte, ↓zP, zW, WOp, evOp, evBin, binI, binSh, binS, evNil, keyIs, keyEq, mkv, AV.cells, AV.sc, optv, bnd, env, put, Env.get, Env.set, Env.del, Env.dels, Env.init, res1, resL, resV, fillP, splice, newRow, Nat.reduceEqDiff, Nat.reduceLT, Nat.reduceLeDiff, Nat.reduceAdd, Nat.reduceMul, Nat.reduceSub, Nat.reduceBEq, reduceCtorEq, ↓zR, zQ, Tr, StA, StT]
        exact this
      · simp only [wayL, e1, e2, Bool.false_eq_true, if_false, if_true] at hR
        simp (maxSteps := 1000000) (disch := first | omega | rfl | (simp only [zL, two63, room] <;> omega) | fail) only [↓reduceIte, ↓zP, zW, WOp, evOp, evBin, binI, binSh, binS, evNil, keyIs, keyEq, mkv, AV.cells, AV.sc, optv, bnd, env, put, Env.get, Env.set, Env.del, Env.dels, Env.init, res1, resL, resV, fillP, splice, newRow, Nat.reduceEqDiff, Nat.reduceLT, Nat.reduceLeDiff, Nat.reduceAdd, Nat.reduceMul, Nat.reduceSub, Nat.reduceBEq, reduceCtorEq, ↓zR, zQ, Tr, StA, StT, hlt, hx, e1, e2, hw1, hw5, hw6, hw7]
        rw [w_loopn (c := lp305_0) rfl]
        have := ih t (f + 1) (s + (pre.length - f)) (by rw [hpre]; simp) (by omega) (by omega) (by omega) (by omega) (by omega) (by omega) (by rw [hlen]; exact hR)
        rw [hlen] at this
        simp (maxSteps := 1000000) (disch := first | omega | rfl | (simp only [zL, two63, room] <;> omega) | fail) only [↓reduceIte, ↓zP, zW, WOp, evOp, evBin, binI, binSh, binS, evNil, keyIs, keyEq, mkv, AV.cells, AV.sc, optv, bnd, env, put, Env.get, Env.set, Env.del, Env.dels, Env.init, res1, resL, resV, fillP, splice, newRow, Nat.reduceEqDiff, Nat.reduceLT, Nat.reduceLeDiff, Nat.reduceAdd, Nat.reduceMul, Nat.reduceSub, Nat.reduceBEq, reduceCtorEq, ↓zR, zQ, Tr, StA, StT]
        exact this
    · simp only [wayL, e1, if_true] at hR
      simp (maxSteps := 1000000) (disch := first | omega | rfl | (simp only [zL, two63, room] <;> omega) | fail) only [↓reduceIte, ↓zP, zW, WOp, evOp, evBin, binI, binSh, binS, evNil, keyIs, keyEq, mkv, AV.cells, AV.sc, optv, bnd, env, put, Env.get, Env.set, Env.del, Env.dels, Env.init, res1, resL, resV, fillP, splice, newRow, Nat.reduceEqDiff, Nat.reduceLT, Nat.reduceLeDiff, Nat.reduceAdd, Nat.reduceMul, Nat.reduceSub, Nat.reduceBEq, reduceCtorEq, ↓zR, zQ, Tr, StA, StT, hlt, hx, e1, hw1, hw2, hw3, hw4]
      rw [w_loopn (c := lp305_0) rfl]
      have := ih (t + 1) f (s + (t - pre.length)) (by rw [hpre]; simp) (by omega) (by omega) (by omega) (by omega) (by omega) (by omega) (by rw [hlen]; exact hR)
      rw [hlen] at this
      simp (maxSteps := 1000000) (disch := first | omega | rfl | (simp only [zL, two63, room] <;> omega) | fail) only [↓reduceIte, ↓zP, zW, WOp, evOp, evBin, binI, binSh, binS, evNil, keyIs, keyEq, mkv, AV.cells, AV.sc, optv, bnd, env, put, Env.get, Env.set, Env.del, Env.dels, Env.init, res1, resL, resV, fillP, splice, newRow, Nat.reduceEqDiff, Nat.reduceLT, Nat.reduceLeDiff, Nat.reduceAdd, Nat.reduceMul, Nat.reduceSub, Nat.reduceBEq, reduceCtorEq, ↓zR, zQ, Tr, StA, StT]
      exact this
theorem c_way (w : List UInt8) (hw : w.length < 1048576) (hg : signs w) {h : AH} {post : AV → AH → Prop} (hp : post (.int .i64 (wayN w : Nat)) h) : S 305 [.str w] h post k := by
  have hc := cnt3 hg
  have w1 : IntKind.i64.wrap ((w.length : Int) - (w.count 84 : Nat)) = (w.length : Int) - (w.count 84 : Nat) := wrap_i (by omega)
  refine S_of rfl T305 ?_; unfold fi305
  simp (maxSteps := 1000000) (disch := first | omega | rfl | (simp only [zL, two63, room] <;> omega) | fail) only [↓reduceIte, ↓zP, zW, WOp, evOp, evBin, binI, binSh, binS, evNil, keyIs, keyEq, mkv, AV.cells, AV.sc, optv, bnd, env, put, Env.get, Env.set, Env.del, Env.dels, Env.init, res1, resL, resV, fillP, splice, newRow, Nat.reduceEqDiff, Nat.reduceLT, Nat.reduceLeDiff, Nat.reduceAdd, Nat.reduceMul, Nat.reduceSub, Nat.reduceBEq, reduceCtorEq, ↓zR, zQ, Tr, StA, StT]
  refine c_count w ?_
  simp (maxSteps := 1000000) (disch := first | omega | rfl | (simp only [zL, two63, room] <;> omega) | fail) only [↓reduceIte, ↓zP, zW, WOp, evOp, evBin, binI, binSh, binS, evNil, keyIs, keyEq, mkv, AV.cells, AV.sc, optv, bnd, env, put, Env.get, Env.set, Env.del, Env.dels, Env.init, res1, resL, resV, fillP, splice, newRow, Nat.reduceEqDiff, Nat.reduceLT, Nat.reduceLeDiff, Nat.reduceAdd, Nat.reduceMul, Nat.reduceSub, Nat.reduceBEq, reduceCtorEq, ↓zR, zQ, Tr, StA, StT, w1]
  have := lp_way w hw (h := h) (R := fun x e h' => x = .exit 0 ∧ e = [(6, .int .i64 (wayN w : Nat))] ∧ h' = h) w [] ((w.length : Int) - (w.count 84 : Nat)) 0 0 rfl (by omega) (by simp; omega) (by omega) (by simp) (by simp) (by simp) ⟨rfl, by rw [← wayL_N hg]; rfl, rfl⟩
  refine Cx_mono this ?_
  rintro x e h' ⟨rfl, rfl, rfl⟩
  simp (maxSteps := 1000000) (disch := first | omega | rfl | (simp only [zL, two63, room] <;> omega) | fail) only [↓reduceIte, ↓zP, zW, WOp, evOp, evBin, binI, binSh, binS, evNil, keyIs, keyEq, mkv, AV.cells, AV.sc, optv, bnd, env, put, Env.get, Env.set, Env.del, Env.dels, Env.init, res1, resL, resV, fillP, splice, newRow, Nat.reduceEqDiff, Nat.reduceLT, Nat.reduceLeDiff, Nat.reduceAdd, Nat.reduceMul, Nat.reduceSub, Nat.reduceBEq, reduceCtorEq, ↓zR, zQ, Tr, StA, StT]
  exact hp
def wayG (w : List UInt8) : Int := if goodLine w then (wayN w : Nat) else 0
theorem e_WayToGo (w : List UInt8) (hw : w.length < 2 ^ 60) {h : AH} {post : AV → AH → Prop} : S 379 [.str w] h post k = post (.tup [.int .i64 (wayG w), .bool (goodLine w)]) h := S_eq fun _ hp => by
  unfold wayG at hp
  refine S_of rfl T379 ?_; unfold fi379
  cases hg : goodLine w <;> rw [hg] at hp
  · simp (maxSteps := 1000000) (disch := first | omega | rfl | (simp only [zL, two63, room] <;> omega) | fail) only [↓reduceIte, ↓zP, zW, WOp, evOp, evBin, binI, binSh, binS, evNil, keyIs, keyEq, mkv, AV.cells, AV.sc, optv, bnd, env, put, Env.get, Env.set, Env.del, Env.dels, Env.init, res1, resL, resV, fillP, splice, newRow, Nat.reduceEqDiff, Nat.reduceLT, Nat.reduceLeDiff, Nat.reduceAdd, Nat.reduceMul, Nat.reduceSub, Nat.reduceBEq, reduceCtorEq, ↓zR, zQ, Tr, StA, StT, e_IsLine w hw, hg]
    exact hp
  · have hl := good_all hg
    simp (maxSteps := 1000000) (disch := first | omega | rfl | (simp only [zL, two63, room] <;> omega) | fail) only [↓reduceIte, ↓zP, zW, WOp, evOp, evBin, binI, binSh, binS, evNil, keyIs, keyEq, mkv, AV.cells, AV.sc, optv, bnd, env, put, Env.get, Env.set, Env.del, Env.dels, Env.init, res1, resL, resV, fillP, splice, newRow, Nat.reduceEqDiff, Nat.reduceLT, Nat.reduceLeDiff, Nat.reduceAdd, Nat.reduceMul, Nat.reduceSub, Nat.reduceBEq, reduceCtorEq, ↓zR, zQ, Tr, StA, StT, e_IsLine w hw, hg]
    refine c_way w (by omega) hl.2.2 ?_
    simp (maxSteps := 1000000) (disch := first | omega | rfl | (simp only [zL, two63, room] <;> omega) | fail) only [↓reduceIte, ↓zP, zW, WOp, evOp, evBin, binI, binSh, binS, evNil, keyIs, keyEq, mkv, AV.cells, AV.sc, optv, bnd, env, put, Env.get, Env.set, Env.del, Env.dels, Env.init, res1, resL, resV, fillP, splice, newRow, Nat.reduceEqDiff, Nat.reduceLT, Nat.reduceLeDiff, Nat.reduceAdd, Nat.reduceMul, Nat.reduceSub, Nat.reduceBEq, reduceCtorEq, ↓zR, zQ, Tr, StA, StT]
    exact hp
theorem psB_le (b : UInt8) : ∀ (l : List UInt8) (k : Nat), psB b k l ≤ l.length * (k + l.length)
  | [], k => by simp [psB]
  | x :: l, k => by
    have := psB_le b l (k + 1)
    simp only [psB, List.length_cons]
    have h1 : (l.length + 1) * (k + (l.length + 1)) = l.length * (k + (l.length + 1)) + (k + (l.length + 1)) := Nat.succ_mul _ _
    have h2 : l.length * (k + 1 + l.length) = l.length * (k + (l.length + 1)) := by rw [show k + 1 + l.length = k + (l.length + 1) by omega]
    split <;> omega
theorem e_liLastG (w : List UInt8) (hw : w.length ≤ 900) {h : AH} {post : AV → AH → Prop} : S 251 [.str w] h post k = post (.str (lastB w)) h := S_eq fun _ hp => by
  have c1 : w.count 84 ≤ w.length := List.count_le_length
  have c2 : w.count 46 ≤ w.length := List.count_le_length
  have c3 : w.count 70 ≤ w.length := List.count_le_length
  have l1 : (List.replicate (w.count 70) (70 : UInt8)).length + (List.replicate (w.count 46) (46 : UInt8)).length ≤ two63 := by simp [two63]; omega
  have l2 : (List.replicate (w.count 70) (70 : UInt8) ++ List.replicate (w.count 46) 46).length + (List.replicate (w.count 84) (84 : UInt8)).length ≤ two63 := by simp [two63]; omega
  refine S_of rfl T251 ?_; unfold fi251
  simp (maxSteps := 1000000) (disch := first | omega | rfl | (simp only [zL, two63, room] <;> omega) | fail) only [↓reduceIte, ↓zP, zW, WOp, evOp, evBin, binI, binSh, binS, evNil, keyIs, keyEq, mkv, AV.cells, AV.sc, optv, bnd, env, put, Env.get, Env.set, Env.del, Env.dels, Env.init, res1, resL, resV, fillP, splice, newRow, Nat.reduceEqDiff, Nat.reduceLT, Nat.reduceLeDiff, Nat.reduceAdd, Nat.reduceMul, Nat.reduceSub, Nat.reduceBEq, reduceCtorEq, ↓zR, zQ, Tr, StA, StT, e_liCountT w (by omega), e_liCountF w (by omega), e_liCountD w (by omega), e_liTimesG 84 (w.count 84) (by omega), e_liTimesG 46 (w.count 46) (by omega), e_liTimesG 70 (w.count 70) (by omega), l1, l2]
  exact hp
def pairsG (w : List UInt8) : Int := if goodLine w then (pairsB w : Nat) else 0
theorem e_PairsToPass (w : List UInt8) (hw : w.length < 2 ^ 60) {h : AH} {post : AV → AH → Prop} : S 381 [.str w] h post k = post (.tup [.int .i64 (pairsG w), .bool (goodLine w)]) h := S_eq fun _ hp => by
  unfold pairsG at hp
  refine S_of rfl T381 ?_; unfold fi381
  cases hg : goodLine w <;> rw [hg] at hp
  · simp (maxSteps := 1000000) (disch := first | omega | rfl | (simp only [zL, two63, room] <;> omega) | fail) only [↓reduceIte, ↓zP, zW, WOp, evOp, evBin, binI, binSh, binS, evNil, keyIs, keyEq, mkv, AV.cells, AV.sc, optv, bnd, env, put, Env.get, Env.set, Env.del, Env.dels, Env.init, res1, resL, resV, fillP, splice, newRow, Nat.reduceEqDiff, Nat.reduceLT, Nat.reduceLeDiff, Nat.reduceAdd, Nat.reduceMul, Nat.reduceSub, Nat.reduceBEq, reduceCtorEq, ↓zR, zQ, Tr, StA, StT, e_IsLine w hw, hg]
    exact hp
  · have hl := good_all hg
    simp (maxSteps := 1000000) (disch := first | omega | rfl | (simp only [zL, two63, room] <;> omega) | fail) only [↓reduceIte, ↓zP, zW, WOp, evOp, evBin, binI, binSh, binS, evNil, keyIs, keyEq, mkv, AV.cells, AV.sc, optv, bnd, env, put, Env.get, Env.set, Env.del, Env.dels, Env.init, res1, resL, resV, fillP, splice, newRow, Nat.reduceEqDiff, Nat.reduceLT, Nat.reduceLeDiff, Nat.reduceAdd, Nat.reduceMul, Nat.reduceSub, Nat.reduceBEq, reduceCtorEq, ↓zR, zQ, Tr, StA, StT, e_IsLine w hw, hg, e_pairs w (by omega)]
    exact hp
def blkG (w : List UInt8) : Bool := goodLine w && (movesB w [84, 70]).isEmpty
theorem len_beq {α : Type} (l : List α) : (((l.length : Nat) : Int) == 0) = l.isEmpty := by
  cases l with
  | nil => rfl
  | cons a l =>
    have : ¬ (((l.length + 1 : Nat) : Int) = 0) := by omega
    simpa using this
def othG (w : List UInt8) : List UInt8 := if goodLine w then otherL w else []
end Go.Proofs.YtejhhdpfndiliaaGreatDoor.Ab

/- MOVES that can be made, jumps, lists of moves that are compared; moves that are drawn. -/
namespace Go.Proofs.YtejhhdpfndiliaaGreatDoor.Ab
open Go
set_option maxRecDepth 100000
set_option maxHeartbeats 4000000

theorem seqM (a b c d : Int) : seqL [0, 0] [.int .i64 a, .int .i64 b] [.int .i64 c, .int .i64 d] = some (((a, b) : Int × Int) == (c, d)) := by
  simp only [seqL, keyIs, keyEq, Bool.and_true, if_true]
  rfl
theorem canB_mv {w : List UInt8} {i t : Int} (h : canB w (i, t) = true) : ∃ i' t' : Nat, i = i' ∧ t = t' ∧ Mv w i' t' := by
  unfold canB at h
  obtain ⟨h1, h2, h3⟩ := of_decide_eq_true h
  exact ⟨i.toNat, t.toNat, by simp only at h1; omega, by simp only at h2; omega, h3⟩
theorem c_can (w : List UInt8) (i t : Int) (hw : w.length < 2 ^ 30) {h : AH} {post : AV → AH → Prop} (hp : ∀ h', Pre h h' → post (.bool (canB w (i, t))) h') : S 435 [.str w, mvV i t] h post k := by
  have hq : ∀ b, canB w (i, t) = b → post (.bool b) (h ++ [AO.row [AV.int .i64 i, AV.int .i64 t] 0 0 false]) := fun b hb => by rw [← hb]; exact hp _ (Pre.push _ _)
  refine S_of rfl T435 ?_; unfold fi435
  by_cases hi : 0 ≤ i ∧ i < w.length
  case neg =>
    have h1 : (0 ≤ i ∧ i ≤ (w.length : Int) - 1) = False := eq_false (by omega)
    simp (maxSteps := 1000000) (disch := first | omega | rfl | (simp only [zL, two63, room] <;> omega) | fail) only [↓reduceIte, ↓zP, zW, WOp, evOp, evBin, binI, binSh, binS, evNil, keyIs, keyEq, mkv, AV.cells, AV.sc, optv, bnd, env, put, Env.get, Env.set, Env.del, Env.dels, Env.init, res1, resL, resV, fillP, splice, newRow, Nat.reduceEqDiff, Nat.reduceLT, Nat.reduceLeDiff, Nat.reduceAdd, Nat.reduceMul, Nat.reduceSub, Nat.reduceBEq, reduceCtorEq, ↓zR, zQ, Tr, StA, StT, e_within, h1]
    exact hq _ (decide_eq_false (by rintro ⟨x1, x2, x3, _⟩; simp only at x1 x2 x3; omega))
  have h1 : (0 ≤ i ∧ i ≤ (w.length : Int) - 1) = True := eq_true (by omega)
  obtain ⟨i, rfl⟩ := Int.eq_ofNat_of_zero_le hi.1
  have hi' : i < w.length := by omega
  have hc := canB_goal (w := w) (t := t) hi'
  simp (maxSteps := 1000000) (disch := first | omega | rfl | (simp only [zL, two63, room] <;> omega) | fail) only [↓reduceIte, ↓zP, zW, WOp, evOp, evBin, binI, binSh, binS, evNil, keyIs, keyEq, mkv, AV.cells, AV.sc, optv, bnd, env, put, Env.get, Env.set, Env.del, Env.dels, Env.init, res1, resL, resV, fillP, splice, newRow, Nat.reduceEqDiff, Nat.reduceLT, Nat.reduceLeDiff, Nat.reduceAdd, Nat.reduceMul, Nat.reduceSub, Nat.reduceBEq, reduceCtorEq, ↓zR, zQ, Tr, StA, StT, e_within, h1]
  refine c_goal w i hi' (by omega) ?_
  unfold goalV
  cases hg : goalB w i with
  | none =>
    rw [hg] at hc
    simp (maxSteps := 1000000) (disch := first | omega | rfl | (simp only [zL, two63, room] <;> omega) | fail) only [↓reduceIte, ↓zP, zW, WOp, evOp, evBin, binI, binSh, binS, evNil, keyIs, keyEq, mkv, AV.cells, AV.sc, optv, bnd, env, put, Env.get, Env.set, Env.del, Env.dels, Env.init, res1, resL, resV, fillP, splice, newRow, Nat.reduceEqDiff, Nat.reduceLT, Nat.reduceLeDiff, Nat.reduceAdd, Nat.reduceMul, Nat.reduceSub, Nat.reduceBEq, reduceCtorEq, ↓zR, zQ, Tr, StA, StT]
    exact hq _ (by rw [hc]; rfl)
  | some t' =>
    rw [hg] at hc
    simp (maxSteps := 1000000) (disch := first | omega | rfl | (simp only [zL, two63, room] <;> omega) | fail) only [↓reduceIte, ↓zP, zW, WOp, evOp, evBin, binI, binSh, binS, evNil, keyIs, keyEq, mkv, AV.cells, AV.sc, optv, bnd, env, put, Env.get, Env.set, Env.del, Env.dels, Env.init, res1, resL, resV, fillP, splice, newRow, Nat.reduceEqDiff, Nat.reduceLT, Nat.reduceLeDiff, Nat.reduceAdd, Nat.reduceMul, Nat.reduceSub, Nat.reduceBEq, reduceCtorEq, ↓zR, zQ, Tr, StA, StT]
    refine hq _ ?_
    rw [hc]
    by_cases e : t' = t
    · subst e; simp
    · simp [e]
def okG (w : List UInt8) (m : Int × Int) : Bool := goodLine w && canB w m
def mkG (w : List UInt8) (m : Int × Int) : List UInt8 := if okG w m then madeB w m.1.toNat m.2.toNat else []
def jmG (w : List UInt8) (m : Int × Int) : Bool := okG w m && isJ m.1.toNat m.2.toNat
theorem mvRow (h : AH) (i t : Int) : rdRow (h ++ [AO.row [AV.int .i64 i, AV.int .i64 t] 0 0 false]) h.length 0 0 2 = some [.int .i64 i, .int .i64 t] ∧ rdRow (h ++ [AO.row [AV.int .i64 i, AV.int .i64 t] 0 0 false]) h.length 0 0 1 = some [.int .i64 i] ∧ rdRow (h ++ [AO.row [AV.int .i64 i, AV.int .i64 t] 0 0 false]) h.length 0 1 1 = some [.int .i64 t] := by
  refine ⟨?_, ?_, ?_⟩ <;> rw [rd_last] <;> simp
theorem c_CanMove (w : List UInt8) (i t : Int) (hw : w.length < 2 ^ 60) {h : AH} {post : AV → AH → Prop} (hp : ∀ h', Pre h h' → post (.tup [.bool (okG w (i, t)), .bool (goodLine w)]) h') : S 388 [.str w, mvV i t] h post k := by
  unfold okG at hp
  refine S_of rfl T388 ?_; unfold fi388
  cases hg : goodLine w <;> rw [hg] at hp
  · simp (maxSteps := 1000000) (disch := first | omega | rfl | (simp only [zL, two63, room] <;> omega) | fail) only [↓reduceIte, ↓zP, zW, WOp, evOp, evBin, binI, binSh, binS, evNil, keyIs, keyEq, mkv, AV.cells, AV.sc, optv, bnd, env, put, Env.get, Env.set, Env.del, Env.dels, Env.init, res1, resL, resV, fillP, splice, newRow, Nat.reduceEqDiff, Nat.reduceLT, Nat.reduceLeDiff, Nat.reduceAdd, Nat.reduceMul, Nat.reduceSub, Nat.reduceBEq, reduceCtorEq, ↓zR, zQ, Tr, StA, StT, e_IsLine w hw, hg]
    exact hp _ (Pre.push _ _)
  · have hl := good_all hg
    simp (maxSteps := 1000000) (disch := first | omega | rfl | (simp only [zL, two63, room] <;> omega) | fail) only [↓reduceIte, ↓zP, zW, WOp, evOp, evBin, binI, binSh, binS, evNil, keyIs, keyEq, mkv, AV.cells, AV.sc, optv, bnd, env, put, Env.get, Env.set, Env.del, Env.dels, Env.init, res1, resL, resV, fillP, splice, newRow, Nat.reduceEqDiff, Nat.reduceLT, Nat.reduceLeDiff, Nat.reduceAdd, Nat.reduceMul, Nat.reduceSub, Nat.reduceBEq, reduceCtorEq, ↓zR, zQ, Tr, StA, StT, e_IsLine w hw, hg]
    refine c_can w i t (by omega) ?_
    intro h' hp'
    simp (maxSteps := 1000000) (disch := first | omega | rfl | (simp only [zL, two63, room] <;> omega) | fail) only [↓reduceIte, ↓zP, zW, WOp, evOp, evBin, binI, binSh, binS, evNil, keyIs, keyEq, mkv, AV.cells, AV.sc, optv, bnd, env, put, Env.get, Env.set, Env.del, Env.dels, Env.init, res1, resL, resV, fillP, splice, newRow, Nat.reduceEqDiff, Nat.reduceLT, Nat.reduceLeDiff, Nat.reduceAdd, Nat.reduceMul, Nat.reduceSub, Nat.reduceBEq, reduceCtorEq, ↓zR, zQ, Tr, StA, StT]
    exact hp h' ((Pre.push _ _).trans hp')
theorem c_MakeMove (w : List UInt8) (i t : Int) (hw : w.length < 2 ^ 60) {h : AH} {post : AV → AH → Prop} (hp : ∀ h', Pre h h' → post (.tup [.str (mkG w (i, t)), .bool (okG w (i, t))]) h') : S 389 [.str w, mvV i t] h post k := by
  unfold mkG okG at hp
  refine S_of rfl T389 ?_; unfold fi389
  cases hg : goodLine w <;> rw [hg] at hp
  · simp (maxSteps := 1000000) (disch := first | omega | rfl | (simp only [zL, two63, room] <;> omega) | fail) only [↓reduceIte, ↓zP, zW, WOp, evOp, evBin, binI, binSh, binS, evNil, keyIs, keyEq, mkv, AV.cells, AV.sc, optv, bnd, env, put, Env.get, Env.set, Env.del, Env.dels, Env.init, res1, resL, resV, fillP, splice, newRow, Nat.reduceEqDiff, Nat.reduceLT, Nat.reduceLeDiff, Nat.reduceAdd, Nat.reduceMul, Nat.reduceSub, Nat.reduceBEq, reduceCtorEq, ↓zR, zQ, Tr, StA, StT, e_IsLine w hw, hg]
    exact hp _ (Pre.push _ _)
  · have hl := good_all hg
    obtain ⟨q, -, -⟩ := mvRow h i t
    simp (maxSteps := 1000000) (disch := first | omega | rfl | (simp only [zL, two63, room] <;> omega) | fail) only [↓reduceIte, ↓zP, zW, WOp, evOp, evBin, binI, binSh, binS, evNil, keyIs, keyEq, mkv, AV.cells, AV.sc, optv, bnd, env, put, Env.get, Env.set, Env.del, Env.dels, Env.init, res1, resL, resV, fillP, splice, newRow, Nat.reduceEqDiff, Nat.reduceLT, Nat.reduceLeDiff, Nat.reduceAdd, Nat.reduceMul, Nat.reduceSub, Nat.reduceBEq, reduceCtorEq, ↓zR, zQ, Tr, StA, StT, e_IsLine w hw, hg]
    refine c_can w i t (by omega) ?_
    intro h2 hp2
    have q' := rdRow_pre hp2 q
    cases hc : canB w (i, t) <;> rw [hc] at hp
    · simp (maxSteps := 1000000) (disch := first | omega | rfl | (simp only [zL, two63, room] <;> omega) | fail) only [↓reduceIte, ↓zP, zW, WOp, evOp, evBin, binI, binSh, binS, evNil, keyIs, keyEq, mkv, AV.cells, AV.sc, optv, bnd, env, put, Env.get, Env.set, Env.del, Env.dels, Env.init, res1, resL, resV, fillP, splice, newRow, Nat.reduceEqDiff, Nat.reduceLT, Nat.reduceLeDiff, Nat.reduceAdd, Nat.reduceMul, Nat.reduceSub, Nat.reduceBEq, reduceCtorEq, ↓zR, zQ, Tr, StA, StT]
      exact hp h2 ((Pre.push _ _).trans hp2)
    · obtain ⟨i, t, rfl, rfl, hm⟩ := canB_mv hc
      simp (maxSteps := 1000000) (disch := first | omega | rfl | (simp only [zL, two63, room] <;> omega) | fail) only [↓reduceIte, ↓zP, zW, WOp, evOp, evBin, binI, binSh, binS, evNil, keyIs, keyEq, mkv, AV.cells, AV.sc, optv, bnd, env, put, Env.get, Env.set, Env.del, Env.dels, Env.init, res1, resL, resV, fillP, splice, newRow, Nat.reduceEqDiff, Nat.reduceLT, Nat.reduceLeDiff, Nat.reduceAdd, Nat.reduceMul, Nat.reduceSub, Nat.reduceBEq, reduceCtorEq, ↓zR, zQ, Tr, StA, StT, q']
      refine c_made w i t hm.1 hm.2.1 (by omega) ?_
      intro h3 hp3
      simp (maxSteps := 1000000) (disch := first | omega | rfl | (simp only [zL, two63, room] <;> omega) | fail) only [↓reduceIte, ↓zP, zW, WOp, evOp, evBin, binI, binSh, binS, evNil, keyIs, keyEq, mkv, AV.cells, AV.sc, optv, bnd, env, put, Env.get, Env.set, Env.del, Env.dels, Env.init, res1, resL, resV, fillP, splice, newRow, Nat.reduceEqDiff, Nat.reduceLT, Nat.reduceLeDiff, Nat.reduceAdd, Nat.reduceMul, Nat.reduceSub, Nat.reduceBEq, reduceCtorEq, ↓zR, zQ, Tr, StA, StT]
      exact hp h3 (((Pre.push _ _).trans hp2).trans hp3)
theorem Mv.far {w : List UInt8} {i t : Nat} (h : Mv w i t) : t = i + 1 ∨ t = i + 2 ∨ t + 1 = i ∨ t + 2 = i := by
  obtain ⟨_, _, _, h | h⟩ := h <;> omega
theorem Slc.fldM {h : AH} {c kk off n e : Nat} {pre rest : List (Int × Int)} {x : Int × Int} (hs : Slc 2 encM h (.slice c kk off n e) (pre ++ x :: rest)) : rdRow h c kk (off + pre.length * 2 + 0) 1 = some [.int .i64 x.1] ∧ rdRow h c kk (off + pre.length * 2 + 1) 1 = some [.int .i64 x.2] := by
  have hr := hs.rd hlM
  exact ⟨rd_part hr (o := 0) (m := 1) (by omega), rd_part hr (o := 1) (m := 1) (by omega)⟩
theorem c_big {cv mv : AV} {cs ms : List UInt8} {h : AH} (hs : Slc 1 encU h cv cs) (ht : Slc 1 encU h mv ms) {post : AV → AH → Prop} (hp : ∀ b, (b = false → cs.length ≤ 1048576 ∧ ms.length ≤ 1048576) → post (.bool b) h) : S 22 [cv, mv] h post k := by
  refine S_of rfl T22 ?_; unfold fi22
  have hv := fun g => Slc.lenV (hs) (g := g) (ρ := fun _ => _) (x := .t 0) rfl; simp only [evOp] at hv
  have hu := fun g => Slc.lenV (ht) (g := g) (ρ := fun _ => _) (x := .t 0) rfl; simp only [evOp] at hu
  by_cases h1 : (cs.length : Int) > 1048576
  · simp (maxSteps := 1000000) (disch := first | omega | rfl | (simp only [zL, two63, room] <;> omega) | fail) only [↓reduceIte, ↓zP, zW, WOp, evOp, evBin, binI, binSh, binS, evNil, keyIs, keyEq, mkv, AV.cells, AV.sc, optv, bnd, env, put, Env.get, Env.set, Env.del, Env.dels, Env.init, res1, resL, resV, fillP, splice, newRow, Nat.reduceEqDiff, Nat.reduceLT, Nat.reduceLeDiff, Nat.reduceAdd, Nat.reduceMul, Nat.reduceSub, Nat.reduceBEq, reduceCtorEq, ↓zR, zQ, Tr, StA, StT, hv, hu, h1]
    exact hp true (fun h => by cases h)
  · have w1 : IntKind.i64.wrap (1048576 - (cs.length : Int)) = 1048576 - (cs.length : Int) := wrap_i (by omega)
    by_cases h2 : (ms.length : Int) > 1048576 - (cs.length : Int)
    · simp (maxSteps := 1000000) (disch := first | omega | rfl | (simp only [zL, two63, room] <;> omega) | fail) only [↓reduceIte, ↓zP, zW, WOp, evOp, evBin, binI, binSh, binS, evNil, keyIs, keyEq, mkv, AV.cells, AV.sc, optv, bnd, env, put, Env.get, Env.set, Env.del, Env.dels, Env.init, res1, resL, resV, fillP, splice, newRow, Nat.reduceEqDiff, Nat.reduceLT, Nat.reduceLeDiff, Nat.reduceAdd, Nat.reduceMul, Nat.reduceSub, Nat.reduceBEq, reduceCtorEq, ↓zR, zQ, Tr, StA, StT, hv, hu, h1, w1, h2]
      exact hp true (fun h => by cases h)
    · simp (maxSteps := 1000000) (disch := first | omega | rfl | (simp only [zL, two63, room] <;> omega) | fail) only [↓reduceIte, ↓zP, zW, WOp, evOp, evBin, binI, binSh, binS, evNil, keyIs, keyEq, mkv, AV.cells, AV.sc, optv, bnd, env, put, Env.get, Env.set, Env.del, Env.dels, Env.init, res1, resL, resV, fillP, splice, newRow, Nat.reduceEqDiff, Nat.reduceLT, Nat.reduceLeDiff, Nat.reduceAdd, Nat.reduceMul, Nat.reduceSub, Nat.reduceBEq, reduceCtorEq, ↓zR, zQ, Tr, StA, StT, hv, hu, h1, w1, h2]
      exact hp false (fun _ => by omega)
end Go.Proofs.YtejhhdpfndiliaaGreatDoor.Ab

/- LINES AND MOVES that are drawn. -/
namespace Go.Proofs.YtejhhdpfndiliaaGreatDoor.Ab
open Go
set_option maxRecDepth 100000
set_option maxHeartbeats 4000000

theorem c_DrawIsLine {cv : AV} {bs : List UInt8} {h : AH} (hs : Slc 1 encU h cv bs) (hb : bs.length < 2 ^ 40) {post : AV → AH → Prop} (hp : ∀ w h', w.length ≤ 13 → Pre h h' → post (.str w) h') : S 434 [cv] h post k := by
  refine S_of rfl T434 ?_; unfold fi434
  have hc := Cur.new hs hb
  rcases hs.cases with ⟨rfl, _⟩ | ⟨rfl, _⟩ | ⟨c, kk, off, rfl⟩
  all_goals
    simp (maxSteps := 1000000) (disch := first | omega | rfl | (simp only [zL, two63, room] <;> omega) | fail) only [↓reduceIte, ↓zP, zW, WOp, evOp, evBin, binI, binSh, binS, evNil, keyIs, keyEq, mkv, AV.cells, AV.sc, optv, bnd, env, put, Env.get, Env.set, Env.del, Env.dels, Env.init, res1, resL, resV, fillP, splice, newRow, Nat.reduceEqDiff, Nat.reduceLT, Nat.reduceLeDiff, Nat.reduceAdd, Nat.reduceMul, Nat.reduceSub, Nat.reduceBEq, reduceCtorEq, ↓zR, zQ, Tr, StA, StT]
    refine c_line hc (by omega) ?_
    intro w h' hw hc' _
    simp (maxSteps := 1000000) (disch := first | omega | rfl | (simp only [zL, two63, room] <;> omega) | fail) only [↓reduceIte, ↓zP, zW, WOp, evOp, evBin, binI, binSh, binS, evNil, keyIs, keyEq, mkv, AV.cells, AV.sc, optv, bnd, env, put, Env.get, Env.set, Env.del, Env.dels, Env.init, res1, resL, resV, fillP, splice, newRow, Nat.reduceEqDiff, Nat.reduceLT, Nat.reduceLeDiff, Nat.reduceAdd, Nat.reduceMul, Nat.reduceSub, Nat.reduceBEq, reduceCtorEq, ↓zR, zQ, Tr, StA, StT]
    exact hp w h' hw hc'.done
/-- Where a drawn move is put. -/
theorem wr_res {h g : AH} (hp : Pre (h ++ [AO.row [.int .i64 0, .int .i64 0] 0 0 false]) g) (x y : Int) : wrRow g h.length 0 0 [.int .i64 x, .int .i64 y] = some (g.set h.length (.row [.int .i64 x, .int .i64 y] 0 0 false)) ∧
    rdRow (g.set h.length (.row [.int .i64 x, .int .i64 y] 0 0 false)) h.length 0 0 2 = some [.int .i64 x, .int .i64 y] ∧ Pre h (g.set h.length (.row [.int .i64 x, .int .i64 y] 0 0 false)) := by
  have hl : h.length < g.length := by have := hp.1; simp at this; omega
  have hr : g[h.length]? = some (.row [.int .i64 0, .int .i64 0] 0 0 false) := by rw [hp.2 _ (by simp)]; simp
  refine ⟨by simp [wrRow, hr, splice, AV.sc], ?_, ((Pre.push h _).trans hp).set (Nat.le_refl _)⟩
  unfold rdRow
  rw [List.getElem?_set, if_pos rfl, if_pos hl]
  simp
end Go.Proofs.YtejhhdpfndiliaaGreatDoor.Ab

/- RANKS of lines: how many lines there are, which rank a line has, which line a rank has. -/
namespace Go.Proofs.YtejhhdpfndiliaaGreatDoor.Ab
open Go

/-- n, times (a + k) over k, for so many k. -/
def loopN (a : Nat) : Nat → Nat → Nat → Nat
  | 0, _, n => n
  | m + 1, k, n => loopN a m (k + 1) (n * (a + k) / k)
/-- How many lines there are. -/
def mM (t g f : Nat) : Nat := loopN (t + g) f 1 (loopN t g 1 1)
def mS (t g f : Nat) : Nat := loopN g f 1 (loopN (g + f) t 1 1)
def gM (t g f : Nat) : Nat := if 0 < g then mM t (g - 1) f else 0
def fM (t g f : Nat) : Nat := if 0 < f then mM t g (f - 1) else 0
def tM (t g f : Nat) : Nat := if 0 < t then mM (t - 1) g f else 0
def allT (P : Nat → Nat → Nat → Bool) : Bool := (List.range 13).all fun t => (List.range (13 - t)).all fun g => (List.range (13 - t - g)).all fun f => P t g f
theorem allT_get {P : Nat → Nat → Nat → Bool} (h : allT P = true) {t g f : Nat} (hs : t + g + f ≤ 12) : P t g f = true := by
  have h1 := List.all_eq_true.1 h t (List.mem_range.2 (by omega))
  have h2 := List.all_eq_true.1 h1 g (List.mem_range.2 (by omega))
  exact List.all_eq_true.1 h2 f (List.mem_range.2 (by omega))
theorem mM_all : allT (fun t g f => decide (mS t g f = mM t g f) && (decide (t + g + f = 0) || decide (mM t g f = gM t g f + fM t g f + tM t g f)) && decide (mM t g f < 1000000) && decide (0 < mM t g f)) = true := by decide +kernel
theorem mM_facts {t g f : Nat} (hs : t + g + f ≤ 12) : mS t g f = mM t g f ∧ (0 < t + g + f → mM t g f = gM t g f + fM t g f + tM t g f) ∧ mM t g f < 1000000 ∧ 0 < mM t g f := by
  have := allT_get mM_all hs
  simp only [Bool.and_eq_true, Bool.or_eq_true, decide_eq_true_eq] at this
  obtain ⟨⟨⟨h1, h2⟩, h3⟩, h4⟩ := this
  exact ⟨h1, fun h => h2.resolve_left (by omega), h3, h4⟩

def bel (t g f : Nat) (x : UInt8) : Nat := if x = 46 then 0 else if x = 70 then gM t g f else gM t g f + fM t g f
def rankN : List UInt8 → Nat
  | [] => 0
  | x :: l => bel ((x :: l).count 84) ((x :: l).count 46) ((x :: l).count 70) x + rankN l
def mW (w : List UInt8) : Nat := mM (w.count 84) (w.count 46) (w.count 70)
theorem cntB1 (x b : UInt8) (l : List UInt8) : (x :: l).count b = l.count b + if x = b then 1 else 0 := by
  rw [List.count_cons]
  simp
/-- What is below a sign, and those that begin with it, are below the next sign. -/
theorem bel_next {x : UInt8} {l : List UInt8} (hg : signs (x :: l)) (hl : (x :: l).length ≤ 12) : bel ((x :: l).count 84) ((x :: l).count 46) ((x :: l).count 70) x + mW l ≤ mW (x :: l) ∧
    ∀ y : UInt8, isSign y = true → x < y → bel ((x :: l).count 84) ((x :: l).count 46) ((x :: l).count 70) x + mW l ≤ bel ((x :: l).count 84) ((x :: l).count 46) ((x :: l).count 70) y := by
  have hc := cnt3 hg
  have hp := (mM_facts (t := (x :: l).count 84) (g := (x :: l).count 46) (f := (x :: l).count 70) (by omega)).2.1 (by rw [← hc]; simp)
  have hx := (signs_cons.1 hg).1
  unfold mW
  rw [cntB1, cntB1, cntB1] at hp ⊢
  rcases sign3 hx with rfl | rfl | rfl
  · simp only [show ((84 : UInt8) = 46) = False by decide, show ((84 : UInt8) = 70) = False by decide, if_true, if_false, Nat.add_zero] at hp ⊢
    unfold bel
    simp only [show ((84 : UInt8) = 46) = False by decide, show ((84 : UInt8) = 70) = False by decide, if_false]
    have : tM (l.count 84 + 1) (l.count 46) (l.count 70) = mM (l.count 84) (l.count 46) (l.count 70) := by unfold tM; rw [if_pos (by omega), Nat.add_sub_cancel]
    refine ⟨by omega, ?_⟩
    intro y hy hlt
    rcases sign3 hy with rfl | rfl | rfl <;> exact absurd hlt (by decide)
  · simp only [show ((46 : UInt8) = 84) = False by decide, show ((46 : UInt8) = 70) = False by decide, if_true, if_false, Nat.add_zero] at hp ⊢
    have hgM : gM (l.count 84) (l.count 46 + 1) (l.count 70) = mM (l.count 84) (l.count 46) (l.count 70) := by unfold gM; rw [if_pos (by omega), Nat.add_sub_cancel]
    have hb : bel (l.count 84) (l.count 46 + 1) (l.count 70) 46 = 0 := rfl
    rw [hb]
    refine ⟨by omega, ?_⟩
    intro y hy hlt
    rcases sign3 hy with rfl | rfl | rfl
    · have : bel (l.count 84) (l.count 46 + 1) (l.count 70) 84 = gM (l.count 84) (l.count 46 + 1) (l.count 70) + fM (l.count 84) (l.count 46 + 1) (l.count 70) := rfl
      omega
    · exact absurd hlt (by decide)
    · have : bel (l.count 84) (l.count 46 + 1) (l.count 70) 70 = gM (l.count 84) (l.count 46 + 1) (l.count 70) := rfl
      omega
  · simp only [show ((70 : UInt8) = 84) = False by decide, show ((70 : UInt8) = 46) = False by decide, if_true, if_false, Nat.add_zero] at hp ⊢
    have hfM : fM (l.count 84) (l.count 46) (l.count 70 + 1) = mM (l.count 84) (l.count 46) (l.count 70) := by unfold fM; rw [if_pos (by omega), Nat.add_sub_cancel]
    have hb : bel (l.count 84) (l.count 46) (l.count 70 + 1) 70 = gM (l.count 84) (l.count 46) (l.count 70 + 1) := rfl
    rw [hb]
    refine ⟨by omega, ?_⟩
    intro y hy hlt
    rcases sign3 hy with rfl | rfl | rfl
    · have : bel (l.count 84) (l.count 46) (l.count 70 + 1) 84 = gM (l.count 84) (l.count 46) (l.count 70 + 1) + fM (l.count 84) (l.count 46) (l.count 70 + 1) := rfl
      omega
    · exact absurd hlt (by decide)
    · exact absurd hlt (by decide)
theorem rank_lt : ∀ {w : List UInt8}, signs w → w.length ≤ 12 → rankN w < mW w
  | [], _, _ => by decide
  | x :: l, hg, hl => by
    have h1 := rank_lt (signs_cons.1 hg).2 (by simp at hl; omega)
    have h2 := (bel_next hg hl).1
    simp only [rankN]
    omega
/-- Ranks of lines with as many of each tell their order. -/
theorem rank_lex : ∀ {w v : List UInt8}, signs w → signs v → w.length ≤ 12 → (∀ b, w.count b = v.count b) → (rankN w = rankN v → w = v) ∧ (rankN w < rankN v → Op.bytesLess w v = true)
  | [], [], _, _, _, _ => ⟨fun _ => rfl, fun h => absurd h (by decide)⟩
  | [], y :: m, _, _, _, hc => by
    have := hc y
    rw [List.count_nil, cntB1, if_pos rfl] at this
    omega
  | x :: l, [], _, _, _, hc => by
    have := hc x
    rw [List.count_nil, cntB1, if_pos rfl] at this
    omega
  | x :: l, y :: m, hg, hv, hl, hc => by
    have hx := (signs_cons.1 hg).1
    have hy := (signs_cons.1 hv).1
    have hlen : (y :: m).length ≤ 12 := by
      have h1 := cnt3 hg
      have h2 := cnt3 hv
      rw [hc, hc, hc] at h1
      omega
    by_cases hxy : x = y
    · subst hxy
      have ih := rank_lex (w := l) (v := m) (signs_cons.1 hg).2 (signs_cons.1 hv).2 (by simp at hl; omega) (fun b => by
        have := hc b
        rw [cntB1, cntB1] at this
        omega)
      have hirr : (x < x) = False := eq_false (by rw [UInt8.lt_iff_toNat_lt]; omega)
      simp only [rankN, hc, Op.bytesLess, hirr, decide_false, beq_self_eq_true, Bool.true_and, Bool.false_or]
      exact ⟨fun h => by rw [ih.1 (by omega)], fun h => ih.2 (by omega)⟩
    · have hlx := rank_lt (signs_cons.1 hg).2 (by simp at hl; omega)
      have hlm := rank_lt (signs_cons.1 hv).2 (by simp at hlen; omega)
      rcases Nat.lt_trichotomy x.toNat y.toNat with h | h | h
      · have hlt : x < y := UInt8.lt_iff_toNat_lt.2 h
        have := (bel_next hg hl).2 y hy hlt
        simp only [rankN]
        rw [hc, hc, hc] at this ⊢
        refine ⟨fun h => by omega, fun _ => ?_⟩
        simp only [Op.bytesLess, hlt, decide_true, Bool.true_or]
      · exact absurd (UInt8.toNat_inj.1 h) hxy
      · have hlt : y < x := UInt8.lt_iff_toNat_lt.2 h
        have := (bel_next hv hlen).2 x hx hlt
        simp only [rankN]
        rw [hc, hc, hc]
        refine ⟨fun h => by omega, fun h => by omega⟩
/-- The line of a rank. -/
def unr : Nat → Nat → Nat → Nat → Nat → List UInt8
  | 0, _, _, _, _ => []
  | n + 1, t, g, f, r => if r < gM t g f then 46 :: unr n t (g - 1) f r else if r < gM t g f + fM t g f then 70 :: unr n t g (f - 1) (r - gM t g f) else 84 :: unr n (t - 1) g f (r - (gM t g f + fM t g f))
theorem unr_ok : ∀ (n t g f r : Nat), t + g + f = n → n ≤ 12 → r < mM t g f → signs (unr n t g f r) ∧ (unr n t g f r).count 84 = t ∧ (unr n t g f r).count 46 = g ∧ (unr n t g f r).count 70 = f ∧ rankN (unr n t g f r) = r
  | 0, t, g, f, r, hs, hn, hr => by
    obtain rfl : t = 0 := by omega
    obtain rfl : g = 0 := by omega
    obtain rfl : f = 0 := by omega
    have : mM 0 0 0 = 1 := by decide
    rw [this] at hr
    exact ⟨rfl, rfl, rfl, rfl, by simp only [unr, rankN]; omega⟩
  | n + 1, t, g, f, r, hs, hn, hr => by
    have hp := (mM_facts (t := t) (g := g) (f := f) (by omega)).2.1 (by omega)
    simp only [unr]
    by_cases h1 : r < gM t g f
    · rw [if_pos h1]
      have hg0 : 0 < g := by
        by_cases h : 0 < g
        · exact h
        · unfold gM at h1; rw [if_neg h] at h1; omega
      have hm : gM t g f = mM t (g - 1) f := by unfold gM; rw [if_pos hg0]
      obtain ⟨i1, i2, i3, i4, i5⟩ := unr_ok n t (g - 1) f r (by omega) (by omega) (by omega)
      have c1 := cntB1 46 84 (unr n t (g - 1) f r)
      have c2 := cntB1 46 46 (unr n t (g - 1) f r)
      have c3 := cntB1 46 70 (unr n t (g - 1) f r)
      rw [i2] at c1; rw [i3] at c2; rw [i4] at c3
      rw [if_neg (by decide)] at c1 c3
      rw [if_pos rfl] at c2
      refine ⟨signs_cons.2 ⟨rfl, i1⟩, by omega, by omega, by omega, ?_⟩
      simp only [rankN, i5]
      simp [bel]
    · rw [if_neg h1]
      by_cases h2 : r < gM t g f + fM t g f
      · rw [if_pos h2]
        have hf0 : 0 < f := by
          by_cases h : 0 < f
          · exact h
          · unfold fM at h2; rw [if_neg h] at h2; omega
        have hm : fM t g f = mM t g (f - 1) := by unfold fM; rw [if_pos hf0]
        obtain ⟨i1, i2, i3, i4, i5⟩ := unr_ok n t g (f - 1) (r - gM t g f) (by omega) (by omega) (by omega)
        have c1 := cntB1 70 84 (unr n t g (f - 1) (r - gM t g f))
        have c2 := cntB1 70 46 (unr n t g (f - 1) (r - gM t g f))
        have c3 := cntB1 70 70 (unr n t g (f - 1) (r - gM t g f))
        rw [i2] at c1; rw [i3] at c2; rw [i4] at c3
        rw [if_neg (by decide)] at c1 c2
        rw [if_pos rfl] at c3
        have e1 : t + 0 = t := rfl
        rw [Nat.add_zero] at c1 c2
        rw [show f - 1 + 1 = f by omega] at c3
        refine ⟨signs_cons.2 ⟨rfl, i1⟩, c1, c2, c3, ?_⟩
        simp only [rankN, i5, c1, c2, c3]
        have : bel t g f 70 = gM t g f := rfl
        omega
      · rw [if_neg h2]
        have ht0 : 0 < t := by
          by_cases h : 0 < t
          · exact h
          · have : tM t g f = 0 := by unfold tM; rw [if_neg h]
            omega
        have hm : tM t g f = mM (t - 1) g f := by unfold tM; rw [if_pos ht0]
        obtain ⟨i1, i2, i3, i4, i5⟩ := unr_ok n (t - 1) g f (r - (gM t g f + fM t g f)) (by omega) (by omega) (by omega)
        have c1 := cntB1 84 84 (unr n (t - 1) g f (r - (gM t g f + fM t g f)))
        have c2 := cntB1 84 46 (unr n (t - 1) g f (r - (gM t g f + fM t g f)))
        have c3 := cntB1 84 70 (unr n (t - 1) g f (r - (gM t g f + fM t g f)))
        rw [i2] at c1; rw [i3] at c2; rw [i4] at c3
        rw [if_neg (by decide)] at c2 c3
        rw [if_pos rfl] at c1
        rw [Nat.add_zero] at c2 c3
        rw [show t - 1 + 1 = t by omega] at c1
        refine ⟨signs_cons.2 ⟨rfl, i1⟩, c1, c2, c3, ?_⟩
        simp only [rankN, i5, c1, c2, c3]
        have : bel t g f 84 = gM t g f + fM t g f := rfl
        omega
/-- A line is the line of its rank. -/
theorem unr_rank {w : List UInt8} (hg : signs w) (hl : w.length ≤ 12) : unr w.length (w.count 84) (w.count 46) (w.count 70) (rankN w) = w := by
  have hc := cnt3 hg
  obtain ⟨i1, i2, i3, i4, i5⟩ := unr_ok w.length (w.count 84) (w.count 46) (w.count 70) (rankN w) (by omega) hl (rank_lt hg hl)
  have hlen := cnt3 i1
  rw [i2, i3, i4] at hlen
  refine (rank_lex i1 hg (by omega) ?_).1 i5
  intro b
  by_cases h1 : b = 84
  · rw [h1]; exact i2
  · by_cases h2 : b = 46
    · rw [h2]; exact i3
    · by_cases h3 : b = 70
      · rw [h3]; exact i4
      · have no : ∀ {l : List UInt8}, signs l → l.count b = 0 := by
          intro l hl
          rw [List.count_eq_zero]
          intro hb
          rcases sign3 (List.all_eq_true.1 hl b hb) with h | h | h
          · exact h1 h
          · exact h2 h
          · exact h3 h
        rw [no i1, no hg]
end Go.Proofs.YtejhhdpfndiliaaGreatDoor.Ab

/- WHAT BOTH SIDES' functions answer on numbers of lines, first and last lines. -/
namespace Go.Proofs.YtejhhdpfndiliaaGreatDoor.Ab
open Go
set_option maxRecDepth 100000
set_option maxHeartbeats 4000000

def firB (t g f : Nat) : List UInt8 := List.replicate t 84 ++ List.replicate g 46 ++ List.replicate f 70
theorem repG (b : UInt8) : ∀ n : Nat, Go.Lib.repeatL [b] n = List.replicate n b
  | 0 => rfl
  | n + 1 => by rw [Go.Lib.repeatL, repG b n, List.replicate_succ]; rfl
theorem e_RepG (b : UInt8) (m : Nat) (hm : m ≤ 100) {h : AH} {post : AV → AH → Prop} : S 123 [.str [b], .int .i64 m] h post k = post (.str (List.replicate m b)) h := by
  refine S_eq fun post hp => ?_
  refine S_ext (r := .str (List.replicate m b)) rfl ?_ hp
  simp only [xRepeat]
  rw [if_pos ⟨by omega, by omega, by simp; omega⟩, Int.toNat_natCast, repG]
theorem encG84 : (Utf8.encode (84 : Int)).data.toList = [84] := by decide +kernel
theorem encG70 : (Utf8.encode (70 : Int)).data.toList = [70] := by decide +kernel
theorem e_impfirst (t g f : Nat) (ht : t ≤ 100) (hg : g ≤ 100) (hf : f ≤ 100) {h : AH} {post : AV → AH → Prop} : S 253 [.int .i64 t, .int .i64 g, .int .i64 f] h post k = post (.str (firB t g f)) h := by
  refine S_eq fun post hp => ?_
  have l1 : (List.replicate t (84 : UInt8)).length + (List.replicate g (46 : UInt8)).length ≤ two63 := by simp only [List.length_replicate, two63]; omega
  have l2 : (List.replicate t (84 : UInt8) ++ List.replicate g (46 : UInt8)).length + (List.replicate f (70 : UInt8)).length ≤ two63 := by simp only [List.length_append, List.length_replicate, two63]; omega
  refine S_of rfl T253 ?_; unfold fi253
  simp (maxSteps := 1000000) (disch := first | omega | rfl | (simp only [zL, two63, room] <;> omega) | fail) only [↓reduceIte, ↓zP, zW, WOp, evOp, evBin, binI, binSh, binS, evNil, keyIs, keyEq, mkv, AV.cells, AV.sc, optv, bnd, env, put, Env.get, Env.set, Env.del, Env.dels, Env.init, res1, resL, resV, fillP, splice, newRow, Nat.reduceEqDiff, Nat.reduceLT, Nat.reduceLeDiff, Nat.reduceAdd, Nat.reduceMul, Nat.reduceSub, Nat.reduceBEq, reduceCtorEq, ↓zR, zQ, Tr, StA, StT]
  refine S_of rfl T246 ?_; unfold fi246
  simp (maxSteps := 1000000) (disch := first | omega | rfl | (simp only [zL, two63, room] <;> omega) | fail) only [↓reduceIte, ↓zP, zW, WOp, evOp, evBin, binI, binSh, binS, evNil, keyIs, keyEq, mkv, AV.cells, AV.sc, optv, bnd, env, put, Env.get, Env.set, Env.del, Env.dels, Env.init, res1, resL, resV, fillP, splice, newRow, Nat.reduceEqDiff, Nat.reduceLT, Nat.reduceLeDiff, Nat.reduceAdd, Nat.reduceMul, Nat.reduceSub, Nat.reduceBEq, reduceCtorEq, ↓zR, zQ, Tr, StA, StT, encG84, encG70, e_RepG 84 t ht, e_RepG 46 g hg, e_RepG 70 f hf, l1, l2]
  exact hp
theorem c_implast (w : List UInt8) (hw : w.length ≤ 100) {h : AH} {post : AV → AH → Prop} (hp : post (.str (lastB w)) h) : S 237 [.str w] h post k := by
  have ht := List.count_le_length (a := (84 : UInt8)) (l := w)
  have hg := List.count_le_length (a := (46 : UInt8)) (l := w)
  have hf := List.count_le_length (a := (70 : UInt8)) (l := w)
  unfold lastB at hp
  refine S_of rfl T237 ?_; unfold fi237
  simp (maxSteps := 1000000) (disch := first | omega | rfl | (simp only [zL, two63, room] <;> omega) | fail) only [↓reduceIte, ↓zP, zW, WOp, evOp, evBin, binI, binSh, binS, evNil, keyIs, keyEq, mkv, AV.cells, AV.sc, optv, bnd, env, put, Env.get, Env.set, Env.del, Env.dels, Env.init, res1, resL, resV, fillP, splice, newRow, Nat.reduceEqDiff, Nat.reduceLT, Nat.reduceLeDiff, Nat.reduceAdd, Nat.reduceMul, Nat.reduceSub, Nat.reduceBEq, reduceCtorEq, ↓zR, zQ, Tr, StA, StT]
  refine c_count w ?_
  generalize w.count 84 = t at *
  generalize w.count 46 = g at *
  generalize w.count 70 = f at *
  have l1 : (List.replicate f (70 : UInt8)).length + (List.replicate g (46 : UInt8)).length ≤ two63 := by simp only [List.length_replicate, two63]; omega
  have l2 : (List.replicate f (70 : UInt8) ++ List.replicate g (46 : UInt8)).length + (List.replicate t (84 : UInt8)).length ≤ two63 := by simp only [List.length_append, List.length_replicate, two63]; omega
  simp (maxSteps := 1000000) (disch := first | omega | rfl | (simp only [zL, two63, room] <;> omega) | fail) only [↓reduceIte, ↓zP, zW, WOp, evOp, evBin, binI, binSh, binS, evNil, keyIs, keyEq, mkv, AV.cells, AV.sc, optv, bnd, env, put, Env.get, Env.set, Env.del, Env.dels, Env.init, res1, resL, resV, fillP, splice, newRow, Nat.reduceEqDiff, Nat.reduceLT, Nat.reduceLeDiff, Nat.reduceAdd, Nat.reduceMul, Nat.reduceSub, Nat.reduceBEq, reduceCtorEq, ↓zR, zQ, Tr, StA, StT]
  refine S_of rfl T246 ?_; unfold fi246
  simp (maxSteps := 1000000) (disch := first | omega | rfl | (simp only [zL, two63, room] <;> omega) | fail) only [↓reduceIte, ↓zP, zW, WOp, evOp, evBin, binI, binSh, binS, evNil, keyIs, keyEq, mkv, AV.cells, AV.sc, optv, bnd, env, put, Env.get, Env.set, Env.del, Env.dels, Env.init, res1, resL, resV, fillP, splice, newRow, Nat.reduceEqDiff, Nat.reduceLT, Nat.reduceLeDiff, Nat.reduceAdd, Nat.reduceMul, Nat.reduceSub, Nat.reduceBEq, reduceCtorEq, ↓zR, zQ, Tr, StA, StT, encG84, encG70, e_RepG 84 t (by omega), e_RepG 46 g (by omega), e_RepG 70 f (by omega), l1, l2]
  exact hp
def lasG (w : List UInt8) : List UInt8 := if goodLine w then lastB w else []
def cnG (w : List UInt8) (b : UInt8) : Int := if goodLine w then (w.count b : Nat) else 0
theorem e_LastLine (w : List UInt8) (hw : w.length < 2 ^ 60) {h : AH} {post : AV → AH → Prop} : S 401 [.str w] h post k = post (.tup [.str (lasG w), .bool (goodLine w)]) h := S_eq fun _ hp => by
  unfold lasG at hp
  refine S_of rfl T401 ?_; unfold fi401
  cases hg : goodLine w <;> rw [hg] at hp
  · simp (maxSteps := 1000000) (disch := first | omega | rfl | (simp only [zL, two63, room] <;> omega) | fail) only [↓reduceIte, ↓zP, zW, WOp, evOp, evBin, binI, binSh, binS, evNil, keyIs, keyEq, mkv, AV.cells, AV.sc, optv, bnd, env, put, Env.get, Env.set, Env.del, Env.dels, Env.init, res1, resL, resV, fillP, splice, newRow, Nat.reduceEqDiff, Nat.reduceLT, Nat.reduceLeDiff, Nat.reduceAdd, Nat.reduceMul, Nat.reduceSub, Nat.reduceBEq, reduceCtorEq, ↓zR, zQ, Tr, StA, StT, e_IsLine w hw, hg]
    exact hp
  · have hl := good_all hg
    simp (maxSteps := 1000000) (disch := first | omega | rfl | (simp only [zL, two63, room] <;> omega) | fail) only [↓reduceIte, ↓zP, zW, WOp, evOp, evBin, binI, binSh, binS, evNil, keyIs, keyEq, mkv, AV.cells, AV.sc, optv, bnd, env, put, Env.get, Env.set, Env.del, Env.dels, Env.init, res1, resL, resV, fillP, splice, newRow, Nat.reduceEqDiff, Nat.reduceLT, Nat.reduceLeDiff, Nat.reduceAdd, Nat.reduceMul, Nat.reduceSub, Nat.reduceBEq, reduceCtorEq, ↓zR, zQ, Tr, StA, StT, e_IsLine w hw, hg]
    refine c_implast w (by omega) ?_
    simp (maxSteps := 1000000) (disch := first | omega | rfl | (simp only [zL, two63, room] <;> omega) | fail) only [↓reduceIte, ↓zP, zW, WOp, evOp, evBin, binI, binSh, binS, evNil, keyIs, keyEq, mkv, AV.cells, AV.sc, optv, bnd, env, put, Env.get, Env.set, Env.del, Env.dels, Env.init, res1, resL, resV, fillP, splice, newRow, Nat.reduceEqDiff, Nat.reduceLT, Nat.reduceLeDiff, Nat.reduceAdd, Nat.reduceMul, Nat.reduceSub, Nat.reduceBEq, reduceCtorEq, ↓zR, zQ, Tr, StA, StT]
    exact hp
theorem e_sLastLine (w : List UInt8) (hw : w.length < 2 ^ 60) {h : AH} {post : AV → AH → Prop} : S 402 [.str w] h post k = post (.tup [.str (lasG w), .bool (goodLine w)]) h := S_eq fun _ hp => by
  unfold lasG at hp
  refine S_of rfl T402 ?_; unfold fi402
  cases hg : goodLine w <;> rw [hg] at hp
  · simp (maxSteps := 1000000) (disch := first | omega | rfl | (simp only [zL, two63, room] <;> omega) | fail) only [↓reduceIte, ↓zP, zW, WOp, evOp, evBin, binI, binSh, binS, evNil, keyIs, keyEq, mkv, AV.cells, AV.sc, optv, bnd, env, put, Env.get, Env.set, Env.del, Env.dels, Env.init, res1, resL, resV, fillP, splice, newRow, Nat.reduceEqDiff, Nat.reduceLT, Nat.reduceLeDiff, Nat.reduceAdd, Nat.reduceMul, Nat.reduceSub, Nat.reduceBEq, reduceCtorEq, ↓zR, zQ, Tr, StA, StT, e_liGoodG w hw, hg]
    exact hp
  · have hl := good_all hg
    simp (maxSteps := 1000000) (disch := first | omega | rfl | (simp only [zL, two63, room] <;> omega) | fail) only [↓reduceIte, ↓zP, zW, WOp, evOp, evBin, binI, binSh, binS, evNil, keyIs, keyEq, mkv, AV.cells, AV.sc, optv, bnd, env, put, Env.get, Env.set, Env.del, Env.dels, Env.init, res1, resL, resV, fillP, splice, newRow, Nat.reduceEqDiff, Nat.reduceLT, Nat.reduceLeDiff, Nat.reduceAdd, Nat.reduceMul, Nat.reduceSub, Nat.reduceBEq, reduceCtorEq, ↓zR, zQ, Tr, StA, StT, e_liGoodG w hw, hg, e_liLastG w (by omega)]
    exact hp
theorem e_CountOf (w : List UInt8) (hw : w.length < 2 ^ 60) {h : AH} {post : AV → AH → Prop} : S 399 [.str w] h post k = post (.tup [.int .i64 (cnG w 84), .int .i64 (cnG w 46), .int .i64 (cnG w 70), .bool (goodLine w)]) h := S_eq fun _ hp => by
  unfold cnG at hp
  refine S_of rfl T399 ?_; unfold fi399
  cases hg : goodLine w <;> rw [hg] at hp
  · simp (maxSteps := 1000000) (disch := first | omega | rfl | (simp only [zL, two63, room] <;> omega) | fail) only [↓reduceIte, ↓zP, zW, WOp, evOp, evBin, binI, binSh, binS, evNil, keyIs, keyEq, mkv, AV.cells, AV.sc, optv, bnd, env, put, Env.get, Env.set, Env.del, Env.dels, Env.init, res1, resL, resV, fillP, splice, newRow, Nat.reduceEqDiff, Nat.reduceLT, Nat.reduceLeDiff, Nat.reduceAdd, Nat.reduceMul, Nat.reduceSub, Nat.reduceBEq, reduceCtorEq, ↓zR, zQ, Tr, StA, StT, e_IsLine w hw, hg]
    exact hp
  · simp (maxSteps := 1000000) (disch := first | omega | rfl | (simp only [zL, two63, room] <;> omega) | fail) only [↓reduceIte, ↓zP, zW, WOp, evOp, evBin, binI, binSh, binS, evNil, keyIs, keyEq, mkv, AV.cells, AV.sc, optv, bnd, env, put, Env.get, Env.set, Env.del, Env.dels, Env.init, res1, resL, resV, fillP, splice, newRow, Nat.reduceEqDiff, Nat.reduceLT, Nat.reduceLeDiff, Nat.reduceAdd, Nat.reduceMul, Nat.reduceSub, Nat.reduceBEq, reduceCtorEq, ↓zR, zQ, Tr, StA, StT, e_IsLine w hw, hg]
    refine c_count w ?_
    simp (maxSteps := 1000000) (disch := first | omega | rfl | (simp only [zL, two63, room] <;> omega) | fail) only [↓reduceIte, ↓zP, zW, WOp, evOp, evBin, binI, binSh, binS, evNil, keyIs, keyEq, mkv, AV.cells, AV.sc, optv, bnd, env, put, Env.get, Env.set, Env.del, Env.dels, Env.init, res1, resL, resV, fillP, splice, newRow, Nat.reduceEqDiff, Nat.reduceLT, Nat.reduceLeDiff, Nat.reduceAdd, Nat.reduceMul, Nat.reduceSub, Nat.reduceBEq, reduceCtorEq, ↓zR, zQ, Tr, StA, StT]
    exact hp
theorem e_sCountOf (w : List UInt8) (hw : w.length < 2 ^ 60) {h : AH} {post : AV → AH → Prop} : S 400 [.str w] h post k = post (.tup [.int .i64 (cnG w 84), .int .i64 (cnG w 46), .int .i64 (cnG w 70), .bool (goodLine w)]) h := S_eq fun _ hp => by
  unfold cnG at hp
  refine S_of rfl T400 ?_; unfold fi400
  cases hg : goodLine w <;> rw [hg] at hp
  · simp (maxSteps := 1000000) (disch := first | omega | rfl | (simp only [zL, two63, room] <;> omega) | fail) only [↓reduceIte, ↓zP, zW, WOp, evOp, evBin, binI, binSh, binS, evNil, keyIs, keyEq, mkv, AV.cells, AV.sc, optv, bnd, env, put, Env.get, Env.set, Env.del, Env.dels, Env.init, res1, resL, resV, fillP, splice, newRow, Nat.reduceEqDiff, Nat.reduceLT, Nat.reduceLeDiff, Nat.reduceAdd, Nat.reduceMul, Nat.reduceSub, Nat.reduceBEq, reduceCtorEq, ↓zR, zQ, Tr, StA, StT, e_liGoodG w hw, hg]
    exact hp
  · have hl := good_all hg
    simp (maxSteps := 1000000) (disch := first | omega | rfl | (simp only [zL, two63, room] <;> omega) | fail) only [↓reduceIte, ↓zP, zW, WOp, evOp, evBin, binI, binSh, binS, evNil, keyIs, keyEq, mkv, AV.cells, AV.sc, optv, bnd, env, put, Env.get, Env.set, Env.del, Env.dels, Env.init, res1, resL, resV, fillP, splice, newRow, Nat.reduceEqDiff, Nat.reduceLT, Nat.reduceLeDiff, Nat.reduceAdd, Nat.reduceMul, Nat.reduceSub, Nat.reduceBEq, reduceCtorEq, ↓zR, zQ, Tr, StA, StT, e_liGoodG w hw, hg, e_liCountT w (by omega), e_liCountF w (by omega), e_liCountD w (by omega)]
    exact hp

/-! ### How many lines -/
theorem step_ok {a k n m : Nat} (hk : 0 < k) (hak : a + k ≤ 24) (hb : n * 24 ^ (m + 1) ≤ 24 ^ 13) : n * (a + k) ≤ 24 ^ 13 ∧ n * (a + k) / k * 24 ^ m ≤ 24 ^ 13 := by
  have h1 : n * (a + k) ≤ n * 24 := Nat.mul_le_mul_left _ hak
  have h2 : n * 24 ≤ n * 24 ^ (m + 1) := Nat.mul_le_mul_left _ (by rw [Nat.pow_succ]; exact Nat.le_mul_of_pos_left _ (Nat.pos_of_ne_zero (by simp)))
  have h3 : n * (a + k) / k ≤ n * (a + k) := Nat.div_le_self _ _
  refine ⟨by omega, ?_⟩
  have h4 : n * (a + k) / k * 24 ^ m ≤ n * 24 * 24 ^ m := Nat.mul_le_mul_right _ (by omega)
  have h5 : n * 24 * 24 ^ m = n * 24 ^ (m + 1) := by rw [Nat.pow_succ, Nat.mul_comm (24 ^ m) 24, Nat.mul_assoc]
  omega
theorem p13 : (24 : Nat) ^ 13 < 2 ^ 62 := by decide
theorem wrap_lt {q : Nat} (h : q < 2 ^ 62) : ((q : Int) + 9223372036854775808) % 18446744073709551616 - 9223372036854775808 = q := by omega
theorem lp_lines1 {h : AH} {R : X → Env → AH → Prop} (t g f : Nat) (hs : t + g + f ≤ 12) : ∀ (m k0 n : Nat), k0 + m = f + 1 → 0 < k0 → n * 24 ^ m ≤ 24 ^ 13 → R (.exit 2) [(7, .int .i64 (loopN (t + g) m k0 n : Nat))] h →
    Cx (.loop lp91_1) [(0, .int .i64 t), (1, .int .i64 g), (2, .int .i64 f), (7, .int .i64 n), (9, .int .i64 k0)] h R k k := by
  intro m
  induction m with
  | zero =>
    intro k0 n hk h0 hb hR
    have n1 : ¬ ((k0 : Int) ≤ (f : Int)) := by omega
    rw [w_loopb (c := lp91_1) (d := lb91_1) rfl]; unfold lb91_1
    simp (maxSteps := 1000000) (disch := first | omega | rfl | (simp only [zL, two63, room] <;> omega) | fail) only [↓reduceIte, ↓zP, zW, WOp, evOp, evBin, binI, binSh, binS, evNil, keyIs, keyEq, mkv, AV.cells, AV.sc, optv, bnd, env, put, Env.get, Env.set, Env.del, Env.dels, Env.init, res1, resL, resV, fillP, splice, newRow, Nat.reduceEqDiff, Nat.reduceLT, Nat.reduceLeDiff, Nat.reduceAdd, Nat.reduceMul, Nat.reduceSub, Nat.reduceBEq, reduceCtorEq, ↓zR, zQ, Tr, StA, StT, n1]
    exact hR
  | succ m ih =>
    intro k0 n hk h0 hb hR
    have hp := p13
    obtain ⟨b1, b2⟩ := step_ok (a := t + g) h0 (by omega) hb
    have ih' := ih (k0 + 1) (n * (t + g + k0) / k0) (by omega) (by omega) b2 hR
    have n1 : (k0 : Int) ≤ (f : Int) := by omega
    have n0 : ¬ ((k0 : Int) = 0) := by omega
    have n0' : ((k0 : Int) == 0) = false := by simp; omega
    have b3 : n * (t + g + k0) / k0 ≤ n * (t + g + k0) := Nat.div_le_self _ _
    have w1 : IntKind.i64.wrap ((t : Int) + g) = ((t + g : Nat) : Int) := by rw [IntKind.wrap_i64]; omega
    have w2 : IntKind.i64.wrap (((t + g : Nat) : Int) + k0) = ((t + g + k0 : Nat) : Int) := by rw [IntKind.wrap_i64]; omega
    have w3 : IntKind.i64.wrap ((n : Int) * ((t + g + k0 : Nat) : Int)) = ((n * (t + g + k0) : Nat) : Int) := by
      rw [← Int.natCast_mul, IntKind.wrap_i64]; omega
    have w4 : IntKind.i64.wrap ((((n * (t + g + k0) : Nat) : Int)).tdiv (k0 : Int)) = ((n * (t + g + k0) / k0 : Nat) : Int) := by
      rw [show ((((n * (t + g + k0) : Nat) : Int)).tdiv (k0 : Int)) = ((n * (t + g + k0) / k0 : Nat) : Int) from rfl, IntKind.wrap_i64]
      exact wrap_lt (Nat.lt_of_le_of_lt (Nat.le_trans b3 b1) hp)
    have w5 : IntKind.i64.wrap ((k0 : Int) + 1) = ((k0 + 1 : Nat) : Int) := by rw [IntKind.wrap_i64]; omega
    rw [w_loopb (c := lp91_1) (d := lb91_1) rfl]; unfold lb91_1
    simp (maxSteps := 1000000) (disch := first | omega | rfl | (simp only [zL, two63, room] <;> omega) | fail) only [↓reduceIte, ↓zP, zW, WOp, evOp, evBin, binI, binSh, binS, evNil, keyIs, keyEq, mkv, AV.cells, AV.sc, optv, bnd, env, put, Env.get, Env.set, Env.del, Env.dels, Env.init, res1, resL, resV, fillP, splice, newRow, Nat.reduceEqDiff, Nat.reduceLT, Nat.reduceLeDiff, Nat.reduceAdd, Nat.reduceMul, Nat.reduceSub, Nat.reduceBEq, reduceCtorEq, ↓zR, zQ, Tr, StA, StT, n1, n0, n0', w1, w2, w3, w4, w5]
    rw [w_loopn (c := lp91_1) rfl]
    simp (maxSteps := 1000000) (disch := first | omega | rfl | (simp only [zL, two63, room] <;> omega) | fail) only [↓reduceIte, ↓zP, zW, WOp, evOp, evBin, binI, binSh, binS, evNil, keyIs, keyEq, mkv, AV.cells, AV.sc, optv, bnd, env, put, Env.get, Env.set, Env.del, Env.dels, Env.init, res1, resL, resV, fillP, splice, newRow, Nat.reduceEqDiff, Nat.reduceLT, Nat.reduceLeDiff, Nat.reduceAdd, Nat.reduceMul, Nat.reduceSub, Nat.reduceBEq, reduceCtorEq, ↓zR, zQ, Tr, StA, StT]
    exact ih'
theorem lp_lines0 {h : AH} {R : X → Env → AH → Prop} (t g f : Nat) (hs : t + g + f ≤ 12) : ∀ (m k0 n : Nat), k0 + m = g + 1 → 0 < k0 → n * 24 ^ m ≤ 24 ^ 13 → R (.exit 0) [(0, .int .i64 t), (1, .int .i64 g), (2, .int .i64 f), (7, .int .i64 (loopN (t) m k0 n : Nat))] h →
    Cx (.loop lp91_0) [(0, .int .i64 t), (1, .int .i64 g), (2, .int .i64 f), (7, .int .i64 n), (8, .int .i64 k0)] h R k k := by
  intro m
  induction m with
  | zero =>
    intro k0 n hk h0 hb hR
    have n1 : ¬ ((k0 : Int) ≤ (g : Int)) := by omega
    rw [w_loopb (c := lp91_0) (d := lb91_0) rfl]; unfold lb91_0
    simp (maxSteps := 1000000) (disch := first | omega | rfl | (simp only [zL, two63, room] <;> omega) | fail) only [↓reduceIte, ↓zP, zW, WOp, evOp, evBin, binI, binSh, binS, evNil, keyIs, keyEq, mkv, AV.cells, AV.sc, optv, bnd, env, put, Env.get, Env.set, Env.del, Env.dels, Env.init, res1, resL, resV, fillP, splice, newRow, Nat.reduceEqDiff, Nat.reduceLT, Nat.reduceLeDiff, Nat.reduceAdd, Nat.reduceMul, Nat.reduceSub, Nat.reduceBEq, reduceCtorEq, ↓zR, zQ, Tr, StA, StT, n1]
    exact hR
  | succ m ih =>
    intro k0 n hk h0 hb hR
    have hp := p13
    obtain ⟨b1, b2⟩ := step_ok (a := t) h0 (by omega) hb
    have ih' := ih (k0 + 1) (n * (t + k0) / k0) (by omega) (by omega) b2 hR
    have n1 : (k0 : Int) ≤ (g : Int) := by omega
    have n0 : ¬ ((k0 : Int) = 0) := by omega
    have n0' : ((k0 : Int) == 0) = false := by simp; omega
    have b3 : n * (t + k0) / k0 ≤ n * (t + k0) := Nat.div_le_self _ _
    have w2 : IntKind.i64.wrap ((t : Int) + k0) = ((t + k0 : Nat) : Int) := by rw [IntKind.wrap_i64]; omega
    have w3 : IntKind.i64.wrap ((n : Int) * ((t + k0 : Nat) : Int)) = ((n * (t + k0) : Nat) : Int) := by
      rw [← Int.natCast_mul, IntKind.wrap_i64]; omega
    have w4 : IntKind.i64.wrap ((((n * (t + k0) : Nat) : Int)).tdiv (k0 : Int)) = ((n * (t + k0) / k0 : Nat) : Int) := by
      rw [show ((((n * (t + k0) : Nat) : Int)).tdiv (k0 : Int)) = ((n * (t + k0) / k0 : Nat) : Int) from rfl, IntKind.wrap_i64]
      exact wrap_lt (Nat.lt_of_le_of_lt (Nat.le_trans b3 b1) hp)
    have w5 : IntKind.i64.wrap ((k0 : Int) + 1) = ((k0 + 1 : Nat) : Int) := by rw [IntKind.wrap_i64]; omega
    rw [w_loopb (c := lp91_0) (d := lb91_0) rfl]; unfold lb91_0
    simp (maxSteps := 1000000) (disch := first | omega | rfl | (simp only [zL, two63, room] <;> omega) | fail) only [↓reduceIte, ↓zP, zW, WOp, evOp, evBin, binI, binSh, binS, evNil, keyIs, keyEq, mkv, AV.cells, AV.sc, optv, bnd, env, put, Env.get, Env.set, Env.del, Env.dels, Env.init, res1, resL, resV, fillP, splice, newRow, Nat.reduceEqDiff, Nat.reduceLT, Nat.reduceLeDiff, Nat.reduceAdd, Nat.reduceMul, Nat.reduceSub, Nat.reduceBEq, reduceCtorEq, ↓zR, zQ, Tr, StA, StT, n1, n0, n0', w2, w3, w4, w5]
    rw [w_loopn (c := lp91_0) rfl]
    simp (maxSteps := 1000000) (disch := first | omega | rfl | (simp only [zL, two63, room] <;> omega) | fail) only [↓reduceIte, ↓zP, zW, WOp, evOp, evBin, binI, binSh, binS, evNil, keyIs, keyEq, mkv, AV.cells, AV.sc, optv, bnd, env, put, Env.get, Env.set, Env.del, Env.dels, Env.init, res1, resL, resV, fillP, splice, newRow, Nat.reduceEqDiff, Nat.reduceLT, Nat.reduceLeDiff, Nat.reduceAdd, Nat.reduceMul, Nat.reduceSub, Nat.reduceBEq, reduceCtorEq, ↓zR, zQ, Tr, StA, StT]
    exact ih'
theorem lp_many0 {h : AH} {R : X → Env → AH → Prop} (t g f : Nat) (hs : t + g + f ≤ 12) : ∀ (m k0 n : Nat), k0 + m = t + 1 → 0 < k0 → n * 24 ^ m ≤ 24 ^ 13 → R (.exit 0) [(1, .int .i64 g), (2, .int .i64 f), (7, .int .i64 (loopN (g + f) m k0 n : Nat))] h →
    Cx (.loop lp440_0) [(0, .int .i64 t), (1, .int .i64 g), (2, .int .i64 f), (7, .int .i64 n), (8, .int .i64 k0)] h R k k := by
  intro m
  induction m with
  | zero =>
    intro k0 n hk h0 hb hR
    have n1 : ¬ ((k0 : Int) ≤ (t : Int)) := by omega
    rw [w_loopb (c := lp440_0) (d := lb440_0) rfl]; unfold lb440_0
    simp (maxSteps := 1000000) (disch := first | omega | rfl | (simp only [zL, two63, room] <;> omega) | fail) only [↓reduceIte, ↓zP, zW, WOp, evOp, evBin, binI, binSh, binS, evNil, keyIs, keyEq, mkv, AV.cells, AV.sc, optv, bnd, env, put, Env.get, Env.set, Env.del, Env.dels, Env.init, res1, resL, resV, fillP, splice, newRow, Nat.reduceEqDiff, Nat.reduceLT, Nat.reduceLeDiff, Nat.reduceAdd, Nat.reduceMul, Nat.reduceSub, Nat.reduceBEq, reduceCtorEq, ↓zR, zQ, Tr, StA, StT, n1]
    exact hR
  | succ m ih =>
    intro k0 n hk h0 hb hR
    have hp := p13
    obtain ⟨b1, b2⟩ := step_ok (a := g + f) h0 (by omega) hb
    have ih' := ih (k0 + 1) (n * (g + f + k0) / k0) (by omega) (by omega) b2 hR
    have n1 : (k0 : Int) ≤ (t : Int) := by omega
    have n0 : ¬ ((k0 : Int) = 0) := by omega
    have n0' : ((k0 : Int) == 0) = false := by simp; omega
    have b3 : n * (g + f + k0) / k0 ≤ n * (g + f + k0) := Nat.div_le_self _ _
    have w1 : IntKind.i64.wrap ((g : Int) + f) = ((g + f : Nat) : Int) := by rw [IntKind.wrap_i64]; omega
    have w2 : IntKind.i64.wrap (((g + f : Nat) : Int) + k0) = ((g + f + k0 : Nat) : Int) := by rw [IntKind.wrap_i64]; omega
    have w3 : IntKind.i64.wrap ((n : Int) * ((g + f + k0 : Nat) : Int)) = ((n * (g + f + k0) : Nat) : Int) := by
      rw [← Int.natCast_mul, IntKind.wrap_i64]; omega
    have w4 : IntKind.i64.wrap ((((n * (g + f + k0) : Nat) : Int)).tdiv (k0 : Int)) = ((n * (g + f + k0) / k0 : Nat) : Int) := by
      rw [show ((((n * (g + f + k0) : Nat) : Int)).tdiv (k0 : Int)) = ((n * (g + f + k0) / k0 : Nat) : Int) from rfl, IntKind.wrap_i64]
      exact wrap_lt (Nat.lt_of_le_of_lt (Nat.le_trans b3 b1) hp)
    have w5 : IntKind.i64.wrap ((k0 : Int) + 1) = ((k0 + 1 : Nat) : Int) := by rw [IntKind.wrap_i64]; omega
    rw [w_loopb (c := lp440_0) (d := lb440_0) rfl]; unfold lb440_0
    simp (maxSteps := 1000000) (disch := first | omega | rfl | (simp only [zL, two63, room] <;> omega) | fail) only [↓reduceIte, ↓zP, zW, WOp, evOp, evBin, binI, binSh, binS, evNil, keyIs, keyEq, mkv, AV.cells, AV.sc, optv, bnd, env, put, Env.get, Env.set, Env.del, Env.dels, Env.init, res1, resL, resV, fillP, splice, newRow, Nat.reduceEqDiff, Nat.reduceLT, Nat.reduceLeDiff, Nat.reduceAdd, Nat.reduceMul, Nat.reduceSub, Nat.reduceBEq, reduceCtorEq, ↓zR, zQ, Tr, StA, StT, n1, n0, n0', w1, w2, w3, w4, w5]
    rw [w_loopn (c := lp440_0) rfl]
    simp (maxSteps := 1000000) (disch := first | omega | rfl | (simp only [zL, two63, room] <;> omega) | fail) only [↓reduceIte, ↓zP, zW, WOp, evOp, evBin, binI, binSh, binS, evNil, keyIs, keyEq, mkv, AV.cells, AV.sc, optv, bnd, env, put, Env.get, Env.set, Env.del, Env.dels, Env.init, res1, resL, resV, fillP, splice, newRow, Nat.reduceEqDiff, Nat.reduceLT, Nat.reduceLeDiff, Nat.reduceAdd, Nat.reduceMul, Nat.reduceSub, Nat.reduceBEq, reduceCtorEq, ↓zR, zQ, Tr, StA, StT]
    exact ih'
theorem lp_many1 {h : AH} {R : X → Env → AH → Prop} (t g f : Nat) (hs : t + g + f ≤ 12) : ∀ (m k0 n : Nat), k0 + m = f + 1 → 0 < k0 → n * 24 ^ m ≤ 24 ^ 13 → R (.exit 2) [(7, .int .i64 (loopN (g) m k0 n : Nat))] h →
    Cx (.loop lp440_1) [(1, .int .i64 g), (2, .int .i64 f), (7, .int .i64 n), (9, .int .i64 k0)] h R k k := by
  intro m
  induction m with
  | zero =>
    intro k0 n hk h0 hb hR
    have n1 : ¬ ((k0 : Int) ≤ (f : Int)) := by omega
    rw [w_loopb (c := lp440_1) (d := lb440_1) rfl]; unfold lb440_1
    simp (maxSteps := 1000000) (disch := first | omega | rfl | (simp only [zL, two63, room] <;> omega) | fail) only [↓reduceIte, ↓zP, zW, WOp, evOp, evBin, binI, binSh, binS, evNil, keyIs, keyEq, mkv, AV.cells, AV.sc, optv, bnd, env, put, Env.get, Env.set, Env.del, Env.dels, Env.init, res1, resL, resV, fillP, splice, newRow, Nat.reduceEqDiff, Nat.reduceLT, Nat.reduceLeDiff, Nat.reduceAdd, Nat.reduceMul, Nat.reduceSub, Nat.reduceBEq, reduceCtorEq, ↓zR, zQ, Tr, StA, StT, n1]
    exact hR
  | succ m ih =>
    intro k0 n hk h0 hb hR
    have hp := p13
    obtain ⟨b1, b2⟩ := step_ok (a := g) h0 (by omega) hb
    have ih' := ih (k0 + 1) (n * (g + k0) / k0) (by omega) (by omega) b2 hR
    have n1 : (k0 : Int) ≤ (f : Int) := by omega
    have n0 : ¬ ((k0 : Int) = 0) := by omega
    have n0' : ((k0 : Int) == 0) = false := by simp; omega
    have b3 : n * (g + k0) / k0 ≤ n * (g + k0) := Nat.div_le_self _ _
    have w2 : IntKind.i64.wrap ((g : Int) + k0) = ((g + k0 : Nat) : Int) := by rw [IntKind.wrap_i64]; omega
    have w3 : IntKind.i64.wrap ((n : Int) * ((g + k0 : Nat) : Int)) = ((n * (g + k0) : Nat) : Int) := by
      rw [← Int.natCast_mul, IntKind.wrap_i64]; omega
    have w4 : IntKind.i64.wrap ((((n * (g + k0) : Nat) : Int)).tdiv (k0 : Int)) = ((n * (g + k0) / k0 : Nat) : Int) := by
      rw [show ((((n * (g + k0) : Nat) : Int)).tdiv (k0 : Int)) = ((n * (g + k0) / k0 : Nat) : Int) from rfl, IntKind.wrap_i64]
      exact wrap_lt (Nat.lt_of_le_of_lt (Nat.le_trans b3 b1) hp)
    have w5 : IntKind.i64.wrap ((k0 : Int) + 1) = ((k0 + 1 : Nat) : Int) := by rw [IntKind.wrap_i64]; omega
    rw [w_loopb (c := lp440_1) (d := lb440_1) rfl]; unfold lb440_1
    simp (maxSteps := 1000000) (disch := first | omega | rfl | (simp only [zL, two63, room] <;> omega) | fail) only [↓reduceIte, ↓zP, zW, WOp, evOp, evBin, binI, binSh, binS, evNil, keyIs, keyEq, mkv, AV.cells, AV.sc, optv, bnd, env, put, Env.get, Env.set, Env.del, Env.dels, Env.init, res1, resL, resV, fillP, splice, newRow, Nat.reduceEqDiff, Nat.reduceLT, Nat.reduceLeDiff, Nat.reduceAdd, Nat.reduceMul, Nat.reduceSub, Nat.reduceBEq, reduceCtorEq, ↓zR, zQ, Tr, StA, StT, n1, n0, n0', w2, w3, w4, w5]
    rw [w_loopn (c := lp440_1) rfl]
    simp (maxSteps := 1000000) (disch := first | omega | rfl | (simp only [zL, two63, room] <;> omega) | fail) only [↓reduceIte, ↓zP, zW, WOp, evOp, evBin, binI, binSh, binS, evNil, keyIs, keyEq, mkv, AV.cells, AV.sc, optv, bnd, env, put, Env.get, Env.set, Env.del, Env.dels, Env.init, res1, resL, resV, fillP, splice, newRow, Nat.reduceEqDiff, Nat.reduceLT, Nat.reduceLeDiff, Nat.reduceAdd, Nat.reduceMul, Nat.reduceSub, Nat.reduceBEq, reduceCtorEq, ↓zR, zQ, Tr, StA, StT]
    exact ih'
theorem loop_ok {a : Nat} : ∀ (m k0 n : Nat) (j : Nat), 0 < k0 → a + k0 + m ≤ 25 → n * 24 ^ (m + j) ≤ 24 ^ 13 → loopN a m k0 n * 24 ^ j ≤ 24 ^ 13
  | 0, k0, n, j, _, _, h => by simpa [loopN] using h
  | m + 1, k0, n, j, h0, h1, h => by
    have h2 : n * 24 ^ (m + j + 1) ≤ 24 ^ 13 := by rw [show m + j + 1 = m + 1 + j by omega]; exact h
    exact loop_ok m (k0 + 1) _ j (by omega) (by omega) (step_ok (a := a) h0 (by omega) h2).2
theorem e_lines (t g f : Nat) (hs : t + g + f ≤ 12) {h : AH} {post : AV → AH → Prop} : S 91 [.int .i64 t, .int .i64 g, .int .i64 f] h post k = post (.int .i64 (mM t g f : Nat)) h := S_eq fun _ hp => by
  have hle : ∀ m : Nat, m ≤ 12 → 1 * 24 ^ m ≤ 24 ^ 13 := fun m hm => by rw [Nat.one_mul]; exact Nat.pow_le_pow_right (by omega) (by omega)
  refine S_of rfl T91 ?_; unfold fi91
  simp (maxSteps := 1000000) (disch := first | omega | rfl | (simp only [zL, two63, room] <;> omega) | fail) only [↓reduceIte, ↓zP, zW, WOp, evOp, evBin, binI, binSh, binS, evNil, keyIs, keyEq, mkv, AV.cells, AV.sc, optv, bnd, env, put, Env.get, Env.set, Env.del, Env.dels, Env.init, res1, resL, resV, fillP, splice, newRow, Nat.reduceEqDiff, Nat.reduceLT, Nat.reduceLeDiff, Nat.reduceAdd, Nat.reduceMul, Nat.reduceSub, Nat.reduceBEq, reduceCtorEq, ↓zR, zQ, Tr, StA, StT]
  refine lp_lines0 t g f hs g 1 1 (by omega) (by omega) (hle g (by omega)) ?_
  simp (maxSteps := 1000000) (disch := first | omega | rfl | (simp only [zL, two63, room] <;> omega) | fail) only [↓reduceIte, ↓zP, zW, WOp, evOp, evBin, binI, binSh, binS, evNil, keyIs, keyEq, mkv, AV.cells, AV.sc, optv, bnd, env, put, Env.get, Env.set, Env.del, Env.dels, Env.init, res1, resL, resV, fillP, splice, newRow, Nat.reduceEqDiff, Nat.reduceLT, Nat.reduceLeDiff, Nat.reduceAdd, Nat.reduceMul, Nat.reduceSub, Nat.reduceBEq, reduceCtorEq, ↓zR, zQ, Tr, StA, StT]
  refine lp_lines1 t g f hs f 1 (loopN t g 1 1) (by omega) (by omega) (loop_ok g 1 1 f (by omega) (by omega) (hle _ (by omega))) ?_
  simp (maxSteps := 1000000) (disch := first | omega | rfl | (simp only [zL, two63, room] <;> omega) | fail) only [↓reduceIte, ↓zP, zW, WOp, evOp, evBin, binI, binSh, binS, evNil, keyIs, keyEq, mkv, AV.cells, AV.sc, optv, bnd, env, put, Env.get, Env.set, Env.del, Env.dels, Env.init, res1, resL, resV, fillP, splice, newRow, Nat.reduceEqDiff, Nat.reduceLT, Nat.reduceLeDiff, Nat.reduceAdd, Nat.reduceMul, Nat.reduceSub, Nat.reduceBEq, reduceCtorEq, ↓zR, zQ, Tr, StA, StT]
  exact hp
theorem e_liMany (t g f : Nat) (hs : t + g + f ≤ 12) {h : AH} {post : AV → AH → Prop} : S 440 [.int .i64 t, .int .i64 g, .int .i64 f] h post k = post (.int .i64 (mM t g f : Nat)) h := S_eq fun _ hp => by
  have hle : ∀ m : Nat, m ≤ 12 → 1 * 24 ^ m ≤ 24 ^ 13 := fun m hm => by rw [Nat.one_mul]; exact Nat.pow_le_pow_right (by omega) (by omega)
  have n1 : ¬ ((t : Int) < 0) := by omega
  have n2 : ¬ ((g : Int) < 0) := by omega
  have n3 : ¬ ((f : Int) < 0) := by omega
  rw [← (mM_facts hs).1] at hp
  refine S_of rfl T440 ?_; unfold fi440
  simp (maxSteps := 1000000) (disch := first | omega | rfl | (simp only [zL, two63, room] <;> omega) | fail) only [↓reduceIte, ↓zP, zW, WOp, evOp, evBin, binI, binSh, binS, evNil, keyIs, keyEq, mkv, AV.cells, AV.sc, optv, bnd, env, put, Env.get, Env.set, Env.del, Env.dels, Env.init, res1, resL, resV, fillP, splice, newRow, Nat.reduceEqDiff, Nat.reduceLT, Nat.reduceLeDiff, Nat.reduceAdd, Nat.reduceMul, Nat.reduceSub, Nat.reduceBEq, reduceCtorEq, ↓zR, zQ, Tr, StA, StT, n1, n2, n3]
  refine lp_many0 t g f hs t 1 1 (by omega) (by omega) (hle t (by omega)) ?_
  simp (maxSteps := 1000000) (disch := first | omega | rfl | (simp only [zL, two63, room] <;> omega) | fail) only [↓reduceIte, ↓zP, zW, WOp, evOp, evBin, binI, binSh, binS, evNil, keyIs, keyEq, mkv, AV.cells, AV.sc, optv, bnd, env, put, Env.get, Env.set, Env.del, Env.dels, Env.init, res1, resL, resV, fillP, splice, newRow, Nat.reduceEqDiff, Nat.reduceLT, Nat.reduceLeDiff, Nat.reduceAdd, Nat.reduceMul, Nat.reduceSub, Nat.reduceBEq, reduceCtorEq, ↓zR, zQ, Tr, StA, StT]
  refine lp_many1 t g f hs f 1 (loopN (g + f) t 1 1) (by omega) (by omega) (loop_ok t 1 1 f (by omega) (by omega) (hle _ (by omega))) ?_
  simp (maxSteps := 1000000) (disch := first | omega | rfl | (simp only [zL, two63, room] <;> omega) | fail) only [↓reduceIte, ↓zP, zW, WOp, evOp, evBin, binI, binSh, binS, evNil, keyIs, keyEq, mkv, AV.cells, AV.sc, optv, bnd, env, put, Env.get, Env.set, Env.del, Env.dels, Env.init, res1, resL, resV, fillP, splice, newRow, Nat.reduceEqDiff, Nat.reduceLT, Nat.reduceLeDiff, Nat.reduceAdd, Nat.reduceMul, Nat.reduceSub, Nat.reduceBEq, reduceCtorEq, ↓zR, zQ, Tr, StA, StT]
  exact hp
theorem e_manyNeg (t g f : Int) (hn : t < 0 ∨ g < 0 ∨ f < 0) {h : AH} {post : AV → AH → Prop} : S 440 [.int .i64 t, .int .i64 g, .int .i64 f] h post k = post (.int .i64 0) h := S_eq fun _ hp => by
  refine S_of rfl T440 ?_; unfold fi440
  by_cases h1 : t < 0
  · simp (maxSteps := 1000000) (disch := first | omega | rfl | (simp only [zL, two63, room] <;> omega) | fail) only [↓reduceIte, ↓zP, zW, WOp, evOp, evBin, binI, binSh, binS, evNil, keyIs, keyEq, mkv, AV.cells, AV.sc, optv, bnd, env, put, Env.get, Env.set, Env.del, Env.dels, Env.init, res1, resL, resV, fillP, splice, newRow, Nat.reduceEqDiff, Nat.reduceLT, Nat.reduceLeDiff, Nat.reduceAdd, Nat.reduceMul, Nat.reduceSub, Nat.reduceBEq, reduceCtorEq, ↓zR, zQ, Tr, StA, StT, h1]
    exact hp
  · by_cases h2 : g < 0
    · simp (maxSteps := 1000000) (disch := first | omega | rfl | (simp only [zL, two63, room] <;> omega) | fail) only [↓reduceIte, ↓zP, zW, WOp, evOp, evBin, binI, binSh, binS, evNil, keyIs, keyEq, mkv, AV.cells, AV.sc, optv, bnd, env, put, Env.get, Env.set, Env.del, Env.dels, Env.init, res1, resL, resV, fillP, splice, newRow, Nat.reduceEqDiff, Nat.reduceLT, Nat.reduceLeDiff, Nat.reduceAdd, Nat.reduceMul, Nat.reduceSub, Nat.reduceBEq, reduceCtorEq, ↓zR, zQ, Tr, StA, StT, h1, h2]
      exact hp
    · have h3 : f < 0 := by omega
      simp (maxSteps := 1000000) (disch := first | omega | rfl | (simp only [zL, two63, room] <;> omega) | fail) only [↓reduceIte, ↓zP, zW, WOp, evOp, evBin, binI, binSh, binS, evNil, keyIs, keyEq, mkv, AV.cells, AV.sc, optv, bnd, env, put, Env.get, Env.set, Env.del, Env.dels, Env.init, res1, resL, resV, fillP, splice, newRow, Nat.reduceEqDiff, Nat.reduceLT, Nat.reduceLeDiff, Nat.reduceAdd, Nat.reduceMul, Nat.reduceSub, Nat.reduceBEq, reduceCtorEq, ↓zR, zQ, Tr, StA, StT, h1, h2, h3]
      exact hp
theorem e_manyG (t g f : Nat) (hs : t + g + f ≤ 12) {h : AH} {post : AV → AH → Prop} : S 440 [.int .i64 t, .int .i64 ((g : Int) - 1), .int .i64 f] h post k = post (.int .i64 (gM t g f : Nat)) h := by
  unfold gM
  by_cases h0 : 0 < g
  · rw [if_pos h0, show (g : Int) - 1 = ((g - 1 : Nat) : Int) by omega, e_liMany t (g - 1) f (by omega)]
  · rw [if_neg h0, e_manyNeg _ _ _ (by omega)]; rfl
theorem e_manyF (t g f : Nat) (hs : t + g + f ≤ 12) {h : AH} {post : AV → AH → Prop} : S 440 [.int .i64 t, .int .i64 g, .int .i64 ((f : Int) - 1)] h post k = post (.int .i64 (fM t g f : Nat)) h := by
  unfold fM
  by_cases h0 : 0 < f
  · rw [if_pos h0, show (f : Int) - 1 = ((f - 1 : Nat) : Int) by omega, e_liMany t g (f - 1) (by omega)]
  · rw [if_neg h0, e_manyNeg _ _ _ (by omega)]; rfl
end Go.Proofs.YtejhhdpfndiliaaGreatDoor.Ab

/- NUMBERS of toads, gaps and frogs: what both sides take, and what they tell of them. -/
namespace Go.Proofs.YtejhhdpfndiliaaGreatDoor.Ab
open Go
set_option maxRecDepth 100000
set_option maxHeartbeats 4000000

def nmG (t g f : Int) : Bool := decide ((0 ≤ t ∧ t ≤ 12) ∧ (0 ≤ g ∧ g ≤ 12) ∧ (0 ≤ f ∧ f ≤ 12) ∧ 1 ≤ t + g + f ∧ t + g + f ≤ 12)
theorem nmG_no1 {t g f : Int} (h : ¬ (0 ≤ t ∧ t ≤ 12)) : nmG t g f = false := decide_eq_false fun hh => h hh.1
theorem nmG_no2 {t g f : Int} (h : ¬ (0 ≤ g ∧ g ≤ 12)) : nmG t g f = false := decide_eq_false fun hh => h hh.2.1
theorem nmG_no3 {t g f : Int} (h : ¬ (0 ≤ f ∧ f ≤ 12)) : nmG t g f = false := decide_eq_false fun hh => h hh.2.2.1
theorem nmG_yes {t g f : Int} (h1 : 0 ≤ t ∧ t ≤ 12) (h2 : 0 ≤ g ∧ g ≤ 12) (h3 : 0 ≤ f ∧ f ≤ 12) : nmG t g f = decide (1 ≤ t + g + f ∧ t + g + f ≤ 12) := by
  unfold nmG
  rw [decide_eq_decide]
  exact ⟨fun h => h.2.2.2, fun h => ⟨h1, h2, h3, h⟩⟩
theorem nmG_nat {t g f : Int} (h : nmG t g f = true) : ∃ t' g' f' : Nat, t = t' ∧ g = g' ∧ f = f' ∧ 1 ≤ t' + g' + f' ∧ t' + g' + f' ≤ 12 := by
  obtain ⟨h1, h2, h3, h4, h5⟩ := of_decide_eq_true h
  exact ⟨t.toNat, g.toNat, f.toNat, by omega, by omega, by omega, by omega, by omega⟩
theorem e_areCountsG (t g f : Int) {h : AH} {post : AV → AH → Prop} : S 92 [.int .i64 t, .int .i64 g, .int .i64 f, .int .i64 12] h post k = post (.bool (nmG t g f)) h := by
  refine S_eq fun post hp => ?_
  refine S_of rfl T92 ?_; unfold fi92
  by_cases h1 : 0 ≤ t ∧ t ≤ 12
  · by_cases h2 : 0 ≤ g ∧ g ≤ 12
    · by_cases h3 : 0 ≤ f ∧ f ≤ 12
      · rw [nmG_yes h1 h2 h3] at hp
        simp (maxSteps := 1000000) (disch := first | omega | rfl | (simp only [zL, two63, room] <;> omega) | fail) only [↓reduceIte, ↓zP, zW, WOp, evOp, evBin, binI, binSh, binS, evNil, keyIs, keyEq, mkv, AV.cells, AV.sc, optv, bnd, env, put, Env.get, Env.set, Env.del, Env.dels, Env.init, res1, resL, resV, fillP, splice, newRow, Nat.reduceEqDiff, Nat.reduceLT, Nat.reduceLeDiff, Nat.reduceAdd, Nat.reduceMul, Nat.reduceSub, Nat.reduceBEq, reduceCtorEq, ↓zR, zQ, Tr, StA, StT, e_within, h1, h2, h3]
        exact hp
      · rw [nmG_no3 h3] at hp
        simp (maxSteps := 1000000) (disch := first | omega | rfl | (simp only [zL, two63, room] <;> omega) | fail) only [↓reduceIte, ↓zP, zW, WOp, evOp, evBin, binI, binSh, binS, evNil, keyIs, keyEq, mkv, AV.cells, AV.sc, optv, bnd, env, put, Env.get, Env.set, Env.del, Env.dels, Env.init, res1, resL, resV, fillP, splice, newRow, Nat.reduceEqDiff, Nat.reduceLT, Nat.reduceLeDiff, Nat.reduceAdd, Nat.reduceMul, Nat.reduceSub, Nat.reduceBEq, reduceCtorEq, ↓zR, zQ, Tr, StA, StT, e_within, h1, h2, h3]
        exact hp
    · rw [nmG_no2 h2] at hp
      simp (maxSteps := 1000000) (disch := first | omega | rfl | (simp only [zL, two63, room] <;> omega) | fail) only [↓reduceIte, ↓zP, zW, WOp, evOp, evBin, binI, binSh, binS, evNil, keyIs, keyEq, mkv, AV.cells, AV.sc, optv, bnd, env, put, Env.get, Env.set, Env.del, Env.dels, Env.init, res1, resL, resV, fillP, splice, newRow, Nat.reduceEqDiff, Nat.reduceLT, Nat.reduceLeDiff, Nat.reduceAdd, Nat.reduceMul, Nat.reduceSub, Nat.reduceBEq, reduceCtorEq, ↓zR, zQ, Tr, StA, StT, e_within, h1, h2]
      exact hp
  · rw [nmG_no1 h1] at hp
    simp (maxSteps := 1000000) (disch := first | omega | rfl | (simp only [zL, two63, room] <;> omega) | fail) only [↓reduceIte, ↓zP, zW, WOp, evOp, evBin, binI, binSh, binS, evNil, keyIs, keyEq, mkv, AV.cells, AV.sc, optv, bnd, env, put, Env.get, Env.set, Env.del, Env.dels, Env.init, res1, resL, resV, fillP, splice, newRow, Nat.reduceEqDiff, Nat.reduceLT, Nat.reduceLeDiff, Nat.reduceAdd, Nat.reduceMul, Nat.reduceSub, Nat.reduceBEq, reduceCtorEq, ↓zR, zQ, Tr, StA, StT, e_within, h1]
    exact hp
theorem lp_l1AllG (lo hi : Int) {vm : AV} {L : List Int} {b : AH} (hs : Slc 1 encI b vm L) (hL : L.length < 2 ^ 40) {R : X → Env → AH → Prop} : ∀ (rest pre : List Int), L = pre ++ rest → ((rest.all fun n => decide (lo ≤ n ∧ n ≤ hi)) = true → R (.exit 0) [] b) → ((rest.all fun n => decide (lo ≤ n ∧ n ≤ hi)) = false → R .ret [(6, .bool false)] b) →
    Cx (.loop lp114_0) [(1, .int .i64 lo), (2, .int .i64 hi), (9, vm), (10, .int .i64 L.length), (11, .int .i64 pre.length)] b R k k
  | [], pre, hpre, h1, h2 => by
    subst hpre
    rw [w_loopb (c := lp114_0) (d := lb114_0) rfl]; unfold lb114_0
    simp only [List.append_nil]
    simp (maxSteps := 1000000) (disch := first | omega | rfl | (simp only [zL, two63, room] <;> omega) | fail) only [↓reduceIte, ↓zP, zW, WOp, evOp, evBin, binI, binSh, binS, evNil, keyIs, keyEq, mkv, AV.cells, AV.sc, optv, bnd, env, put, Env.get, Env.set, Env.del, Env.dels, Env.init, res1, resL, resV, fillP, splice, newRow, Nat.reduceEqDiff, Nat.reduceLT, Nat.reduceLeDiff, Nat.reduceAdd, Nat.reduceMul, Nat.reduceSub, Nat.reduceBEq, reduceCtorEq, ↓zR, zQ, Tr, StA, StT]
    exact h1 rfl
  | x :: rest, pre, hpre, h1, h2 => by
    have ih := lp_l1AllG lo hi hs hL (R := R) rest (pre ++ [x])
    subst hpre
    obtain ⟨c, kk, off, rfl, hr⟩ := hs.at hlI
    have hlen : (pre ++ x :: rest).length = pre.length + 1 + rest.length := by simp; omega
    rw [hlen] at ih hL ⊢
    have hlt : (pre.length : Int) < ((pre.length + 1 + rest.length : Nat) : Int) := by omega
    have hw1 : (pre.length : Int) + 1 = ((pre ++ [x]).length : Int) := by simp
    rw [w_loopb (c := lp114_0) (d := lb114_0) rfl]; unfold lb114_0
    cases e : decide (lo ≤ x ∧ x ≤ hi)
    · simp (maxSteps := 1000000) (disch := first | omega | rfl | (simp only [zL, two63, room] <;> omega) | fail) only [↓reduceIte, ↓zP, zW, WOp, evOp, evBin, binI, binSh, binS, evNil, keyIs, keyEq, mkv, AV.cells, AV.sc, optv, bnd, env, put, Env.get, Env.set, Env.del, Env.dels, Env.init, res1, resL, resV, fillP, splice, newRow, Nat.reduceEqDiff, Nat.reduceLT, Nat.reduceLeDiff, Nat.reduceAdd, Nat.reduceMul, Nat.reduceSub, Nat.reduceBEq, reduceCtorEq, ↓zR, zQ, Tr, StA, StT, hlt, hr, e_l1In, e]
      exact h2 (by rw [List.all_cons, e]; rfl)
    · simp (maxSteps := 1000000) (disch := first | omega | rfl | (simp only [zL, two63, room] <;> omega) | fail) only [↓reduceIte, ↓zP, zW, WOp, evOp, evBin, binI, binSh, binS, evNil, keyIs, keyEq, mkv, AV.cells, AV.sc, optv, bnd, env, put, Env.get, Env.set, Env.del, Env.dels, Env.init, res1, resL, resV, fillP, splice, newRow, Nat.reduceEqDiff, Nat.reduceLT, Nat.reduceLeDiff, Nat.reduceAdd, Nat.reduceMul, Nat.reduceSub, Nat.reduceBEq, reduceCtorEq, ↓zR, zQ, Tr, StA, StT, hlt, hr, e_l1In, e, hw1]
      rw [w_loopn (c := lp114_0) rfl]
      simp (maxSteps := 1000000) (disch := first | omega | rfl | (simp only [zL, two63, room] <;> omega) | fail) only [↓reduceIte, ↓zP, zW, WOp, evOp, evBin, binI, binSh, binS, evNil, keyIs, keyEq, mkv, AV.cells, AV.sc, optv, bnd, env, put, Env.get, Env.set, Env.del, Env.dels, Env.init, res1, resL, resV, fillP, splice, newRow, Nat.reduceEqDiff, Nat.reduceLT, Nat.reduceLeDiff, Nat.reduceAdd, Nat.reduceMul, Nat.reduceSub, Nat.reduceBEq, reduceCtorEq, ↓zR, zQ, Tr, StA, StT]
      exact ih (by simp) (fun hx => h1 (by rw [List.all_cons, e, hx]; rfl)) fun hx => h2 (by rw [List.all_cons, e, hx]; rfl)
theorem c_liThree (t g f : Int) {h : AH} {post : AV → AH → Prop} (hp : ∀ h', Pre h h' → post (.bool (nmG t g f)) h') : S 442 [.int .i64 t, .int .i64 g, .int .i64 f] h post k := by
  have hR := hp _ (Pre.push h (AO.row [.int .i64 t, .int .i64 g, .int .i64 f] 0 0 false))
  have hs := slc_litI h [t, g, f]
  have hall : ([t, g, f].all fun n => decide ((0 : Int) ≤ n ∧ n ≤ 12)) = (decide ((0 ≤ t ∧ t ≤ 12) ∧ (0 ≤ g ∧ g ≤ 12) ∧ (0 ≤ f ∧ f ≤ 12))) := by simp [Bool.decide_and, Bool.and_assoc]
  refine S_of rfl T442 ?_; unfold fi442
  simp (maxSteps := 1000000) (disch := first | omega | rfl | (simp only [zL, two63, room] <;> omega) | fail) only [↓reduceIte, ↓zP, zW, WOp, evOp, evBin, binI, binSh, binS, evNil, keyIs, keyEq, mkv, AV.cells, AV.sc, optv, bnd, env, put, Env.get, Env.set, Env.del, Env.dels, Env.init, res1, resL, resV, fillP, splice, newRow, Nat.reduceEqDiff, Nat.reduceLT, Nat.reduceLeDiff, Nat.reduceAdd, Nat.reduceMul, Nat.reduceSub, Nat.reduceBEq, reduceCtorEq, ↓zR, zQ, Tr, StA, StT]
  refine S_of rfl T114 ?_; unfold fi114
  simp (maxSteps := 1000000) (disch := first | omega | rfl | (simp only [zL, two63, room] <;> omega) | fail) only [↓reduceIte, ↓zP, zW, WOp, evOp, evBin, binI, binSh, binS, evNil, keyIs, keyEq, mkv, AV.cells, AV.sc, optv, bnd, env, put, Env.get, Env.set, Env.del, Env.dels, Env.init, res1, resL, resV, fillP, splice, newRow, Nat.reduceEqDiff, Nat.reduceLT, Nat.reduceLeDiff, Nat.reduceAdd, Nat.reduceMul, Nat.reduceSub, Nat.reduceBEq, reduceCtorEq, ↓zR, zQ, Tr, StA, StT]
  refine lp_l1AllG 0 12 hs (by simp) [t, g, f] [] rfl ?_ ?_
  · intro hx
    rw [hall, decide_eq_true_iff] at hx
    obtain ⟨h1, h2, h3⟩ := hx
    rw [nmG_yes h1 h2 h3] at hR
    have w1 : IntKind.i64.wrap (t + g) = t + g := wrap_i (by omega)
    have w2 : IntKind.i64.wrap (t + g + f) = t + g + f := wrap_i (by omega)
    simp (maxSteps := 1000000) (disch := first | omega | rfl | (simp only [zL, two63, room] <;> omega) | fail) only [↓reduceIte, ↓zP, zW, WOp, evOp, evBin, binI, binSh, binS, evNil, keyIs, keyEq, mkv, AV.cells, AV.sc, optv, bnd, env, put, Env.get, Env.set, Env.del, Env.dels, Env.init, res1, resL, resV, fillP, splice, newRow, Nat.reduceEqDiff, Nat.reduceLT, Nat.reduceLeDiff, Nat.reduceAdd, Nat.reduceMul, Nat.reduceSub, Nat.reduceBEq, reduceCtorEq, ↓zR, zQ, Tr, StA, StT, w1, w2, e_l1In]
    exact hR
  · intro hx
    rw [hall, decide_eq_false_iff_not] at hx
    have hn : nmG t g f = false := decide_eq_false fun hh => hx ⟨hh.1, hh.2.1, hh.2.2.1⟩
    rw [hn] at hR
    simp (maxSteps := 1000000) (disch := first | omega | rfl | (simp only [zL, two63, room] <;> omega) | fail) only [↓reduceIte, ↓zP, zW, WOp, evOp, evBin, binI, binSh, binS, evNil, keyIs, keyEq, mkv, AV.cells, AV.sc, optv, bnd, env, put, Env.get, Env.set, Env.del, Env.dels, Env.init, res1, resL, resV, fillP, splice, newRow, Nat.reduceEqDiff, Nat.reduceLT, Nat.reduceLeDiff, Nat.reduceAdd, Nat.reduceMul, Nat.reduceSub, Nat.reduceBEq, reduceCtorEq, ↓zR, zQ, Tr, StA, StT]
    exact hR
def cnL (t g f : Int) : Int := if nmG t g f then (mM t.toNat g.toNat f.toNat : Nat) else 0
def fiL (t g f : Int) : List UInt8 := if nmG t g f then firB t.toNat g.toNat f.toNat else []
theorem e_CountLines (t g f : Int) {h : AH} {post : AV → AH → Prop} : S 27 [.int .i64 t, .int .i64 g, .int .i64 f] h post k = post (.tup [.int .i64 (cnL t g f), .bool (nmG t g f)]) h := S_eq fun _ hp => by
  unfold cnL at hp
  refine S_of rfl T27 ?_; unfold fi27
  cases e : nmG t g f <;> rw [e] at hp
  · simp (maxSteps := 1000000) (disch := first | omega | rfl | (simp only [zL, two63, room] <;> omega) | fail) only [↓reduceIte, ↓zP, zW, WOp, evOp, evBin, binI, binSh, binS, evNil, keyIs, keyEq, mkv, AV.cells, AV.sc, optv, bnd, env, put, Env.get, Env.set, Env.del, Env.dels, Env.init, res1, resL, resV, fillP, splice, newRow, Nat.reduceEqDiff, Nat.reduceLT, Nat.reduceLeDiff, Nat.reduceAdd, Nat.reduceMul, Nat.reduceSub, Nat.reduceBEq, reduceCtorEq, ↓zR, zQ, Tr, StA, StT, e_areCountsG, e]
    exact hp
  · obtain ⟨t, g, f, rfl, rfl, rfl, h1, h2⟩ := nmG_nat e
    simp (maxSteps := 1000000) (disch := first | omega | rfl | (simp only [zL, two63, room] <;> omega) | fail) only [↓reduceIte, ↓zP, zW, WOp, evOp, evBin, binI, binSh, binS, evNil, keyIs, keyEq, mkv, AV.cells, AV.sc, optv, bnd, env, put, Env.get, Env.set, Env.del, Env.dels, Env.init, res1, resL, resV, fillP, splice, newRow, Nat.reduceEqDiff, Nat.reduceLT, Nat.reduceLeDiff, Nat.reduceAdd, Nat.reduceMul, Nat.reduceSub, Nat.reduceBEq, reduceCtorEq, ↓zR, zQ, Tr, StA, StT, e_areCountsG, e, e_lines t g f h2]
    exact hp
theorem c_sCountLines (t g f : Int) {h : AH} {post : AV → AH → Prop} (hp : ∀ h', Pre h h' → post (.tup [.int .i64 (cnL t g f), .bool (nmG t g f)]) h') : S 408 [.int .i64 t, .int .i64 g, .int .i64 f] h post k := by
  unfold cnL at hp
  refine S_of rfl T408 ?_; unfold fi408
  cases e : nmG t g f <;> rw [e] at hp
  · simp (maxSteps := 1000000) (disch := first | omega | rfl | (simp only [zL, two63, room] <;> omega) | fail) only [↓reduceIte, ↓zP, zW, WOp, evOp, evBin, binI, binSh, binS, evNil, keyIs, keyEq, mkv, AV.cells, AV.sc, optv, bnd, env, put, Env.get, Env.set, Env.del, Env.dels, Env.init, res1, resL, resV, fillP, splice, newRow, Nat.reduceEqDiff, Nat.reduceLT, Nat.reduceLeDiff, Nat.reduceAdd, Nat.reduceMul, Nat.reduceSub, Nat.reduceBEq, reduceCtorEq, ↓zR, zQ, Tr, StA, StT]
    refine c_liThree t g f ?_
    intro h' hp'
    rw [e]
    simp (maxSteps := 1000000) (disch := first | omega | rfl | (simp only [zL, two63, room] <;> omega) | fail) only [↓reduceIte, ↓zP, zW, WOp, evOp, evBin, binI, binSh, binS, evNil, keyIs, keyEq, mkv, AV.cells, AV.sc, optv, bnd, env, put, Env.get, Env.set, Env.del, Env.dels, Env.init, res1, resL, resV, fillP, splice, newRow, Nat.reduceEqDiff, Nat.reduceLT, Nat.reduceLeDiff, Nat.reduceAdd, Nat.reduceMul, Nat.reduceSub, Nat.reduceBEq, reduceCtorEq, ↓zR, zQ, Tr, StA, StT]
    exact hp h' hp'
  · obtain ⟨t, g, f, rfl, rfl, rfl, h1, h2⟩ := nmG_nat e
    simp (maxSteps := 1000000) (disch := first | omega | rfl | (simp only [zL, two63, room] <;> omega) | fail) only [↓reduceIte, ↓zP, zW, WOp, evOp, evBin, binI, binSh, binS, evNil, keyIs, keyEq, mkv, AV.cells, AV.sc, optv, bnd, env, put, Env.get, Env.set, Env.del, Env.dels, Env.init, res1, resL, resV, fillP, splice, newRow, Nat.reduceEqDiff, Nat.reduceLT, Nat.reduceLeDiff, Nat.reduceAdd, Nat.reduceMul, Nat.reduceSub, Nat.reduceBEq, reduceCtorEq, ↓zR, zQ, Tr, StA, StT]
    refine c_liThree t g f ?_
    intro h' hp'
    rw [e]
    simp (maxSteps := 1000000) (disch := first | omega | rfl | (simp only [zL, two63, room] <;> omega) | fail) only [↓reduceIte, ↓zP, zW, WOp, evOp, evBin, binI, binSh, binS, evNil, keyIs, keyEq, mkv, AV.cells, AV.sc, optv, bnd, env, put, Env.get, Env.set, Env.del, Env.dels, Env.init, res1, resL, resV, fillP, splice, newRow, Nat.reduceEqDiff, Nat.reduceLT, Nat.reduceLeDiff, Nat.reduceAdd, Nat.reduceMul, Nat.reduceSub, Nat.reduceBEq, reduceCtorEq, ↓zR, zQ, Tr, StA, StT, e_liMany t g f h2]
    exact hp h' hp'
theorem e_FirstLine (t g f : Int) {h : AH} {post : AV → AH → Prop} : S 406 [.int .i64 t, .int .i64 g, .int .i64 f] h post k = post (.tup [.str (fiL t g f), .bool (nmG t g f)]) h := S_eq fun _ hp => by
  unfold fiL at hp
  refine S_of rfl T406 ?_; unfold fi406
  cases e : nmG t g f <;> rw [e] at hp
  · simp (maxSteps := 1000000) (disch := first | omega | rfl | (simp only [zL, two63, room] <;> omega) | fail) only [↓reduceIte, ↓zP, zW, WOp, evOp, evBin, binI, binSh, binS, evNil, keyIs, keyEq, mkv, AV.cells, AV.sc, optv, bnd, env, put, Env.get, Env.set, Env.del, Env.dels, Env.init, res1, resL, resV, fillP, splice, newRow, Nat.reduceEqDiff, Nat.reduceLT, Nat.reduceLeDiff, Nat.reduceAdd, Nat.reduceMul, Nat.reduceSub, Nat.reduceBEq, reduceCtorEq, ↓zR, zQ, Tr, StA, StT, e_areCountsG, e]
    exact hp
  · obtain ⟨t, g, f, rfl, rfl, rfl, h1, h2⟩ := nmG_nat e
    simp (maxSteps := 1000000) (disch := first | omega | rfl | (simp only [zL, two63, room] <;> omega) | fail) only [↓reduceIte, ↓zP, zW, WOp, evOp, evBin, binI, binSh, binS, evNil, keyIs, keyEq, mkv, AV.cells, AV.sc, optv, bnd, env, put, Env.get, Env.set, Env.del, Env.dels, Env.init, res1, resL, resV, fillP, splice, newRow, Nat.reduceEqDiff, Nat.reduceLT, Nat.reduceLeDiff, Nat.reduceAdd, Nat.reduceMul, Nat.reduceSub, Nat.reduceBEq, reduceCtorEq, ↓zR, zQ, Tr, StA, StT, e_areCountsG, e, e_impfirst t g f (by omega) (by omega) (by omega)]
    exact hp
theorem c_sFirstLine (t g f : Int) {h : AH} {post : AV → AH → Prop} (hp : ∀ h', Pre h h' → post (.tup [.str (fiL t g f), .bool (nmG t g f)]) h') : S 407 [.int .i64 t, .int .i64 g, .int .i64 f] h post k := by
  unfold fiL at hp
  refine S_of rfl T407 ?_; unfold fi407
  cases e : nmG t g f <;> rw [e] at hp
  · simp (maxSteps := 1000000) (disch := first | omega | rfl | (simp only [zL, two63, room] <;> omega) | fail) only [↓reduceIte, ↓zP, zW, WOp, evOp, evBin, binI, binSh, binS, evNil, keyIs, keyEq, mkv, AV.cells, AV.sc, optv, bnd, env, put, Env.get, Env.set, Env.del, Env.dels, Env.init, res1, resL, resV, fillP, splice, newRow, Nat.reduceEqDiff, Nat.reduceLT, Nat.reduceLeDiff, Nat.reduceAdd, Nat.reduceMul, Nat.reduceSub, Nat.reduceBEq, reduceCtorEq, ↓zR, zQ, Tr, StA, StT]
    refine c_liThree t g f ?_
    intro h' hp'
    rw [e]
    simp (maxSteps := 1000000) (disch := first | omega | rfl | (simp only [zL, two63, room] <;> omega) | fail) only [↓reduceIte, ↓zP, zW, WOp, evOp, evBin, binI, binSh, binS, evNil, keyIs, keyEq, mkv, AV.cells, AV.sc, optv, bnd, env, put, Env.get, Env.set, Env.del, Env.dels, Env.init, res1, resL, resV, fillP, splice, newRow, Nat.reduceEqDiff, Nat.reduceLT, Nat.reduceLeDiff, Nat.reduceAdd, Nat.reduceMul, Nat.reduceSub, Nat.reduceBEq, reduceCtorEq, ↓zR, zQ, Tr, StA, StT]
    exact hp h' hp'
  · obtain ⟨t, g, f, rfl, rfl, rfl, h1, h2⟩ := nmG_nat e
    simp (maxSteps := 1000000) (disch := first | omega | rfl | (simp only [zL, two63, room] <;> omega) | fail) only [↓reduceIte, ↓zP, zW, WOp, evOp, evBin, binI, binSh, binS, evNil, keyIs, keyEq, mkv, AV.cells, AV.sc, optv, bnd, env, put, Env.get, Env.set, Env.del, Env.dels, Env.init, res1, resL, resV, fillP, splice, newRow, Nat.reduceEqDiff, Nat.reduceLT, Nat.reduceLeDiff, Nat.reduceAdd, Nat.reduceMul, Nat.reduceSub, Nat.reduceBEq, reduceCtorEq, ↓zR, zQ, Tr, StA, StT]
    refine c_liThree t g f ?_
    intro h' hp'
    rw [e]
    simp (maxSteps := 1000000) (disch := first | omega | rfl | (simp only [zL, two63, room] <;> omega) | fail) only [↓reduceIte, ↓zP, zW, WOp, evOp, evBin, binI, binSh, binS, evNil, keyIs, keyEq, mkv, AV.cells, AV.sc, optv, bnd, env, put, Env.get, Env.set, Env.del, Env.dels, Env.init, res1, resL, resV, fillP, splice, newRow, Nat.reduceEqDiff, Nat.reduceLT, Nat.reduceLeDiff, Nat.reduceAdd, Nat.reduceMul, Nat.reduceSub, Nat.reduceBEq, reduceCtorEq, ↓zR, zQ, Tr, StA, StT, e_liFirstG t g f (by omega) (by omega) (by omega)]
    exact hp h' hp'
end Go.Proofs.YtejhhdpfndiliaaGreatDoor.Ab

/- NUMBERS that are drawn. -/
namespace Go.Proofs.YtejhhdpfndiliaaGreatDoor.Ab
open Go
set_option maxRecDepth 100000
set_option maxHeartbeats 4000000

theorem c_DrawRankOfLine {cv : AV} {bs : List UInt8} {h : AH} (hs : Slc 1 encU h cv bs) (hb : bs.length < 2 ^ 40) {post : AV → AH → Prop} (hp : ∀ w h', w.length ≤ 13 → Pre h h' → post (.str w) h') : S 396 [cv] h post k := by
  refine S_of rfl T396 ?_; unfold fi396
  simp (maxSteps := 1000000) (disch := first | omega | rfl | (simp only [zL, two63, room] <;> omega) | fail) only [↓reduceIte, ↓zP, zW, WOp, evOp, evBin, binI, binSh, binS, evNil, keyIs, keyEq, mkv, AV.cells, AV.sc, optv, bnd, env, put, Env.get, Env.set, Env.del, Env.dels, Env.init, res1, resL, resV, fillP, splice, newRow, Nat.reduceEqDiff, Nat.reduceLT, Nat.reduceLeDiff, Nat.reduceAdd, Nat.reduceMul, Nat.reduceSub, Nat.reduceBEq, reduceCtorEq, ↓zR, zQ, Tr, StA, StT]
  refine c_DrawIsLine hs hb ?_
  intro w h' hw hp'
  simp (maxSteps := 1000000) (disch := first | omega | rfl | (simp only [zL, two63, room] <;> omega) | fail) only [↓reduceIte, ↓zP, zW, WOp, evOp, evBin, binI, binSh, binS, evNil, keyIs, keyEq, mkv, AV.cells, AV.sc, optv, bnd, env, put, Env.get, Env.set, Env.del, Env.dels, Env.init, res1, resL, resV, fillP, splice, newRow, Nat.reduceEqDiff, Nat.reduceLT, Nat.reduceLeDiff, Nat.reduceAdd, Nat.reduceMul, Nat.reduceSub, Nat.reduceBEq, reduceCtorEq, ↓zR, zQ, Tr, StA, StT]
  exact hp w h' hw hp'
theorem c_three {b : AH} {cv : AV} {bs : List UInt8} {K : Nat} {h : AH} {post : AV → AH → Prop} (hc : Cur b cv bs K h) (hK : K < 2 ^ 47) (hp : ∀ (t g f : Int) h', Cur b cv bs (K + 8) h' → PreX b.length h h' → post (.tup [.int .i64 t, .int .i64 g, .int .i64 f]) h') : S 441 [.ptr b.length 0 0 3] h post k := by
  refine S_of rfl T441 ?_; unfold fi441
  simp (maxSteps := 1000000) (disch := first | omega | rfl | (simp only [zL, two63, room] <;> omega) | fail) only [↓reduceIte, ↓zP, zW, WOp, evOp, evBin, binI, binSh, binS, evNil, keyIs, keyEq, mkv, AV.cells, AV.sc, optv, bnd, env, put, Env.get, Env.set, Env.del, Env.dels, Env.init, res1, resL, resV, fillP, splice, newRow, Nat.reduceEqDiff, Nat.reduceLT, Nat.reduceLeDiff, Nat.reduceAdd, Nat.reduceMul, Nat.reduceSub, Nat.reduceBEq, reduceCtorEq, ↓zR, zQ, Tr, StA, StT]
  refine c_one hc (by omega) 10 (by omega) ?_
  intro o h2 hc2 hp2
  cases o
  · simp (maxSteps := 1000000) (disch := first | omega | rfl | (simp only [zL, two63, room] <;> omega) | fail) only [↓reduceIte, ↓zP, zW, WOp, evOp, evBin, binI, binSh, binS, evNil, keyIs, keyEq, mkv, AV.cells, AV.sc, optv, bnd, env, put, Env.get, Env.set, Env.del, Env.dels, Env.init, res1, resL, resV, fillP, splice, newRow, Nat.reduceEqDiff, Nat.reduceLT, Nat.reduceLeDiff, Nat.reduceAdd, Nat.reduceMul, Nat.reduceSub, Nat.reduceBEq, reduceCtorEq, ↓zR, zQ, Tr, StA, StT]
    refine c_pick hc2 (by omega) 5 (by omega) ?_
    intro x h3 _ hc3 hp3
    simp (maxSteps := 1000000) (disch := first | omega | rfl | (simp only [zL, two63, room] <;> omega) | fail) only [↓reduceIte, ↓zP, zW, WOp, evOp, evBin, binI, binSh, binS, evNil, keyIs, keyEq, mkv, AV.cells, AV.sc, optv, bnd, env, put, Env.get, Env.set, Env.del, Env.dels, Env.init, res1, resL, resV, fillP, splice, newRow, Nat.reduceEqDiff, Nat.reduceLT, Nat.reduceLeDiff, Nat.reduceAdd, Nat.reduceMul, Nat.reduceSub, Nat.reduceBEq, reduceCtorEq, ↓zR, zQ, Tr, StA, StT]
    refine c_pick hc3 (by omega) 4 (by omega) ?_
    intro y h4 _ hc4 hp4
    simp (maxSteps := 1000000) (disch := first | omega | rfl | (simp only [zL, two63, room] <;> omega) | fail) only [↓reduceIte, ↓zP, zW, WOp, evOp, evBin, binI, binSh, binS, evNil, keyIs, keyEq, mkv, AV.cells, AV.sc, optv, bnd, env, put, Env.get, Env.set, Env.del, Env.dels, Env.init, res1, resL, resV, fillP, splice, newRow, Nat.reduceEqDiff, Nat.reduceLT, Nat.reduceLeDiff, Nat.reduceAdd, Nat.reduceMul, Nat.reduceSub, Nat.reduceBEq, reduceCtorEq, ↓zR, zQ, Tr, StA, StT]
    refine c_pick hc4 (by omega) 4 (by omega) ?_
    intro z h5 _ hc5 hp5
    simp (maxSteps := 1000000) (disch := first | omega | rfl | (simp only [zL, two63, room] <;> omega) | fail) only [↓reduceIte, ↓zP, zW, WOp, evOp, evBin, binI, binSh, binS, evNil, keyIs, keyEq, mkv, AV.cells, AV.sc, optv, bnd, env, put, Env.get, Env.set, Env.del, Env.dels, Env.init, res1, resL, resV, fillP, splice, newRow, Nat.reduceEqDiff, Nat.reduceLT, Nat.reduceLeDiff, Nat.reduceAdd, Nat.reduceMul, Nat.reduceSub, Nat.reduceBEq, reduceCtorEq, ↓zR, zQ, Tr, StA, StT]
    exact hp x y z h5 (hc5.le (by omega)) (hp2.trans (hp3.trans (hp4.trans hp5)))
  · simp (maxSteps := 1000000) (disch := first | omega | rfl | (simp only [zL, two63, room] <;> omega) | fail) only [↓reduceIte, ↓zP, zW, WOp, evOp, evBin, binI, binSh, binS, evNil, keyIs, keyEq, mkv, AV.cells, AV.sc, optv, bnd, env, put, Env.get, Env.set, Env.del, Env.dels, Env.init, res1, resL, resV, fillP, splice, newRow, Nat.reduceEqDiff, Nat.reduceLT, Nat.reduceLeDiff, Nat.reduceAdd, Nat.reduceMul, Nat.reduceSub, Nat.reduceBEq, reduceCtorEq, ↓zR, zQ, Tr, StA, StT]
    refine c_among (hc2.pre (Pre.push _ _)) (by omega) (slc_litI h2 [-1, 0, 12, 13, 4611686018427387904]) (fun r hr => by cases hr; have := hc2.lt; omega) (by simp) (by simp) ?_
    intro x _ h3 hc3 hp3
    simp (maxSteps := 1000000) (disch := first | omega | rfl | (simp only [zL, two63, room] <;> omega) | fail) only [↓reduceIte, ↓zP, zW, WOp, evOp, evBin, binI, binSh, binS, evNil, keyIs, keyEq, mkv, AV.cells, AV.sc, optv, bnd, env, put, Env.get, Env.set, Env.del, Env.dels, Env.init, res1, resL, resV, fillP, splice, newRow, Nat.reduceEqDiff, Nat.reduceLT, Nat.reduceLeDiff, Nat.reduceAdd, Nat.reduceMul, Nat.reduceSub, Nat.reduceBEq, reduceCtorEq, ↓zR, zQ, Tr, StA, StT]
    refine c_among (hc3.pre (Pre.push _ _)) (by omega) (slc_litI h3 [0, 1, 12, -1]) (fun r hr => by cases hr; have := hc3.lt; omega) (by simp) (by simp) ?_
    intro y _ h4 hc4 hp4
    simp (maxSteps := 1000000) (disch := first | omega | rfl | (simp only [zL, two63, room] <;> omega) | fail) only [↓reduceIte, ↓zP, zW, WOp, evOp, evBin, binI, binSh, binS, evNil, keyIs, keyEq, mkv, AV.cells, AV.sc, optv, bnd, env, put, Env.get, Env.set, Env.del, Env.dels, Env.init, res1, resL, resV, fillP, splice, newRow, Nat.reduceEqDiff, Nat.reduceLT, Nat.reduceLeDiff, Nat.reduceAdd, Nat.reduceMul, Nat.reduceSub, Nat.reduceBEq, reduceCtorEq, ↓zR, zQ, Tr, StA, StT]
    refine c_among (hc4.pre (Pre.push _ _)) (by omega) (slc_litI h4 [0, 1, 5, 4611686018427387904]) (fun r hr => by cases hr; have := hc4.lt; omega) (by simp) (by simp) ?_
    intro z _ h5 hc5 hp5
    simp (maxSteps := 1000000) (disch := first | omega | rfl | (simp only [zL, two63, room] <;> omega) | fail) only [↓reduceIte, ↓zP, zW, WOp, evOp, evBin, binI, binSh, binS, evNil, keyIs, keyEq, mkv, AV.cells, AV.sc, optv, bnd, env, put, Env.get, Env.set, Env.del, Env.dels, Env.init, res1, resL, resV, fillP, splice, newRow, Nat.reduceEqDiff, Nat.reduceLT, Nat.reduceLeDiff, Nat.reduceAdd, Nat.reduceMul, Nat.reduceSub, Nat.reduceBEq, reduceCtorEq, ↓zR, zQ, Tr, StA, StT]
    exact hp x y z h5 (hc5.le (by omega)) (hp2.trans (((Pre.push _ _).x2 hp3).trans (((Pre.push _ _).x2 hp4).trans ((Pre.push _ _).x2 hp5))))
theorem c_DrawLineOfRank {cv : AV} {bs : List UInt8} {h : AH} (hs : Slc 1 encU h cv bs) (hb : bs.length < 2 ^ 40) {post : AV → AH → Prop} (hp : ∀ (t g f r : Int) h', Pre h h' → post (.tup [.int .i64 t, .int .i64 g, .int .i64 f, .int .i64 r]) h') : S 404 [cv] h post k := by
  refine S_of rfl T404 ?_; unfold fi404
  have hc := Cur.new hs hb
  rcases hs.cases with ⟨rfl, _⟩ | ⟨rfl, _⟩ | ⟨c, kk, off, rfl⟩
  all_goals
    simp (maxSteps := 1000000) (disch := first | omega | rfl | (simp only [zL, two63, room] <;> omega) | fail) only [↓reduceIte, ↓zP, zW, WOp, evOp, evBin, binI, binSh, binS, evNil, keyIs, keyEq, mkv, AV.cells, AV.sc, optv, bnd, env, put, Env.get, Env.set, Env.del, Env.dels, Env.init, res1, resL, resV, fillP, splice, newRow, Nat.reduceEqDiff, Nat.reduceLT, Nat.reduceLeDiff, Nat.reduceAdd, Nat.reduceMul, Nat.reduceSub, Nat.reduceBEq, reduceCtorEq, ↓zR, zQ, Tr, StA, StT]
    refine c_three hc (by omega) ?_
    intro t g f h1 hc1 _
    clear hc
    simp (maxSteps := 1000000) (disch := first | omega | rfl | (simp only [zL, two63, room] <;> omega) | fail) only [↓reduceIte, ↓zP, zW, WOp, evOp, evBin, binI, binSh, binS, evNil, keyIs, keyEq, mkv, AV.cells, AV.sc, optv, bnd, env, put, Env.get, Env.set, Env.del, Env.dels, Env.init, res1, resL, resV, fillP, splice, newRow, Nat.reduceEqDiff, Nat.reduceLT, Nat.reduceLeDiff, Nat.reduceAdd, Nat.reduceMul, Nat.reduceSub, Nat.reduceBEq, reduceCtorEq, ↓zR, zQ, Tr, StA, StT]
    refine c_liThree t g f ?_
    intro h2 hp2
    have hc2 := hc1.pre hp2
    cases e : nmG t g f
    · simp (maxSteps := 1000000) (disch := first | omega | rfl | (simp only [zL, two63, room] <;> omega) | fail) only [↓reduceIte, ↓zP, zW, WOp, evOp, evBin, binI, binSh, binS, evNil, keyIs, keyEq, mkv, AV.cells, AV.sc, optv, bnd, env, put, Env.get, Env.set, Env.del, Env.dels, Env.init, res1, resL, resV, fillP, splice, newRow, Nat.reduceEqDiff, Nat.reduceLT, Nat.reduceLeDiff, Nat.reduceAdd, Nat.reduceMul, Nat.reduceSub, Nat.reduceBEq, reduceCtorEq, ↓zR, zQ, Tr, StA, StT]
      exact hp t g f 0 h2 hc2.done
    · obtain ⟨t, g, f, rfl, rfl, rfl, k1, k2⟩ := nmG_nat e
      have hm := (mM_facts k2).2.2.1
      have w1 : IntKind.i64.wrap (((mM t g f : Nat) : Int) + 1) = ((mM t g f + 1 : Nat) : Int) := by rw [IntKind.wrap_i64]; omega
      simp (maxSteps := 1000000) (disch := first | omega | rfl | (simp only [zL, two63, room] <;> omega) | fail) only [↓reduceIte, ↓zP, zW, WOp, evOp, evBin, binI, binSh, binS, evNil, keyIs, keyEq, mkv, AV.cells, AV.sc, optv, bnd, env, put, Env.get, Env.set, Env.del, Env.dels, Env.init, res1, resL, resV, fillP, splice, newRow, Nat.reduceEqDiff, Nat.reduceLT, Nat.reduceLeDiff, Nat.reduceAdd, Nat.reduceMul, Nat.reduceSub, Nat.reduceBEq, reduceCtorEq, ↓zR, zQ, Tr, StA, StT, e_liMany t g f k2, w1]
      refine c_pick hc2 (by omega) (mM t g f + 1) (by omega) ?_
      intro x h3 hx hc3 _
      simp (maxSteps := 1000000) (disch := first | omega | rfl | (simp only [zL, two63, room] <;> omega) | fail) only [↓reduceIte, ↓zP, zW, WOp, evOp, evBin, binI, binSh, binS, evNil, keyIs, keyEq, mkv, AV.cells, AV.sc, optv, bnd, env, put, Env.get, Env.set, Env.del, Env.dels, Env.init, res1, resL, resV, fillP, splice, newRow, Nat.reduceEqDiff, Nat.reduceLT, Nat.reduceLeDiff, Nat.reduceAdd, Nat.reduceMul, Nat.reduceSub, Nat.reduceBEq, reduceCtorEq, ↓zR, zQ, Tr, StA, StT]
      refine c_pick hc3 (by omega) 8 (by omega) ?_
      intro y h4 hy hc4 _
      have n7 : ¬ ((7 : Int) = 0) := by omega
      simp (maxSteps := 1000000) (disch := first | omega | rfl | (simp only [zL, two63, room] <;> omega) | fail) only [↓reduceIte, ↓zP, zW, WOp, evOp, evBin, binI, binSh, binS, evNil, keyIs, keyEq, mkv, AV.cells, AV.sc, optv, bnd, env, put, Env.get, Env.set, Env.del, Env.dels, Env.init, res1, resL, resV, fillP, splice, newRow, Nat.reduceEqDiff, Nat.reduceLT, Nat.reduceLeDiff, Nat.reduceAdd, Nat.reduceMul, Nat.reduceSub, Nat.reduceBEq, reduceCtorEq, ↓zR, zQ, Tr, StA, StT, n7]
      exact hp t g f _ h4 hc4.done
end Go.Proofs.YtejhhdpfndiliaaGreatDoor.Ab

/- MOVES as lists: which are in them, in which order, those from the other side. -/
namespace Go.Proofs.YtejhhdpfndiliaaGreatDoor.Ab
open Go

theorem mem_moves {w kd : List UInt8} {i t : Nat} : (((i : Int), (t : Int)) ∈ movesB w kd) ↔ Mv w i t ∧ hasB kd (w.getD i 0) = true := by
  simp only [movesB, List.mem_flatMap, List.mem_range]
  constructor
  · rintro ⟨j, hj, hm⟩
    unfold moveB at hm
    split at hm
    · rename_i t1 hg
      split at hm
      · rename_i hk
        simp only [List.mem_singleton, Prod.mk.injEq] at hm
        obtain ⟨e1, e2⟩ := hm
        have : i = j := by omega
        subst this
        obtain ⟨t', e3, hm⟩ := goalB_mv hj hg
        have : t = t' := by omega
        subst this
        exact ⟨hm, hk⟩
      · simp at hm
    · simp at hm
  · rintro ⟨hm, hk⟩
    refine ⟨i, hm.1, ?_⟩
    unfold moveB
    rw [mv_goalB hm]
    simp only [hk, if_true, List.mem_singleton]
theorem moves_sorted (w kd : List UInt8) : (movesB w kd).Pairwise fun a b => a.1 < b.1 := by
  unfold movesB
  rw [List.pairwise_flatMap]
  have hm : ∀ i, ∀ x ∈ moveB w kd i, x.1 = (i : Int) := by
    intro i x hx
    unfold moveB at hx
    split at hx
    · split at hx
      · simp only [List.mem_singleton] at hx; subst hx; rfl
      · simp at hx
    · simp at hx
  refine ⟨?_, ?_⟩
  · intro i _
    unfold moveB
    split
    · split <;> simp
    · simp
  · refine List.Pairwise.imp ?_ (List.pairwise_lt_range)
    intro a b hab x hx y hy
    rw [hm a x hx, hm b y hy]
    omega
theorem sum_add {α : Type} {f g p : α → Nat} : ∀ {l : List α}, (∀ x ∈ l, p x = f x + g x) → (l.map p).sum = (l.map f).sum + (l.map g).sum
  | [], _ => rfl
  | a :: l, h => by
    have := sum_add (l := l) (fun x hx => h x (by simp [hx]))
    simp only [List.map_cons, List.sum_cons, this, h a (by simp)]
    omega
theorem moves_len (w kd : List UInt8) : (movesB w kd).length = ((List.range w.length).map fun i => (moveB w kd i).length).sum := by
  unfold movesB; rw [List.length_flatMap]
theorem goal_sign {w : List UInt8} {i : Nat} {t : Int} (hg : goalB w i = some t) : w.getD i 0 = 84 ∨ w.getD i 0 = 70 := by
  by_cases hi : i < w.length
  · obtain ⟨t', _, hm⟩ := goalB_mv hi hg
    rcases hm.2.2.2 with h | h
    · exact .inl h.1
    · exact .inr h.1
  · have : w.getD i 0 = 0 := by simp [List.getD_eq_getElem?_getD, List.getElem?_eq_none (show w.length ≤ i by omega)]
    unfold goalB at hg
    rw [this] at hg
    simp [stepB] at hg
theorem moveB_count (w : List UInt8) (i : Nat) : (moveB w [84, 70] i).length = (moveB w [84] i).length + (moveB w [70] i).length := by
  unfold moveB
  cases hg : goalB w i with
  | none => rfl
  | some t =>
    rcases goal_sign hg with h | h <;> rw [h] <;> rfl
theorem moves_split (w : List UInt8) : (movesB w [84, 70]).length = (movesB w [84]).length + (movesB w [70]).length := by
  rw [moves_len, moves_len, moves_len]
  exact sum_add fun i _ => moveB_count w i

/-! ### From the other side -/
theorem otherB_two (b : UInt8) : otherB (otherB b) = b := by
  unfold otherB
  by_cases h1 : b = 84
  · subst h1; rfl
  · by_cases h2 : b = 70
    · subst h2; rfl
    · simp [h1, h2]
theorem other_two (w : List UInt8) : otherL (otherL w) = w := by
  unfold otherL
  rw [List.map_reverse, List.reverse_reverse, List.map_map]
  have : (otherB ∘ otherB) = id := by funext b; exact otherB_two b
  rw [this, List.map_id]
theorem other_get {w : List UInt8} {j : Nat} (hj : j < w.length) : (otherL w).getD (w.length - 1 - j) 0 = otherB (w.getD j 0) := by
  have h1 : w.length - 1 - j < (otherL w).length := by rw [otherL_len]; omega
  have e1 : (otherL w).getD (w.length - 1 - j) 0 = (otherL w)[w.length - 1 - j] := by simp [List.getD_eq_getElem?_getD, h1]
  have e2 : w.getD j 0 = w[j] := by simp [List.getD_eq_getElem?_getD, hj]
  rw [e1, e2]
  simp only [otherL, List.getElem_reverse, List.length_map, List.getElem_map]
  congr 2
  omega
theorem mv_other {w : List UInt8} {i t : Nat} (h : Mv w i t) : Mv (otherL w) (w.length - 1 - i) (w.length - 1 - t) := by
  obtain ⟨hi, ht, h46, h⟩ := h
  refine ⟨by rw [otherL_len]; omega, by rw [otherL_len]; omega, by rw [other_get ht, h46]; rfl, ?_⟩
  rcases h with ⟨ha, h⟩ | ⟨ha, h⟩
  · right
    refine ⟨by rw [other_get hi, ha]; rfl, ?_⟩
    rcases h with rfl | ⟨rfl, hb⟩
    · left; omega
    · right
      refine ⟨by omega, ?_⟩
      rw [show w.length - 1 - i - 1 = w.length - 1 - (i + 1) by omega, other_get (by omega), hb]; rfl
  · left
    refine ⟨by rw [other_get hi, ha]; rfl, ?_⟩
    rcases h with h | ⟨h, hb⟩
    · left; omega
    · right
      refine ⟨by omega, ?_⟩
      rw [show w.length - 1 - i + 1 = w.length - 1 - (i - 1) by omega, other_get (by omega), hb]; rfl
theorem moveB_iff (w : List UInt8) {i : Nat} (hi : i < w.length) : (moveB w [84, 70] i).length = 1 ↔ ∃ t, Mv w i t := by
  unfold moveB
  cases hg : goalB w i with
  | none =>
    simp only [List.length_nil]
    constructor
    · intro h; omega
    · rintro ⟨t, h⟩
      rw [mv_goalB h] at hg; cases hg
  | some t =>
    have hk : hasB [84, 70] (w.getD i 0) = true := by rcases goal_sign hg with h | h <;> rw [h] <;> rfl
    simp only [hk, if_true, List.length_singleton, true_iff]
    obtain ⟨t', _, hm⟩ := goalB_mv hi hg
    exact ⟨t', hm⟩
theorem moveB_other {w : List UInt8} {i : Nat} (hi : i < w.length) : (moveB (otherL w) [84, 70] (w.length - 1 - i)).length = (moveB w [84, 70] i).length := by
  have h1 := moveB_iff w hi
  have h2 := moveB_iff (otherL w) (i := w.length - 1 - i) (by rw [otherL_len]; omega)
  have l1 := moveB_len w [84, 70] i
  have l2 := moveB_len (otherL w) [84, 70] (w.length - 1 - i)
  have hiff : (∃ t, Mv (otherL w) (w.length - 1 - i) t) ↔ ∃ t, Mv w i t := by
    constructor
    · rintro ⟨t, h⟩
      have := mv_other h
      rw [other_two, otherL_len, show w.length - 1 - (w.length - 1 - i) = i by omega] at this
      exact ⟨_, this⟩
    · rintro ⟨t, h⟩
      exact ⟨_, mv_other h⟩
  rw [← h1, ← h2] at hiff
  by_cases h : (moveB w [84, 70] i).length = 1
  · rw [h, hiff.2 h]
  · have : ¬ (moveB (otherL w) [84, 70] (w.length - 1 - i)).length = 1 := fun hh => h (hiff.1 hh)
    omega
theorem moves_other_len (w : List UInt8) : (movesB (otherL w) [84, 70]).length = (movesB w [84, 70]).length := by
  rw [moves_len, moves_len, otherL_len]
  have h1 : ((List.range w.length).map fun i => (moveB w [84, 70] i).length) = (List.range w.length).map ((fun i => (moveB (otherL w) [84, 70] i).length) ∘ fun i => w.length - 1 - i) :=
    List.map_congr_left fun i hi => (moveB_other (List.mem_range.1 hi)).symm
  rw [h1, ← List.map_map]
  have h2 : (List.range w.length).map (fun i => w.length - 1 - i) = (List.range w.length).reverse := by
    refine List.ext_getElem (by simp) ?_
    intro n h3 h4
    simp
  rw [h2, List.map_reverse, List.sum_reverse]
theorem moves_toad {w : List UInt8} {i t : Nat} (h : Mv w i t) : (movesB w [84]).contains (((i : Int), (t : Int)) : Int × Int) = decide ((t : Int) > i) ∧ (movesB w [70]).contains (((i : Int), (t : Int)) : Int × Int) = !decide ((t : Int) > i) ∧
    (movesB (otherL w) [84, 70]).contains (((w.length : Int) - 1 - i, (w.length : Int) - 1 - t) : Int × Int) = true := by
  have hm := h
  obtain ⟨hi, ht, h46, hk⟩ := h
  have e1 : (w.length : Int) - 1 - i = ((w.length - 1 - i : Nat) : Int) := by omega
  have e2 : (w.length : Int) - 1 - t = ((w.length - 1 - t : Nat) : Int) := by omega
  have ho := mv_other hm
  have hok : hasB [84, 70] ((otherL w).getD (w.length - 1 - i) 0) = true := by
    rcases ho.2.2.2 with h | h <;> rw [h.1] <;> rfl
  have r3 : (movesB (otherL w) [84, 70]).contains (((w.length : Int) - 1 - i, (w.length : Int) - 1 - t) : Int × Int) = true := by
    rw [e1, e2]
    exact List.contains_iff_mem.2 (mem_moves.2 ⟨ho, hok⟩)
  refine ⟨?_, ?_, r3⟩
  · rcases hk with ⟨ha, hk⟩ | ⟨ha, hk⟩
    · rw [decide_eq_true (by omega)]
      exact List.contains_iff_mem.2 (mem_moves.2 ⟨hm, by rw [ha]; rfl⟩)
    · rw [decide_eq_false (by omega)]
      cases e : (movesB w [84]).contains (((i : Int), (t : Int)) : Int × Int)
      · rfl
      · have := (mem_moves.1 (List.contains_iff_mem.1 e)).2
        rw [ha] at this; cases this
  · rcases hk with ⟨ha, hk⟩ | ⟨ha, hk⟩
    · rw [decide_eq_true (by omega)]
      cases e : (movesB w [70]).contains (((i : Int), (t : Int)) : Int × Int)
      · rfl
      · have := (mem_moves.1 (List.contains_iff_mem.1 e)).2
        rw [ha] at this; cases this
    · rw [decide_eq_false (by omega)]
      exact List.contains_iff_mem.2 (mem_moves.2 ⟨hm, by rw [ha]; rfl⟩)
theorem good_other {w : List UInt8} (h : goodLine w = true) : goodLine (otherL w) = true := by
  unfold goodLine at *
  simp only [Bool.and_eq_true, decide_eq_true_eq] at *
  rw [otherL_len]
  exact ⟨h.1, otherL_signs h.2⟩
theorem good_made {w : List UInt8} {i t : Nat} (h : goodLine w = true) (hm : Mv w i t) : goodLine (madeB w i t) = true := by
  unfold goodLine at *
  simp only [Bool.and_eq_true, decide_eq_true_eq] at *
  rw [madeB_length]
  refine ⟨h.1, ?_⟩
  rw [List.all_eq_true] at *
  intro x hx
  unfold madeB at hx
  rcases List.mem_or_eq_of_mem_set hx with hx | rfl
  · rcases List.mem_or_eq_of_mem_set hx with hx | rfl
    · exact h.2 x hx
    · rcases hm.2.2.2 with h | h <;> rw [h.1] <;> rfl
  · rfl
end Go.Proofs.YtejhhdpfndiliaaGreatDoor.Ab

/- MOVES that are drawn. -/
namespace Go.Proofs.YtejhhdpfndiliaaGreatDoor.Ab
open Go
set_option maxRecDepth 100000
set_option maxHeartbeats 4000000

theorem PreX.ag {c : Nat} {h1 h2 h3 : AH} (x : PreX c h1 h2) (y : Ag h1.length h2 h3) : PreX c h1 h3 := ⟨Nat.le_trans x.1 y.1, fun i hi hc => by rw [y.2 i hi, x.2 i hi hc]⟩
theorem OwL.x {α : Type} {esz : Nat} {enc : α → List AV} {c : Nat} {B h h' : AH} {v : AV} {L : List α} (ho : OwL esz enc B h v L) (hp : PreX c h h') (hc : c < B.length) : OwL esz enc B h' v L :=
  own_row ho fun r hr => hp.2 r (own_lt ho hr) (by have := own_ge ho hr; omega)
theorem Cur.ag {b : AH} {cv : AV} {bs : List UInt8} {K : Nat} {h h' : AH} (hc : Cur b cv bs K h) {n : Nat} (hn : b.length < n) (ha : Ag n h h') : Cur b cv bs K h' := by
  obtain ⟨h1, h2, h3, a, s, h4, h5⟩ := hc
  exact ⟨h1, h2, h3.trans' (ha.mono (by omega)), a, s, h4, by rw [ha.2 _ hn]; exact h5⟩
theorem rd_row {h h' : AH} {c k off n : Nat} {cs : List AV} (hc : h'[c]? = h[c]?) (hr : rdRow h c k off n = some cs) : rdRow h' c k off n = some cs := by
  unfold rdRow at hr ⊢; rw [hc]; exact hr
theorem rd_app1 {h : AH} {o : AO} {c k off n : Nat} {cs : List AV} (hr : rdRow h c k off n = some cs) : rdRow (h ++ [o]) c k off n = some cs := rdRow_pre (Pre.push _ _) hr
theorem Slc.upTo {α : Type} {esz : Nat} {enc : α → List AV} (hl : ∀ x, (enc x).length = esz) {h : AH} {c kk off n e : Nat} {L : List α} (hs : Slc esz enc h (.slice c kk off n e) L) {j : Nat} (hj : j ≤ L.length) {o2 n2 : Nat} (ho : o2 = off) (hn : n2 = j) : Slc esz enc h (.slice c kk o2 n2 esz) (L.take j) := by
  subst ho hn
  obtain ⟨h1, rfl, h3⟩ := hs.all
  unfold Slc Sl
  have hle : (L.take n2).length = n2 := by simp; omega
  have hm := Nat.mul_le_mul_right e (show n2 ≤ n by omega)
  refine ⟨rfl, hle.symm, by rw [flat_len hl], ?_⟩
  have h4 := hs.all.2.2
  conv at h4 => rhs; rw [← List.take_append_drop n2 L, List.flatMap_append]
  have := Slc.ahead hl (pre := L.take n2) (rest := L.drop n2) (by rw [List.take_append_drop]; exact hs)
  exact this
theorem lp_cm {b B : AH} {cv : AV} {bs : List UInt8} (hB : b.length < B.length) {R : X → Env → AH → Prop} : ∀ (d : Nat) (w : List UInt8) (out : List (Int × Int)) (v : AV) (K : Nat) (h : AH), goodLine w = true → Cur b cv bs K h → K + 2 * d < 2 ^ 48 → PreX b.length B h → OwL 2 encM B h v out → out.length + d ≤ 1000 →
    (∀ out' v' h', out'.length ≤ out.length + d → Cur b cv bs (K + 2 * d) h' → PreX b.length B h' → OwL 2 encM B h' v' out' → R (.exit 0) [(0, .ptr b.length 0 0 3), (7, v')] h') →
    Cx (.loop lp443_0) [(0, .ptr b.length 0 0 3), (1, .str w), (7, v), (8, .int .i64 d)] h R k k
  | 0, w, out, v, K, h, hg, hc, hK, hp, ho, hl, hR => by
    have n1 : ¬ (((0 : Nat) : Int) > 0) := by omega
    rw [w_loopb (c := lp443_0) (d := lb443_0) rfl]; unfold lb443_0
    simp (maxSteps := 1000000) (disch := first | omega | rfl | (simp only [zL, two63, room] <;> omega) | fail) only [↓reduceIte, ↓zP, zW, WOp, evOp, evBin, binI, binSh, binS, evNil, keyIs, keyEq, mkv, AV.cells, AV.sc, optv, bnd, env, put, Env.get, Env.set, Env.del, Env.dels, Env.init, res1, resL, resV, fillP, splice, newRow, Nat.reduceEqDiff, Nat.reduceLT, Nat.reduceLeDiff, Nat.reduceAdd, Nat.reduceMul, Nat.reduceSub, Nat.reduceBEq, reduceCtorEq, ↓zR, zQ, Tr, StA, StT, n1]
    exact hR out v h (by omega) hc hp ho
  | d + 1, w, out, v, K, h, hg, hc, hK, hp, ho, hl, hR => by
    have ih := lp_cm hB (R := R) (cv := cv) (bs := bs) d
    have n1 : ((d + 1 : Nat) : Int) > 0 := by omega
    have hs : ((d + 1 : Nat) : Int) - 1 = (d : Int) := by omega
    have hwr : IntKind.i64.wrap (d : Int) = (d : Int) := wrap_i (by omega)
    have hgl := good_all hg
    rw [w_loopb (c := lp443_0) (d := lb443_0) rfl]; unfold lb443_0
    simp (maxSteps := 1000000) (disch := first | omega | rfl | (simp only [zL, two63, room] <;> omega) | fail) only [↓reduceIte, ↓zP, zW, WOp, evOp, evBin, binI, binSh, binS, evNil, keyIs, keyEq, mkv, AV.cells, AV.sc, optv, bnd, env, put, Env.get, Env.set, Env.del, Env.dels, Env.init, res1, resL, resV, fillP, splice, newRow, Nat.reduceEqDiff, Nat.reduceLT, Nat.reduceLeDiff, Nat.reduceAdd, Nat.reduceMul, Nat.reduceSub, Nat.reduceBEq, reduceCtorEq, ↓zR, zQ, Tr, StA, StT, n1]
    refine c_liMoves w hgl.2.2 (by omega) true true ?_
    intro v2 h2 ho2 hp2
    rw [liMovesB_eq, show kindsS true true = [84, 70] from rfl] at ho2
    have hv := ho2.slc
    have hlen := movesB_len w [84, 70]
    have ho' := ho.pre hp2
    have hc2 := hc.pre hp2
    have hpB := hp.trans (hp2.x _)
    rcases hv.cases with ⟨rfl, h0⟩ | ⟨rfl, h0⟩ | ⟨c2, kk2, off2, rfl⟩
    · simp (maxSteps := 1000000) (disch := first | omega | rfl | (simp only [zL, two63, room] <;> omega) | fail) only [↓reduceIte, ↓zP, zW, WOp, evOp, evBin, binI, binSh, binS, evNil, keyIs, keyEq, mkv, AV.cells, AV.sc, optv, bnd, env, put, Env.get, Env.set, Env.del, Env.dels, Env.init, res1, resL, resV, fillP, splice, newRow, Nat.reduceEqDiff, Nat.reduceLT, Nat.reduceLeDiff, Nat.reduceAdd, Nat.reduceMul, Nat.reduceSub, Nat.reduceBEq, reduceCtorEq, ↓zR, zQ, Tr, StA, StT]
      exact hR out v h2 (by omega) (hc2.le (by omega)) hpB ho'
    · simp (maxSteps := 1000000) (disch := first | omega | rfl | (simp only [zL, two63, room] <;> omega) | fail) only [↓reduceIte, ↓zP, zW, WOp, evOp, evBin, binI, binSh, binS, evNil, keyIs, keyEq, mkv, AV.cells, AV.sc, optv, bnd, env, put, Env.get, Env.set, Env.del, Env.dels, Env.init, res1, resL, resV, fillP, splice, newRow, Nat.reduceEqDiff, Nat.reduceLT, Nat.reduceLeDiff, Nat.reduceAdd, Nat.reduceMul, Nat.reduceSub, Nat.reduceBEq, reduceCtorEq, ↓zR, zQ, Tr, StA, StT]
      exact hR out v h2 (by omega) (hc2.le (by omega)) hpB ho'
    · by_cases hn : (movesB w [84, 70]).length = 0
      · have e0 : (((movesB w [84, 70]).length : Int) == 0) = true := by rw [hn]; rfl
        simp (maxSteps := 1000000) (disch := first | omega | rfl | (simp only [zL, two63, room] <;> omega) | fail) only [↓reduceIte, ↓zP, zW, WOp, evOp, evBin, binI, binSh, binS, evNil, keyIs, keyEq, mkv, AV.cells, AV.sc, optv, bnd, env, put, Env.get, Env.set, Env.del, Env.dels, Env.init, res1, resL, resV, fillP, splice, newRow, Nat.reduceEqDiff, Nat.reduceLT, Nat.reduceLeDiff, Nat.reduceAdd, Nat.reduceMul, Nat.reduceSub, Nat.reduceBEq, reduceCtorEq, ↓zR, zQ, Tr, StA, StT, e0]
        exact hR out v h2 (by omega) (hc2.le (by omega)) hpB ho'
      · have e0 : (((movesB w [84, 70]).length : Int) == 0) = false := by rw [beq_eq_false_iff_ne]; omega
        simp (maxSteps := 1000000) (disch := first | omega | rfl | (simp only [zL, two63, room] <;> omega) | fail) only [↓reduceIte, ↓zP, zW, WOp, evOp, evBin, binI, binSh, binS, evNil, keyIs, keyEq, mkv, AV.cells, AV.sc, optv, bnd, env, put, Env.get, Env.set, Env.del, Env.dels, Env.init, res1, resL, resV, fillP, splice, newRow, Nat.reduceEqDiff, Nat.reduceLT, Nat.reduceLeDiff, Nat.reduceAdd, Nat.reduceMul, Nat.reduceSub, Nat.reduceBEq, reduceCtorEq, ↓zR, zQ, Tr, StA, StT, e0]
        refine c_pick hc2 (by omega) (movesB w [84, 70]).length (by omega) ?_
        intro x h3 hx hc3 hp3
        have hlt : x < (movesB w [84, 70]).length := by omega
        have hLe : movesB w [84, 70] = (movesB w [84, 70]).take x ++ (movesB w [84, 70])[x] :: (movesB w [84, 70]).drop (x + 1) := by
          have := (List.take_append_drop x (movesB w [84, 70])).symm
          rwa [List.drop_eq_getElem_cons hlt] at this
        have hmem : (movesB w [84, 70])[x] ∈ movesB w [84, 70] := List.getElem_mem hlt
        have hv2 := hv
        generalize hm : (movesB w [84, 70])[x] = m at hLe hmem
        rw [hLe] at hv2
        have hlb := hc.lt
        have hne : c2 ≠ b.length := by have := own_ge ho2 rfl; omega
        have hrd := rdRow_prex hp3 hne (hv2.rd hlM)
        rw [List.length_take, show min x (movesB w [84, 70]).length = x by omega] at hrd
        obtain ⟨i, t, rfl, hmv⟩ := movesB_mv hmem
        have hrd' : rdRow h3 c2 kk2 (off2 + x * 2) 2 = some [.int .i64 i, .int .i64 t] := hrd
        have n2 : (x : Int) < ((movesB w [84, 70]).length : Int) := by omega
        have ho3 := (ho'.x hp3 hB).pre ((Pre.push h3 (AO.row [.int .i64 i, .int .i64 t] 0 0 false)).trans (Pre.push _ (AO.row [.int .i64 i, .int .i64 t] 0 0 false)))
        have hpB3 := hpB.trans hp3
        have hc3' := hc3.pre ((Pre.push h3 (AO.row [.int .i64 i, .int .i64 t] 0 0 false)).trans (Pre.push _ (AO.row [.int .i64 i, .int .i64 t] 0 0 false)))
        obtain ⟨o2, h4, ha, ho4, hag⟩ := apA hlM scM ho3 (Nat.le_trans hpB3.1 (by simp)) ((i : Int), (t : Int)) (by omega)
        have hrow : rowOf v ≠ some h3.length := by
          intro hr
          have := own_lt (ho'.x hp3 hB) hr
          omega
        have q4 : rdRow h4 h3.length 0 0 2 = some [.int .i64 i, .int .i64 t] := by
          refine rd_row ((apRow_fr ha).1 h3.length (by simp) hrow) ?_
          exact rd_app1 (mvRow h3 i t).1
        simp (maxSteps := 1000000) (disch := first | omega | rfl | (simp only [zL, two63, room] <;> omega) | fail) only [↓reduceIte, ↓zP, zW, WOp, evOp, evBin, binI, binSh, binS, evNil, keyIs, keyEq, mkv, AV.cells, AV.sc, optv, bnd, env, put, Env.get, Env.set, Env.del, Env.dels, Env.init, res1, resL, resV, fillP, splice, newRow, Nat.reduceEqDiff, Nat.reduceLT, Nat.reduceLeDiff, Nat.reduceAdd, Nat.reduceMul, Nat.reduceSub, Nat.reduceBEq, reduceCtorEq, ↓zR, zQ, Tr, StA, StT, n2, hrd', ha, q4]
        refine c_liMake w i t hmv.1 hmv.2.1 hmv.ne (by omega) ?_
        intro h5 hp5
        simp (maxSteps := 1000000) (disch := first | omega | rfl | (simp only [zL, two63, room] <;> omega) | fail) only [↓reduceIte, ↓zP, zW, WOp, evOp, evBin, binI, binSh, binS, evNil, keyIs, keyEq, mkv, AV.cells, AV.sc, optv, bnd, env, put, Env.get, Env.set, Env.del, Env.dels, Env.init, res1, resL, resV, fillP, splice, newRow, Nat.reduceEqDiff, Nat.reduceLT, Nat.reduceLeDiff, Nat.reduceAdd, Nat.reduceMul, Nat.reduceSub, Nat.reduceBEq, reduceCtorEq, ↓zR, zQ, Tr, StA, StT, hs, hwr]
        rw [w_loopn (c := lp443_0) rfl]
        simp (maxSteps := 1000000) (disch := first | omega | rfl | (simp only [zL, two63, room] <;> omega) | fail) only [↓reduceIte, ↓zP, zW, WOp, evOp, evBin, binI, binSh, binS, evNil, keyIs, keyEq, mkv, AV.cells, AV.sc, optv, bnd, env, put, Env.get, Env.set, Env.del, Env.dels, Env.init, res1, resL, resV, fillP, splice, newRow, Nat.reduceEqDiff, Nat.reduceLT, Nat.reduceLeDiff, Nat.reduceAdd, Nat.reduceMul, Nat.reduceSub, Nat.reduceBEq, reduceCtorEq, ↓zR, zQ, Tr, StA, StT]
        have hpB4 : PreX b.length B h4 := (hpB3.trans (((Pre.push h3 (AO.row [.int .i64 i, .int .i64 t] 0 0 false)).trans (Pre.push _ (AO.row [.int .i64 i, .int .i64 t] 0 0 false))).x _)).ag hag
        refine ih (madeB w i t) (out ++ [((i : Int), (t : Int))]) o2 (K + 2) h5 (good_made hg hmv) ((hc3'.ag hB hag).pre hp5) (by omega) (hpB4.trans (hp5.x _)) (ho4.pre hp5) (by simp; omega) ?_
        intro out' v' h' a1 a2 a3 a4
        exact hR out' v' h' (by simp at a1; omega) (a2.le (by omega)) a3 a4
theorem c_cmoves {b : AH} {cv : AV} {bs : List UInt8} {K : Nat} {h : AH} {post : AV → AH → Prop} (hc : Cur b cv bs K h) (hK : K < 2 ^ 47) (w : List UInt8) (hw : w.length < 2 ^ 60) (hp : ∀ v L h', L.length ≤ 13 → Cur b cv bs (K + 40) h' → PreX b.length h h' → Slc 2 encM h' v L → (∀ r, rowOf v = some r → h.length ≤ r) → post v h') :
    S 443 [.ptr b.length 0 0 3, .str w, .int .i64 12] h post k := by
  refine S_of rfl T443 ?_; unfold fi443
  cases hg : goodLine w
  · simp (maxSteps := 1000000) (disch := first | omega | rfl | (simp only [zL, two63, room] <;> omega) | fail) only [↓reduceIte, ↓zP, zW, WOp, evOp, evBin, binI, binSh, binS, evNil, keyIs, keyEq, mkv, AV.cells, AV.sc, optv, bnd, env, put, Env.get, Env.set, Env.del, Env.dels, Env.init, res1, resL, resV, fillP, splice, newRow, Nat.reduceEqDiff, Nat.reduceLT, Nat.reduceLeDiff, Nat.reduceAdd, Nat.reduceMul, Nat.reduceSub, Nat.reduceBEq, reduceCtorEq, ↓zR, zQ, Tr, StA, StT, e_liGoodG w hw, hg]
    have hs1 : Slc 2 encM (h ++ [AO.row [.int .i64 0, .int .i64 1] 0 0 false]) (.slice h.length 0 0 1 2) [((0 : Int), (1 : Int))] := ⟨rfl, rfl, rfl, (mvRow h 0 1).1⟩
    exact hp _ _ _ (by simp) ((hc.pre (Pre.push _ _)).le (by omega)) ((Pre.push _ _).x _) hs1 (fun r hr => by cases hr; omega)
  · have w1 : IntKind.i64.wrap (12 + 1) = 13 := rfl
    simp (maxSteps := 1000000) (disch := first | omega | rfl | (simp only [zL, two63, room] <;> omega) | fail) only [↓reduceIte, ↓zP, zW, WOp, evOp, evBin, binI, binSh, binS, evNil, keyIs, keyEq, mkv, AV.cells, AV.sc, optv, bnd, env, put, Env.get, Env.set, Env.del, Env.dels, Env.init, res1, resL, resV, fillP, splice, newRow, Nat.reduceEqDiff, Nat.reduceLT, Nat.reduceLeDiff, Nat.reduceAdd, Nat.reduceMul, Nat.reduceSub, Nat.reduceBEq, reduceCtorEq, ↓zR, zQ, Tr, StA, StT, e_liGoodG w hw, hg, w1]
    refine c_pick hc (by omega) 13 (by omega) ?_
    intro d h1 hd hc1 hp1
    simp (maxSteps := 1000000) (disch := first | omega | rfl | (simp only [zL, two63, room] <;> omega) | fail) only [↓reduceIte, ↓zP, zW, WOp, evOp, evBin, binI, binSh, binS, evNil, keyIs, keyEq, mkv, AV.cells, AV.sc, optv, bnd, env, put, Env.get, Env.set, Env.del, Env.dels, Env.init, res1, resL, resV, fillP, splice, newRow, Nat.reduceEqDiff, Nat.reduceLT, Nat.reduceLeDiff, Nat.reduceAdd, Nat.reduceMul, Nat.reduceSub, Nat.reduceBEq, reduceCtorEq, ↓zR, zQ, Tr, StA, StT]
    refine lp_cm hc.lt d w [] .nilS (K + 2) h1 hg hc1 (by omega) hp1 OwL.nil (by simp; omega) ?_
    intro out v h2 hl hc2 hp2 ho
    have hl' : out.length ≤ 12 := by simp at hl; omega
    simp (maxSteps := 1000000) (disch := first | omega | rfl | (simp only [zL, two63, room] <;> omega) | fail) only [↓reduceIte, ↓zP, zW, WOp, evOp, evBin, binI, binSh, binS, evNil, keyIs, keyEq, mkv, AV.cells, AV.sc, optv, bnd, env, put, Env.get, Env.set, Env.del, Env.dels, Env.init, res1, resL, resV, fillP, splice, newRow, Nat.reduceEqDiff, Nat.reduceLT, Nat.reduceLeDiff, Nat.reduceAdd, Nat.reduceMul, Nat.reduceSub, Nat.reduceBEq, reduceCtorEq, ↓zR, zQ, Tr, StA, StT]
    refine c_pick hc2 (by omega) 10 (by omega) ?_
    intro x h3 hx hc3 hp3
    have ho3 := ho.x hp3 hc.lt
    have hpB3 := hp2.trans hp3
    by_cases x0 : x = 0
    · subst x0
      simp (maxSteps := 1000000) (disch := first | omega | rfl | (simp only [zL, two63, room] <;> omega) | fail) only [↓reduceIte, ↓zP, zW, WOp, evOp, evBin, binI, binSh, binS, evNil, keyIs, keyEq, mkv, AV.cells, AV.sc, optv, bnd, env, put, Env.get, Env.set, Env.del, Env.dels, Env.init, res1, resL, resV, fillP, splice, newRow, Nat.reduceEqDiff, Nat.reduceLT, Nat.reduceLeDiff, Nat.reduceAdd, Nat.reduceMul, Nat.reduceSub, Nat.reduceBEq, reduceCtorEq, ↓zR, zQ, Tr, StA, StT]
      refine c_among (hc3.pre (Pre.push _ _)) (by omega) (slc_litI h3 [0, 1, -1, 4611686018427387904]) (fun r hr => by cases hr; have := hc3.lt; omega) (by simp) (by simp) ?_
      intro y1 _ h4 hc4 hp4
      simp (maxSteps := 1000000) (disch := first | omega | rfl | (simp only [zL, two63, room] <;> omega) | fail) only [↓reduceIte, ↓zP, zW, WOp, evOp, evBin, binI, binSh, binS, evNil, keyIs, keyEq, mkv, AV.cells, AV.sc, optv, bnd, env, put, Env.get, Env.set, Env.del, Env.dels, Env.init, res1, resL, resV, fillP, splice, newRow, Nat.reduceEqDiff, Nat.reduceLT, Nat.reduceLeDiff, Nat.reduceAdd, Nat.reduceMul, Nat.reduceSub, Nat.reduceBEq, reduceCtorEq, ↓zR, zQ, Tr, StA, StT]
      refine c_among (hc4.pre (Pre.push _ _)) (by omega) (slc_litI h4 [0, 2, -1, 12, -9223372036854775808]) (fun r hr => by cases hr; have := hc4.lt; omega) (by simp) (by simp) ?_
      intro y2 _ h5 hc5 hp5
      have ho5 := (((ho3.pre (Pre.push _ _)).x hp4 hc.lt).pre (Pre.push _ _)).x hp5 hc.lt
      have hpB5 := hpB3.trans ((((Pre.push _ _).x2 hp4)).trans ((Pre.push _ _).x2 hp5))
      obtain ⟨o2, h6, ha, ho6, hag⟩ := apA hlM scM (ho5.pre (Pre.push h5 (AO.row [.int .i64 y1, .int .i64 y2] 0 0 false))) (Nat.le_trans hpB5.1 (by simp)) (y1, y2) (by omega)
      simp (maxSteps := 1000000) (disch := first | omega | rfl | (simp only [zL, two63, room] <;> omega) | fail) only [↓reduceIte, ↓zP, zW, WOp, evOp, evBin, binI, binSh, binS, evNil, keyIs, keyEq, mkv, AV.cells, AV.sc, optv, bnd, env, put, Env.get, Env.set, Env.del, Env.dels, Env.init, res1, resL, resV, fillP, splice, newRow, Nat.reduceEqDiff, Nat.reduceLT, Nat.reduceLeDiff, Nat.reduceAdd, Nat.reduceMul, Nat.reduceSub, Nat.reduceBEq, reduceCtorEq, ↓zR, zQ, Tr, StA, StT, ha]
      have hc6 := (hc5.pre (Pre.push h5 (AO.row [.int .i64 y1, .int .i64 y2] 0 0 false))).ag hc.lt hag
      exact hp o2 _ h6 (by simp; omega) (hc6.le (by omega)) ((hpB5.trans ((Pre.push h5 (AO.row [.int .i64 y1, .int .i64 y2] 0 0 false)).x _)).ag hag) ho6.slc (fun r hr => own_ge ho6 hr)
    · have k0 : ((x : Int) == 0) = false := by simp; omega
      by_cases x1 : x = 1
      · subst x1
        have lv := fun g => Slc.lenV (ho3.slc) (g := g) (ρ := fun _ => _) (x := .t 0) rfl; simp only [evOp] at lv
        by_cases hn : 1 < out.length
        · have k1 : (out.length : Int) > 1 := by omega
          obtain ⟨a, out', rfl⟩ : ∃ a out', out = a :: out' := by cases out with | nil => simp at hn | cons a o => exact ⟨a, o, rfl⟩
          rcases ho3.slc.cases with ⟨rfl, h0⟩ | ⟨rfl, h0⟩ | ⟨c, kk, off, rfl⟩
          · cases h0
          · cases h0
          · simp (maxSteps := 1000000) (disch := first | omega | rfl | (simp only [zL, two63, room] <;> omega) | fail) only [↓reduceIte, ↓zP, zW, WOp, evOp, evBin, binI, binSh, binS, evNil, keyIs, keyEq, mkv, AV.cells, AV.sc, optv, bnd, env, put, Env.get, Env.set, Env.del, Env.dels, Env.init, res1, resL, resV, fillP, splice, newRow, Nat.reduceEqDiff, Nat.reduceLT, Nat.reduceLeDiff, Nat.reduceAdd, Nat.reduceMul, Nat.reduceSub, Nat.reduceBEq, reduceCtorEq, ↓zR, zQ, Tr, StA, StT, k0, lv, k1]
            have hb : Slc 2 encM h3 (.slice c kk (off + [a].length * 2) out'.length 2) out' := ⟨rfl, rfl, by rw [flat_len hlM], Slc.behind hlM (pre := [a]) ho3.slc⟩
            have hq := hp (.slice c kk (off + [a].length * 2) out'.length 2) out' h3 (by simp at hl'; omega) (hc3.le (by omega)) hpB3 hb (fun r hr => own_ge ho3 hr)
            simpa using hq
        · have k1 : ¬ (out.length : Int) > 1 := by omega
          simp (maxSteps := 1000000) (disch := first | omega | rfl | (simp only [zL, two63, room] <;> omega) | fail) only [↓reduceIte, ↓zP, zW, WOp, evOp, evBin, binI, binSh, binS, evNil, keyIs, keyEq, mkv, AV.cells, AV.sc, optv, bnd, env, put, Env.get, Env.set, Env.del, Env.dels, Env.init, res1, resL, resV, fillP, splice, newRow, Nat.reduceEqDiff, Nat.reduceLT, Nat.reduceLeDiff, Nat.reduceAdd, Nat.reduceMul, Nat.reduceSub, Nat.reduceBEq, reduceCtorEq, ↓zR, zQ, Tr, StA, StT, k0, lv, k1]
          exact hp v out h3 (by omega) (hc3.le (by omega)) hpB3 ho3.slc (fun r hr => own_ge ho3 hr)
      · have k1 : ((x : Int) == 1) = false := by simp; omega
        simp (maxSteps := 1000000) (disch := first | omega | rfl | (simp only [zL, two63, room] <;> omega) | fail) only [↓reduceIte, ↓zP, zW, WOp, evOp, evBin, binI, binSh, binS, evNil, keyIs, keyEq, mkv, AV.cells, AV.sc, optv, bnd, env, put, Env.get, Env.set, Env.del, Env.dels, Env.init, res1, resL, resV, fillP, splice, newRow, Nat.reduceEqDiff, Nat.reduceLT, Nat.reduceLeDiff, Nat.reduceAdd, Nat.reduceMul, Nat.reduceSub, Nat.reduceBEq, reduceCtorEq, ↓zR, zQ, Tr, StA, StT, k0, k1]
        exact hp v out h3 (by omega) (hc3.le (by omega)) hpB3 ho3.slc (fun r hr => own_ge ho3 hr)
theorem c_DrawPlayMoves {cv : AV} {bs : List UInt8} {h : AH} (hs : Slc 1 encU h cv bs) (hb : bs.length < 2 ^ 40) {post : AV → AH → Prop} (hp : ∀ w v L h', w.length ≤ 13 → L.length ≤ 13 → Pre h h' → Slc 2 encM h' v L → post (.tup [.str w, v]) h') : S 409 [cv] h post k := by
  refine S_of rfl T409 ?_; unfold fi409
  have hc := Cur.new hs hb
  rcases hs.cases with ⟨rfl, _⟩ | ⟨rfl, _⟩ | ⟨c, kk, off, rfl⟩
  all_goals
    simp (maxSteps := 1000000) (disch := first | omega | rfl | (simp only [zL, two63, room] <;> omega) | fail) only [↓reduceIte, ↓zP, zW, WOp, evOp, evBin, binI, binSh, binS, evNil, keyIs, keyEq, mkv, AV.cells, AV.sc, optv, bnd, env, put, Env.get, Env.set, Env.del, Env.dels, Env.init, res1, resL, resV, fillP, splice, newRow, Nat.reduceEqDiff, Nat.reduceLT, Nat.reduceLeDiff, Nat.reduceAdd, Nat.reduceMul, Nat.reduceSub, Nat.reduceBEq, reduceCtorEq, ↓zR, zQ, Tr, StA, StT]
    refine c_line hc (by omega) ?_
    intro w h1 hw hc1 _
    clear hc
    simp (maxSteps := 1000000) (disch := first | omega | rfl | (simp only [zL, two63, room] <;> omega) | fail) only [↓reduceIte, ↓zP, zW, WOp, evOp, evBin, binI, binSh, binS, evNil, keyIs, keyEq, mkv, AV.cells, AV.sc, optv, bnd, env, put, Env.get, Env.set, Env.del, Env.dels, Env.init, res1, resL, resV, fillP, splice, newRow, Nat.reduceEqDiff, Nat.reduceLT, Nat.reduceLeDiff, Nat.reduceAdd, Nat.reduceMul, Nat.reduceSub, Nat.reduceBEq, reduceCtorEq, ↓zR, zQ, Tr, StA, StT]
    refine c_cmoves hc1 (by omega) w (by omega) ?_
    intro v L h2 hL hc2 _ hs2 _
    simp (maxSteps := 1000000) (disch := first | omega | rfl | (simp only [zL, two63, room] <;> omega) | fail) only [↓reduceIte, ↓zP, zW, WOp, evOp, evBin, binI, binSh, binS, evNil, keyIs, keyEq, mkv, AV.cells, AV.sc, optv, bnd, env, put, Env.get, Env.set, Env.del, Env.dels, Env.init, res1, resL, resV, fillP, splice, newRow, Nat.reduceEqDiff, Nat.reduceLT, Nat.reduceLeDiff, Nat.reduceAdd, Nat.reduceMul, Nat.reduceSub, Nat.reduceBEq, reduceCtorEq, ↓zR, zQ, Tr, StA, StT]
    exact hp w v L h2 hw hL hc2.done hs2
end Go.Proofs.YtejhhdpfndiliaaGreatDoor.Ab

/- RANKS: what both sides' functions answer. -/
namespace Go.Proofs.YtejhhdpfndiliaaGreatDoor.Ab
open Go
set_option maxRecDepth 100000
set_option maxHeartbeats 4000000

theorem wn {n : Nat} (h : n < 2 ^ 40) : IntKind.i64.wrap (n : Int) = n := by rw [IntKind.wrap_i64]; omega
theorem t30 : Int.toNat 0 * 1 = 0 := rfl
theorem t31 : Int.toNat 1 * 1 = 1 := rfl
theorem t32 : Int.toNat 2 * 1 = 2 := rfl
/-- One sign's turn in `below`. -/
theorem c_below0 (t g f : Nat) {h : AH} {post : AV → AH → Prop} (hp : ∀ h', Pre h h' → post (.int .i64 0) h') : S 439 [.agg [.int .i64 g, .int .i64 f, .int .i64 t], .int .i64 0] h post k := by
  refine S_of rfl T439 ?_; unfold fi439
  simp (maxSteps := 1000000) (disch := first | omega | rfl | (simp only [zL, two63, room] <;> omega) | fail) only [↓reduceIte, ↓zP, zW, WOp, evOp, evBin, binI, binSh, binS, evNil, keyIs, keyEq, mkv, AV.cells, AV.sc, optv, bnd, env, put, Env.get, Env.set, Env.del, Env.dels, Env.init, res1, resL, resV, fillP, splice, newRow, Nat.reduceEqDiff, Nat.reduceLT, Nat.reduceLeDiff, Nat.reduceAdd, Nat.reduceMul, Nat.reduceSub, Nat.reduceBEq, reduceCtorEq, ↓zR, zQ, Tr, StA, StT]
  rw [w_loopb (c := lp439_0) (d := lb439_0) rfl]; unfold lb439_0
  simp (maxSteps := 1000000) (disch := first | omega | rfl | (simp only [zL, two63, room] <;> omega) | fail) only [↓reduceIte, ↓zP, zW, WOp, evOp, evBin, binI, binSh, binS, evNil, keyIs, keyEq, mkv, AV.cells, AV.sc, optv, bnd, env, put, Env.get, Env.set, Env.del, Env.dels, Env.init, res1, resL, resV, fillP, splice, newRow, Nat.reduceEqDiff, Nat.reduceLT, Nat.reduceLeDiff, Nat.reduceAdd, Nat.reduceMul, Nat.reduceSub, Nat.reduceBEq, reduceCtorEq, ↓zR, zQ, Tr, StA, StT]
  exact hp _ (Pre.push _ _)
theorem lp_belG (t g f : Nat) (hs : t + g + f ≤ 12) {h : AH} {R : X → Env → AH → Prop} {s : Int} (hss : s = 1 ∨ s = 2)
    (hR : Cx (.loop lp439_0) [(2, .ptr h.length 0 0 3), (5, .int .i64 (gM t g f : Nat)), (7, .int .i64 s), (8, .int .i64 1)] (h ++ [.row [.int .i64 g, .int .i64 f, .int .i64 t] 0 0 false]) R k k) :
    Cx (.loop lp439_0) [(2, .ptr h.length 0 0 3), (5, .int .i64 0), (7, .int .i64 s), (8, .int .i64 0)] (h ++ [.row [.int .i64 g, .int .i64 f, .int .i64 t] 0 0 false]) R k k := by
  have hlt : (0 : Int) < s := by omega
  rw [w_loopb (c := lp439_0) (d := lb439_0) rfl]; unfold lb439_0
  by_cases h0 : 0 < g
  · have n1 : (g : Int) > 0 := by omega
    have e1 : (g : Int) - 1 = ((g - 1 : Nat) : Int) := by omega
    have e2 : ((g - 1 : Nat) : Int) + 1 = (g : Int) := by omega
    have w1 : IntKind.i64.wrap ((g - 1 : Nat) : Int) = ((g - 1 : Nat) : Int) := wn (by omega)
    have w2 : IntKind.i64.wrap (g : Int) = (g : Int) := wn (by omega)
    have hm : gM t g f = mM t (g - 1) f := by unfold gM; rw [if_pos h0]
    have hb := (mM_facts (t := t) (g := g - 1) (f := f) (by omega)).2.2.1
    have w3 : IntKind.i64.wrap (0 + (mM t (g - 1) f : Int)) = ((mM t (g - 1) f : Nat) : Int) := by rw [Int.zero_add]; exact wn (by omega)
    have w3' : IntKind.i64.wrap ((mM t (g - 1) f : Nat) : Int) = ((mM t (g - 1) f : Nat) : Int) := wn (by omega)
    rw [hm] at hR
    simp (maxSteps := 1000000) (disch := first | omega | rfl | (simp only [zL, two63, room] <;> omega) | fail) only [↓reduceIte, ↓zP, zW, WOp, evOp, evBin, binI, binSh, binS, evNil, keyIs, keyEq, mkv, AV.cells, AV.sc, optv, bnd, env, put, Env.get, Env.set, Env.del, Env.dels, Env.init, res1, resL, resV, fillP, splice, newRow, Nat.reduceEqDiff, Nat.reduceLT, Nat.reduceLeDiff, Nat.reduceAdd, Nat.reduceMul, Nat.reduceSub, Nat.reduceBEq, reduceCtorEq, ↓zR, zQ, Tr, StA, StT, hlt, t30, t31, t32, List.take_zero, List.drop_zero, List.nil_append, List.cons_append, List.take_succ_cons, List.drop_succ_cons, n1, e1, e2, w1, w2, w3, w3', Int.zero_add, e_lines t (g - 1) f (by omega)]
    rw [w_loopn (c := lp439_0) rfl]
    simp (maxSteps := 1000000) (disch := first | omega | rfl | (simp only [zL, two63, room] <;> omega) | fail) only [↓reduceIte, ↓zP, zW, WOp, evOp, evBin, binI, binSh, binS, evNil, keyIs, keyEq, mkv, AV.cells, AV.sc, optv, bnd, env, put, Env.get, Env.set, Env.del, Env.dels, Env.init, res1, resL, resV, fillP, splice, newRow, Nat.reduceEqDiff, Nat.reduceLT, Nat.reduceLeDiff, Nat.reduceAdd, Nat.reduceMul, Nat.reduceSub, Nat.reduceBEq, reduceCtorEq, ↓zR, zQ, Tr, StA, StT]
    exact hR
  · have n1 : ¬ ((g : Int) > 0) := by omega
    have hm : gM t g f = 0 := by unfold gM; rw [if_neg h0]
    rw [hm] at hR
    simp (maxSteps := 1000000) (disch := first | omega | rfl | (simp only [zL, two63, room] <;> omega) | fail) only [↓reduceIte, ↓zP, zW, WOp, evOp, evBin, binI, binSh, binS, evNil, keyIs, keyEq, mkv, AV.cells, AV.sc, optv, bnd, env, put, Env.get, Env.set, Env.del, Env.dels, Env.init, res1, resL, resV, fillP, splice, newRow, Nat.reduceEqDiff, Nat.reduceLT, Nat.reduceLeDiff, Nat.reduceAdd, Nat.reduceMul, Nat.reduceSub, Nat.reduceBEq, reduceCtorEq, ↓zR, zQ, Tr, StA, StT, hlt, t30, t31, t32, List.take_zero, List.drop_zero, List.nil_append, List.cons_append, List.take_succ_cons, List.drop_succ_cons, n1]
    rw [w_loopn (c := lp439_0) rfl]
    simp (maxSteps := 1000000) (disch := first | omega | rfl | (simp only [zL, two63, room] <;> omega) | fail) only [↓reduceIte, ↓zP, zW, WOp, evOp, evBin, binI, binSh, binS, evNil, keyIs, keyEq, mkv, AV.cells, AV.sc, optv, bnd, env, put, Env.get, Env.set, Env.del, Env.dels, Env.init, res1, resL, resV, fillP, splice, newRow, Nat.reduceEqDiff, Nat.reduceLT, Nat.reduceLeDiff, Nat.reduceAdd, Nat.reduceMul, Nat.reduceSub, Nat.reduceBEq, reduceCtorEq, ↓zR, zQ, Tr, StA, StT]
    exact hR
theorem lp_belF (t g f : Nat) (hs : t + g + f ≤ 12) {h : AH} {R : X → Env → AH → Prop} (q : Nat) (hq : q < 1000000)
    (hR : Cx (.loop lp439_0) [(2, .ptr h.length 0 0 3), (5, .int .i64 ((q + fM t g f : Nat) : Int)), (7, .int .i64 2), (8, .int .i64 2)] (h ++ [.row [.int .i64 g, .int .i64 f, .int .i64 t] 0 0 false]) R k k) :
    Cx (.loop lp439_0) [(2, .ptr h.length 0 0 3), (5, .int .i64 q), (7, .int .i64 2), (8, .int .i64 1)] (h ++ [.row [.int .i64 g, .int .i64 f, .int .i64 t] 0 0 false]) R k k := by
  rw [w_loopb (c := lp439_0) (d := lb439_0) rfl]; unfold lb439_0
  by_cases h0 : 0 < f
  · have n1 : (f : Int) > 0 := by omega
    have e1 : (f : Int) - 1 = ((f - 1 : Nat) : Int) := by omega
    have e2 : ((f - 1 : Nat) : Int) + 1 = (f : Int) := by omega
    have w1 : IntKind.i64.wrap ((f - 1 : Nat) : Int) = ((f - 1 : Nat) : Int) := wn (by omega)
    have w2 : IntKind.i64.wrap (f : Int) = (f : Int) := wn (by omega)
    have hm : fM t g f = mM t g (f - 1) := by unfold fM; rw [if_pos h0]
    have hb := (mM_facts (t := t) (g := g) (f := f - 1) (by omega)).2.2.1
    have w3 : IntKind.i64.wrap ((q : Int) + ((mM t g (f - 1) : Nat) : Int)) = ((q + mM t g (f - 1) : Nat) : Int) := by rw [← Int.natCast_add]; exact wn (by omega)
    rw [hm] at hR
    simp (maxSteps := 1000000) (disch := first | omega | rfl | (simp only [zL, two63, room] <;> omega) | fail) only [↓reduceIte, ↓zP, zW, WOp, evOp, evBin, binI, binSh, binS, evNil, keyIs, keyEq, mkv, AV.cells, AV.sc, optv, bnd, env, put, Env.get, Env.set, Env.del, Env.dels, Env.init, res1, resL, resV, fillP, splice, newRow, Nat.reduceEqDiff, Nat.reduceLT, Nat.reduceLeDiff, Nat.reduceAdd, Nat.reduceMul, Nat.reduceSub, Nat.reduceBEq, reduceCtorEq, ↓zR, zQ, Tr, StA, StT, t30, t31, t32, List.take_zero, List.drop_zero, List.nil_append, List.cons_append, List.take_succ_cons, List.drop_succ_cons, n1, e1, e2, w1, w2, w3, e_lines t g (f - 1) (by omega)]
    rw [w_loopn (c := lp439_0) rfl]
    simp (maxSteps := 1000000) (disch := first | omega | rfl | (simp only [zL, two63, room] <;> omega) | fail) only [↓reduceIte, ↓zP, zW, WOp, evOp, evBin, binI, binSh, binS, evNil, keyIs, keyEq, mkv, AV.cells, AV.sc, optv, bnd, env, put, Env.get, Env.set, Env.del, Env.dels, Env.init, res1, resL, resV, fillP, splice, newRow, Nat.reduceEqDiff, Nat.reduceLT, Nat.reduceLeDiff, Nat.reduceAdd, Nat.reduceMul, Nat.reduceSub, Nat.reduceBEq, reduceCtorEq, ↓zR, zQ, Tr, StA, StT]
    exact hR
  · have n1 : ¬ ((f : Int) > 0) := by omega
    have hm : fM t g f = 0 := by unfold fM; rw [if_neg h0]
    rw [hm, Nat.add_zero] at hR
    simp (maxSteps := 1000000) (disch := first | omega | rfl | (simp only [zL, two63, room] <;> omega) | fail) only [↓reduceIte, ↓zP, zW, WOp, evOp, evBin, binI, binSh, binS, evNil, keyIs, keyEq, mkv, AV.cells, AV.sc, optv, bnd, env, put, Env.get, Env.set, Env.del, Env.dels, Env.init, res1, resL, resV, fillP, splice, newRow, Nat.reduceEqDiff, Nat.reduceLT, Nat.reduceLeDiff, Nat.reduceAdd, Nat.reduceMul, Nat.reduceSub, Nat.reduceBEq, reduceCtorEq, ↓zR, zQ, Tr, StA, StT, t30, t31, t32, List.take_zero, List.drop_zero, List.nil_append, List.cons_append, List.take_succ_cons, List.drop_succ_cons, n1]
    rw [w_loopn (c := lp439_0) rfl]
    simp (maxSteps := 1000000) (disch := first | omega | rfl | (simp only [zL, two63, room] <;> omega) | fail) only [↓reduceIte, ↓zP, zW, WOp, evOp, evBin, binI, binSh, binS, evNil, keyIs, keyEq, mkv, AV.cells, AV.sc, optv, bnd, env, put, Env.get, Env.set, Env.del, Env.dels, Env.init, res1, resL, resV, fillP, splice, newRow, Nat.reduceEqDiff, Nat.reduceLT, Nat.reduceLeDiff, Nat.reduceAdd, Nat.reduceMul, Nat.reduceSub, Nat.reduceBEq, reduceCtorEq, ↓zR, zQ, Tr, StA, StT]
    exact hR
theorem gM_lt {t g f : Nat} (hs : t + g + f ≤ 12) : gM t g f < 1000000 ∧ fM t g f < 1000000 := by
  unfold gM fM
  refine ⟨?_, ?_⟩
  · split
    · exact (mM_facts (by omega)).2.2.1
    · omega
  · split
    · exact (mM_facts (by omega)).2.2.1
    · omega
/-- The place of a sign among signs. -/
def sgn (b : UInt8) : Int := if b = 46 then 0 else if b = 70 then 1 else 2
theorem c_below (t g f : Nat) (hs : t + g + f ≤ 12) (b : UInt8) (hb : isSign b = true) {h : AH} {post : AV → AH → Prop} (hp : ∀ h', Pre h h' → post (.int .i64 (bel t g f b : Nat)) h') : S 439 [.agg [.int .i64 g, .int .i64 f, .int .i64 t], .int .i64 (sgn b)] h post k := by
  obtain ⟨b1, b2⟩ := gM_lt hs
  have hp' := hp _ (Pre.push h (.row [.int .i64 g, .int .i64 f, .int .i64 t] 0 0 false))
  rcases sign3 hb with rfl | rfl | rfl
  · have e1 : sgn 84 = 2 := rfl
    have e2 : bel t g f 84 = gM t g f + fM t g f := rfl
    rw [e2] at hp'
    rw [e1]
    refine S_of rfl T439 ?_; unfold fi439
    simp (maxSteps := 1000000) (disch := first | omega | rfl | (simp only [zL, two63, room] <;> omega) | fail) only [↓reduceIte, ↓zP, zW, WOp, evOp, evBin, binI, binSh, binS, evNil, keyIs, keyEq, mkv, AV.cells, AV.sc, optv, bnd, env, put, Env.get, Env.set, Env.del, Env.dels, Env.init, res1, resL, resV, fillP, splice, newRow, Nat.reduceEqDiff, Nat.reduceLT, Nat.reduceLeDiff, Nat.reduceAdd, Nat.reduceMul, Nat.reduceSub, Nat.reduceBEq, reduceCtorEq, ↓zR, zQ, Tr, StA, StT]
    refine lp_belG t g f hs (.inr rfl) ?_
    refine lp_belF t g f hs _ b1 ?_
    rw [w_loopb (c := lp439_0) (d := lb439_0) rfl]; unfold lb439_0
    simp (maxSteps := 1000000) (disch := first | omega | rfl | (simp only [zL, two63, room] <;> omega) | fail) only [↓reduceIte, ↓zP, zW, WOp, evOp, evBin, binI, binSh, binS, evNil, keyIs, keyEq, mkv, AV.cells, AV.sc, optv, bnd, env, put, Env.get, Env.set, Env.del, Env.dels, Env.init, res1, resL, resV, fillP, splice, newRow, Nat.reduceEqDiff, Nat.reduceLT, Nat.reduceLeDiff, Nat.reduceAdd, Nat.reduceMul, Nat.reduceSub, Nat.reduceBEq, reduceCtorEq, ↓zR, zQ, Tr, StA, StT]
    exact hp'
  · exact c_below0 t g f hp
  · have e1 : sgn 70 = 1 := rfl
    have e2 : bel t g f 70 = gM t g f := rfl
    rw [e2] at hp'
    rw [e1]
    refine S_of rfl T439 ?_; unfold fi439
    simp (maxSteps := 1000000) (disch := first | omega | rfl | (simp only [zL, two63, room] <;> omega) | fail) only [↓reduceIte, ↓zP, zW, WOp, evOp, evBin, binI, binSh, binS, evNil, keyIs, keyEq, mkv, AV.cells, AV.sc, optv, bnd, env, put, Env.get, Env.set, Env.del, Env.dels, Env.init, res1, resL, resV, fillP, splice, newRow, Nat.reduceEqDiff, Nat.reduceLT, Nat.reduceLeDiff, Nat.reduceAdd, Nat.reduceMul, Nat.reduceSub, Nat.reduceBEq, reduceCtorEq, ↓zR, zQ, Tr, StA, StT]
    refine lp_belG t g f hs (.inl rfl) ?_
    rw [w_loopb (c := lp439_0) (d := lb439_0) rfl]; unfold lb439_0
    simp (maxSteps := 1000000) (disch := first | omega | rfl | (simp only [zL, two63, room] <;> omega) | fail) only [↓reduceIte, ↓zP, zW, WOp, evOp, evBin, binI, binSh, binS, evNil, keyIs, keyEq, mkv, AV.cells, AV.sc, optv, bnd, env, put, Env.get, Env.set, Env.del, Env.dels, Env.init, res1, resL, resV, fillP, splice, newRow, Nat.reduceEqDiff, Nat.reduceLT, Nat.reduceLeDiff, Nat.reduceAdd, Nat.reduceMul, Nat.reduceSub, Nat.reduceBEq, reduceCtorEq, ↓zR, zQ, Tr, StA, StT]
    exact hp'
theorem e_IdxFT (b : UInt8) (hb : isSign b = true) {h : AH} {post : AV → AH → Prop} : S 190 [.str [46, 70, 84], .int .u8 b.toNat] h post k = post (.int .i64 (sgn b)) h := by
  refine S_eq fun post hp => ?_
  refine S_ext (r := .int .i64 (sgn b)) rfl ?_ hp
  rcases sign3 hb with rfl | rfl | rfl <;> rfl
theorem bel_lt {t g f : Nat} (hs : t + g + f ≤ 12) (b : UInt8) : bel t g f b < 2000000 := by
  obtain ⟨b1, b2⟩ := gM_lt hs
  unfold bel
  split
  · omega
  · split <;> omega
theorem lp_rank {w : List UInt8} (hg : signs w) (hw : w.length ≤ 12) {b : AH} {R : X → Env → AH → Prop} : ∀ (rest pre : List UInt8) (acc : Nat) (h : AH), w = pre ++ rest → acc ≤ pre.length * 2000000 → Pre b h → b.length < h.length →
    h[b.length]? = some (.row [.int .i64 (rest.count 46 : Nat), .int .i64 (rest.count 70 : Nat), .int .i64 (rest.count 84 : Nat)] 0 0 false) →
    (∀ h', Pre b h' → R (.exit 0) [(8, .int .i64 ((acc + rankN rest : Nat) : Int))] h') →
    Cx (.loop lp397_0) [(0, .str w), (7, .ptr b.length 0 0 3), (8, .int .i64 acc), (25, .int .i64 w.length), (26, .int .i64 pre.length)] h R k k := by
  intro rest
  induction rest with
  | nil =>
    intro pre acc h hpre ha hp hlt hr hR
    subst hpre
    rw [w_loopb (c := lp397_0) (d := lb397_0) rfl]; unfold lb397_0
    simp only [List.append_nil]
    simp (maxSteps := 1000000) (disch := first | omega | rfl | (simp only [zL, two63, room] <;> omega) | fail) only [↓reduceIte, ↓zP, zW, WOp, evOp, evBin, binI, binSh, binS, evNil, keyIs, keyEq, mkv, AV.cells, AV.sc, optv, bnd, env, put, Env.get, Env.set, Env.del, Env.dels, Env.init, res1, resL, resV, fillP, splice, newRow, Nat.reduceEqDiff, Nat.reduceLT, Nat.reduceLeDiff, Nat.reduceAdd, Nat.reduceMul, Nat.reduceSub, Nat.reduceBEq, reduceCtorEq, ↓zR, zQ, Tr, StA, StT]
    exact hR h hp
  | cons x rest ih =>
    intro pre acc h hpre ha hp hlt hr hR
    have hx : isSign x = true := by
      refine List.all_eq_true.1 hg x ?_
      rw [hpre]; simp
    have hl : w.length = pre.length + 1 + rest.length := by rw [hpre]; simp; omega
    have hgr : signs (x :: rest) := by
      unfold signs at *
      rw [hpre, List.all_append, Bool.and_eq_true] at hg
      exact hg.2
    have hc := cnt3 hgr
    simp only [List.length_cons] at hc
    have hi : (pre.length : Int) < (w.length : Int) := by omega
    have hwx : w.getD pre.length 0 = x := by rw [hpre]; simp [List.getD]
    have hlen : ((pre ++ [x]).length : Int) = (pre.length : Int) + 1 := by simp
    have hw1 : IntKind.i64.wrap ((pre.length : Int) + 1) = (pre.length : Int) + 1 := wrap_i (by omega)
    have hb := bel_lt (t := (x :: rest).count 84) (g := (x :: rest).count 46) (f := (x :: rest).count 70) (by omega) x
    have r3 : rdRow h b.length 0 0 3 = some [.int .i64 ((x :: rest).count 46 : Nat), .int .i64 ((x :: rest).count 70 : Nat), .int .i64 ((x :: rest).count 84 : Nat)] := by simp [rdRow, hr]
    have hw2 : IntKind.i64.wrap ((acc : Int) + ((bel ((x :: rest).count 84) ((x :: rest).count 46) ((x :: rest).count 70) x : Nat) : Int)) = ((acc + bel ((x :: rest).count 84) ((x :: rest).count 46) ((x :: rest).count 70) x : Nat) : Int) := by rw [← Int.natCast_add]; exact wn (by omega)
    have ih' := ih (pre ++ [x]) (acc + bel ((x :: rest).count 84) ((x :: rest).count 46) ((x :: rest).count 70) x)
    rw [show (pre ++ [x]).length = pre.length + 1 by simp] at ih'
    simp only [rankN] at hR
    rw [w_loopb (c := lp397_0) (d := lb397_0) rfl]; unfold lb397_0
    simp (maxSteps := 1000000) (disch := first | omega | rfl | (simp only [zL, two63, room] <;> omega) | fail) only [↓reduceIte, ↓zP, zW, WOp, evOp, evBin, binI, binSh, binS, evNil, keyIs, keyEq, mkv, AV.cells, AV.sc, optv, bnd, env, put, Env.get, Env.set, Env.del, Env.dels, Env.init, res1, resL, resV, fillP, splice, newRow, Nat.reduceEqDiff, Nat.reduceLT, Nat.reduceLeDiff, Nat.reduceAdd, Nat.reduceMul, Nat.reduceSub, Nat.reduceBEq, reduceCtorEq, ↓zR, zQ, Tr, StA, StT, hi, hwx, e_IdxFT x hx, r3]
    refine c_below _ _ _ (by omega) x hx ?_
    intro h2 hp2
    have hlt2 : b.length < h2.length := Nat.lt_of_lt_of_le hlt hp2.1
    have hr2 : h2[b.length]? = some (.row [.int .i64 ((x :: rest).count 46 : Nat), .int .i64 ((x :: rest).count 70 : Nat), .int .i64 ((x :: rest).count 84 : Nat)] 0 0 false) := by rw [hp2.2 _ hlt]; exact hr
    have a0 : rdRow h2 b.length 0 0 1 = some [.int .i64 ((x :: rest).count 46 : Nat)] := by simp [rdRow, hr2]
    have a1 : rdRow h2 b.length 0 1 1 = some [.int .i64 ((x :: rest).count 70 : Nat)] := by simp [rdRow, hr2]
    have a2 : rdRow h2 b.length 0 2 1 = some [.int .i64 ((x :: rest).count 84 : Nat)] := by simp [rdRow, hr2]
    have v0 : ∀ v, wrRow h2 b.length 0 0 [.int .i64 v] = some (h2.set b.length (.row [.int .i64 v, .int .i64 ((x :: rest).count 70 : Nat), .int .i64 ((x :: rest).count 84 : Nat)] 0 0 false)) := fun v => by simp [wrRow, hr2, splice, AV.sc]
    have v1 : ∀ v, wrRow h2 b.length 0 1 [.int .i64 v] = some (h2.set b.length (.row [.int .i64 ((x :: rest).count 46 : Nat), .int .i64 v, .int .i64 ((x :: rest).count 84 : Nat)] 0 0 false)) := fun v => by simp [wrRow, hr2, splice, AV.sc]
    have v2 : ∀ v, wrRow h2 b.length 0 2 [.int .i64 v] = some (h2.set b.length (.row [.int .i64 ((x :: rest).count 46 : Nat), .int .i64 ((x :: rest).count 70 : Nat), .int .i64 v] 0 0 false)) := fun v => by simp [wrRow, hr2, splice, AV.sc]
    have hset : ∀ o, (h2.set b.length o)[b.length]? = some o := fun o => by rw [List.getElem?_set, if_pos rfl, if_pos hlt2]
    have hpS : ∀ o, Pre b (h2.set b.length o) := fun o => (hp.trans hp2).set (Nat.le_refl _)
    have fin : ∀ h', Pre b h' → b.length < h'.length → h'[b.length]? = some (.row [.int .i64 (rest.count 46 : Nat), .int .i64 (rest.count 70 : Nat), .int .i64 (rest.count 84 : Nat)] 0 0 false) →
        Cx (.loop lp397_0) [(0, .str w), (7, .ptr b.length 0 0 3), (8, .int .i64 ((acc + bel ((x :: rest).count 84) ((x :: rest).count 46) ((x :: rest).count 70) x : Nat) : Int)), (25, .int .i64 w.length), (26, .int .i64 ((pre.length : Int) + 1))] h' R k k := by
      intro h' q1 q2 q3
      have := ih' h' (by rw [hpre]; simp) (by rw [Nat.succ_mul]; omega) q1 q2 q3 (by rw [Nat.add_assoc]; exact hR)
      rwa [show ((pre.length + 1 : Nat) : Int) = (pre.length : Int) + 1 by omega] at this
    clear ih ih' hR
    have c84 := cntB1 x 84 rest
    have c46 := cntB1 x 46 rest
    have c70 := cntB1 x 70 rest
    rcases sign3 hx with rfl | rfl | rfl
    · have es : sgn 84 = 2 := rfl
      rw [if_pos rfl] at c84
      rw [if_neg (by decide), Nat.add_zero] at c46 c70
      have hd : IntKind.i64.wrap (((84 :: rest : List UInt8).count 84 : Nat) - 1 : Int) = (rest.count 84 : Nat) := by rw [wrap_i (by omega)]; omega
      simp (maxSteps := 1000000) (disch := first | omega | rfl | (simp only [zL, two63, room] <;> omega) | fail) only [↓reduceIte, ↓zP, zW, WOp, evOp, evBin, binI, binSh, binS, evNil, keyIs, keyEq, mkv, AV.cells, AV.sc, optv, bnd, env, put, Env.get, Env.set, Env.del, Env.dels, Env.init, res1, resL, resV, fillP, splice, newRow, Nat.reduceEqDiff, Nat.reduceLT, Nat.reduceLeDiff, Nat.reduceAdd, Nat.reduceMul, Nat.reduceSub, Nat.reduceBEq, reduceCtorEq, ↓zR, zQ, Tr, StA, StT, hw1, hw2, es, t32, a2, hd, v2]
      rw [w_loopn (c := lp397_0) rfl]
      simp (maxSteps := 1000000) (disch := first | omega | rfl | (simp only [zL, two63, room] <;> omega) | fail) only [↓reduceIte, ↓zP, zW, WOp, evOp, evBin, binI, binSh, binS, evNil, keyIs, keyEq, mkv, AV.cells, AV.sc, optv, bnd, env, put, Env.get, Env.set, Env.del, Env.dels, Env.init, res1, resL, resV, fillP, splice, newRow, Nat.reduceEqDiff, Nat.reduceLT, Nat.reduceLeDiff, Nat.reduceAdd, Nat.reduceMul, Nat.reduceSub, Nat.reduceBEq, reduceCtorEq, ↓zR, zQ, Tr, StA, StT]
      refine fin _ (hpS _) (by simpa using hlt2) ?_
      rw [hset, c46, c70]
    · have es : sgn 46 = 0 := rfl
      rw [if_pos rfl] at c46
      rw [if_neg (by decide), Nat.add_zero] at c84 c70
      have hd : IntKind.i64.wrap (((46 :: rest : List UInt8).count 46 : Nat) - 1 : Int) = (rest.count 46 : Nat) := by rw [wrap_i (by omega)]; omega
      simp (maxSteps := 1000000) (disch := first | omega | rfl | (simp only [zL, two63, room] <;> omega) | fail) only [↓reduceIte, ↓zP, zW, WOp, evOp, evBin, binI, binSh, binS, evNil, keyIs, keyEq, mkv, AV.cells, AV.sc, optv, bnd, env, put, Env.get, Env.set, Env.del, Env.dels, Env.init, res1, resL, resV, fillP, splice, newRow, Nat.reduceEqDiff, Nat.reduceLT, Nat.reduceLeDiff, Nat.reduceAdd, Nat.reduceMul, Nat.reduceSub, Nat.reduceBEq, reduceCtorEq, ↓zR, zQ, Tr, StA, StT, hw1, hw2, es, t30, a0, hd, v0]
      rw [w_loopn (c := lp397_0) rfl]
      simp (maxSteps := 1000000) (disch := first | omega | rfl | (simp only [zL, two63, room] <;> omega) | fail) only [↓reduceIte, ↓zP, zW, WOp, evOp, evBin, binI, binSh, binS, evNil, keyIs, keyEq, mkv, AV.cells, AV.sc, optv, bnd, env, put, Env.get, Env.set, Env.del, Env.dels, Env.init, res1, resL, resV, fillP, splice, newRow, Nat.reduceEqDiff, Nat.reduceLT, Nat.reduceLeDiff, Nat.reduceAdd, Nat.reduceMul, Nat.reduceSub, Nat.reduceBEq, reduceCtorEq, ↓zR, zQ, Tr, StA, StT]
      refine fin _ (hpS _) (by simpa using hlt2) ?_
      rw [hset, c84, c70]
    · have es : sgn 70 = 1 := rfl
      rw [if_pos rfl] at c70
      rw [if_neg (by decide), Nat.add_zero] at c84 c46
      have hd : IntKind.i64.wrap (((70 :: rest : List UInt8).count 70 : Nat) - 1 : Int) = (rest.count 70 : Nat) := by rw [wrap_i (by omega)]; omega
      simp (maxSteps := 1000000) (disch := first | omega | rfl | (simp only [zL, two63, room] <;> omega) | fail) only [↓reduceIte, ↓zP, zW, WOp, evOp, evBin, binI, binSh, binS, evNil, keyIs, keyEq, mkv, AV.cells, AV.sc, optv, bnd, env, put, Env.get, Env.set, Env.del, Env.dels, Env.init, res1, resL, resV, fillP, splice, newRow, Nat.reduceEqDiff, Nat.reduceLT, Nat.reduceLeDiff, Nat.reduceAdd, Nat.reduceMul, Nat.reduceSub, Nat.reduceBEq, reduceCtorEq, ↓zR, zQ, Tr, StA, StT, hw1, hw2, es, t31, a1, hd, v1]
      rw [w_loopn (c := lp397_0) rfl]
      simp (maxSteps := 1000000) (disch := first | omega | rfl | (simp only [zL, two63, room] <;> omega) | fail) only [↓reduceIte, ↓zP, zW, WOp, evOp, evBin, binI, binSh, binS, evNil, keyIs, keyEq, mkv, AV.cells, AV.sc, optv, bnd, env, put, Env.get, Env.set, Env.del, Env.dels, Env.init, res1, resL, resV, fillP, splice, newRow, Nat.reduceEqDiff, Nat.reduceLT, Nat.reduceLeDiff, Nat.reduceAdd, Nat.reduceMul, Nat.reduceSub, Nat.reduceBEq, reduceCtorEq, ↓zR, zQ, Tr, StA, StT]
      refine fin _ (hpS _) (by simpa using hlt2) ?_
      rw [hset, c46, c84]
end Go.Proofs.YtejhhdpfndiliaaGreatDoor.Ab
