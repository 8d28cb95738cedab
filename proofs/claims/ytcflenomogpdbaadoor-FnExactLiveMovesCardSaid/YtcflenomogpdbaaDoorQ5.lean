/- The proof that the law FnExactLiveMoves of the given program returns true for every input; the condition: the tables that the row lists are laid as the program's text lays them. -/
import Derived.Test.YtcflenomogpdbaaDoorCards
import Derived.Test.YtcflenomogpdbaaDoorTie
import Derived.OpenShut
import Derived.Deep.DeepHandedRow
import Derived.Lib.LaidTab
import Derived.Test.YtcflenomogpdbaaDoorQ4
set_option linter.unusedSimpArgs false
set_option linter.unusedVariables false
/- EXCHANGES of the reference: layers of live lines. -/
namespace Go.Proofs.YtcflenomogpdbaaDoor.Ab
open Go
set_option maxRecDepth 100000
set_option maxHeartbeats 4000000

theorem lp_hasS {v : AV} {L : List Ln} (hL : L.length < 2 ^ 40) {h : AH} (hs : Slc 1 encS h v L) (x : Ln) {R : X → Env → AH → Prop} : ∀ (rest pre : List Ln), L = pre ++ rest → (x ∈ rest → R .ret [(4, .bool true)] h) → (x ∉ rest → R (.exit 0) [] h) →
    Cx (.loop lp243_0) [(1, .str x), (7, v), (8, .int .i64 L.length), (9, .int .i64 pre.length)] h R k k
  | [], pre, hpre, h1, h2 => by
    subst hpre
    rw [w_loopb (c := lp243_0) (d := lb243_0) rfl]; unfold lb243_0
    simp only [List.append_nil]
    simp (maxSteps := 1000000) (disch := first | omega | rfl | (simp only [zL, two63, room] <;> omega) | fail) only [↓reduceIte, ↓zP, zW, WOp, evOp, evBin, binI, binSh, binS, evNil, keyIs, keyEq, mkv, AV.cells, AV.sc, optv, bnd, env, put, Env.get, Env.set, Env.del, Env.dels, Env.init, res1, resL, resV, fillP, splice, newRow, Nat.reduceEqDiff, Nat.reduceLT, Nat.reduceLeDiff, Nat.reduceAdd, Nat.reduceMul, Nat.reduceSub, Nat.reduceBEq, reduceCtorEq, ↓zR, zQ, Tr, StA, StT]
    exact h2 (by simp)
  | y :: rest, pre, hpre, h1, h2 => by
    have ih := lp_hasS hL hs x (R := R) rest (pre ++ [y])
    subst hpre
    obtain ⟨c, kk, off, rfl, hr⟩ := hs.at hlS
    have hlen : (pre ++ y :: rest).length = pre.length + 1 + rest.length := by simp; omega
    rw [hlen] at ih hL ⊢
    have hlt : (pre.length : Int) < ((pre.length + 1 + rest.length : Nat) : Int) := by omega
    have hw1 : (pre.length : Int) + 1 = ((pre ++ [y]).length : Int) := by simp
    rw [w_loopb (c := lp243_0) (d := lb243_0) rfl]; unfold lb243_0
    cases e : (y == x)
    · have hne : ¬ x = y := fun h => by subst h; simp at e
      simp (maxSteps := 1000000) (disch := first | omega | rfl | (simp only [zL, two63, room] <;> omega) | fail) only [↓reduceIte, ↓zP, zW, WOp, evOp, evBin, binI, binSh, binS, evNil, keyIs, keyEq, mkv, AV.cells, AV.sc, optv, bnd, env, put, Env.get, Env.set, Env.del, Env.dels, Env.init, res1, resL, resV, fillP, splice, newRow, Nat.reduceEqDiff, Nat.reduceLT, Nat.reduceLeDiff, Nat.reduceAdd, Nat.reduceMul, Nat.reduceSub, Nat.reduceBEq, reduceCtorEq, ↓zR, zQ, Tr, StA, StT, hlt, hr, e, hw1]
      rw [w_loopn (c := lp243_0) rfl]
      simp (maxSteps := 1000000) (disch := first | omega | rfl | (simp only [zL, two63, room] <;> omega) | fail) only [↓reduceIte, ↓zP, zW, WOp, evOp, evBin, binI, binSh, binS, evNil, keyIs, keyEq, mkv, AV.cells, AV.sc, optv, bnd, env, put, Env.get, Env.set, Env.del, Env.dels, Env.init, res1, resL, resV, fillP, splice, newRow, Nat.reduceEqDiff, Nat.reduceLT, Nat.reduceLeDiff, Nat.reduceAdd, Nat.reduceMul, Nat.reduceSub, Nat.reduceBEq, reduceCtorEq, ↓zR, zQ, Tr, StA, StT]
      exact ih (by simp) (fun hx => h1 (by simp [hx])) fun hx => h2 (by simp [hx, hne])
    · have he : y = x := by simpa using e
      simp (maxSteps := 1000000) (disch := first | omega | rfl | (simp only [zL, two63, room] <;> omega) | fail) only [↓reduceIte, ↓zP, zW, WOp, evOp, evBin, binI, binSh, binS, evNil, keyIs, keyEq, mkv, AV.cells, AV.sc, optv, bnd, env, put, Env.get, Env.set, Env.del, Env.dels, Env.init, res1, resL, resV, fillP, splice, newRow, Nat.reduceEqDiff, Nat.reduceLT, Nat.reduceLeDiff, Nat.reduceAdd, Nat.reduceMul, Nat.reduceSub, Nat.reduceBEq, reduceCtorEq, ↓zR, zQ, Tr, StA, StT, hlt, hr, e]
      exact h1 (by simp [he])
theorem c_hasS {v : AV} {L : List Ln} (hL : L.length < 2 ^ 40) {h : AH} (hs : Slc 1 encS h v L) (x : Ln) {post : AV → AH → Prop} (hp : post (.bool (decide (x ∈ L))) h) : S 243 [v, .str x] h post k := by
  refine S_of rfl T243 ?_; unfold fi243
  have hv := fun g => Slc.lenV (hs) (g := g) (ρ := fun _ => _) (x := .t 0) rfl; simp only [evOp] at hv
  simp (maxSteps := 1000000) (disch := first | omega | rfl | (simp only [zL, two63, room] <;> omega) | fail) only [↓reduceIte, ↓zP, zW, WOp, evOp, evBin, binI, binSh, binS, evNil, keyIs, keyEq, mkv, AV.cells, AV.sc, optv, bnd, env, put, Env.get, Env.set, Env.del, Env.dels, Env.init, res1, resL, resV, fillP, splice, newRow, Nat.reduceEqDiff, Nat.reduceLT, Nat.reduceLeDiff, Nat.reduceAdd, Nat.reduceMul, Nat.reduceSub, Nat.reduceBEq, reduceCtorEq, ↓zR, zQ, Tr, StA, StT, hv]
  refine lp_hasS hL hs x L [] rfl ?_ ?_
  · intro hx
    simp (maxSteps := 1000000) (disch := first | omega | rfl | (simp only [zL, two63, room] <;> omega) | fail) only [↓reduceIte, ↓zP, zW, WOp, evOp, evBin, binI, binSh, binS, evNil, keyIs, keyEq, mkv, AV.cells, AV.sc, optv, bnd, env, put, Env.get, Env.set, Env.del, Env.dels, Env.init, res1, resL, resV, fillP, splice, newRow, Nat.reduceEqDiff, Nat.reduceLT, Nat.reduceLeDiff, Nat.reduceAdd, Nat.reduceMul, Nat.reduceSub, Nat.reduceBEq, reduceCtorEq, ↓zR, zQ, Tr, StA, StT]
    simpa [hx] using hp
  · intro hx
    simp (maxSteps := 1000000) (disch := first | omega | rfl | (simp only [zL, two63, room] <;> omega) | fail) only [↓reduceIte, ↓zP, zW, WOp, evOp, evBin, binI, binSh, binS, evNil, keyIs, keyEq, mkv, AV.cells, AV.sc, optv, bnd, env, put, Env.get, Env.set, Env.del, Env.dels, Env.init, res1, resL, resV, fillP, splice, newRow, Nat.reduceEqDiff, Nat.reduceLT, Nat.reduceLeDiff, Nat.reduceAdd, Nat.reduceMul, Nat.reduceSub, Nat.reduceBEq, reduceCtorEq, ↓zR, zQ, Tr, StA, StT]
    simpa [hx] using hp

/-! ### What is not touched by asking -/
def NG (c : Nat) (h : AH) (v : AV) : Prop := ∀ r, rowOf v = some r → ¬ gr c h r
theorem KW.keep {gl : Ln} {c : Nat} {h h' : AH} {K : List Ln} (hk : KW gl c h K) (he : ∀ i, gr c h i → h'[i]? = h[i]?) : KW gl c h' K := by
  have hc := he c (.inl rfl)
  obtain ⟨v1, v2, W, h1, h2, h3, h4⟩ := hk
  exact ⟨v1, v2, W, by rw [hc]; exact h1, own_row h2 fun r hr => he r (.inr ⟨v1, v2, h1, .inl hr⟩), own_row h3 fun r hr => he r (.inr ⟨v1, v2, h1, .inr hr⟩), h4⟩
theorem gr_keep {c : Nat} {h h' : AH} (hc : h'[c]? = h[c]?) (i : Nat) : gr c h' i ↔ gr c h i := by unfold gr; rw [hc]
theorem NG.fr {c : Nat} {h h' : AH} {v : AV} (hn : NG c h v) (hf : FrG c h h') (hl : ∀ r, rowOf v = some r → r < h.length) : NG c h' v := fun r hr => (hf.2 r (hl r hr) (hn r hr)).2
theorem own_fr {α : Type} {esz : Nat} {enc : α → List AV} {c : Nat} {b h h' : AH} {v : AV} {L : List α} (ho : OwL esz enc b h v L) (hn : NG c h v) (hf : FrG c h h') : OwL esz enc b h' v L := own_row ho fun r hr => (hf.2 r (own_lt ho hr) (hn r hr)).1
theorem apG {α : Type} {esz : Nat} {enc : α → List AV} (hl : ∀ x, (enc x).length = esz) (hsc : ∀ x, (enc x).all AV.sc = true) {gl : Ln} {c : Nat} {b h0 h : AH} {v : AV} {L : List α} {K : List Ln} (ho : OwL esz enc b h v L) (hb : b.length ≤ h.length) (hng : NG c h v) (hk : KW gl c h K) (hL : L.length + 1 ≤ 1099511627776) (x : α) :
    ∃ v' h', apRow h esz v 1 (enc x) = some (v', h') ∧ OwL esz enc b h' v' (L ++ [x]) ∧ NG c h' v' ∧ KW gl c h' K ∧ h.length ≤ h'.length ∧ (∀ i, i < h.length → rowOf v ≠ some i → h'[i]? = h[i]?) ∧ (∀ r, rowOf v' = some r → rowOf v = some r ∨ r = h.length) ∧ ∀ i, gr c h' i ↔ gr c h i := by
  obtain ⟨v', h', ha, ho', _⟩ := apA hl hsc ho hb x hL
  obtain ⟨f1, f2, f3⟩ := apRow_fr ha
  have hg : ∀ i, gr c h i → h'[i]? = h[i]? := fun i hi => f1 i (hk.gr_lt hi) fun e => hng i e hi
  have hgr := gr_keep (h := h) (h' := h') (hg c (.inl rfl))
  refine ⟨v', h', ha, ho', fun r hr hgr' => ?_, hk.keep hg, f2, f1, f3, hgr⟩
  rw [hgr] at hgr'
  rcases f3 r hr with h1 | h1
  · exact hng r h1 hgr'
  · have := hk.gr_lt hgr'; omega

def GoodW (gl : Ln) (A : List Ln) : Prop := A.Nodup ∧ ∀ x ∈ A, OkW gl x
theorem GoodW.few {gl : Ln} {A : List Ln} (h : GoodW gl A) : A.length ≤ 6561 := by
  obtain ⟨hnd, hok⟩ := h
  by_cases hK : A = []
  · subst hK; simp
  obtain ⟨x0, l, rfl⟩ := List.exists_cons_of_ne_nil hK
  have h8 := (hok x0 (by simp)).2.2.2
  have := nodup_bound (A := [46, 70, 84]) (n := gl.length) hnd (fun x hx => ⟨(hok x hx).2.2.1, fun b hb => by
    have := List.all_eq_true.1 (hok x hx).2.1 b hb
    unfold isSign at this
    simp at this ⊢
    rcases this with h | h
    · rcases h with h | h <;> simp [h]
    · simp [h]⟩)
  exact Nat.le_trans this (Nat.le_trans (Nat.pow_le_pow_right (by simp) h8) (by decide))
theorem GoodW.add {gl : Ln} {A : List Ln} (h : GoodW gl A) {v : Ln} (hv : OkW gl v) : GoodW gl (swAdd gl A v) := ⟨swAdd_nodup h.1 v, fun x hx => by
  rcases (swAdd_mem gl A v x).1 hx with h1 | ⟨rfl, _⟩
  · exact h.2 x h1
  · exact hv⟩
theorem GoodW.nil {gl : Ln} : GoodW gl [] := ⟨List.nodup_nil, fun x hx => by simp at hx⟩
theorem OkW.nx {gl w v : Ln} (ho : OkW gl w) (h : v ∈ nx w) : OkW gl v := by
  obtain ⟨i, t, _, hm, rfl⟩ := nextB_mv h
  exact ho.made hm
theorem GoodW.all {gl : Ln} : ∀ (l : List Ln) {A : List Ln}, GoodW gl A → (∀ x ∈ l, OkW gl x) → GoodW gl (swAll gl A l)
  | [], _, h, _ => h
  | v :: l, _, h, hl => GoodW.all l (h.add (hl v (by simp))) fun x hx => hl x (by simp [hx])
theorem lv_good {gl w : Ln} (hw : OkW gl w) : ∀ j, GoodW gl (lv gl w j)
  | 0 => ⟨by simp [lv], fun x hx => by simp only [lv, List.mem_singleton] at hx; subst hx; exact hw⟩
  | j + 1 => GoodW.all _ GoodW.nil fun x hx => by
    obtain ⟨u, hu, hv⟩ := List.mem_flatMap.1 hx
    exact ((lv_good hw j).2 u hu).nx hv
/-- The steps of a round: what was there at its start stays, but for what is known. -/
structure SwI (gl : Ln) (c : Nat) (h0 : AH) (A : List Ln) (v : AV) (h : AH) : Prop where
  ow : OwL 1 encS h0 h v A
  ng : NG c h v
  fr : FrG c h0 h
  kn : ∃ K, KW gl c h K
  gd : GoodW gl A
theorem SwI.pre {gl : Ln} {c : Nat} {h0 h h' : AH} {A : List Ln} {v : AV} (s : SwI gl c h0 A v h) (hp : Pre h h') : SwI gl c h0 A v h' := by
  obtain ⟨K, hk⟩ := s.kn
  have hfr := hp.frg hk.lt
  exact ⟨s.ow.pre hp, s.ng.fr hfr fun r hr => own_lt s.ow hr, s.fr.trans hfr, ⟨K, hk.pre hp⟩, s.gd⟩
theorem SwI.frg {gl : Ln} {c : Nat} {h0 h h' : AH} {A : List Ln} {v : AV} (s : SwI gl c h0 A v h) (hf : FrG c h h') (hk : ∃ K, KW gl c h' K) : SwI gl c h0 A v h' :=
  ⟨own_fr s.ow s.ng hf, s.ng.fr hf fun r hr => own_lt s.ow hr, s.fr.trans hf, hk, s.gd⟩
theorem SwI.app {gl : Ln} {c : Nat} {h0 h : AH} {A : List Ln} {v : AV} (s : SwI gl c h0 A v h) {x : Ln} (hx : OkW gl x) (hc : 0 < cE gl x) (hn : x ∉ A) : ∃ v' h', apRow h 1 v 1 [.str x] = some (v', h') ∧ SwI gl c h0 (swAdd gl A x) v' h' ∧ (∀ i, i < h.length → rowOf v ≠ some i → h'[i]? = h[i]?) ∧ (∀ r, rowOf v' = some r → rowOf v = some r ∨ r = h.length) ∧ ∀ i, gr c h' i ↔ gr c h i := by
  obtain ⟨K, hk⟩ := s.kn
  obtain ⟨v', h', ha, ho, hng, hk', hl, f1, f3, hgr⟩ := apG hlS scS (h0 := h0) s.ow s.fr.1 s.ng hk (by have := s.gd.few; omega) x
  have e : swAdd gl A x = A ++ [x] := by unfold swAdd; rw [if_pos ⟨hc, hn⟩]
  refine ⟨v', h', ha, ⟨?_, hng, ⟨Nat.le_trans s.fr.1 hl, fun i hi hg => ?_⟩, ⟨K, hk'⟩, s.gd.add hx⟩, f1, f3, hgr⟩
  · rw [e]; exact ho
  · obtain ⟨h1, h2⟩ := s.fr.2 i hi hg
    have hvi : rowOf v ≠ some i := fun e => by have := own_ge s.ow e; omega
    exact ⟨by rw [f1 i (Nat.lt_of_lt_of_le hi s.fr.1) hvi, h1], fun hg' => h2 ((hgr i).1 hg')⟩

theorem lp_sw2 {gl : Ln} {c : Nat} {w : Ln} (hok : OkW gl w) {t6 t22 t23 t24 vm : AV} {h0 : AH} {R : X → Env → AH → Prop} :
    ∀ (mr mp : List (Int × Int)) (A : List Ln) (v : AV) (h : AH), movesB w [84, 70] = mp ++ mr → SwI gl c h0 A v h → SlcG 2 encM c h vm (movesB w [84, 70]) → (∀ r, rowOf vm = some r → rowOf v ≠ some r) →
    (∀ v' h', SwI gl c h0 (swAll gl A (mr.map (mkM w))) v' h' → FrG c h0 h' → R (.exit 4) [(0, .ptr c 0 0 2), (6, t6), (7, v'), (22, t22), (23, t23), (24, t24)] h') →
    Cx (.loop lp250_2) [(0, .ptr c 0 0 2), (6, t6), (7, v), (9, .str w), (22, t22), (23, t23), (24, t24), (29, vm), (30, .int .i64 (movesB w [84, 70]).length), (31, .int .i64 mp.length)] h R k k
  | [], mp, A, v, h, hmp, hs, hsm, hd0, hR => by
    have hl : (movesB w [84, 70]).length = mp.length := by rw [hmp]; simp
    rw [w_loopb (c := lp250_2) (d := lb250_2) rfl]; unfold lb250_2
    rw [hl]
    simp (maxSteps := 1000000) (disch := first | omega | rfl | (simp only [zL, two63, room] <;> omega) | fail) only [↓reduceIte, ↓zP, zW, WOp, evOp, evBin, binI, binSh, binS, evNil, keyIs, keyEq, mkv, AV.cells, AV.sc, optv, bnd, env, put, Env.get, Env.set, Env.del, Env.dels, Env.init, res1, resL, resV, fillP, splice, newRow, Nat.reduceEqDiff, Nat.reduceLT, Nat.reduceLeDiff, Nat.reduceAdd, Nat.reduceMul, Nat.reduceSub, Nat.reduceBEq, reduceCtorEq, ↓zR, zQ, Tr, StA, StT]
    exact hR v h hs hs.fr
  | m :: mr, mp, A, v, h, hmp, hs, hsm, hd0, hR => by
    have ih := lp_sw2 hok (c := c) (t6 := t6) (t22 := t22) (t23 := t23) (t24 := t24) (vm := vm) (h0 := h0) (R := R) mr (mp ++ [m])
    have hmm : m ∈ movesB w [84, 70] := by rw [hmp]; simp
    have hml : (movesB w [84, 70]).length = mp.length + 1 + mr.length := by rw [hmp]; simp; omega
    have hsm' := hsm.1
    rw [hmp] at hsm'
    obtain ⟨r1, k1, o1, hv1, hr⟩ := hsm'.at hlM
    rw [← hmp, hml] at hv1
    obtain ⟨i, t', rfl, hmv⟩ := movesB_mv hmm
    subst hv1
    rw [hml] at ih ⊢
    have hbd := movesB_len w [84, 70]
    have hwl : w.length ≤ 8 := by rw [hok.2.2.1]; exact hok.2.2.2
    have hlt : (mp.length : Int) < ((mp.length + 1 + mr.length : Nat) : Int) := by omega
    have hw1 : (mp.length : Int) + 1 = ((mp ++ [((i : Int), (t' : Int))]).length : Int) := by simp
    have hmk : mkM w ((i : Int), (t' : Int)) = madeB w i t' := rfl
    have hokm := hok.made hmv
    rw [List.map_cons, swAll_cons, hmk] at hR
    rw [w_loopb (c := lp250_2) (d := lb250_2) rfl]; unfold lb250_2
    simp (maxSteps := 1000000) (disch := first | omega | rfl | (simp only [zL, two63, room] <;> omega) | fail) only [↓reduceIte, ↓zP, zW, WOp, evOp, evBin, binI, binSh, binS, evNil, keyIs, keyEq, mkv, AV.cells, AV.sc, optv, bnd, env, put, Env.get, Env.set, Env.del, Env.dels, Env.init, res1, resL, resV, fillP, splice, newRow, Nat.reduceEqDiff, Nat.reduceLT, Nat.reduceLeDiff, Nat.reduceAdd, Nat.reduceMul, Nat.reduceSub, Nat.reduceBEq, reduceCtorEq, ↓zR, zQ, Tr, StA, StT, hlt, hr]
    refine c_liMake w i t' hmv.fst hmv.snd hmv.ne (by omega) ?_
    intro h2 hp2
    have hp1 := (Pre.push h (AO.row (encM ((i : Int), (t' : Int))) 0 0 false)).trans hp2
    obtain ⟨K, hk⟩ := hs.kn
    have hf1 := hp1.frg (c := c) hk.lt
    simp (maxSteps := 1000000) (disch := first | omega | rfl | (simp only [zL, two63, room] <;> omega) | fail) only [↓reduceIte, ↓zP, zW, WOp, evOp, evBin, binI, binSh, binS, evNil, keyIs, keyEq, mkv, AV.cells, AV.sc, optv, bnd, env, put, Env.get, Env.set, Env.del, Env.dels, Env.init, res1, resL, resV, fillP, splice, newRow, Nat.reduceEqDiff, Nat.reduceLT, Nat.reduceLeDiff, Nat.reduceAdd, Nat.reduceMul, Nat.reduceSub, Nat.reduceBEq, reduceCtorEq, ↓zR, zQ, Tr, StA, StT]
    refine c_efrom gl _ (madeB w i t') c h2 K (Nat.lt_succ_self _) hokm (hk.pre hp1) _ ?_
    intro h3 K3 hf3 hk3 _
    have hf13 := hf1.trans hf3
    have hs3 := hs.frg hf13 ⟨K3, hk3⟩
    have hsm3 := hsm.fr hf13
    have hfew := hs3.gd.few
    by_cases hpos : 0 < cE gl (madeB w i t')
    · have hpi : ((cE gl (madeB w i t') : Nat) : Int) > 0 := by omega
      simp (maxSteps := 1000000) (disch := first | omega | rfl | (simp only [zL, two63, room] <;> omega) | fail) only [↓reduceIte, ↓zP, zW, WOp, evOp, evBin, binI, binSh, binS, evNil, keyIs, keyEq, mkv, AV.cells, AV.sc, optv, bnd, env, put, Env.get, Env.set, Env.del, Env.dels, Env.init, res1, resL, resV, fillP, splice, newRow, Nat.reduceEqDiff, Nat.reduceLT, Nat.reduceLeDiff, Nat.reduceAdd, Nat.reduceMul, Nat.reduceSub, Nat.reduceBEq, reduceCtorEq, ↓zR, zQ, Tr, StA, StT, hpi]
      refine c_hasS (L := A) (by omega) hs3.ow.slc (madeB w i t') ?_
      by_cases hin : madeB w i t' ∈ A
      · have hd : decide (madeB w i t' ∈ A) = true := by simpa using hin
        have e : swAdd gl A (madeB w i t') = A := by unfold swAdd; rw [if_neg (fun hh => hh.2 hin)]
        rw [e] at hR
        simp (maxSteps := 1000000) (disch := first | omega | rfl | (simp only [zL, two63, room] <;> omega) | fail) only [↓reduceIte, ↓zP, zW, WOp, evOp, evBin, binI, binSh, binS, evNil, keyIs, keyEq, mkv, AV.cells, AV.sc, optv, bnd, env, put, Env.get, Env.set, Env.del, Env.dels, Env.init, res1, resL, resV, fillP, splice, newRow, Nat.reduceEqDiff, Nat.reduceLT, Nat.reduceLeDiff, Nat.reduceAdd, Nat.reduceMul, Nat.reduceSub, Nat.reduceBEq, reduceCtorEq, ↓zR, zQ, Tr, StA, StT, hd, hw1]
        rw [w_loopn (c := lp250_2) rfl]
        simp (maxSteps := 1000000) (disch := first | omega | rfl | (simp only [zL, two63, room] <;> omega) | fail) only [↓reduceIte, ↓zP, zW, WOp, evOp, evBin, binI, binSh, binS, evNil, keyIs, keyEq, mkv, AV.cells, AV.sc, optv, bnd, env, put, Env.get, Env.set, Env.del, Env.dels, Env.init, res1, resL, resV, fillP, splice, newRow, Nat.reduceEqDiff, Nat.reduceLT, Nat.reduceLeDiff, Nat.reduceAdd, Nat.reduceMul, Nat.reduceSub, Nat.reduceBEq, reduceCtorEq, ↓zR, zQ, Tr, StA, StT]
        exact ih A v h3 (by rw [hmp]; simp) hs3 hsm3 hd0 hR
      · have hd : decide (madeB w i t' ∈ A) = false := by simpa using hin
        have hpush := Pre.push h3 (AO.row [.str (madeB w i t')] 0 0 false)
        have hs4 := hs3.pre hpush
        have hsm4 := hsm3.fr (hpush.frg (c := c) hk3.lt)
        obtain ⟨v5, h5, ha, hs5, f1, f3, hgr⟩ := hs4.app hokm hpos hin
        have hrl : ∀ r, rowOf (AV.slice r1 k1 o1 (mp.length + 1 + mr.length) 2) = some r → r < h3.length := fun r hr => hsm3.1.lt hr
        simp (maxSteps := 1000000) (disch := first | omega | rfl | (simp only [zL, two63, room] <;> omega) | fail) only [↓reduceIte, ↓zP, zW, WOp, evOp, evBin, binI, binSh, binS, evNil, keyIs, keyEq, mkv, AV.cells, AV.sc, optv, bnd, env, put, Env.get, Env.set, Env.del, Env.dels, Env.init, res1, resL, resV, fillP, splice, newRow, Nat.reduceEqDiff, Nat.reduceLT, Nat.reduceLeDiff, Nat.reduceAdd, Nat.reduceMul, Nat.reduceSub, Nat.reduceBEq, reduceCtorEq, ↓zR, zQ, Tr, StA, StT, hd, ha, hw1]
        rw [w_loopn (c := lp250_2) rfl]
        simp (maxSteps := 1000000) (disch := first | omega | rfl | (simp only [zL, two63, room] <;> omega) | fail) only [↓reduceIte, ↓zP, zW, WOp, evOp, evBin, binI, binSh, binS, evNil, keyIs, keyEq, mkv, AV.cells, AV.sc, optv, bnd, env, put, Env.get, Env.set, Env.del, Env.dels, Env.init, res1, resL, resV, fillP, splice, newRow, Nat.reduceEqDiff, Nat.reduceLT, Nat.reduceLeDiff, Nat.reduceAdd, Nat.reduceMul, Nat.reduceSub, Nat.reduceBEq, reduceCtorEq, ↓zR, zQ, Tr, StA, StT]
        refine ih _ v5 h5 (by rw [hmp]; simp) hs5 ⟨hsm4.1.stay fun r hr => f1 r (Nat.lt_of_lt_of_le (hrl r hr) hpush.1) (hd0 r hr), fun r hr hg => hsm4.2 r hr ((hgr r).1 hg)⟩ ?_ hR
        intro r hr e
        rcases f3 r e with h6 | h6
        · exact hd0 r hr h6
        · have := hrl r hr
          have := hpush.1
          omega
    · have hpi : ¬ ((cE gl (madeB w i t') : Nat) : Int) > 0 := by omega
      have e : swAdd gl A (madeB w i t') = A := by unfold swAdd; rw [if_neg (fun hh => hpos hh.1)]
      rw [e] at hR
      simp (maxSteps := 1000000) (disch := first | omega | rfl | (simp only [zL, two63, room] <;> omega) | fail) only [↓reduceIte, ↓zP, zW, WOp, evOp, evBin, binI, binSh, binS, evNil, keyIs, keyEq, mkv, AV.cells, AV.sc, optv, bnd, env, put, Env.get, Env.set, Env.del, Env.dels, Env.init, res1, resL, resV, fillP, splice, newRow, Nat.reduceEqDiff, Nat.reduceLT, Nat.reduceLeDiff, Nat.reduceAdd, Nat.reduceMul, Nat.reduceSub, Nat.reduceBEq, reduceCtorEq, ↓zR, zQ, Tr, StA, StT, hpi, hw1]
      rw [w_loopn (c := lp250_2) rfl]
      simp (maxSteps := 1000000) (disch := first | omega | rfl | (simp only [zL, two63, room] <;> omega) | fail) only [↓reduceIte, ↓zP, zW, WOp, evOp, evBin, binI, binSh, binS, evNil, keyIs, keyEq, mkv, AV.cells, AV.sc, optv, bnd, env, put, Env.get, Env.set, Env.del, Env.dels, Env.init, res1, resL, resV, fillP, splice, newRow, Nat.reduceEqDiff, Nat.reduceLT, Nat.reduceLeDiff, Nat.reduceAdd, Nat.reduceMul, Nat.reduceSub, Nat.reduceBEq, reduceCtorEq, ↓zR, zQ, Tr, StA, StT]
      exact ih A v h3 (by rw [hmp]; simp) hs3 hsm3 hd0 hR

theorem lp_sw1 {gl : Ln} {c : Nat} {t6 tl : AV} {L : List Ln} (hL : GoodW gl L) {h0 : AH} (hsl : SlcG 1 encS c h0 tl L) {R : X → Env → AH → Prop} :
    ∀ (rest pre : List Ln) (A : List Ln) (v : AV) (h : AH), L = pre ++ rest → SwI gl c h0 A v h →
    (∀ v' h', SwI gl c h0 (swAll gl A (rest.flatMap nx)) v' h' → R (.exit 2) [(0, .ptr c 0 0 2), (6, t6), (7, v')] h') →
    Cx (.loop lp250_1) [(0, .ptr c 0 0 2), (6, t6), (7, v), (22, tl), (23, .int .i64 L.length), (24, .int .i64 pre.length)] h R k k
  | [], pre, A, v, h, hpre, hs, hR => by
    have hl : L.length = pre.length := by rw [hpre]; simp
    rw [w_loopb (c := lp250_1) (d := lb250_1) rfl]; unfold lb250_1
    rw [hl]
    simp (maxSteps := 1000000) (disch := first | omega | rfl | (simp only [zL, two63, room] <;> omega) | fail) only [↓reduceIte, ↓zP, zW, WOp, evOp, evBin, binI, binSh, binS, evNil, keyIs, keyEq, mkv, AV.cells, AV.sc, optv, bnd, env, put, Env.get, Env.set, Env.del, Env.dels, Env.init, res1, resL, resV, fillP, splice, newRow, Nat.reduceEqDiff, Nat.reduceLT, Nat.reduceLeDiff, Nat.reduceAdd, Nat.reduceMul, Nat.reduceSub, Nat.reduceBEq, reduceCtorEq, ↓zR, zQ, Tr, StA, StT]
    exact hR v h hs
  | w :: rest, pre, A, v, h, hpre, hs, hR => by
    have ih := lp_sw1 hL hsl (t6 := t6) (R := R) rest (pre ++ [w])
    have hml : L.length = pre.length + 1 + rest.length := by rw [hpre]; simp; omega
    have hok := hL.2 w (by rw [hpre]; simp)
    have hwl : w.length ≤ 8 := by rw [hok.2.2.1]; exact hok.2.2.2
    have hsl' := (hsl.fr hs.fr).1
    rw [hpre] at hsl'
    obtain ⟨r1, k1, o1, hv1, hr⟩ := hsl'.at hlS
    rw [← hpre, hml] at hv1
    subst hv1
    have hbd := hL.few
    rw [hml] at ih hbd ⊢
    have hlt : (pre.length : Int) < ((pre.length + 1 + rest.length : Nat) : Int) := by omega
    have hw1 : (pre.length : Int) + 1 = ((pre ++ [w]).length : Int) := by simp
    obtain ⟨K, hk⟩ := hs.kn
    have hmb := movesB_len w [84, 70]
    rw [w_loopb (c := lp250_1) (d := lb250_1) rfl]; unfold lb250_1
    simp (maxSteps := 1000000) (disch := first | omega | rfl | (simp only [zL, two63, room] <;> omega) | fail) only [↓reduceIte, ↓zP, zW, WOp, evOp, evBin, binI, binSh, binS, evNil, keyIs, keyEq, mkv, AV.cells, AV.sc, optv, bnd, env, put, Env.get, Env.set, Env.del, Env.dels, Env.init, res1, resL, resV, fillP, splice, newRow, Nat.reduceEqDiff, Nat.reduceLT, Nat.reduceLeDiff, Nat.reduceAdd, Nat.reduceMul, Nat.reduceSub, Nat.reduceBEq, reduceCtorEq, ↓zR, zQ, Tr, StA, StT, hlt, hr]
    refine c_liMoves w hok.2.1 (by omega) true true ?_
    intro vm h2 ho2 hp2
    rw [liM_eq] at ho2
    have hvm := fun g => Slc.lenV (ho2.slc) (g := g) (ρ := fun _ => _) (x := .t 0) rfl; simp only [evOp] at hvm
    simp (maxSteps := 1000000) (disch := first | omega | rfl | (simp only [zL, two63, room] <;> omega) | fail) only [↓reduceIte, ↓zP, zW, WOp, evOp, evBin, binI, binSh, binS, evNil, keyIs, keyEq, mkv, AV.cells, AV.sc, optv, bnd, env, put, Env.get, Env.set, Env.del, Env.dels, Env.init, res1, resL, resV, fillP, splice, newRow, Nat.reduceEqDiff, Nat.reduceLT, Nat.reduceLeDiff, Nat.reduceAdd, Nat.reduceMul, Nat.reduceSub, Nat.reduceBEq, reduceCtorEq, ↓zR, zQ, Tr, StA, StT, hvm]
    refine lp_sw2 hok (movesB w [84, 70]) [] A v h2 rfl (hs.pre hp2) (ho2.slcW hk hp2) (fun r hr e => ?_) ?_
    · have h1 := own_ge ho2 hr
      have h3 := own_lt hs.ow e
      omega
    intro v3 h3 hs3 hf3
    simp (maxSteps := 1000000) (disch := first | omega | rfl | (simp only [zL, two63, room] <;> omega) | fail) only [↓reduceIte, ↓zP, zW, WOp, evOp, evBin, binI, binSh, binS, evNil, keyIs, keyEq, mkv, AV.cells, AV.sc, optv, bnd, env, put, Env.get, Env.set, Env.del, Env.dels, Env.init, res1, resL, resV, fillP, splice, newRow, Nat.reduceEqDiff, Nat.reduceLT, Nat.reduceLeDiff, Nat.reduceAdd, Nat.reduceMul, Nat.reduceSub, Nat.reduceBEq, reduceCtorEq, ↓zR, zQ, Tr, StA, StT, hw1]
    rw [w_loopn (c := lp250_1) rfl]
    simp (maxSteps := 1000000) (disch := first | omega | rfl | (simp only [zL, two63, room] <;> omega) | fail) only [↓reduceIte, ↓zP, zW, WOp, evOp, evBin, binI, binSh, binS, evNil, keyIs, keyEq, mkv, AV.cells, AV.sc, optv, bnd, env, put, Env.get, Env.set, Env.del, Env.dels, Env.init, res1, resL, resV, fillP, splice, newRow, Nat.reduceEqDiff, Nat.reduceLT, Nat.reduceLeDiff, Nat.reduceAdd, Nat.reduceMul, Nat.reduceSub, Nat.reduceBEq, reduceCtorEq, ↓zR, zQ, Tr, StA, StT]
    refine ih _ v3 h3 (by rw [hpre]; simp) hs3 ?_
    intro v' h' hs'
    refine hR v' h' ?_
    rw [List.flatMap_cons, swAll_app]
    exact hs'
theorem LL.fr {c : Nat} {h h' : AH} {o : AV} {vs : List SV} {Ls : List (List Ln)} (hl : LL h o vs Ls) (hn : ∀ x ∈ vs, NG c h x.1) (hf : FrG c h h') : LL h' o vs Ls :=
  ⟨hl.1, fun i v L h1 h2 => ⟨(hl.2 i v L h1 h2).1.stay fun r hr => (hf.2 r ((hl.2 i v L h1 h2).1.lt hr) (hn v (List.mem_of_getElem? h1) r hr)).1, (hl.2 i v L h1 h2).2⟩⟩
structure SwO (gl w : Ln) (c : Nat) (b : AH) (j : Nat) (now o : AV) (vs : List SV) (h : AH) : Prop where
  ow : OwL 1 encV b h o vs
  ng : NG c h o
  ll : LL h o vs (lvs gl w j)
  nv : ∀ x ∈ vs, NG c h x.1
  sl : SlcG 1 encS c h now (lv gl w j)
  dj : ∀ r, rowOf now = some r → rowOf o ≠ some r
  kn : ∃ K, KW gl c h K
  fr : FrG c b h
theorem lp_sw0 {gl w : Ln} (hok : OkW gl w) {c : Nat} {b : AH} {R : X → Env → AH → Prop} :
    ∀ (d j : Nat) (now o : AV) (vs : List SV) (h : AH), j + d = mu w + 1 → SwO gl w c b j now o vs h →
    (∀ o' h' vs' N, lv gl w N = [] → N ≤ mu w + 1 → (∃ now', SwO gl w c b N now' o' vs' h') → R (.exit 0) [(6, o')] h') →
    Cx (.loop lp250_0) [(0, .ptr c 0 0 2), (5, now), (6, o)] h R k k := by
  have hwl : w.length ≤ 8 := by rw [hok.2.2.1]; exact hok.2.2.2
  have hmu := mu_le w (by omega)
  have stop : ∀ (j : Nat) (now o : AV) (vs : List SV) (h : AH), j ≤ mu w + 1 → lv gl w j = [] → SwO gl w c b j now o vs h → (∀ o' h' vs' N, lv gl w N = [] → N ≤ mu w + 1 → (∃ now', SwO gl w c b N now' o' vs' h') → R (.exit 0) [(6, o')] h') →
      Cx (.loop lp250_0) [(0, .ptr c 0 0 2), (5, now), (6, o)] h R k k := by
    intro j now o vs h hj he hs hR
    have hsl := hs.sl.1
    rw [he] at hsl
    have hv := fun g => Slc.lenV (hsl) (g := g) (ρ := fun _ => _) (x := .t 0) rfl; simp only [evOp] at hv
    have z : ¬ ((([] : List Ln).length : Int) > 0) := by simp
    rw [w_loopb (c := lp250_0) (d := lb250_0) rfl]; unfold lb250_0
    simp (maxSteps := 1000000) (disch := first | omega | rfl | (simp only [zL, two63, room] <;> omega) | fail) only [↓reduceIte, ↓zP, zW, WOp, evOp, evBin, binI, binSh, binS, evNil, keyIs, keyEq, mkv, AV.cells, AV.sc, optv, bnd, env, put, Env.get, Env.set, Env.del, Env.dels, Env.init, res1, resL, resV, fillP, splice, newRow, Nat.reduceEqDiff, Nat.reduceLT, Nat.reduceLeDiff, Nat.reduceAdd, Nat.reduceMul, Nat.reduceSub, Nat.reduceBEq, reduceCtorEq, ↓zR, zQ, Tr, StA, StT, hv, z]
    exact hR o h vs j he hj ⟨now, hs⟩
  intro d
  induction d with
  | zero =>
    intro j now o vs h hj hs hR
    exact stop j now o vs h (by omega) (by rw [show j = mu w + 1 by omega]; exact lv_end gl w) hs hR
  | succ d ih =>
    intro j now o vs h hj hs hR
    by_cases he : lv gl w j = []
    · exact stop j now o vs h (by omega) he hs hR
    · have hsl := hs.sl.1
      have hgd := lv_good hok j
      have hfew := hgd.few
      have hv := fun g => Slc.lenV (hsl) (g := g) (ρ := fun _ => _) (x := .t 0) rfl; simp only [evOp] at hv
      have z : ((lv gl w j).length : Int) > 0 := by
        have : 0 < (lv gl w j).length := List.length_pos_iff.2 he
        omega
      have hsc := (sl_cells hsl).2
      have hce := (sl_cells hsl).1
      simp only [AV.cells] at hce
      have hsc' := hsc
      unfold AV.sc at hsc'
      obtain ⟨K, hk⟩ := hs.kn
      have hlen : vs.length = j := by have := hs.ll.1; simpa [lvs] using this
      have hpx := Pre.push h (AO.row [now] 0 0 false)
      have hfx := hpx.frg (c := c) hk.lt
      obtain ⟨o3, h3, ha, ho3, hng3, hk3, hl3, f1, f3, hgr⟩ := apG hlV scV (h0 := b) (own_fr hs.ow hs.ng hfx) (Nat.le_trans hs.fr.1 hpx.1) (hs.ng.fr hfx fun r hr => own_lt hs.ow hr) (hk.pre hpx) (by omega) ⟨now, hsc⟩
      simp only [encV] at ha
      have hol : ∀ r, rowOf o = some r → r < h.length := fun r hr => own_lt hs.ow hr
      have hsl1 := (hs.sl.fr hfx)
      have hll3 : LL h3 o3 (vs ++ [(⟨now, hsc⟩ : SV)]) (lvs gl w (j + 1)) := by
        rw [lvs_succ]
        exact (hs.ll.fr hs.nv hfx).app hsl1.1 hs.dj f1 (fun r hr => (f3 r hr).imp id fun e => by omega)
      have ngs : ∀ {x : AV} {L : List Ln}, Slc 1 encS h x L → NG c h x → NG c h3 x := fun hx hn r hr hg => hn r hr ((gr_pre hpx hk.lt r).1 ((hgr r).1 hg))
      have hsl3 : SlcG 1 encS c h3 now (lv gl w j) := ⟨hsl1.1.stay fun r hr => f1 r (Nat.lt_of_lt_of_le (hsl.lt hr) hpx.1) (hs.dj r hr), ngs hsl hs.sl.2⟩
      have hnv3 : ∀ x ∈ vs ++ [(⟨now, hsc⟩ : SV)], NG c h3 x.1 := by
        intro x hx
        rcases List.mem_append.1 hx with hx | hx
        · obtain ⟨i, hi⟩ := List.mem_iff_getElem?.1 hx
          have hil := (List.getElem?_eq_some_iff.1 hi).1
          have hL : (lvs gl w j)[i]? = some (lv gl w i) := by unfold lvs; rw [List.getElem?_map, List.getElem?_range (by omega)]; rfl
          exact ngs (hs.ll.2 i x _ hi hL).1 (hs.nv x hx)
        · simp at hx; subst hx; exact ngs hsl hs.sl.2
      have hfr3 : FrG c b h3 := by
        refine ⟨Nat.le_trans hs.fr.1 (Nat.le_trans hpx.1 hl3), fun i hi hg => ?_⟩
        obtain ⟨q1, q2⟩ := hs.fr.2 i hi hg
        have hil : i < h.length := Nat.lt_of_lt_of_le hi hs.fr.1
        have ho : rowOf o ≠ some i := fun e => by have := own_ge hs.ow e; omega
        refine ⟨by rw [f1 i (Nat.lt_of_lt_of_le hil hpx.1) ho, hpx.2 i hil, q1], fun hg' => q2 ((gr_pre hpx hk.lt i).1 ((hgr i).1 hg'))⟩
      rw [w_loopb (c := lp250_0) (d := lb250_0) rfl]; unfold lb250_0
      simp (maxSteps := 1000000) (disch := first | omega | rfl | (simp only [zL, two63, room] <;> omega) | fail) only [↓reduceIte, ↓zP, zW, WOp, evOp, evBin, binI, binSh, binS, evNil, keyIs, keyEq, mkv, AV.cells, AV.sc, optv, bnd, env, put, Env.get, Env.set, Env.del, Env.dels, Env.init, res1, resL, resV, fillP, splice, newRow, Nat.reduceEqDiff, Nat.reduceLT, Nat.reduceLeDiff, Nat.reduceAdd, Nat.reduceMul, Nat.reduceSub, Nat.reduceBEq, reduceCtorEq, ↓zR, zQ, Tr, StA, StT, hv, z, hsc', hce, ha]
      refine lp_sw1 hgd hsl3 (h0 := h3) (lv gl w j) [] [] .nilS h3 rfl ⟨OwL.nil, fun r hr => (by cases hr), FrG.refl _ _, ⟨K, hk3⟩, GoodW.nil⟩ ?_
      intro v' h' hs'
      rw [show swAll gl [] ((lv gl w j).flatMap nx) = lv gl w (j + 1) from rfl] at hs'
      simp (maxSteps := 1000000) (disch := first | omega | rfl | (simp only [zL, two63, room] <;> omega) | fail) only [↓reduceIte, ↓zP, zW, WOp, evOp, evBin, binI, binSh, binS, evNil, keyIs, keyEq, mkv, AV.cells, AV.sc, optv, bnd, env, put, Env.get, Env.set, Env.del, Env.dels, Env.init, res1, resL, resV, fillP, splice, newRow, Nat.reduceEqDiff, Nat.reduceLT, Nat.reduceLeDiff, Nat.reduceAdd, Nat.reduceMul, Nat.reduceSub, Nat.reduceBEq, reduceCtorEq, ↓zR, zQ, Tr, StA, StT]
      rw [w_loopn (c := lp250_0) rfl]
      simp (maxSteps := 1000000) (disch := first | omega | rfl | (simp only [zL, two63, room] <;> omega) | fail) only [↓reduceIte, ↓zP, zW, WOp, evOp, evBin, binI, binSh, binS, evNil, keyIs, keyEq, mkv, AV.cells, AV.sc, optv, bnd, env, put, Env.get, Env.set, Env.del, Env.dels, Env.init, res1, resL, resV, fillP, splice, newRow, Nat.reduceEqDiff, Nat.reduceLT, Nat.reduceLeDiff, Nat.reduceAdd, Nat.reduceMul, Nat.reduceSub, Nat.reduceBEq, reduceCtorEq, ↓zR, zQ, Tr, StA, StT]
      refine ih (j + 1) v' o3 (vs ++ [⟨now, hsc⟩]) h' (by omega) ⟨own_fr ho3 hng3 hs'.fr, hng3.fr hs'.fr fun r hr => own_lt ho3 hr, hll3.fr hnv3 hs'.fr, fun x hx => ?_, ⟨hs'.ow.slc, hs'.ng⟩, fun r hr e => ?_, hs'.kn, hfr3.trans hs'.fr⟩ ?_
      · refine (hnv3 x hx).fr hs'.fr fun r hr => ?_
        obtain ⟨i, hi⟩ := List.mem_iff_getElem?.1 hx
        have hil := (List.getElem?_eq_some_iff.1 hi).1
        have hL : (lvs gl w (j + 1))[i]? = some (lv gl w i) := by unfold lvs; rw [List.getElem?_map, List.getElem?_range (by simp at hil; omega)]; rfl
        exact (hll3.2 i x _ hi hL).1.lt hr
      · have := own_ge hs'.ow hr
        have := own_lt ho3 e
        omega
      · intro o' h2 vs' N q1 q2 q3
        exact hR o' h2 vs' N q1 q2 q3

theorem c_swReach {gl w : Ln} (hok : OkW gl w) {c : Nat} {h : AH} {K : List Ln} (hk : KW gl c h K) {post : AV → AH → Prop}
    (hp : ∀ o h' vs N, lv gl w N = [] → N ≤ 101 → OwL 1 encV h h' o vs → LL h' o vs (lvs gl w N) → NG c h' o → (∀ x ∈ vs, NG c h' x.1) → (∃ K', KW gl c h' K') → FrG c h h' → post o h') : S 250 [.ptr c 0 0 2, .str w] h post k := by
  have hwl : w.length ≤ 8 := by rw [hok.2.2.1]; exact hok.2.2.2
  have hmu := mu_le w (by omega)
  have p1 := Pre.push h (AO.row [.str w] 0 0 false)
  refine S_of rfl T250 ?_; unfold fi250
  simp (maxSteps := 1000000) (disch := first | omega | rfl | (simp only [zL, two63, room] <;> omega) | fail) only [↓reduceIte, ↓zP, zW, WOp, evOp, evBin, binI, binSh, binS, evNil, keyIs, keyEq, mkv, AV.cells, AV.sc, optv, bnd, env, put, Env.get, Env.set, Env.del, Env.dels, Env.init, res1, resL, resV, fillP, splice, newRow, Nat.reduceEqDiff, Nat.reduceLT, Nat.reduceLeDiff, Nat.reduceAdd, Nat.reduceMul, Nat.reduceSub, Nat.reduceBEq, reduceCtorEq, ↓zR, zQ, Tr, StA, StT]
  refine lp_sw0 hok (b := h) (mu w + 1) 0 _ .nilS [] _ (by omega) ⟨OwL.nil, fun r hr => (by cases hr), ⟨rfl, fun i v L h1 h2 => (by simp at h1)⟩, fun x hx => (by simp at hx), ⟨?_, fun r hr => ?_⟩, fun r hr e => (by cases e), ⟨K, hk.pre p1⟩, p1.frg hk.lt⟩ ?_
  · show Slc 1 encS _ _ [w]
    unfold Slc Sl
    refine ⟨rfl, rfl, rfl, ?_⟩
    rw [rd_last, if_pos (by simp)]; rfl
  · simp only [rowOf, Option.some.injEq] at hr
    subst hr
    exact hk.fresh p1 (Nat.le_refl _)
  intro o' h' vs' N h1 h2 ⟨now, hs⟩
  simp (maxSteps := 1000000) (disch := first | omega | rfl | (simp only [zL, two63, room] <;> omega) | fail) only [↓reduceIte, ↓zP, zW, WOp, evOp, evBin, binI, binSh, binS, evNil, keyIs, keyEq, mkv, AV.cells, AV.sc, optv, bnd, env, put, Env.get, Env.set, Env.del, Env.dels, Env.init, res1, resL, resV, fillP, splice, newRow, Nat.reduceEqDiff, Nat.reduceLT, Nat.reduceLeDiff, Nat.reduceAdd, Nat.reduceMul, Nat.reduceSub, Nat.reduceBEq, reduceCtorEq, ↓zR, zQ, Tr, StA, StT]
  exact hp o' h' vs' N h1 (by omega) hs.ow hs.ll hs.ng hs.nv hs.kn hs.fr

/-! ### Live lines -/
theorem counts_ok {w : Ln} : w.count 84 ≤ w.length ∧ w.count 46 ≤ w.length ∧ w.count 70 ≤ w.length := ⟨List.count_le_length, List.count_le_length, List.count_le_length⟩
theorem lnF_count (t g f : Nat) : (lnF t g f).count 84 = t ∧ (lnF t g f).count 46 = g ∧ (lnF t g f).count 70 = f ∧ (lnF t g f).length = t + g + f := by
  unfold lnF
  refine ⟨?_, ?_, ?_, ?_⟩ <;> simp [List.count_append, List.count_replicate] <;> omega
theorem signs_count : ∀ {w : Ln}, w.all isSign = true → w.count 84 + w.count 46 + w.count 70 = w.length
  | [], _ => by simp
  | a :: l, h => by
    simp only [List.all_cons, Bool.and_eq_true] at h
    have ih := signs_count h.2
    have ha : a = 46 ∨ a = 70 ∨ a = 84 := by
      have := h.1
      unfold isSign at this
      simp at this
      rcases this with (h | h) | h <;> simp [h]
    simp only [List.count_cons, List.length_cons]
    rcases ha with rfl | rfl | rfl <;> simp <;> omega
theorem lnF_signs (t g f : Nat) : (lnF t g f).all isSign = true := by
  unfold lnF
  rw [List.all_eq_true]
  intro x hx
  simp only [List.mem_append, List.mem_replicate] at hx
  rcases hx with (⟨_, rfl⟩ | ⟨_, rfl⟩) | ⟨_, rfl⟩ <;> rfl
def firstOf (w : Ln) : Ln := lnF (w.count 84) (w.count 46) (w.count 70)
theorem firstOf_ok {w : Ln} (hg : w.all isSign = true) (hw : w.length ≤ 8) : OkW (lnL w) (firstOf w) ∧ OkW (lnL w) w := by
  have hc := signs_count hg
  obtain ⟨a, b, d, e⟩ := lnF_count (w.count 84) (w.count 46) (w.count 70)
  have hl : (lnL w).length = w.length := by unfold lnL; simp; omega
  refine ⟨⟨?_, lnF_signs _ _ _, ?_, by omega⟩, rfl, hg, hl.symm, by omega⟩
  · unfold firstOf lnL; rw [a, b, d]
  · unfold firstOf; omega
theorem c_swLive {gl : Ln} (t g f : Nat) (hok : OkW gl (lnF t g f)) {c : Nat} {h : AH} {K : List Ln} (hk : KW gl c h K) {post : AV → AH → Prop}
    (hp0 : cE gl (lnF t g f) = 0 → ∀ h', (∃ K', KW gl c h' K') → FrG c h h' → post .nilS h')
    (hp : 0 < cE gl (lnF t g f) → ∀ o h' vs N, lv gl (lnF t g f) N = [] → N ≤ 101 → LL h' o vs (lvs gl (lnF t g f) N) → Slc 1 encV h' o vs → NG c h' o → (∀ x ∈ vs, NG c h' x.1) → (∃ K', KW gl c h' K') → FrG c h h' → post o h') : S 242 [.ptr c 0 0 2, .int .i64 t, .int .i64 g, .int .i64 f] h post k := by
  have hl : t + g + f ≤ 8 := by have := hok.2.2.1; have := hok.2.2.2; have := (lnF_count t g f).2.2.2; omega
  generalize hw : lnF t g f = w at *
  refine S_of rfl T242 ?_; unfold fi242
  simp (maxSteps := 1000000) (disch := first | omega | rfl | (simp only [zL, two63, room] <;> omega) | fail) only [↓reduceIte, ↓zP, zW, WOp, evOp, evBin, binI, binSh, binS, evNil, keyIs, keyEq, mkv, AV.cells, AV.sc, optv, bnd, env, put, Env.get, Env.set, Env.del, Env.dels, Env.init, res1, resL, resV, fillP, splice, newRow, Nat.reduceEqDiff, Nat.reduceLT, Nat.reduceLeDiff, Nat.reduceAdd, Nat.reduceMul, Nat.reduceSub, Nat.reduceBEq, reduceCtorEq, ↓zR, zQ, Tr, StA, StT, e_liFirst t g f (by omega) (by omega) (by omega), hw]
  refine c_efrom gl _ w c h K (Nat.lt_succ_self _) hok hk _ ?_
  intro h1 K1 hf1 hk1 _
  by_cases h0 : cE gl w = 0
  · have e : (((cE gl w : Nat) : Int) == 0) = true := by rw [h0]; rfl
    simp (maxSteps := 1000000) (disch := first | omega | rfl | (simp only [zL, two63, room] <;> omega) | fail) only [↓reduceIte, ↓zP, zW, WOp, evOp, evBin, binI, binSh, binS, evNil, keyIs, keyEq, mkv, AV.cells, AV.sc, optv, bnd, env, put, Env.get, Env.set, Env.del, Env.dels, Env.init, res1, resL, resV, fillP, splice, newRow, Nat.reduceEqDiff, Nat.reduceLT, Nat.reduceLeDiff, Nat.reduceAdd, Nat.reduceMul, Nat.reduceSub, Nat.reduceBEq, reduceCtorEq, ↓zR, zQ, Tr, StA, StT, e]
    exact hp0 h0 h1 ⟨K1, hk1⟩ hf1
  · have e : (((cE gl w : Nat) : Int) == 0) = false := by rw [beq_eq_false_iff_ne]; omega
    simp (maxSteps := 1000000) (disch := first | omega | rfl | (simp only [zL, two63, room] <;> omega) | fail) only [↓reduceIte, ↓zP, zW, WOp, evOp, evBin, binI, binSh, binS, evNil, keyIs, keyEq, mkv, AV.cells, AV.sc, optv, bnd, env, put, Env.get, Env.set, Env.del, Env.dels, Env.init, res1, resL, resV, fillP, splice, newRow, Nat.reduceEqDiff, Nat.reduceLT, Nat.reduceLeDiff, Nat.reduceAdd, Nat.reduceMul, Nat.reduceSub, Nat.reduceBEq, reduceCtorEq, ↓zR, zQ, Tr, StA, StT, e]
    refine c_swReach hok hk1 ?_
    intro o h2 vs N q1 q2 q3 q4 q5 q6 q7 q8
    simp (maxSteps := 1000000) (disch := first | omega | rfl | (simp only [zL, two63, room] <;> omega) | fail) only [↓reduceIte, ↓zP, zW, WOp, evOp, evBin, binI, binSh, binS, evNil, keyIs, keyEq, mkv, AV.cells, AV.sc, optv, bnd, env, put, Env.get, Env.set, Env.del, Env.dels, Env.init, res1, resL, resV, fillP, splice, newRow, Nat.reduceEqDiff, Nat.reduceLT, Nat.reduceLeDiff, Nat.reduceAdd, Nat.reduceMul, Nat.reduceSub, Nat.reduceBEq, reduceCtorEq, ↓zR, zQ, Tr, StA, StT]
    exact hp (by omega) o h2 vs N q1 q2 q4 q3.slc q5 q6 q7 (hf1.trans q8)
def swIsB (w : Ln) : Bool := decide (0 < cE (lnL w) w ∧ 0 < cE w (firstOf w))
theorem lp_swIs {w : Ln} {o : AV} {vs : List SV} {Ls : List (List Ln)} {h : AH} (hs : Slc 1 encV h o vs) (hll : LL h o vs Ls) (hn : vs.length ≤ 1000) (hf : ∀ L ∈ Ls, L.length < 2 ^ 40) {R : X → Env → AH → Prop} : ∀ (rest pre : List SV), vs = pre ++ rest →
    ((∃ L ∈ Ls.drop pre.length, w ∈ L) → R .ret [(4, .bool true)] h) → ((¬ ∃ L ∈ Ls.drop pre.length, w ∈ L) → R (.exit 0) [] h) →
    Cx (.loop lp234_0) [(1, .str w), (14, o), (15, .int .i64 vs.length), (16, .int .i64 pre.length)] h R k k
  | [], pre, hpre, h1, h2 => by
    have hl : vs.length = pre.length := by rw [hpre]; simp
    rw [w_loopb (c := lp234_0) (d := lb234_0) rfl]; unfold lb234_0
    have hd : Ls.drop pre.length = [] := List.drop_of_length_le (by rw [← hll.1]; omega)
    rw [hl]
    simp (maxSteps := 1000000) (disch := first | omega | rfl | (simp only [zL, two63, room] <;> omega) | fail) only [↓reduceIte, ↓zP, zW, WOp, evOp, evBin, binI, binSh, binS, evNil, keyIs, keyEq, mkv, AV.cells, AV.sc, optv, bnd, env, put, Env.get, Env.set, Env.del, Env.dels, Env.init, res1, resL, resV, fillP, splice, newRow, Nat.reduceEqDiff, Nat.reduceLT, Nat.reduceLeDiff, Nat.reduceAdd, Nat.reduceMul, Nat.reduceSub, Nat.reduceBEq, reduceCtorEq, ↓zR, zQ, Tr, StA, StT]
    refine h2 ?_
    rw [hd]; simp
  | u :: rest, pre, hpre, h1, h2 => by
    have ih := lp_swIs (w := w) hs hll hn hf (R := R) rest (pre ++ [u])
    have hml : vs.length = pre.length + 1 + rest.length := by rw [hpre]; simp; omega
    have hs' := hs
    rw [hpre] at hs'
    obtain ⟨r1, k1, o1, hv1, hr⟩ := hs'.at hlV
    rw [← hpre, hml] at hv1
    subst hv1
    have hiL : pre.length < Ls.length := by rw [← hll.1]; omega
    have hsu := (hll.2 pre.length u Ls[pre.length] (by rw [hpre]; simp) (List.getElem?_eq_getElem hiL)).1
    have hfl := hf _ (List.getElem_mem hiL)
    have hdr : Ls.drop pre.length = Ls[pre.length] :: Ls.drop (pre ++ [u]).length := by rw [List.length_append]; exact List.drop_eq_getElem_cons hiL
    rw [hdr] at h1 h2
    generalize Ls[pre.length] = M at *
    rw [hml] at ih hn ⊢
    have hlt : (pre.length : Int) < ((pre.length + 1 + rest.length : Nat) : Int) := by omega
    have hw1 : (pre.length : Int) + 1 = ((pre ++ [u]).length : Int) := by simp
    have hr' : rdRow h r1 k1 (o1 + pre.length * 1) 1 = some [u.1] := hr
    rw [w_loopb (c := lp234_0) (d := lb234_0) rfl]; unfold lb234_0
    simp (maxSteps := 1000000) (disch := first | omega | rfl | (simp only [zL, two63, room] <;> omega) | fail) only [↓reduceIte, ↓zP, zW, WOp, evOp, evBin, binI, binSh, binS, evNil, keyIs, keyEq, mkv, AV.cells, AV.sc, optv, bnd, env, put, Env.get, Env.set, Env.del, Env.dels, Env.init, res1, resL, resV, fillP, splice, newRow, Nat.reduceEqDiff, Nat.reduceLT, Nat.reduceLeDiff, Nat.reduceAdd, Nat.reduceMul, Nat.reduceSub, Nat.reduceBEq, reduceCtorEq, ↓zR, zQ, Tr, StA, StT, hlt, hr']
    refine c_hasS hfl hsu w ?_
    by_cases hin : w ∈ M
    · have e : decide (w ∈ M) = true := by simpa using hin
      simp (maxSteps := 1000000) (disch := first | omega | rfl | (simp only [zL, two63, room] <;> omega) | fail) only [↓reduceIte, ↓zP, zW, WOp, evOp, evBin, binI, binSh, binS, evNil, keyIs, keyEq, mkv, AV.cells, AV.sc, optv, bnd, env, put, Env.get, Env.set, Env.del, Env.dels, Env.init, res1, resL, resV, fillP, splice, newRow, Nat.reduceEqDiff, Nat.reduceLT, Nat.reduceLeDiff, Nat.reduceAdd, Nat.reduceMul, Nat.reduceSub, Nat.reduceBEq, reduceCtorEq, ↓zR, zQ, Tr, StA, StT, e]
      exact h1 ⟨M, by simp, hin⟩
    · have e : decide (w ∈ M) = false := by simpa using hin
      simp (maxSteps := 1000000) (disch := first | omega | rfl | (simp only [zL, two63, room] <;> omega) | fail) only [↓reduceIte, ↓zP, zW, WOp, evOp, evBin, binI, binSh, binS, evNil, keyIs, keyEq, mkv, AV.cells, AV.sc, optv, bnd, env, put, Env.get, Env.set, Env.del, Env.dels, Env.init, res1, resL, resV, fillP, splice, newRow, Nat.reduceEqDiff, Nat.reduceLT, Nat.reduceLeDiff, Nat.reduceAdd, Nat.reduceMul, Nat.reduceSub, Nat.reduceBEq, reduceCtorEq, ↓zR, zQ, Tr, StA, StT, e, hw1]
      rw [w_loopn (c := lp234_0) rfl]
      simp (maxSteps := 1000000) (disch := first | omega | rfl | (simp only [zL, two63, room] <;> omega) | fail) only [↓reduceIte, ↓zP, zW, WOp, evOp, evBin, binI, binSh, binS, evNil, keyIs, keyEq, mkv, AV.cells, AV.sc, optv, bnd, env, put, Env.get, Env.set, Env.del, Env.dels, Env.init, res1, resL, resV, fillP, splice, newRow, Nat.reduceEqDiff, Nat.reduceLT, Nat.reduceLeDiff, Nat.reduceAdd, Nat.reduceMul, Nat.reduceSub, Nat.reduceBEq, reduceCtorEq, ↓zR, zQ, Tr, StA, StT]
      refine ih (by rw [hpre]; simp) (fun ⟨L, q1, q2⟩ => h1 ⟨L, List.mem_cons_of_mem _ q1, q2⟩) fun hno => h2 ?_
      rintro ⟨L, q1, q2⟩
      rcases List.mem_cons.1 q1 with rfl | q1
      · exact hin q2
      · exact hno ⟨L, q1, q2⟩
theorem c_swIsLive (w : Ln) (hg : w.all isSign = true) (hw : w.length ≤ 8) {c : Nat} {h : AH} {K : List Ln} (hk : KW (lnL w) c h K) {post : AV → AH → Prop} (hp : ∀ h', (∃ K', KW (lnL w) c h' K') → FrG c h h' → post (.bool (swIsB w)) h') : S 234 [.ptr c 0 0 2, .str w] h post k := by
  obtain ⟨hok, _⟩ := firstOf_ok hg hw
  refine S_of rfl T234 ?_; unfold fi234
  simp (maxSteps := 1000000) (disch := first | omega | rfl | (simp only [zL, two63, room] <;> omega) | fail) only [↓reduceIte, ↓zP, zW, WOp, evOp, evBin, binI, binSh, binS, evNil, keyIs, keyEq, mkv, AV.cells, AV.sc, optv, bnd, env, put, Env.get, Env.set, Env.del, Env.dels, Env.init, res1, resL, resV, fillP, splice, newRow, Nat.reduceEqDiff, Nat.reduceLT, Nat.reduceLeDiff, Nat.reduceAdd, Nat.reduceMul, Nat.reduceSub, Nat.reduceBEq, reduceCtorEq, ↓zR, zQ, Tr, StA, StT, e_liCountT w (by omega), e_liCountF w (by omega), e_liCountD w (by omega)]
  refine c_swLive (gl := lnL w) (w.count 84) (w.count 46) (w.count 70) hok hk ?_ ?_
  · intro h0 h1 hk1 hf1
    have e : swIsB w = false := by
      unfold swIsB
      rw [decide_eq_false_iff_not]
      rintro ⟨a, b⟩
      have := live_first a b
      unfold firstOf at this
      omega
    rw [e] at hp
    have hR := hp h1 hk1 hf1
    have z : Slc 1 encV h1 .nilS [] := ⟨rfl, rfl⟩
    simp (maxSteps := 1000000) (disch := first | omega | rfl | (simp only [zL, two63, room] <;> omega) | fail) only [↓reduceIte, ↓zP, zW, WOp, evOp, evBin, binI, binSh, binS, evNil, keyIs, keyEq, mkv, AV.cells, AV.sc, optv, bnd, env, put, Env.get, Env.set, Env.del, Env.dels, Env.init, res1, resL, resV, fillP, splice, newRow, Nat.reduceEqDiff, Nat.reduceLT, Nat.reduceLeDiff, Nat.reduceAdd, Nat.reduceMul, Nat.reduceSub, Nat.reduceBEq, reduceCtorEq, ↓zR, zQ, Tr, StA, StT]
    refine lp_swIs (w := w) (o := .nilS) (vs := []) (Ls := []) z ⟨rfl, fun i v L q1 q2 => by simp at q1⟩ (by simp) (by simp) [] [] rfl ?_ ?_
    · rintro ⟨L, q, _⟩; simp at q
    · intro _
      simp (maxSteps := 1000000) (disch := first | omega | rfl | (simp only [zL, two63, room] <;> omega) | fail) only [↓reduceIte, ↓zP, zW, WOp, evOp, evBin, binI, binSh, binS, evNil, keyIs, keyEq, mkv, AV.cells, AV.sc, optv, bnd, env, put, Env.get, Env.set, Env.del, Env.dels, Env.init, res1, resL, resV, fillP, splice, newRow, Nat.reduceEqDiff, Nat.reduceLT, Nat.reduceLeDiff, Nat.reduceAdd, Nat.reduceMul, Nat.reduceSub, Nat.reduceBEq, reduceCtorEq, ↓zR, zQ, Tr, StA, StT]
      exact hR
  · intro hpos o h1 vs N q1 q2 q3 q4 q5 q6 q7 q8
    have e : swIsB w = true ↔ ∃ L ∈ lvs (lnL w) (firstOf w) N, w ∈ L := by
      rw [show lvs (lnL w) (firstOf w) N = lvs (lnL w) (lnF (w.count 84) (w.count 46) (w.count 70)) N from rfl, lvs_any q1, live_iff hpos]
      unfold swIsB
      rw [decide_eq_true_iff]
      exact Iff.rfl
    have hR := hp h1 q7 q8
    have hvl : vs.length = N := by have := q3.1; simpa [lvs] using this
    have hv := fun g => Slc.lenV (q4) (g := g) (ρ := fun _ => _) (x := .t 0) rfl; simp only [evOp] at hv
    simp (maxSteps := 1000000) (disch := first | omega | rfl | (simp only [zL, two63, room] <;> omega) | fail) only [↓reduceIte, ↓zP, zW, WOp, evOp, evBin, binI, binSh, binS, evNil, keyIs, keyEq, mkv, AV.cells, AV.sc, optv, bnd, env, put, Env.get, Env.set, Env.del, Env.dels, Env.init, res1, resL, resV, fillP, splice, newRow, Nat.reduceEqDiff, Nat.reduceLT, Nat.reduceLeDiff, Nat.reduceAdd, Nat.reduceMul, Nat.reduceSub, Nat.reduceBEq, reduceCtorEq, ↓zR, zQ, Tr, StA, StT, hv]
    refine lp_swIs q4 q3 (by omega) (fun L hL => ?_) vs [] rfl ?_ ?_
    · unfold lvs at hL
      obtain ⟨j, _, rfl⟩ := List.mem_map.1 hL
      exact Nat.lt_of_le_of_lt (lv_good hok j).few (by omega)
    · intro hx
      rw [e.2 hx] at hR
      simp (maxSteps := 1000000) (disch := first | omega | rfl | (simp only [zL, two63, room] <;> omega) | fail) only [↓reduceIte, ↓zP, zW, WOp, evOp, evBin, binI, binSh, binS, evNil, keyIs, keyEq, mkv, AV.cells, AV.sc, optv, bnd, env, put, Env.get, Env.set, Env.del, Env.dels, Env.init, res1, resL, resV, fillP, splice, newRow, Nat.reduceEqDiff, Nat.reduceLT, Nat.reduceLeDiff, Nat.reduceAdd, Nat.reduceMul, Nat.reduceSub, Nat.reduceBEq, reduceCtorEq, ↓zR, zQ, Tr, StA, StT]
      exact hR
    · intro hx
      have : swIsB w = false := by
        cases hb : swIsB w
        · rfl
        · exact absurd (e.1 hb) hx
      rw [this] at hR
      simp (maxSteps := 1000000) (disch := first | omega | rfl | (simp only [zL, two63, room] <;> omega) | fail) only [↓reduceIte, ↓zP, zW, WOp, evOp, evBin, binI, binSh, binS, evNil, keyIs, keyEq, mkv, AV.cells, AV.sc, optv, bnd, env, put, Env.get, Env.set, Env.del, Env.dels, Env.init, res1, resL, resV, fillP, splice, newRow, Nat.reduceEqDiff, Nat.reduceLT, Nat.reduceLeDiff, Nat.reduceAdd, Nat.reduceMul, Nat.reduceSub, Nat.reduceBEq, reduceCtorEq, ↓zR, zQ, Tr, StA, StT]
      exact hR
end Go.Proofs.YtcflenomogpdbaaDoor.Ab

/- LIVE MOVES: both sides, and the law. -/
namespace Go.Proofs.YtcflenomogpdbaaDoor.Ab
open Go
set_option maxRecDepth 100000
set_option maxHeartbeats 4000000

def lvL (w : Ln) : List (Int × Int) := (movesB w [84, 70]).filter fun m => decide (0 < cE (lnL w) (mkM w m))
def lvB (w : Ln) : Bool := goodLine w && (decide ((w.length : Int) ≤ 8) && swIsB w)
theorem lvB_iff {w : Ln} (h : lvB w = true) : w.all isSign = true ∧ 1 ≤ w.length ∧ w.length ≤ 8 ∧ swIsB w = true := by
  unfold lvB goodLine at h
  simp only [Bool.and_eq_true, decide_eq_true_eq] at h
  exact ⟨h.1.2, h.1.1.1, by omega, h.2.2⟩

/-! ### The program -/
theorem c_to (g : Ln) {h : AH} {post : AV → AH → Prop} (hp : ∀ c h', Mg g c h' → Pre h h' → h.length ≤ c → post (.agg [.str g, .map c]) h') : S 238 [.str g] h post k := by
  have em : (h ++ [AO.row [.str [], .nilM] 0 0 false] ++ [AO.map []])[(h ++ [AO.row [.str [], .nilM] 0 0 false]).length]? = some (.map []) := by simp
  have mf : mfind (.str g) [] = some none := rfl
  have mp : mput (.str g) (.int .i64 1) [] = [(.str g, .int .i64 1)] := rfl
  have e1 : (h ++ [AO.row [.str [], .nilM] 0 0 false] ++ [AO.map []]).set (h ++ [AO.row [.str [], .nilM] 0 0 false]).length (.map [(.str g, .int .i64 1)]) = h ++ [AO.row [.str [], .nilM] 0 0 false] ++ [AO.map [(.str g, .int .i64 1)]] := by
    rw [List.set_append_right _ _ (Nat.le_refl _), Nat.sub_self, List.set_cons_zero]
  have hx : (h ++ [AO.row [.str [], .nilM] 0 0 false]).length = h.length + 1 := by simp
  have hw : wrRow (h ++ [AO.row [.str [], .nilM] 0 0 false] ++ [AO.map [(.str g, .int .i64 1)]]) h.length 0 0 [.str g, .map (h.length + 1)] = some (h ++ [AO.row [.str g, .map (h.length + 1)] 0 0 false] ++ [AO.map [(.str g, .int .i64 1)]]) := by
    simp [wrRow, splice, AV.sc]
  have hr : rdRow (h ++ [AO.row [.str g, .map (h.length + 1)] 0 0 false] ++ [AO.map [(.str g, .int .i64 1)]]) h.length 0 0 2 = some [.str g, .map (h.length + 1)] := by
    simp [rdRow]
  have hm : Mg g (h.length + 1) (h ++ [AO.row [.str g, .map (h.length + 1)] 0 0 false] ++ [AO.map [(.str g, .int .i64 1)]]) := by
    have := Mg.new (g := g) (h := h ++ [AO.row [.str g, .map (h.length + 1)] 0 0 false])
    rw [show (h ++ [AO.row [.str g, .map (h.length + 1)] 0 0 false]).length = h.length + 1 by simp] at this
    exact this
  have hpr : Pre h (h ++ [AO.row [.str g, .map (h.length + 1)] 0 0 false] ++ [AO.map [(.str g, .int .i64 1)]]) := (Pre.push h _).trans (Pre.push _ _)
  have hq := hp _ _ hm hpr (by omega)
  refine S_of rfl T238 ?_; unfold fi238
  rw [hx] at em e1
  simp (maxSteps := 1000000) (disch := first | omega | rfl | (simp only [zL, two63, room] <;> omega) | fail) only [↓reduceIte, ↓zP, zW, WOp, evOp, evBin, binI, binSh, binS, evNil, keyIs, keyEq, mkv, AV.cells, AV.sc, optv, bnd, env, put, Env.get, Env.set, Env.del, Env.dels, Env.init, res1, resL, resV, fillP, splice, newRow, Nat.reduceEqDiff, Nat.reduceLT, Nat.reduceLeDiff, Nat.reduceAdd, Nat.reduceMul, Nat.reduceSub, Nat.reduceBEq, reduceCtorEq, ↓zR, zQ, Tr, StA, StT, hx, em, mf, mp, e1, hw, hr]
  exact hq
theorem c_isLive (w : Ln) (hg : w.all isSign = true) (hw : w.length ≤ 8) {h : AH} {post : AV → AH → Prop} (hp : ∀ h', Pre h h' → post (.bool (swIsB w)) h') : S 245 [.str w] h post k := by
  obtain ⟨c1, c2, c3⟩ := counts_ok (w := w)
  obtain ⟨hok, _⟩ := firstOf_ok hg hw
  have hfl : (firstOf w).length ≤ 8 := by rw [hok.2.2.1]; exact hok.2.2.2
  refine S_of rfl T245 ?_; unfold fi245
  simp (maxSteps := 1000000) (disch := first | omega | rfl | (simp only [zL, two63, room] <;> omega) | fail) only [↓reduceIte, ↓zP, zW, WOp, evOp, evBin, binI, binSh, binS, evNil, keyIs, keyEq, mkv, AV.cells, AV.sc, optv, bnd, env, put, Env.get, Env.set, Env.del, Env.dels, Env.init, res1, resL, resV, fillP, splice, newRow, Nat.reduceEqDiff, Nat.reduceLT, Nat.reduceLeDiff, Nat.reduceAdd, Nat.reduceMul, Nat.reduceSub, Nat.reduceBEq, reduceCtorEq, ↓zR, zQ, Tr, StA, StT, e_count, e_last w (by omega)]
  refine c_to (lnL w) ?_
  intro c h1 hm1 hp1 hc
  simp (maxSteps := 1000000) (disch := first | omega | rfl | (simp only [zL, two63, room] <;> omega) | fail) only [↓reduceIte, ↓zP, zW, WOp, evOp, evBin, binI, binSh, binS, evNil, keyIs, keyEq, mkv, AV.cells, AV.sc, optv, bnd, env, put, Env.get, Env.set, Env.del, Env.dels, Env.init, res1, resL, resV, fillP, splice, newRow, Nat.reduceEqDiff, Nat.reduceLT, Nat.reduceLeDiff, Nat.reduceAdd, Nat.reduceMul, Nat.reduceSub, Nat.reduceBEq, reduceCtorEq, ↓zR, zQ, Tr, StA, StT]
  refine c_from (lnL w) _ w c h1 (Nat.lt_succ_self _) hw hm1 _ ?_
  intro h2 hx2 hm2
  have hp2 : Pre h h2 := (((hp1.x c).trans hx2) : PreX c h h2).pre hc
  have hb : ((cE (lnL w) w : Nat) : Int) > 0 ↔ 0 < cE (lnL w) w := by omega
  by_cases h0 : 0 < cE (lnL w) w
  · have hi := hb.2 h0
    simp (maxSteps := 1000000) (disch := first | omega | rfl | (simp only [zL, two63, room] <;> omega) | fail) only [↓reduceIte, ↓zP, zW, WOp, evOp, evBin, binI, binSh, binS, evNil, keyIs, keyEq, mkv, AV.cells, AV.sc, optv, bnd, env, put, Env.get, Env.set, Env.del, Env.dels, Env.init, res1, resL, resV, fillP, splice, newRow, Nat.reduceEqDiff, Nat.reduceLT, Nat.reduceLeDiff, Nat.reduceAdd, Nat.reduceMul, Nat.reduceSub, Nat.reduceBEq, reduceCtorEq, ↓zR, zQ, Tr, StA, StT, hi]
    refine c_to w ?_
    intro c' h3 hm3 hp3 hc'
    simp (maxSteps := 1000000) (disch := first | omega | rfl | (simp only [zL, two63, room] <;> omega) | fail) only [↓reduceIte, ↓zP, zW, WOp, evOp, evBin, binI, binSh, binS, evNil, keyIs, keyEq, mkv, AV.cells, AV.sc, optv, bnd, env, put, Env.get, Env.set, Env.del, Env.dels, Env.init, res1, resL, resV, fillP, splice, newRow, Nat.reduceEqDiff, Nat.reduceLT, Nat.reduceLeDiff, Nat.reduceAdd, Nat.reduceMul, Nat.reduceSub, Nat.reduceBEq, reduceCtorEq, ↓zR, zQ, Tr, StA, StT, e_first (w.count 84) (w.count 46) (w.count 70) (by omega) (by omega) (by omega)]
    refine c_from w _ (firstOf w) c' h3 (Nat.lt_succ_self _) hfl hm3 _ ?_
    intro h4 hx4 hm4
    have hp4 : Pre h2 h4 := (((hp3.x c').trans hx4) : PreX c' h2 h4).pre hc'
    have hR := hp h4 (hp2.trans hp4)
    have e : swIsB w = decide (((cE w (firstOf w) : Nat) : Int) > 0) := by
      unfold swIsB
      rw [decide_eq_decide]
      constructor
      · rintro ⟨_, b⟩; omega
      · intro b; exact ⟨h0, by omega⟩
    rw [e] at hR
    simp (maxSteps := 1000000) (disch := first | omega | rfl | (simp only [zL, two63, room] <;> omega) | fail) only [↓reduceIte, ↓zP, zW, WOp, evOp, evBin, binI, binSh, binS, evNil, keyIs, keyEq, mkv, AV.cells, AV.sc, optv, bnd, env, put, Env.get, Env.set, Env.del, Env.dels, Env.init, res1, resL, resV, fillP, splice, newRow, Nat.reduceEqDiff, Nat.reduceLT, Nat.reduceLeDiff, Nat.reduceAdd, Nat.reduceMul, Nat.reduceSub, Nat.reduceBEq, reduceCtorEq, ↓zR, zQ, Tr, StA, StT]
    exact hR
  · have hi : ¬ ((cE (lnL w) w : Nat) : Int) > 0 := fun h => h0 (hb.1 h)
    have e : swIsB w = false := by
      unfold swIsB
      rw [decide_eq_false_iff_not]
      rintro ⟨a, _⟩; exact h0 a
    have hR := hp h2 hp2
    rw [e] at hR
    simp (maxSteps := 1000000) (disch := first | omega | rfl | (simp only [zL, two63, room] <;> omega) | fail) only [↓reduceIte, ↓zP, zW, WOp, evOp, evBin, binI, binSh, binS, evNil, keyIs, keyEq, mkv, AV.cells, AV.sc, optv, bnd, env, put, Env.get, Env.set, Env.del, Env.dels, Env.init, res1, resL, resV, fillP, splice, newRow, Nat.reduceEqDiff, Nat.reduceLT, Nat.reduceLeDiff, Nat.reduceAdd, Nat.reduceMul, Nat.reduceSub, Nat.reduceBEq, reduceCtorEq, ↓zR, zQ, Tr, StA, StT, hi]
    exact hR
theorem c_live1 (g w : Ln) (hw : w.length ≤ 8) {cm b2 b3 : Nat} {m : Int × Int} (hmm : m ∈ movesB w [84, 70]) {h : AH} (hm : Mg g cm h) (r2 : rdRow h b2 0 0 2 = some [.str g, .map cm]) (r3 : rdRow h b3 0 0 1 = some [.str w]) {post : AV → AH → Prop}
    (hp : ∀ h', PreX cm h h' → Mg g cm h' → post (.bool (((cE g (mkM w m) : Nat) : Int) == 0)) h') : S 247 [.agg (encM m), .ptr b2 0 0 2, .ptr b3 0 0 1] h post k := by
  obtain ⟨i, t', rfl, hmv⟩ := movesB_mv hmm
  have hpush := Pre.push h (AO.row (encM ((i : Int), (t' : Int))) 0 0 false)
  have q2 := rdRow_pre hpush r2
  have q3 := rdRow_pre hpush r3
  refine S_of rfl T247 ?_; unfold fi247
  simp (maxSteps := 1000000) (disch := first | omega | rfl | (simp only [zL, two63, room] <;> omega) | fail) only [↓reduceIte, ↓zP, zW, WOp, evOp, evBin, binI, binSh, binS, evNil, keyIs, keyEq, mkv, AV.cells, AV.sc, optv, bnd, env, put, Env.get, Env.set, Env.del, Env.dels, Env.init, res1, resL, resV, fillP, splice, newRow, Nat.reduceEqDiff, Nat.reduceLT, Nat.reduceLeDiff, Nat.reduceAdd, Nat.reduceMul, Nat.reduceSub, Nat.reduceBEq, reduceCtorEq, ↓zR, zQ, Tr, StA, StT, q2, q3]
  refine w_drw ?_
  simp (maxSteps := 1000000) (disch := first | omega | rfl | (simp only [zL, two63, room] <;> omega) | fail) only [↓reduceIte, ↓zP, zW, WOp, evOp, evBin, binI, binSh, binS, evNil, keyIs, keyEq, mkv, AV.cells, AV.sc, optv, bnd, env, put, Env.get, Env.set, Env.del, Env.dels, Env.init, res1, resL, resV, fillP, splice, newRow, Nat.reduceEqDiff, Nat.reduceLT, Nat.reduceLeDiff, Nat.reduceAdd, Nat.reduceMul, Nat.reduceSub, Nat.reduceBEq, reduceCtorEq, ↓zR, zQ, Tr, StA, StT, q2, q3]
  refine c_made w i t' hmv.fst hmv.snd (by omega) ?_
  intro h2 hp2
  have hp1 := hpush.trans hp2
  simp (maxSteps := 1000000) (disch := first | omega | rfl | (simp only [zL, two63, room] <;> omega) | fail) only [↓reduceIte, ↓zP, zW, WOp, evOp, evBin, binI, binSh, binS, evNil, keyIs, keyEq, mkv, AV.cells, AV.sc, optv, bnd, env, put, Env.get, Env.set, Env.del, Env.dels, Env.init, res1, resL, resV, fillP, splice, newRow, Nat.reduceEqDiff, Nat.reduceLT, Nat.reduceLeDiff, Nat.reduceAdd, Nat.reduceMul, Nat.reduceSub, Nat.reduceBEq, reduceCtorEq, ↓zR, zQ, Tr, StA, StT]
  refine c_from g _ (madeB w i t') cm h2 (Nat.lt_succ_self _) (by rw [madeB_length]; exact hw) (hm.pre hp1) _ ?_
  intro h3 hp3 hm3
  have q4 := rdRow_pre hp2 q2
  simp (maxSteps := 1000000) (disch := first | omega | rfl | (simp only [zL, two63, room] <;> omega) | fail) only [↓reduceIte, ↓zP, zW, WOp, evOp, evBin, binI, binSh, binS, evNil, keyIs, keyEq, mkv, AV.cells, AV.sc, optv, bnd, env, put, Env.get, Env.set, Env.del, Env.dels, Env.init, res1, resL, resV, fillP, splice, newRow, Nat.reduceEqDiff, Nat.reduceLT, Nat.reduceLeDiff, Nat.reduceAdd, Nat.reduceMul, Nat.reduceSub, Nat.reduceBEq, reduceCtorEq, ↓zR, zQ, Tr, StA, StT, q2, q4]
  exact hp h3 ((hp1.x cm).trans hp3) hm3
theorem c_live (g w : Ln) (hw : w.length ≤ 8) {cm : Nat} {b h : AH} (hb : b.length ≤ h.length) (hm : Mg g cm h) {post : AV → AH → Prop}
    (hp : ∀ v' h', OwW 2 encM b h' v' ((movesB w [84, 70]).filter fun m => decide (0 < cE g (mkM w m))) → PreX cm h h' → Mg g cm h' → post v' h') : S 239 [.agg [.str g, .map cm], .str w] h post k := by
  have p1 := Pre.push h (AO.row [.str g, .map cm] 0 0 false)
  have p2 := Pre.push (h ++ [AO.row [.str g, .map cm] 0 0 false]) (AO.row [.str w] 0 0 false)
  have p12 := p1.trans p2
  have hl1 : (h ++ [AO.row [.str g, .map cm] 0 0 false]).length = h.length + 1 := by simp
  have r2 : rdRow (h ++ [AO.row [.str g, .map cm] 0 0 false] ++ [AO.row [.str w] 0 0 false]) h.length 0 0 2 = some [.str g, .map cm] := rdRow_pre p2 (by rw [rd_last, if_pos (by simp)]; simp)
  have r3 : rdRow (h ++ [AO.row [.str g, .map cm] 0 0 false] ++ [AO.row [.str w] 0 0 false]) (h.length + 1) 0 0 1 = some [.str w] := by rw [← hl1, rd_last, if_pos (by simp)]; simp
  have hcl := hm.lt
  have hbd := movesB_len w [84, 70]
  refine S_of rfl T239 ?_; unfold fi239
  simp (maxSteps := 1000000) (disch := first | omega | rfl | (simp only [zL, two63, room] <;> omega) | fail) only [↓reduceIte, ↓zP, zW, WOp, evOp, evBin, binI, binSh, binS, evNil, keyIs, keyEq, mkv, AV.cells, AV.sc, optv, bnd, env, put, Env.get, Env.set, Env.del, Env.dels, Env.init, res1, resL, resV, fillP, splice, newRow, Nat.reduceEqDiff, Nat.reduceLT, Nat.reduceLeDiff, Nat.reduceAdd, Nat.reduceMul, Nat.reduceSub, Nat.reduceBEq, reduceCtorEq, ↓zR, zQ, Tr, StA, StT, hl1, r3]
  refine c_moves w [84, 70] (by omega) ?_
  intro vm h2 ho2 hp2
  have hoL : OwL 2 encM (h ++ [AO.row [.str g, .map cm] 0 0 false] ++ [AO.row [.str w] 0 0 false]) h2 vm (movesB w [84, 70]) := ho2
  have hown : ∀ r, rowOf vm = some r → h.length + 2 ≤ r := fun r hr => by have := own_ge ho2 hr; simp at this; omega
  have q2 := rdRow_pre hp2 r2
  have q3 := rdRow_pre hp2 r3
  have hpe := p12.trans hp2
  simp (maxSteps := 1000000) (disch := first | omega | rfl | (simp only [zL, two63, room] <;> omega) | fail) only [↓reduceIte, ↓zP, zW, WOp, evOp, evBin, binI, binSh, binS, evNil, keyIs, keyEq, mkv, AV.cells, AV.sc, optv, bnd, env, put, Env.get, Env.set, Env.del, Env.dels, Env.init, res1, resL, resV, fillP, splice, newRow, Nat.reduceEqDiff, Nat.reduceLT, Nat.reduceLeDiff, Nat.reduceAdd, Nat.reduceMul, Nat.reduceSub, Nat.reduceBEq, reduceCtorEq, ↓zR, zQ, Tr, StA, StT]
  refine c_DeleteFuncM _ [.ptr h.length 0 0 2, .ptr (h.length + 1) 0 0 1] (fun m => (((cE g (mkM w m) : Nat) : Int) == 0)) (cm := cm) (b := b) (h := h2) (Nat.lt_of_lt_of_le hcl hpe.1) (fun h' => Mg g cm h') (fun a a' h1 h2 => h1.prey h2) (hoL.w.base (by simp; omega)) (fun r hr => by have := hown r hr; omega) (by omega) (hm.pre hpe) ?_ ?_
  · intro x hx h' hpy hmh post hpost
    have g2 : rdRow h' h.length 0 0 2 = some [.str g, .map cm] := by
      rw [← q2]
      unfold rdRow
      rw [hpy.2 h.length (rd_lt q2) (by omega) fun e => by have := hown _ e; omega]
    have g3 : rdRow h' (h.length + 1) 0 0 1 = some [.str w] := by
      rw [← q3]
      unfold rdRow
      rw [hpy.2 (h.length + 1) (rd_lt q3) (by omega) fun e => by have := hown _ e; omega]
    exact c_live1 g w hw hx hmh g2 g3 fun h'' a b => hpost h'' a b
  · intro v' h' ho' hpy hm'
    have e : (fun x : Int × Int => !(((cE g (mkM w x) : Nat) : Int) == 0)) = fun m => decide (0 < cE g (mkM w m)) := by
      funext m
      by_cases hz : cE g (mkM w m) = 0
      · rw [hz]; rfl
      · have h1 : (((cE g (mkM w m) : Nat) : Int) == 0) = false := by rw [beq_eq_false_iff_ne]; omega
        have h2 : decide (0 < cE g (mkM w m)) = true := by rw [decide_eq_true_iff]; omega
        rw [h1, h2]; rfl
    rw [e] at ho'
    simp (maxSteps := 1000000) (disch := first | omega | rfl | (simp only [zL, two63, room] <;> omega) | fail) only [↓reduceIte, ↓zP, zW, WOp, evOp, evBin, binI, binSh, binS, evNil, keyIs, keyEq, mkv, AV.cells, AV.sc, optv, bnd, env, put, Env.get, Env.set, Env.del, Env.dels, Env.init, res1, resL, resV, fillP, splice, newRow, Nat.reduceEqDiff, Nat.reduceLT, Nat.reduceLeDiff, Nat.reduceAdd, Nat.reduceMul, Nat.reduceSub, Nat.reduceBEq, reduceCtorEq, ↓zR, zQ, Tr, StA, StT]
    refine hp v' h' ho' ⟨Nat.le_trans hpe.1 hpy.1, fun i hi hc => ?_⟩ hm'
    rw [hpy.2 i (Nat.lt_of_lt_of_le hi hpe.1) hc fun e => by have := hown _ e; omega, hpe.2 i hi]
theorem c_LiveMoves (w : Ln) (hs : w.length < 2 ^ 60) {b h : AH} (hb : b.length ≤ h.length) {post : AV → AH → Prop} (hp : ∀ v' h', OwW 2 encM b h' v' (if lvB w then lvL w else []) → Pre h h' → post (.tup [v', .bool (lvB w)]) h') : S 226 [.str w] h post k := by
  have hgl : (goodLine w && decide ((w.length : Int) ≤ 8)) = (decide (1 ≤ (w.length : Int) ∧ (w.length : Int) ≤ 8) && w.all isSign) := by
    unfold goodLine
    cases w.all isSign
    · simp
    · simp only [Bool.and_true]
      rw [← Bool.decide_and, decide_eq_decide]
      omega
  refine S_of rfl T226 ?_; unfold fi226
  simp (maxSteps := 1000000) (disch := first | omega | rfl | (simp only [zL, two63, room] <;> omega) | fail) only [↓reduceIte, ↓zP, zW, WOp, evOp, evBin, binI, binSh, binS, evNil, keyIs, keyEq, mkv, AV.cells, AV.sc, optv, bnd, env, put, Env.get, Env.set, Env.del, Env.dels, Env.init, res1, resL, resV, fillP, splice, newRow, Nat.reduceEqDiff, Nat.reduceLT, Nat.reduceLeDiff, Nat.reduceAdd, Nat.reduceMul, Nat.reduceSub, Nat.reduceBEq, reduceCtorEq, ↓zR, zQ, Tr, StA, StT]
  refine S_of rfl T236 ?_; unfold fi236
  simp (maxSteps := 1000000) (disch := first | omega | rfl | (simp only [zL, two63, room] <;> omega) | fail) only [↓reduceIte, ↓zP, zW, WOp, evOp, evBin, binI, binSh, binS, evNil, keyIs, keyEq, mkv, AV.cells, AV.sc, optv, bnd, env, put, Env.get, Env.set, Env.del, Env.dels, Env.init, res1, resL, resV, fillP, splice, newRow, Nat.reduceEqDiff, Nat.reduceLT, Nat.reduceLeDiff, Nat.reduceAdd, Nat.reduceMul, Nat.reduceSub, Nat.reduceBEq, reduceCtorEq, ↓zR, zQ, Tr, StA, StT]
  refine c_isLineOf w 8 (by omega) hs ?_
  rw [← hgl]
  cases e : (goodLine w && decide ((w.length : Int) ≤ 8))
  · have e2 : lvB w = false := by unfold lvB; rw [← Bool.and_assoc, e]; rfl
    have hR := hp .nilS h (show OwW 2 encM b h .nilS _ by rw [e2]; rfl) (Pre.refl h)
    rw [e2] at hR
    simp (maxSteps := 1000000) (disch := first | omega | rfl | (simp only [zL, two63, room] <;> omega) | fail) only [↓reduceIte, ↓zP, zW, WOp, evOp, evBin, binI, binSh, binS, evNil, keyIs, keyEq, mkv, AV.cells, AV.sc, optv, bnd, env, put, Env.get, Env.set, Env.del, Env.dels, Env.init, res1, resL, resV, fillP, splice, newRow, Nat.reduceEqDiff, Nat.reduceLT, Nat.reduceLeDiff, Nat.reduceAdd, Nat.reduceMul, Nat.reduceSub, Nat.reduceBEq, reduceCtorEq, ↓zR, zQ, Tr, StA, StT]
    exact hR
  · have e2 : lvB w = swIsB w := by unfold lvB; rw [← Bool.and_assoc, e]; rfl
    have hsg : w.all isSign = true ∧ w.length ≤ 8 := by
      unfold goodLine at e
      simp only [Bool.and_eq_true, decide_eq_true_eq] at e
      exact ⟨e.1.2, by omega⟩
    simp (maxSteps := 1000000) (disch := first | omega | rfl | (simp only [zL, two63, room] <;> omega) | fail) only [↓reduceIte, ↓zP, zW, WOp, evOp, evBin, binI, binSh, binS, evNil, keyIs, keyEq, mkv, AV.cells, AV.sc, optv, bnd, env, put, Env.get, Env.set, Env.del, Env.dels, Env.init, res1, resL, resV, fillP, splice, newRow, Nat.reduceEqDiff, Nat.reduceLT, Nat.reduceLeDiff, Nat.reduceAdd, Nat.reduceMul, Nat.reduceSub, Nat.reduceBEq, reduceCtorEq, ↓zR, zQ, Tr, StA, StT]
    refine c_isLive w hsg.1 hsg.2 ?_
    intro h1 hp1
    rw [e2] at hp
    cases e3 : swIsB w
    · rw [e3] at hp
      have hR := hp .nilS h1 (show OwW 2 encM b h1 .nilS _ from rfl) hp1
      simp (maxSteps := 1000000) (disch := first | omega | rfl | (simp only [zL, two63, room] <;> omega) | fail) only [↓reduceIte, ↓zP, zW, WOp, evOp, evBin, binI, binSh, binS, evNil, keyIs, keyEq, mkv, AV.cells, AV.sc, optv, bnd, env, put, Env.get, Env.set, Env.del, Env.dels, Env.init, res1, resL, resV, fillP, splice, newRow, Nat.reduceEqDiff, Nat.reduceLT, Nat.reduceLeDiff, Nat.reduceAdd, Nat.reduceMul, Nat.reduceSub, Nat.reduceBEq, reduceCtorEq, ↓zR, zQ, Tr, StA, StT]
      exact hR
    · rw [e3] at hp
      simp (maxSteps := 1000000) (disch := first | omega | rfl | (simp only [zL, two63, room] <;> omega) | fail) only [↓reduceIte, ↓zP, zW, WOp, evOp, evBin, binI, binSh, binS, evNil, keyIs, keyEq, mkv, AV.cells, AV.sc, optv, bnd, env, put, Env.get, Env.set, Env.del, Env.dels, Env.init, res1, resL, resV, fillP, splice, newRow, Nat.reduceEqDiff, Nat.reduceLT, Nat.reduceLeDiff, Nat.reduceAdd, Nat.reduceMul, Nat.reduceSub, Nat.reduceBEq, reduceCtorEq, ↓zR, zQ, Tr, StA, StT, e_last w (by omega)]
      refine c_to (lnL w) ?_
      intro c h2 hm2 hp2 hc
      simp (maxSteps := 1000000) (disch := first | omega | rfl | (simp only [zL, two63, room] <;> omega) | fail) only [↓reduceIte, ↓zP, zW, WOp, evOp, evBin, binI, binSh, binS, evNil, keyIs, keyEq, mkv, AV.cells, AV.sc, optv, bnd, env, put, Env.get, Env.set, Env.del, Env.dels, Env.init, res1, resL, resV, fillP, splice, newRow, Nat.reduceEqDiff, Nat.reduceLT, Nat.reduceLeDiff, Nat.reduceAdd, Nat.reduceMul, Nat.reduceSub, Nat.reduceBEq, reduceCtorEq, ↓zR, zQ, Tr, StA, StT]
      refine c_live (lnL w) w hsg.2 (b := b) (by have := hp1.1; have := hp2.1; omega) hm2 ?_
      intro v' h3 ho3 hx3 hm3
      have hp3 : Pre h1 h3 := (((hp2.x c).trans hx3) : PreX c h1 h3).pre hc
      have hR := hp v' h3 ho3 (hp1.trans hp3)
      simp (maxSteps := 1000000) (disch := first | omega | rfl | (simp only [zL, two63, room] <;> omega) | fail) only [↓reduceIte, ↓zP, zW, WOp, evOp, evBin, binI, binSh, binS, evNil, keyIs, keyEq, mkv, AV.cells, AV.sc, optv, bnd, env, put, Env.get, Env.set, Env.del, Env.dels, Env.init, res1, resL, resV, fillP, splice, newRow, Nat.reduceEqDiff, Nat.reduceLT, Nat.reduceLeDiff, Nat.reduceAdd, Nat.reduceMul, Nat.reduceSub, Nat.reduceBEq, reduceCtorEq, ↓zR, zQ, Tr, StA, StT]
      exact hR

/-! ### The reference -/
theorem lp_slm {w : Ln} (hok : OkW (lnL w) w) {c : Nat} {vm : AV} {b : AH} {R : X → Env → AH → Prop} :
    ∀ (mr mp : List (Int × Int)) (A : List (Int × Int)) (v : AV) (h : AH), movesB w [84, 70] = mp ++ mr → OwL 2 encM b h v A → A.length ≤ mp.length → NG c h v → FrG c b h → (∃ K, KW (lnL w) c h K) → SlcG 2 encM c h vm (movesB w [84, 70]) → (∀ r, rowOf vm = some r → rowOf v ≠ some r) →
    (∀ v' h', OwL 2 encM b h' v' (A ++ mr.filter fun m => decide (0 < cE (lnL w) (mkM w m))) → NG c h' v' → FrG c b h' → R (.exit 0) [(5, v')] h') →
    Cx (.loop lp235_0) [(0, .ptr c 0 0 2), (1, .str w), (5, v), (9, vm), (10, .int .i64 (movesB w [84, 70]).length), (11, .int .i64 mp.length)] h R k k
  | [], mp, A, v, h, hmp, ho, hA, hn, hf, hk, hsm, hd0, hR => by
    have hl : (movesB w [84, 70]).length = mp.length := by rw [hmp]; simp
    rw [w_loopb (c := lp235_0) (d := lb235_0) rfl]; unfold lb235_0
    rw [hl]
    simp (maxSteps := 1000000) (disch := first | omega | rfl | (simp only [zL, two63, room] <;> omega) | fail) only [↓reduceIte, ↓zP, zW, WOp, evOp, evBin, binI, binSh, binS, evNil, keyIs, keyEq, mkv, AV.cells, AV.sc, optv, bnd, env, put, Env.get, Env.set, Env.del, Env.dels, Env.init, res1, resL, resV, fillP, splice, newRow, Nat.reduceEqDiff, Nat.reduceLT, Nat.reduceLeDiff, Nat.reduceAdd, Nat.reduceMul, Nat.reduceSub, Nat.reduceBEq, reduceCtorEq, ↓zR, zQ, Tr, StA, StT]
    exact hR v h (by simpa using ho) hn hf
  | m :: mr, mp, A, v, h, hmp, ho, hA, hn, hf, hk, hsm, hd0, hR => by
    have ih := lp_slm hok (c := c) (vm := vm) (b := b) (R := R) mr (mp ++ [m])
    have hmm : m ∈ movesB w [84, 70] := by rw [hmp]; simp
    have hml : (movesB w [84, 70]).length = mp.length + 1 + mr.length := by rw [hmp]; simp; omega
    have hsm' := hsm.1
    rw [hmp] at hsm'
    obtain ⟨r1, k1, o1, hv1, hr⟩ := hsm'.at hlM
    rw [← hmp, hml] at hv1
    obtain ⟨i, t', rfl, hmv⟩ := movesB_mv hmm
    subst hv1
    rw [hml] at ih ⊢
    have hbd := movesB_len w [84, 70]
    have hwl : w.length ≤ 8 := by rw [hok.2.2.1]; exact hok.2.2.2
    have hlt : (mp.length : Int) < ((mp.length + 1 + mr.length : Nat) : Int) := by omega
    have hw1 : (mp.length : Int) + 1 = ((mp ++ [((i : Int), (t' : Int))]).length : Int) := by simp
    have hmk : mkM w ((i : Int), (t' : Int)) = madeB w i t' := rfl
    have hokm := hok.made hmv
    rw [List.filter_cons, hmk] at hR
    have hpush := Pre.push h (AO.row (encM ((i : Int), (t' : Int))) 0 0 false)
    have hbx : rdRow (h ++ [AO.row (encM ((i : Int), (t' : Int))) 0 0 false]) h.length 0 0 2 = some (encM ((i : Int), (t' : Int))) := by rw [rd_last, if_pos (by simp [encM])]; simp [encM]
    rw [w_loopb (c := lp235_0) (d := lb235_0) rfl]; unfold lb235_0
    simp (maxSteps := 1000000) (disch := first | omega | rfl | (simp only [zL, two63, room] <;> omega) | fail) only [↓reduceIte, ↓zP, zW, WOp, evOp, evBin, binI, binSh, binS, evNil, keyIs, keyEq, mkv, AV.cells, AV.sc, optv, bnd, env, put, Env.get, Env.set, Env.del, Env.dels, Env.init, res1, resL, resV, fillP, splice, newRow, Nat.reduceEqDiff, Nat.reduceLT, Nat.reduceLeDiff, Nat.reduceAdd, Nat.reduceMul, Nat.reduceSub, Nat.reduceBEq, reduceCtorEq, ↓zR, zQ, Tr, StA, StT, hlt, hr]
    refine c_liMake w i t' hmv.fst hmv.snd hmv.ne (by omega) ?_
    intro h2 hp2
    have hp1 := hpush.trans hp2
    obtain ⟨K, hk⟩ := hk
    have hf1 := hp1.frg (c := c) hk.lt
    have hnb : ¬ gr c h2 h.length := hk.fresh hp1 (Nat.le_refl _)
    simp (maxSteps := 1000000) (disch := first | omega | rfl | (simp only [zL, two63, room] <;> omega) | fail) only [↓reduceIte, ↓zP, zW, WOp, evOp, evBin, binI, binSh, binS, evNil, keyIs, keyEq, mkv, AV.cells, AV.sc, optv, bnd, env, put, Env.get, Env.set, Env.del, Env.dels, Env.init, res1, resL, resV, fillP, splice, newRow, Nat.reduceEqDiff, Nat.reduceLT, Nat.reduceLeDiff, Nat.reduceAdd, Nat.reduceMul, Nat.reduceSub, Nat.reduceBEq, reduceCtorEq, ↓zR, zQ, Tr, StA, StT]
    refine c_efrom (lnL w) _ (madeB w i t') c h2 K (Nat.lt_succ_self _) hokm (hk.pre hp1) _ ?_
    intro h3 K3 hf3 hk3 _
    have hf13 := hf1.trans hf3
    have ho3 := own_fr ho hn hf13
    have hn3 := hn.fr hf13 fun r hr => own_lt ho hr
    have hsm3 := hsm.fr hf13
    have hbx3 : rdRow h3 h.length 0 0 2 = some (encM ((i : Int), (t' : Int))) := rd_fr hf3 hnb (rdRow_pre hp2 hbx)
    by_cases hpos : 0 < cE (lnL w) (madeB w i t')
    · have hpi : ((cE (lnL w) (madeB w i t') : Nat) : Int) > 0 := by omega
      have e : decide (0 < cE (lnL w) (madeB w i t')) = true := by simpa using hpos
      rw [e] at hR
      have hpu3 := Pre.push h3 (AO.row (encM ((i : Int), (t' : Int))) 0 0 false)
      have hfp := hpu3.frg (c := c) hk3.lt
      obtain ⟨v5, h5, ha, ho5, hn5, hk5, hl5, f1, f3, hgr⟩ := apG hlM scM (h0 := b) (ho3.pre hpu3) (by have := hf.1; have := hf13.1; have := hpu3.1; omega) (hn3.fr hfp fun r hr => own_lt ho3 hr) (hk3.pre hpu3) (by omega) ((i : Int), (t' : Int))
      have hrl : ∀ r, rowOf (AV.slice r1 k1 o1 (mp.length + 1 + mr.length) 2) = some r → r < h3.length := fun r hr => hsm3.1.lt hr
      have hsm4 := hsm3.fr hfp
      simp (maxSteps := 1000000) (disch := first | omega | rfl | (simp only [zL, two63, room] <;> omega) | fail) only [↓reduceIte, ↓zP, zW, WOp, evOp, evBin, binI, binSh, binS, evNil, keyIs, keyEq, mkv, AV.cells, AV.sc, optv, bnd, env, put, Env.get, Env.set, Env.del, Env.dels, Env.init, res1, resL, resV, fillP, splice, newRow, Nat.reduceEqDiff, Nat.reduceLT, Nat.reduceLeDiff, Nat.reduceAdd, Nat.reduceMul, Nat.reduceSub, Nat.reduceBEq, reduceCtorEq, ↓zR, zQ, Tr, StA, StT, hpi, hbx3, ha, hw1]
      rw [w_loopn (c := lp235_0) rfl]
      simp (maxSteps := 1000000) (disch := first | omega | rfl | (simp only [zL, two63, room] <;> omega) | fail) only [↓reduceIte, ↓zP, zW, WOp, evOp, evBin, binI, binSh, binS, evNil, keyIs, keyEq, mkv, AV.cells, AV.sc, optv, bnd, env, put, Env.get, Env.set, Env.del, Env.dels, Env.init, res1, resL, resV, fillP, splice, newRow, Nat.reduceEqDiff, Nat.reduceLT, Nat.reduceLeDiff, Nat.reduceAdd, Nat.reduceMul, Nat.reduceSub, Nat.reduceBEq, reduceCtorEq, ↓zR, zQ, Tr, StA, StT]
      refine ih _ v5 h5 (by rw [hmp]; simp) ho5 (by simp; omega) hn5 ⟨by have := hf.1; have := hf13.1; have := hpu3.1; omega, fun j hj hg => ?_⟩ ⟨K3, hk5⟩ ⟨hsm4.1.stay fun r hr => f1 r (Nat.lt_of_lt_of_le (hrl r hr) hpu3.1) (hd0 r hr), fun r hr hg => hsm4.2 r hr ((hgr r).1 hg)⟩ (fun r hr e => ?_) ?_
      · have hfa := (hf.trans hf13).trans hfp
        obtain ⟨q1, q2⟩ := hfa.2 j hj hg
        have hvj : rowOf v ≠ some j := fun e => by have := own_ge ho e; omega
        exact ⟨by rw [f1 j (Nat.lt_of_lt_of_le hj hfa.1) hvj, q1], fun hg' => q2 ((hgr j).1 hg')⟩
      · rcases f3 r e with h6 | h6
        · exact hd0 r hr h6
        · have := hrl r hr
          have := hpu3.1
          omega
      · intro v' h' q1 q2 q3
        refine hR v' h' ?_ q2 q3
        simpa using q1
    · have hpi : ¬ ((cE (lnL w) (madeB w i t') : Nat) : Int) > 0 := by omega
      have e : decide (0 < cE (lnL w) (madeB w i t')) = false := by simpa using hpos
      rw [e] at hR
      simp (maxSteps := 1000000) (disch := first | omega | rfl | (simp only [zL, two63, room] <;> omega) | fail) only [↓reduceIte, ↓zP, zW, WOp, evOp, evBin, binI, binSh, binS, evNil, keyIs, keyEq, mkv, AV.cells, AV.sc, optv, bnd, env, put, Env.get, Env.set, Env.del, Env.dels, Env.init, res1, resL, resV, fillP, splice, newRow, Nat.reduceEqDiff, Nat.reduceLT, Nat.reduceLeDiff, Nat.reduceAdd, Nat.reduceMul, Nat.reduceSub, Nat.reduceBEq, reduceCtorEq, ↓zR, zQ, Tr, StA, StT, hpi, hw1]
      rw [w_loopn (c := lp235_0) rfl]
      simp (maxSteps := 1000000) (disch := first | omega | rfl | (simp only [zL, two63, room] <;> omega) | fail) only [↓reduceIte, ↓zP, zW, WOp, evOp, evBin, binI, binSh, binS, evNil, keyIs, keyEq, mkv, AV.cells, AV.sc, optv, bnd, env, put, Env.get, Env.set, Env.del, Env.dels, Env.init, res1, resL, resV, fillP, splice, newRow, Nat.reduceEqDiff, Nat.reduceLT, Nat.reduceLeDiff, Nat.reduceAdd, Nat.reduceMul, Nat.reduceSub, Nat.reduceBEq, reduceCtorEq, ↓zR, zQ, Tr, StA, StT]
      exact ih A v h3 (by rw [hmp]; simp) ho3 (by simp; omega) hn3 (hf.trans hf13) ⟨K3, hk3⟩ hsm3 hd0 hR
theorem KW.new {gl : Ln} {h : AH} : KW gl h.length (h ++ [.row [.nilS, .nilS] 0 0 false]) [] :=
  ⟨.nilS, .nilS, [], by simp, OwL.nil, OwL.nil, by simp [rowOf], by simp [rowOf], by simp [rowOf], rfl, List.nodup_nil, fun x hx => (List.not_mem_nil hx).elim, fun i x b hx => by simp at hx⟩
theorem FrG.new {h h' : AH} (hf : FrG h.length (h ++ [.row [.nilS, .nilS] 0 0 false]) h') : Pre h h' := by
  have hpre := Pre.push h (AO.row [.nilS, .nilS] 0 0 false)
  refine ⟨Nat.le_trans hpre.1 hf.1, fun i hi => ?_⟩
  have hng : ¬ gr h.length (h ++ [.row [.nilS, .nilS] 0 0 false]) i := by
    rintro (rfl | ⟨v1, v2, e1, e2⟩)
    · exact Nat.lt_irrefl _ hi
    · simp at e1
      obtain ⟨rfl, rfl⟩ := e1
      simp [rowOf] at e2
  rw [(hf.2 i (Nat.lt_of_lt_of_le hi hpre.1) hng).1, hpre.2 i hi]
theorem e_swLine (w : Ln) (hs : w.length < 2 ^ 60) {h : AH} {post : AV → AH → Prop} : S 233 [.str w] h post k = post (.bool (goodLine w && decide ((w.length : Int) ≤ 8))) h := by
  refine S_eq fun post hp => ?_
  refine S_of rfl T233 ?_; unfold fi233
  simp (maxSteps := 1000000) (disch := first | omega | rfl | (simp only [zL, two63, room] <;> omega) | fail) only [↓reduceIte, ↓zP, zW, WOp, evOp, evBin, binI, binSh, binS, evNil, keyIs, keyEq, mkv, AV.cells, AV.sc, optv, bnd, env, put, Env.get, Env.set, Env.del, Env.dels, Env.init, res1, resL, resV, fillP, splice, newRow, Nat.reduceEqDiff, Nat.reduceLT, Nat.reduceLeDiff, Nat.reduceAdd, Nat.reduceMul, Nat.reduceSub, Nat.reduceBEq, reduceCtorEq, ↓zR, zQ, Tr, StA, StT]
  refine c_liGood w hs ?_
  cases e : goodLine w
  · rw [e] at hp
    simp (maxSteps := 1000000) (disch := first | omega | rfl | (simp only [zL, two63, room] <;> omega) | fail) only [↓reduceIte, ↓zP, zW, WOp, evOp, evBin, binI, binSh, binS, evNil, keyIs, keyEq, mkv, AV.cells, AV.sc, optv, bnd, env, put, Env.get, Env.set, Env.del, Env.dels, Env.init, res1, resL, resV, fillP, splice, newRow, Nat.reduceEqDiff, Nat.reduceLT, Nat.reduceLeDiff, Nat.reduceAdd, Nat.reduceMul, Nat.reduceSub, Nat.reduceBEq, reduceCtorEq, ↓zR, zQ, Tr, StA, StT]
    exact hp
  · rw [e] at hp
    simp (maxSteps := 1000000) (disch := first | omega | rfl | (simp only [zL, two63, room] <;> omega) | fail) only [↓reduceIte, ↓zP, zW, WOp, evOp, evBin, binI, binSh, binS, evNil, keyIs, keyEq, mkv, AV.cells, AV.sc, optv, bnd, env, put, Env.get, Env.set, Env.del, Env.dels, Env.init, res1, resL, resV, fillP, splice, newRow, Nat.reduceEqDiff, Nat.reduceLT, Nat.reduceLeDiff, Nat.reduceAdd, Nat.reduceMul, Nat.reduceSub, Nat.reduceBEq, reduceCtorEq, ↓zR, zQ, Tr, StA, StT]
    exact hp
theorem c_sLiveMoves (w : Ln) (hs : w.length < 2 ^ 60) {h : AH} {post : AV → AH → Prop} (hp : ∀ v' h', Slc 2 encM h' v' (if lvB w then lvL w else []) → Pre h h' → post (.tup [v', .bool (lvB w)]) h') : S 225 [.str w] h post k := by
  have p0 := Pre.push h (AO.row [.nilS, .nilS] 0 0 false)
  refine S_of rfl T225 ?_; unfold fi225
  simp (maxSteps := 1000000) (disch := first | omega | rfl | (simp only [zL, two63, room] <;> omega) | fail) only [↓reduceIte, ↓zP, zW, WOp, evOp, evBin, binI, binSh, binS, evNil, keyIs, keyEq, mkv, AV.cells, AV.sc, optv, bnd, env, put, Env.get, Env.set, Env.del, Env.dels, Env.init, res1, resL, resV, fillP, splice, newRow, Nat.reduceEqDiff, Nat.reduceLT, Nat.reduceLeDiff, Nat.reduceAdd, Nat.reduceMul, Nat.reduceSub, Nat.reduceBEq, reduceCtorEq, ↓zR, zQ, Tr, StA, StT, e_swLine w hs]
  cases e : (goodLine w && decide ((w.length : Int) ≤ 8))
  · have e2 : lvB w = false := by unfold lvB; rw [← Bool.and_assoc, e]; rfl
    have hR := hp .nilS _ (show Slc 2 encM _ .nilS _ by rw [e2]; exact ⟨rfl, rfl⟩) p0
    rw [e2] at hR
    simp (maxSteps := 1000000) (disch := first | omega | rfl | (simp only [zL, two63, room] <;> omega) | fail) only [↓reduceIte, ↓zP, zW, WOp, evOp, evBin, binI, binSh, binS, evNil, keyIs, keyEq, mkv, AV.cells, AV.sc, optv, bnd, env, put, Env.get, Env.set, Env.del, Env.dels, Env.init, res1, resL, resV, fillP, splice, newRow, Nat.reduceEqDiff, Nat.reduceLT, Nat.reduceLeDiff, Nat.reduceAdd, Nat.reduceMul, Nat.reduceSub, Nat.reduceBEq, reduceCtorEq, ↓zR, zQ, Tr, StA, StT]
    exact hR
  · have e2 : lvB w = swIsB w := by unfold lvB; rw [← Bool.and_assoc, e]; rfl
    have hsg : w.all isSign = true ∧ w.length ≤ 8 := by
      unfold goodLine at e
      simp only [Bool.and_eq_true, decide_eq_true_eq] at e
      exact ⟨e.1.2, by omega⟩
    obtain ⟨_, hok⟩ := firstOf_ok hsg.1 hsg.2
    rw [e2] at hp
    simp (maxSteps := 1000000) (disch := first | omega | rfl | (simp only [zL, two63, room] <;> omega) | fail) only [↓reduceIte, ↓zP, zW, WOp, evOp, evBin, binI, binSh, binS, evNil, keyIs, keyEq, mkv, AV.cells, AV.sc, optv, bnd, env, put, Env.get, Env.set, Env.del, Env.dels, Env.init, res1, resL, resV, fillP, splice, newRow, Nat.reduceEqDiff, Nat.reduceLT, Nat.reduceLeDiff, Nat.reduceAdd, Nat.reduceMul, Nat.reduceSub, Nat.reduceBEq, reduceCtorEq, ↓zR, zQ, Tr, StA, StT]
    refine c_swIsLive w hsg.1 hsg.2 (K := []) KW.new ?_
    intro h1 ⟨K1, hk1⟩ hf1
    cases e3 : swIsB w
    · rw [e3] at hp
      have hR := hp .nilS h1 (show Slc 2 encM h1 .nilS _ from ⟨rfl, rfl⟩) hf1.new
      simp (maxSteps := 1000000) (disch := first | omega | rfl | (simp only [zL, two63, room] <;> omega) | fail) only [↓reduceIte, ↓zP, zW, WOp, evOp, evBin, binI, binSh, binS, evNil, keyIs, keyEq, mkv, AV.cells, AV.sc, optv, bnd, env, put, Env.get, Env.set, Env.del, Env.dels, Env.init, res1, resL, resV, fillP, splice, newRow, Nat.reduceEqDiff, Nat.reduceLT, Nat.reduceLeDiff, Nat.reduceAdd, Nat.reduceMul, Nat.reduceSub, Nat.reduceBEq, reduceCtorEq, ↓zR, zQ, Tr, StA, StT]
      exact hR
    · rw [e3] at hp
      simp (maxSteps := 1000000) (disch := first | omega | rfl | (simp only [zL, two63, room] <;> omega) | fail) only [↓reduceIte, ↓zP, zW, WOp, evOp, evBin, binI, binSh, binS, evNil, keyIs, keyEq, mkv, AV.cells, AV.sc, optv, bnd, env, put, Env.get, Env.set, Env.del, Env.dels, Env.init, res1, resL, resV, fillP, splice, newRow, Nat.reduceEqDiff, Nat.reduceLT, Nat.reduceLeDiff, Nat.reduceAdd, Nat.reduceMul, Nat.reduceSub, Nat.reduceBEq, reduceCtorEq, ↓zR, zQ, Tr, StA, StT]
      refine S_of rfl T235 ?_; unfold fi235
      simp (maxSteps := 1000000) (disch := first | omega | rfl | (simp only [zL, two63, room] <;> omega) | fail) only [↓reduceIte, ↓zP, zW, WOp, evOp, evBin, binI, binSh, binS, evNil, keyIs, keyEq, mkv, AV.cells, AV.sc, optv, bnd, env, put, Env.get, Env.set, Env.del, Env.dels, Env.init, res1, resL, resV, fillP, splice, newRow, Nat.reduceEqDiff, Nat.reduceLT, Nat.reduceLeDiff, Nat.reduceAdd, Nat.reduceMul, Nat.reduceSub, Nat.reduceBEq, reduceCtorEq, ↓zR, zQ, Tr, StA, StT]
      refine c_liMoves w hsg.1 (by omega) true true ?_
      intro vm h2 ho2 hp2
      rw [liM_eq] at ho2
      have hmb := movesB_len w [84, 70]
      have hvm := fun g => Slc.lenV (ho2.slc) (g := g) (ρ := fun _ => _) (x := .t 0) rfl; simp only [evOp] at hvm
      simp (maxSteps := 1000000) (disch := first | omega | rfl | (simp only [zL, two63, room] <;> omega) | fail) only [↓reduceIte, ↓zP, zW, WOp, evOp, evBin, binI, binSh, binS, evNil, keyIs, keyEq, mkv, AV.cells, AV.sc, optv, bnd, env, put, Env.get, Env.set, Env.del, Env.dels, Env.init, res1, resL, resV, fillP, splice, newRow, Nat.reduceEqDiff, Nat.reduceLT, Nat.reduceLeDiff, Nat.reduceAdd, Nat.reduceMul, Nat.reduceSub, Nat.reduceBEq, reduceCtorEq, ↓zR, zQ, Tr, StA, StT, hvm]
      refine lp_slm hok (b := h1) (movesB w [84, 70]) [] [] .nilS h2 rfl OwL.nil (by simp) (fun r hr => (by cases hr)) (hp2.frg hk1.lt) ⟨K1, hk1.pre hp2⟩ (ho2.slcW hk1 hp2) (fun r hr e => by cases e) ?_
      intro v' h3 ho3 hn3 hf3
      have hR := hp v' h3 ho3.slc (hf1.trans hf3).new
      simp (maxSteps := 1000000) (disch := first | omega | rfl | (simp only [zL, two63, room] <;> omega) | fail) only [↓reduceIte, ↓zP, zW, WOp, evOp, evBin, binI, binSh, binS, evNil, keyIs, keyEq, mkv, AV.cells, AV.sc, optv, bnd, env, put, Env.get, Env.set, Env.del, Env.dels, Env.init, res1, resL, resV, fillP, splice, newRow, Nat.reduceEqDiff, Nat.reduceLT, Nat.reduceLeDiff, Nat.reduceAdd, Nat.reduceMul, Nat.reduceSub, Nat.reduceBEq, reduceCtorEq, ↓zR, zQ, Tr, StA, StT]
      exact hR

/-! ### The law -/
theorem lvL_len (w : Ln) : (lvL w).length ≤ w.length := Nat.le_trans (List.length_filter_le _ _) (movesB_len w [84, 70])
theorem law_LiveMoves (w : Ln) (hl63 : w.length < 2 ^ 63) {h : AH} : S 224 [.str w] h (fun r _ => r = .bool true) k := by
  refine S_of rfl T224 ?_; unfold fi224
  by_cases hl : (1048576 : Int) < (w.length : Int)
  · simp (maxSteps := 1000000) (disch := first | omega | rfl | (simp only [zL, two63, room] <;> omega) | fail) only [↓reduceIte, ↓zP, zW, WOp, evOp, evBin, binI, binSh, binS, evNil, keyIs, keyEq, mkv, AV.cells, AV.sc, optv, bnd, env, put, Env.get, Env.set, Env.del, Env.dels, Env.init, res1, resL, resV, fillP, splice, newRow, Nat.reduceEqDiff, Nat.reduceLT, Nat.reduceLeDiff, Nat.reduceAdd, Nat.reduceMul, Nat.reduceSub, Nat.reduceBEq, reduceCtorEq, ↓zR, zQ, Tr, StA, StT, hl]
  have hlen : w.length < 2 ^ 60 := by omega
  have hLn : (if lvB w then lvL w else []).length ≤ 1048576 := by
    have := lvL_len w
    split
    · omega
    · simp
  generalize hL : (if lvB w then lvL w else []) = L at *
  generalize hB : lvB w = B at *
  have cS := fun {h : AH} {post : AV → AH → Prop} => c_sLiveMoves w hlen (h := h) (post := post)
  have cI := fun {b h : AH} (hb : b.length ≤ h.length) {post : AV → AH → Prop} => c_LiveMoves w hlen (b := b) (h := h) hb (post := post)
  rw [hB, hL] at cS cI
  simp (maxSteps := 1000000) (disch := first | omega | rfl | (simp only [zL, two63, room] <;> omega) | fail) only [↓reduceIte, ↓zP, zW, WOp, evOp, evBin, binI, binSh, binS, evNil, keyIs, keyEq, mkv, AV.cells, AV.sc, optv, bnd, env, put, Env.get, Env.set, Env.del, Env.dels, Env.init, res1, resL, resV, fillP, splice, newRow, Nat.reduceEqDiff, Nat.reduceLT, Nat.reduceLeDiff, Nat.reduceAdd, Nat.reduceMul, Nat.reduceSub, Nat.reduceBEq, reduceCtorEq, ↓zR, zQ, Tr, StA, StT, hl]
  refine cS ?_
  intro w0 h1 hw0 p1
  simp (maxSteps := 1000000) (disch := first | omega | rfl | (simp only [zL, two63, room] <;> omega) | fail) only [↓reduceIte, ↓zP, zW, WOp, evOp, evBin, binI, binSh, binS, evNil, keyIs, keyEq, mkv, AV.cells, AV.sc, optv, bnd, env, put, Env.get, Env.set, Env.del, Env.dels, Env.init, res1, resL, resV, fillP, splice, newRow, Nat.reduceEqDiff, Nat.reduceLT, Nat.reduceLeDiff, Nat.reduceAdd, Nat.reduceMul, Nat.reduceSub, Nat.reduceBEq, reduceCtorEq, ↓zR, zQ, Tr, StA, StT]
  refine cI (b := h1) (Nat.le_refl _) ?_
  intro g0 h2 hg0 p2
  simp (maxSteps := 1000000) (disch := first | omega | rfl | (simp only [zL, two63, room] <;> omega) | fail) only [↓reduceIte, ↓zP, zW, WOp, evOp, evBin, binI, binSh, binS, evNil, keyIs, keyEq, mkv, AV.cells, AV.sc, optv, bnd, env, put, Env.get, Env.set, Env.del, Env.dels, Env.init, res1, resL, resV, fillP, splice, newRow, Nat.reduceEqDiff, Nat.reduceLT, Nat.reduceLeDiff, Nat.reduceAdd, Nat.reduceMul, Nat.reduceSub, Nat.reduceBEq, reduceCtorEq, ↓zR, zQ, Tr, StA, StT]
  refine c_eqMoveS (L := L) (M := L) (by omega) (hg0.slc hlM) (hw0.pre p2) ?_
  intro h2' p2'
  have hg1 := hg0.pre p2'
  have P2 := p2.trans p2'
  simp (maxSteps := 1000000) (disch := first | omega | rfl | (simp only [zL, two63, room] <;> omega) | fail) only [↓reduceIte, ↓zP, zW, WOp, evOp, evBin, binI, binSh, binS, evNil, keyIs, keyEq, mkv, AV.cells, AV.sc, optv, bnd, env, put, Env.get, Env.set, Env.del, Env.dels, Env.init, res1, resL, resV, fillP, splice, newRow, Nat.reduceEqDiff, Nat.reduceLT, Nat.reduceLeDiff, Nat.reduceAdd, Nat.reduceMul, Nat.reduceSub, Nat.reduceBEq, reduceCtorEq, ↓zR, zQ, Tr, StA, StT, bne_self_eq_false, beq_self_eq_true]
  refine c_markMoveS hg1 1 (by omega) (by omega) ?_
  intro h3 hm3 v3
  have B3 := v3.keep hg1 P2 (Nat.le_refl _)
  have hneg : ¬ ((1 : Int) + 2 * (L.length : Int) < 0) := by omega
  simp (maxSteps := 1000000) (disch := first | omega | rfl | (simp only [zL, two63, room] <;> omega) | fail) only [↓reduceIte, ↓zP, zW, WOp, evOp, evBin, binI, binSh, binS, evNil, keyIs, keyEq, mkv, AV.cells, AV.sc, optv, bnd, env, put, Env.get, Env.set, Env.del, Env.dels, Env.init, res1, resL, resV, fillP, splice, newRow, Nat.reduceEqDiff, Nat.reduceLT, Nat.reduceLeDiff, Nat.reduceAdd, Nat.reduceMul, Nat.reduceSub, Nat.reduceBEq, reduceCtorEq, ↓zR, zQ, Tr, StA, StT]
  refine c_heldMoveS 1 L.length (by omega) (by omega) (hm3.slc hlM) ?_
  simp (maxSteps := 1000000) (disch := first | omega | rfl | (simp only [zL, two63, room] <;> omega) | fail) only [↓reduceIte, ↓zP, zW, WOp, evOp, evBin, binI, binSh, binS, evNil, keyIs, keyEq, mkv, AV.cells, AV.sc, optv, bnd, env, put, Env.get, Env.set, Env.del, Env.dels, Env.init, res1, resL, resV, fillP, splice, newRow, Nat.reduceEqDiff, Nat.reduceLT, Nat.reduceLeDiff, Nat.reduceAdd, Nat.reduceMul, Nat.reduceSub, Nat.reduceBEq, reduceCtorEq, ↓zR, zQ, Tr, StA, StT, hneg, bne_self_eq_false]
  refine cI (b := h3) (Nat.le_refl _) ?_
  intro u0 h5 hu0 p5
  simp (maxSteps := 1000000) (disch := first | omega | rfl | (simp only [zL, two63, room] <;> omega) | fail) only [↓reduceIte, ↓zP, zW, WOp, evOp, evBin, binI, binSh, binS, evNil, keyIs, keyEq, mkv, AV.cells, AV.sc, optv, bnd, env, put, Env.get, Env.set, Env.del, Env.dels, Env.init, res1, resL, resV, fillP, splice, newRow, Nat.reduceEqDiff, Nat.reduceLT, Nat.reduceLeDiff, Nat.reduceAdd, Nat.reduceMul, Nat.reduceSub, Nat.reduceBEq, reduceCtorEq, ↓zR, zQ, Tr, StA, StT]
  refine c_eqMoveS (L := L) (M := L) (by omega) (hu0.slc hlM) (hw0.pre (B3.trans p5)) ?_
  intro h6 p6
  simp (maxSteps := 1000000) (disch := first | omega | rfl | (simp only [zL, two63, room] <;> omega) | fail) only [↓reduceIte, ↓zP, zW, WOp, evOp, evBin, binI, binSh, binS, evNil, keyIs, keyEq, mkv, AV.cells, AV.sc, optv, bnd, env, put, Env.get, Env.set, Env.del, Env.dels, Env.init, res1, resL, resV, fillP, splice, newRow, Nat.reduceEqDiff, Nat.reduceLT, Nat.reduceLeDiff, Nat.reduceAdd, Nat.reduceMul, Nat.reduceSub, Nat.reduceBEq, reduceCtorEq, ↓zR, zQ, Tr, StA, StT, bne_self_eq_false, beq_self_eq_true]
  refine c_heldMoveS 1 L.length (by omega) (by omega) ((hm3.pre (p5.trans p6)).slc hlM) ?_
  simp (maxSteps := 1000000) (disch := first | omega | rfl | (simp only [zL, two63, room] <;> omega) | fail) only [↓reduceIte, ↓zP, zW, WOp, evOp, evBin, binI, binSh, binS, evNil, keyIs, keyEq, mkv, AV.cells, AV.sc, optv, bnd, env, put, Env.get, Env.set, Env.del, Env.dels, Env.init, res1, resL, resV, fillP, splice, newRow, Nat.reduceEqDiff, Nat.reduceLT, Nat.reduceLeDiff, Nat.reduceAdd, Nat.reduceMul, Nat.reduceSub, Nat.reduceBEq, reduceCtorEq, ↓zR, zQ, Tr, StA, StT, hneg, bne_self_eq_false]
end Go.Proofs.YtcflenomogpdbaaDoor.Ab

/- The law FnExactLiveMoves of the given program returns true, whatever the input: its tied card. Condition: what the row lists of package-level tables is laid as the program's text lays it. -/
namespace Go.Proofs.YtcflenomogpdbaaDoor.fnExactLiveMoves
open Go Go.ChangeShapes Go.WideShapes Go.ChangeAt Go.RowKit
set_option maxRecDepth 1000000

theorem own : ownKnob Tryd.prog.godebug = none := by kernel_rfl
theorem laidOut : laidOutB Tryd.prog = true := by kernel_rfl
theorem readable : ∀ t ∈ Tryd.f3.params.toList, Tryd.prog.readableRec t = true ∧ t < Tryd.prog.types.size := by
  rw [Tryd.params3]
  intro t ht
  simp only [List.mem_cons, List.not_mem_nil, or_false] at ht
  subst ht
  exact ⟨by kernel_rfl, of_decide_eq_true (by kernel_rfl)⟩
theorem contract (H : Type) (enc : TypeId × Value → H) (W : World) (base : Nat) (args : Array Value) (ds gs : List (DataW H)) (before : List MemPlace)
    (hval : ∀ (j : Nat) t v, Tryd.f3.params[j]? = some t → args[j]? = some v → Value.okWide Tryd.prog W .any base t v)
    (hW : DataW.Whole enc Tryd.prog Tryd.f3.params.toList Rows.fnExactLiveMovesSpec.vars false W args.toList ds gs before) :
    Calls Tryd.prog 3 args W fun e W' => ∃ v, e = .returned v ∧ Rows.fnExactLiveMovesSpec.post enc Tryd.prog Tryd.f3 false true false false W args v W' := by
  have hW' := hW
  obtain ⟨p, q, hA0, hV, rfl, hfz, hnd⟩ := hW
  obtain ⟨rfl, rfl⟩ := trodVars_none hV
  have hA : DataW.TrodAll enc Tryd.prog W 0 (fun _ => true) true Tryd.f3.params.toList args.toList ds p := hA0
  rw [Tryd.params3] at hA hval
  obtain ⟨v0, vs0, d0, ds0, p0, q0, hargs0, rfl, rfl, h0, r0⟩ := trodAll_cons hA
  obtain ⟨rfl, rfl, rfl⟩ := trodAll_nil r0
  obtain rfl : args = #[v0] := by cases args; simp_all
  obtain ⟨s0, hv0, hlen0⟩ := Ab.open_str Tryd.underlying9 (hval 0 9 v0 rfl rfl) h0
  have hrel := Ab.rel_nothing Ab.F W
  generalize ([] : Ab.AH) = g at hrel
  generalize (⟨fun _ _ => none, fun _ => none⟩ : Ab.Emb) = m at hrel
  have hlaw := Ab.law_LiveMoves s0 hlen0 (h := g)
  have hargs : Ab.RelL Ab.F m [.str s0] (#[v0] : Array Value).toList := by
    simp only [Ab.RelL]
    exact ⟨v0, [], rfl, by simpa only [Ab.RelV] using hv0, rfl⟩
  have hres : (Rows.fnExactLiveMovesSpec.fn H ([d0] ++ [])).results = [.lit (.bool true)] := rfl
  have hback : (Rows.fnExactLiveMovesSpec.fn H ([d0] ++ [])).args = [d0] := rfl
  refine (Ab.law_calls (P := Tryd.prog) (F := Ab.F) Ab.all_sound (f := 224) (h := g) hlaw hrel hargs).mono ?_
  rintro e W' ⟨rfl, hb⟩
  refine ⟨_, rfl, Ab.post_below (pa := p0 ++ []) (pv := []) hW' (fun _ _ _ => ?_) (fun sp hsp => ?_) (fun _ _ => rfl) (by simp) hb (ok_one (by kernel_rfl) rfl (okWide_bool_mk Tryd.underlying4 _))⟩
  · rw [hres]
    exact trodAll_cons_mk (shut_bool Tryd.underlying4 _) trodAll_mk0
  · rw [hback]
    exact Ab.trodAll_stays laidOut hb readable hA0 (fun x hx => hW'.lt x (by simpa using hx)) (fun x hx => hsp x (by simpa using hx))

/-- A WORLD FOR THE WITNESS: the settled one, the tables holding what is laid. -/
def lits : List (DataW Unit) → List Value
  | [] => []
  | .lit (.int kd n) :: l => .int kd n :: lits l
  | _ :: l => lits l
def cellsT : DataW Unit → List Value
  | .agg l => l.flatMap fun
    | .lit (.int kd n) => [.int kd n]
    | .agg l' => lits l'
    | _ => []
  | _ => []
def setCells (cs : List Value) : Obj → Obj
  | .cells _ t frozen => .cells cs.toArray t frozen
  | o => o
noncomputable def laidWorld (os : Os) : World :=
  { World.holding Tryd.prog os ⟨#[], #[], []⟩ with heap := ((World.holding Tryd.prog os ⟨#[], #[], []⟩).heap.modify 1 (setCells (cellsT Rows.laid_unicode_utf8_first))).modify 2 (setCells (cellsT Rows.laid_unicode_utf8_acceptRanges)) }
theorem laid_met (os : Os) : laidMet Tryd.prog Rows.fnExactLiveMovesRow.laid ((laidWorld os).forCall (fun _ _ => 0) ⟨#[], #[.string ⟨#[]⟩], []⟩).memory :=
  laidMet_of_run' 8 (by kernel_rfl) (by kernel_rfl)
theorem reads (os : Os) {H : Type} (enc : TypeId × Value → H) : ∃ places, DataW.whole enc Tryd.prog ((laidWorld os).forCall (fun _ _ => 0) ⟨#[], #[.string ⟨#[]⟩], []⟩).memory Tryd.f3.params.toList Rows.fnExactLiveMovesSpec.vars false (#[.string ⟨#[]⟩] : Array Value).toList 8 = some ([.lit (.string [])], [], places) :=
  ⟨[], by kernel_rfl⟩

theorem lifted (os : Os) (started : os.Started) (H : Type) (enc : TypeId × Value → H) (F : Stop.Interp) :
    ReturnsInHanded {} Tryd.checked os 3 .any ((OpenSpec.ofChange Rows.fnExactLiveMovesSpec).preRow enc Tryd.prog Tryd.f3 Rows.fnExactLiveMovesRow.domain false Rows.fnExactLiveMovesRow.laid) (((OpenSpec.ofChange Rows.fnExactLiveMovesSpec).at F).post enc Tryd.prog Tryd.f3 false true false false) := by
  obtain ⟨places, hx⟩ := reads os enc
  refine returnsInHanded_of_row (C := Tryd.checked) (s := OpenSpec.ofChange Rows.fnExactLiveMovesSpec) own started (by kernel_rfl) Tryd.func3
    (witness_row_at (enc := enc) (C := Tryd.checked) false (laidWorld os) #[.string ⟨#[]⟩] rfl (by kernel_rfl) (by kernel_rfl) (by kernel_rfl)
      (OpenSpec.preRow_of_cond 8 hx (by kernel_rfl) (fun k hk => by cases hk) (by kernel_rfl) (laid_met os))) ?_
  intro W base args ds gs before hval hW _ _ _ _ _ _
  exact contract H enc W base args ds gs before hval hW

theorem said : Rows.FnExactLiveMovesSaid :=
  OpenClaim.holds_of_cond 3 Tryd.f3 rfl rfl rfl rfl rfl rfl rfl ⟨rfl, rfl, rfl, rfl, rfl⟩ rfl rfl rfl rfl rfl (by kernel_rfl) Tryd.func3 (by kernel_rfl)
    (of_decide_eq_true (by kernel_rfl)) (by unfold Func.isWrapper; first | (rw [if_pos (by decide +kernel)]; kernel_rfl) | (rw [if_neg (by decide +kernel)]; exact ⟨rfl, rfl⟩))
    (fun os started H enc _ F => by rw [OpenClaim.pre_eq_preRow]; exact lifted os started H enc F)

/-- No parameter wants a stand-in; the program's own looks are off: what the card asks. -/
theorem plain (f : FuncId) (fn : Func) (hf : Tryd.pinned.checked.prog.funcNamed "loop.example/g01271/laws.FnExactLiveMoves" = some f) (hfn : Tryd.pinned.checked.prog.funcs[f]? = some fn) :
    false = Tryd.pinned.checked.prog.looks [] ∧ ∀ (j : Nat) t, fn.params[j]? = some t → Tryd.pinned.checked.prog.wantsStandIn t = false := by
  obtain rfl : f = 3 := Option.some.inj ((show Tryd.prog.funcNamed "loop.example/g01271/laws.FnExactLiveMoves" = some 3 by kernel_rfl).symm.trans hf) |>.symm
  obtain rfl : fn = Tryd.f3 := (Option.some.inj (Tryd.func3.symm.trans hfn)).symm
  refine ⟨by kernel_rfl, fun j t ht => ?_⟩
  rw [Tryd.params3] at ht
  have hm : t ∈ ([9] : List Nat) := by
    have := Array.mem_of_getElem? ht
    simpa using this
  simp only [List.mem_cons, List.not_mem_nil, or_false] at hm
  subst hm
  exact (show Tryd.prog.wantsStandIn 9 = false by kernel_rfl)
theorem card : Rows.FnExactLiveMovesCardSaid :=
  Claim7.holds_tied_plain_at .later [] _ _ _ _ said (fun _ h => by cases h) (by kernel_rfl) (fun _ h => by cases h) fnExactLiveMoves_row_tie rfl ⟨rfl, rfl⟩ (by kernel_rfl) rfl plain (by kernel_rfl)
end Go.Proofs.YtcflenomogpdbaaDoor.fnExactLiveMoves
