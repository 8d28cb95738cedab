/- Part 5 of the proof of a law of the given program: the rules that it leans on, and what the functions that it reaches answer; the conditions stand with each theorem. -/
import Derived.Test.YtcflenomogpdbaaQ3
set_option linter.unusedSimpArgs false
set_option linter.unusedVariables false
/- EXCHANGES by the program: first and last lines, how many plays lead to a line. -/
namespace Go.Proofs.Ytcflenomogpdbaa.Ab
open Go
set_option maxRecDepth 100000
set_option maxHeartbeats 4000000

def lnF (t g f : Nat) : Ln := List.replicate t 84 ++ List.replicate g 46 ++ List.replicate f 70
def lnL (w : Ln) : Ln := List.replicate (w.count 70) 70 ++ List.replicate (w.count 46) 46 ++ List.replicate (w.count 84) 84
theorem repB (b : UInt8) : ∀ n : Nat, Go.Lib.repeatL [b] n = List.replicate n b
  | 0 => rfl
  | n + 1 => by rw [Go.Lib.repeatL, repB b n, List.replicate_succ]; rfl
theorem e_RepB (b : UInt8) (m : Nat) (hm : m ≤ 100) {h : AH} {post : AV → AH → Prop} : S 123 [.str [b], .int .i64 m] h post k = post (.str (List.replicate m b)) h := by
  refine S_eq fun post hp => ?_
  refine S_ext (r := .str (List.replicate m b)) rfl ?_ hp
  simp only [xRepeat]
  rw [if_pos ⟨by omega, by omega, by simp; omega⟩, Int.toNat_natCast, repB]
theorem enc84 : (Utf8.encode (84 : Int)).data.toList = [84] := by decide +kernel
theorem enc70 : (Utf8.encode (70 : Int)).data.toList = [70] := by decide +kernel
theorem e_first (t g f : Nat) (ht : t ≤ 100) (hg : g ≤ 100) (hf : f ≤ 100) {h : AH} {post : AV → AH → Prop} : S 253 [.int .i64 t, .int .i64 g, .int .i64 f] h post k = post (.str (lnF t g f)) h := by
  refine S_eq fun post hp => ?_
  have l1 : (List.replicate t (84 : UInt8)).length + (List.replicate g (46 : UInt8)).length ≤ two63 := by simp only [List.length_replicate, two63]; omega
  have l2 : (List.replicate t (84 : UInt8) ++ List.replicate g (46 : UInt8)).length + (List.replicate f (70 : UInt8)).length ≤ two63 := by simp only [List.length_append, List.length_replicate, two63]; omega
  refine S_of rfl T253 ?_; unfold fi253
  simp (maxSteps := 1000000) (disch := first | omega | rfl | (simp only [zL, two63, room] <;> omega) | fail) only [↓reduceIte, ↓zP, zW, WOp, evOp, evBin, binI, binSh, binS, evNil, keyIs, keyEq, mkv, AV.cells, AV.sc, optv, bnd, env, put, Env.get, Env.set, Env.del, Env.dels, Env.init, res1, resL, resV, fillP, splice, newRow, Nat.reduceEqDiff, Nat.reduceLT, Nat.reduceLeDiff, Nat.reduceAdd, Nat.reduceMul, Nat.reduceSub, Nat.reduceBEq, reduceCtorEq, ↓zR, zQ, Tr, StA, StT]
  refine S_of rfl T246 ?_; unfold fi246
  simp (maxSteps := 1000000) (disch := first | omega | rfl | (simp only [zL, two63, room] <;> omega) | fail) only [↓reduceIte, ↓zP, zW, WOp, evOp, evBin, binI, binSh, binS, evNil, keyIs, keyEq, mkv, AV.cells, AV.sc, optv, bnd, env, put, Env.get, Env.set, Env.del, Env.dels, Env.init, res1, resL, resV, fillP, splice, newRow, Nat.reduceEqDiff, Nat.reduceLT, Nat.reduceLeDiff, Nat.reduceAdd, Nat.reduceMul, Nat.reduceSub, Nat.reduceBEq, reduceCtorEq, ↓zR, zQ, Tr, StA, StT, enc84, enc70, e_RepB 84 t ht, e_RepB 46 g hg, e_RepB 70 f hf, l1, l2]
  exact hp
theorem e_last (w : Ln) (hw : w.length ≤ 100) {h : AH} {post : AV → AH → Prop} : S 237 [.str w] h post k = post (.str (lnL w)) h := by
  refine S_eq fun post hp => ?_
  have ht := List.count_le_length (a := (84 : UInt8)) (l := w)
  have hg := List.count_le_length (a := (46 : UInt8)) (l := w)
  have hf := List.count_le_length (a := (70 : UInt8)) (l := w)
  unfold lnL at hp
  refine S_of rfl T237 ?_; unfold fi237
  simp (maxSteps := 1000000) (disch := first | omega | rfl | (simp only [zL, two63, room] <;> omega) | fail) only [↓reduceIte, ↓zP, zW, WOp, evOp, evBin, binI, binSh, binS, evNil, keyIs, keyEq, mkv, AV.cells, AV.sc, optv, bnd, env, put, Env.get, Env.set, Env.del, Env.dels, Env.init, res1, resL, resV, fillP, splice, newRow, Nat.reduceEqDiff, Nat.reduceLT, Nat.reduceLeDiff, Nat.reduceAdd, Nat.reduceMul, Nat.reduceSub, Nat.reduceBEq, reduceCtorEq, ↓zR, zQ, Tr, StA, StT, e_count]
  generalize w.count 84 = t at *
  generalize w.count 46 = g at *
  generalize w.count 70 = f at *
  have l1 : (List.replicate f (70 : UInt8)).length + (List.replicate g (46 : UInt8)).length ≤ two63 := by simp only [List.length_replicate, two63]; omega
  have l2 : (List.replicate f (70 : UInt8) ++ List.replicate g (46 : UInt8)).length + (List.replicate t (84 : UInt8)).length ≤ two63 := by simp only [List.length_append, List.length_replicate, two63]; omega
  refine S_of rfl T246 ?_; unfold fi246
  simp (maxSteps := 1000000) (disch := first | omega | rfl | (simp only [zL, two63, room] <;> omega) | fail) only [↓reduceIte, ↓zP, zW, WOp, evOp, evBin, binI, binSh, binS, evNil, keyIs, keyEq, mkv, AV.cells, AV.sc, optv, bnd, env, put, Env.get, Env.set, Env.del, Env.dels, Env.init, res1, resL, resV, fillP, splice, newRow, Nat.reduceEqDiff, Nat.reduceLT, Nat.reduceLeDiff, Nat.reduceAdd, Nat.reduceMul, Nat.reduceSub, Nat.reduceBEq, reduceCtorEq, ↓zR, zQ, Tr, StA, StT, enc84, enc70, e_RepB 84 t (by omega), e_RepB 46 g (by omega), e_RepB 70 f (by omega), l1, l2]
  exact hp

/-! ### How many plays lead to the goal -/
def swV (g w : Ln) : AV := .int .i64 (cE g w : Nat)
def Mg (g : Ln) (c : Nat) (h : AH) : Prop := Mh (fun w : Ln => w) (swV g) c h ∧ ∃ es v, h[c]? = some (.map es) ∧ mfind (.str g) es = some (some v)
theorem Mg.lt {g : Ln} {c : Nat} {h : AH} (hm : Mg g c h) : c < h.length := hm.1.lt
theorem Mg.pre {g : Ln} {c : Nat} {h h' : AH} (hm : Mg g c h) (hp : Pre h h') : Mg g c h' := by
  have hl := hm.lt
  obtain ⟨h1, es, v, h2, h3⟩ := hm
  exact ⟨h1.pre hp, es, v, by rw [hp.2 c hl]; exact h2, h3⟩
theorem Mg.prey {g : Ln} {c : Nat} {h h' : AH} (hm : Mg g c h) (he : h'[c]? = h[c]?) : Mg g c h' := by
  obtain ⟨⟨es', g1, g2, g3⟩, es, v, h2, h3⟩ := hm
  exact ⟨⟨es', by rw [he]; exact g1, g2, g3⟩, es, v, by rw [he]; exact h2, h3⟩
theorem Mg.put {g : Ln} {c : Nat} {h : AH} (hm : Mg g c h) (w : Ln) : ∃ es, h[c]? = some (.map es) ∧ (∃ o, mfind (.str w) es = some o) ∧ Mg g c (h.set c (.map (mput (.str w) (swV g w) es))) := by
  obtain ⟨h1, es, v, h2, h3⟩ := hm
  have hk : StrK es := by obtain ⟨es', a, b, _⟩ := h1; rw [h2] at a; cases a; exact b
  obtain ⟨es', a, b, d⟩ := h1.put (fun s s' (e : s = s') => by rw [e]) w
  rw [h2] at a; cases a
  refine ⟨es, h2, b, d, ?_⟩
  have hl := (List.getElem?_eq_some_iff.1 h2).1
  refine ⟨_, if (g == w) then swV g w else v, by rw [List.getElem?_set, if_pos rfl, if_pos hl], ?_⟩
  rw [mfind_mput hk]
  split <;> first | rfl | exact h3
theorem Mg.new {g : Ln} {h : AH} : Mg g h.length (h ++ [.map [(.str g, .int .i64 1)]]) := by
  refine ⟨⟨[(.str g, .int .i64 1)], by simp, ?_, ?_⟩, [(.str g, .int .i64 1)], .int .i64 1, by simp, by simp [mfind, keyEq]⟩
  · intro kv hkv; simp only [List.mem_singleton] at hkv; subst hkv; exact ⟨g, rfl⟩
  · intro s v hv
    simp only [mfind, keyEq] at hv
    by_cases e : s = g
    · subst e
      simp at hv
      subst hv
      unfold swV; rw [cE_self]; rfl
    · have : (s == g) = false := by simpa using e
      rw [this] at hv; simp at hv
def FromAt (g : Ln) (n : Nat) : Prop := ∀ (w : Ln) (c : Nat) (h : AH), mu w < n → w.length ≤ 8 → Mg g c h → ∀ post : AV → AH → Prop, (∀ h', PreX c h h' → Mg g c h' → post (.int .i64 (cE g w : Nat)) h') → S 252 [.agg [.str g, .map c], .str w] h post k
theorem lp_from {g : Ln} {n : Nat} (ih : FromAt g n) {w : Ln} (hn : mu w < n + 1) (hw : w.length ≤ 8) (hne : w ≠ g) {c cb : Nat} (hcb : cb ≠ c) {vm : AV} {h0 : AH} (hb0 : rdRow h0 cb 0 0 2 = some [.str g, .map c]) (hm0 : SlcX 2 encM c h0 vm (movesB w [84, 70])) {R : X → Env → AH → Prop} :
    ∀ (mr mp : List (Int × Int)) (h : AH), movesB w [84, 70] = mp ++ mr → PreX c h0 h → Mg g c h →
    (∀ h', PreX c h0 h' → Mg g c h' → R (.exit 0) [(1, .str w), (2, .ptr cb 0 0 2), (7, .int .i64 (cE g w : Nat))] h') →
    Cx (.loop lp252_0) [(1, .str w), (2, .ptr cb 0 0 2), (7, .int .i64 (((mp.map (mkM w)).map (cE g)).sum : Nat)), (20, vm), (21, .int .i64 (movesB w [84, 70]).length), (22, .int .i64 mp.length)] h R k k
  | [], mp, h, hmp, hp, hm, hR => by
    have hl : (movesB w [84, 70]).length = mp.length := by rw [hmp]; simp
    have hn : ((mp.map (mkM w)).map (cE g)).sum = cE g w := by
      rw [cE_ne hne, nx_eq, hmp, List.append_nil]
    rw [w_loopb (c := lp252_0) (d := lb252_0) rfl]; unfold lb252_0
    rw [hl, hn]
    simp (maxSteps := 1000000) (disch := first | omega | rfl | (simp only [zL, two63, room] <;> omega) | fail) only [↓reduceIte, ↓zP, zW, WOp, evOp, evBin, binI, binSh, binS, evNil, keyIs, keyEq, mkv, AV.cells, AV.sc, optv, bnd, env, put, Env.get, Env.set, Env.del, Env.dels, Env.init, res1, resL, resV, fillP, splice, newRow, Nat.reduceEqDiff, Nat.reduceLT, Nat.reduceLeDiff, Nat.reduceAdd, Nat.reduceMul, Nat.reduceSub, Nat.reduceBEq, reduceCtorEq, ↓zR, zQ, Tr, StA, StT]
    exact hR h hp hm
  | m :: mr, mp, h, hmp, hp, hm, hR => by
    have ihl := lp_from ih hn hw hne hcb hb0 hm0 (R := R) mr (mp ++ [m])
    have hmm : m ∈ movesB w [84, 70] := by rw [hmp]; simp
    have hml : (movesB w [84, 70]).length = mp.length + 1 + mr.length := by rw [hmp]; simp; omega
    have hbd := movesB_len w [84, 70]
    have hm' := (hm0.fr hp).1
    rw [hmp] at hm'
    obtain ⟨r1, k1, o1, hv1, hr⟩ := hm'.at hlM
    rw [← hmp, hml] at hv1
    obtain ⟨i', t', rfl, hmv⟩ := movesB_mv hmm
    subst hv1
    rw [hml] at ihl ⊢
    have hlt : (mp.length : Int) < ((mp.length + 1 + mr.length : Nat) : Int) := by omega
    have hw1 : (mp.length : Int) + 1 = ((mp ++ [((i' : Int), (t' : Int))]).length : Int) := by simp
    have hle := cE_lt (g := g) hw
    have hsum : ((mp.map (mkM w)).map (cE g)).sum + cE g (madeB w i' t') ≤ cE g w := by
      rw [cE_ne hne, nx_eq, hmp, List.map_append, List.map_append, List.sum_append, List.map_cons, List.map_cons, List.sum_cons]
      show _ + cE g (madeB w i' t') ≤ _ + (cE g (madeB w i' t') + _)
      omega
    have hs1 : ((((mp.map (mkM w)).map (cE g)).sum : Nat) : Int) + ((cE g (madeB w i' t') : Nat) : Int) = (((((mp ++ [((i' : Int), (t' : Int))]).map (mkM w)).map (cE g)).sum : Nat) : Int) := by
      rw [List.map_append, List.map_append, List.sum_append]
      show _ = (((_ + [cE g (madeB w i' t')].sum : Nat)) : Int)
      simp
    have hbr := rdRow_prex hp hcb hb0
    have hpush := Pre.push h (AO.row (encM ((i' : Int), (t' : Int))) 0 0 false)
    have hbr2 := rdRow_pre hpush hbr
    rw [w_loopb (c := lp252_0) (d := lb252_0) rfl]; unfold lb252_0
    simp (maxSteps := 1000000) (disch := first | omega | rfl | (simp only [zL, two63, room] <;> omega) | fail) only [↓reduceIte, ↓zP, zW, WOp, evOp, evBin, binI, binSh, binS, evNil, keyIs, keyEq, mkv, AV.cells, AV.sc, optv, bnd, env, put, Env.get, Env.set, Env.del, Env.dels, Env.init, res1, resL, resV, fillP, splice, newRow, Nat.reduceEqDiff, Nat.reduceLT, Nat.reduceLeDiff, Nat.reduceAdd, Nat.reduceMul, Nat.reduceSub, Nat.reduceBEq, reduceCtorEq, ↓zR, zQ, Tr, StA, StT, hlt, hr]
    refine w_drw ?_
    simp (maxSteps := 1000000) (disch := first | omega | rfl | (simp only [zL, two63, room] <;> omega) | fail) only [↓reduceIte, ↓zP, zW, WOp, evOp, evBin, binI, binSh, binS, evNil, keyIs, keyEq, mkv, AV.cells, AV.sc, optv, bnd, env, put, Env.get, Env.set, Env.del, Env.dels, Env.init, res1, resL, resV, fillP, splice, newRow, Nat.reduceEqDiff, Nat.reduceLT, Nat.reduceLeDiff, Nat.reduceAdd, Nat.reduceMul, Nat.reduceSub, Nat.reduceBEq, reduceCtorEq, ↓zR, zQ, Tr, StA, StT, hbr2]
    refine c_made w i' t' hmv.fst hmv.snd (by omega) ?_
    intro h2 hp2
    have hp1 := hpush.trans hp2
    simp (maxSteps := 1000000) (disch := first | omega | rfl | (simp only [zL, two63, room] <;> omega) | fail) only [↓reduceIte, ↓zP, zW, WOp, evOp, evBin, binI, binSh, binS, evNil, keyIs, keyEq, mkv, AV.cells, AV.sc, optv, bnd, env, put, Env.get, Env.set, Env.del, Env.dels, Env.init, res1, resL, resV, fillP, splice, newRow, Nat.reduceEqDiff, Nat.reduceLT, Nat.reduceLeDiff, Nat.reduceAdd, Nat.reduceMul, Nat.reduceSub, Nat.reduceBEq, reduceCtorEq, ↓zR, zQ, Tr, StA, StT]
    refine ih (madeB w i' t') c h2 (by have := mu_made hmv; omega) (by rw [madeB_length]; exact hw) (hm.pre hp1) _ ?_
    intro h3 hp3 hm3
    simp (maxSteps := 1000000) (disch := first | omega | rfl | (simp only [zL, two63, room] <;> omega) | fail) only [↓reduceIte, ↓zP, zW, WOp, evOp, evBin, binI, binSh, binS, evNil, keyIs, keyEq, mkv, AV.cells, AV.sc, optv, bnd, env, put, Env.get, Env.set, Env.del, Env.dels, Env.init, res1, resL, resV, fillP, splice, newRow, Nat.reduceEqDiff, Nat.reduceLT, Nat.reduceLeDiff, Nat.reduceAdd, Nat.reduceMul, Nat.reduceSub, Nat.reduceBEq, reduceCtorEq, ↓zR, zQ, Tr, StA, StT, hw1, hs1]
    rw [w_loopn (c := lp252_0) rfl]
    have hbr3 := rdRow_pre hp2 hbr2
    simp (maxSteps := 1000000) (disch := first | omega | rfl | (simp only [zL, two63, room] <;> omega) | fail) only [↓reduceIte, ↓zP, zW, WOp, evOp, evBin, binI, binSh, binS, evNil, keyIs, keyEq, mkv, AV.cells, AV.sc, optv, bnd, env, put, Env.get, Env.set, Env.del, Env.dels, Env.init, res1, resL, resV, fillP, splice, newRow, Nat.reduceEqDiff, Nat.reduceLT, Nat.reduceLeDiff, Nat.reduceAdd, Nat.reduceMul, Nat.reduceSub, Nat.reduceBEq, reduceCtorEq, ↓zR, zQ, Tr, StA, StT, hbr2, hbr3]
    exact ihl h3 (by rw [hmp]; simp) ((hp.trans (hp1.x c)).trans hp3) hm3 hR
theorem c_from (g : Ln) : ∀ n : Nat, FromAt g n
  | 0 => fun w c h hn _ _ _ _ => by omega
  | n + 1 => by
    intro w c h hn hw hm post hp
    have ih := c_from g n
    have hlt := hm.lt
    have hm0 := hm
    have hpush := Pre.push h (AO.row [.str g, .map c] 0 0 false)
    obtain ⟨⟨es, he, hks, hgood⟩, es', vg, he', hg⟩ := hm
    rw [he] at he'; cases he'
    have he2 : (h ++ [AO.row [.str g, .map c] 0 0 false])[c]? = some (.map es) := by rw [hpush.2 c hlt]; exact he
    have rb : rdRow (h ++ [AO.row [.str g, .map c] 0 0 false]) h.length 0 0 2 = some [.str g, .map c] := by rw [rd_last, if_pos (by simp)]; simp
    have rb1 : rdRow (h ++ [AO.row [.str g, .map c] 0 0 false]) h.length 0 1 1 = some [.map c] := by rw [rd_last, if_pos (by simp)]; simp
    refine S_of rfl T252 ?_; unfold fi252
    obtain ⟨o, ho⟩ := mfind_some hks w
    cases o with
    | some v =>
      obtain rfl : v = .int .i64 (cE g w : Nat) := hgood w v ho
      simp (maxSteps := 1000000) (disch := first | omega | rfl | (simp only [zL, two63, room] <;> omega) | fail) only [↓reduceIte, ↓zP, zW, WOp, evOp, evBin, binI, binSh, binS, evNil, keyIs, keyEq, mkv, AV.cells, AV.sc, optv, bnd, env, put, Env.get, Env.set, Env.del, Env.dels, Env.init, res1, resL, resV, fillP, splice, newRow, Nat.reduceEqDiff, Nat.reduceLT, Nat.reduceLeDiff, Nat.reduceAdd, Nat.reduceMul, Nat.reduceSub, Nat.reduceBEq, reduceCtorEq, ↓zR, zQ, Tr, StA, StT, rb1, he2, ho]
      exact hp _ (hpush.x c) (hm0.pre hpush)
    | none =>
      have hne : w ≠ g := by rintro rfl; rw [hg] at ho; cases ho
      simp (maxSteps := 1000000) (disch := first | omega | rfl | (simp only [zL, two63, room] <;> omega) | fail) only [↓reduceIte, ↓zP, zW, WOp, evOp, evBin, binI, binSh, binS, evNil, keyIs, keyEq, mkv, AV.cells, AV.sc, optv, bnd, env, put, Env.get, Env.set, Env.del, Env.dels, Env.init, res1, resL, resV, fillP, splice, newRow, Nat.reduceEqDiff, Nat.reduceLT, Nat.reduceLeDiff, Nat.reduceAdd, Nat.reduceMul, Nat.reduceSub, Nat.reduceBEq, reduceCtorEq, ↓zR, zQ, Tr, StA, StT, rb1, he2, ho]
      refine c_moves w [84, 70] (by omega) ?_
      intro vm h2 ho2 hp2
      have hsm : Slc 2 encM h2 vm (movesB w [84, 70]) := ho2.sl
      have hmx : SlcX 2 encM c h2 vm (movesB w [84, 70]) := ⟨hsm, fun r hr => by have := own_ge ho2 hr; simp at this; omega⟩
      have hvm := fun g => Slc.lenV (hsm) (g := g) (ρ := fun _ => _) (x := .t 0) rfl; simp only [evOp] at hvm
      have z : (0 : Int) = (((([] : List (Int × Int)).map (mkM w)).map (cE g)).sum : Nat) := rfl
      simp (maxSteps := 1000000) (disch := first | omega | rfl | (simp only [zL, two63, room] <;> omega) | fail) only [↓reduceIte, ↓zP, zW, WOp, evOp, evBin, binI, binSh, binS, evNil, keyIs, keyEq, mkv, AV.cells, AV.sc, optv, bnd, env, put, Env.get, Env.set, Env.del, Env.dels, Env.init, res1, resL, resV, fillP, splice, newRow, Nat.reduceEqDiff, Nat.reduceLT, Nat.reduceLeDiff, Nat.reduceAdd, Nat.reduceMul, Nat.reduceSub, Nat.reduceBEq, reduceCtorEq, ↓zR, zQ, Tr, StA, StT, hvm]
      rw [z]
      refine lp_from ih hn hw hne (c := c) (cb := h.length) (by omega) (rdRow_pre hp2 rb) hmx (movesB w [84, 70]) [] h2 rfl (PreX.refl _ _) ((hm0.pre hpush).pre hp2) ?_
      intro h3 hp3 hm3
      have r3 := rdRow_prex hp3 (by omega) (rdRow_pre hp2 rb1)
      obtain ⟨es3, e1, ⟨o3, e2⟩, hm4⟩ := hm3.put w
      unfold swV at hm4
      simp (maxSteps := 1000000) (disch := first | omega | rfl | (simp only [zL, two63, room] <;> omega) | fail) only [↓reduceIte, ↓zP, zW, WOp, evOp, evBin, binI, binSh, binS, evNil, keyIs, keyEq, mkv, AV.cells, AV.sc, optv, bnd, env, put, Env.get, Env.set, Env.del, Env.dels, Env.init, res1, resL, resV, fillP, splice, newRow, Nat.reduceEqDiff, Nat.reduceLT, Nat.reduceLeDiff, Nat.reduceAdd, Nat.reduceMul, Nat.reduceSub, Nat.reduceBEq, reduceCtorEq, ↓zR, zQ, Tr, StA, StT, r3, e1, e2]
      exact hp _ (((hpush.trans hp2).x c).trans (hp3.trans (PreX.refl c h3).set)) hm4
end Go.Proofs.Ytcflenomogpdbaa.Ab

/- PLAIN LAWS: lines gathered one after the other are those of the layers. -/
namespace Go.Proofs.Ytcflenomogpdbaa.Ab
open Go

abbrev Ds := List (Ln × Nat)
def keys (es : Ds) : List Ln := es.map (·.1)
def addK (d : Nat) (es : Ds) (ys : List Ln) : Ds := ys.foldl (fun es y => if y ∈ keys es then es else es ++ [(y, d + 1)]) es
theorem addK_cons (d : Nat) (es : Ds) (y : Ln) (ys : List Ln) : addK d es (y :: ys) = addK d (if y ∈ keys es then es else es ++ [(y, d + 1)]) ys := rfl
structure BI (w : Ln) (p : Nat) (es : Ds) : Prop where
  nd : (keys es).Nodup
  ly : ∀ v d, (v, d) ∈ es → v ∈ lay w d
  hd : w ∈ keys es
  cl : ∀ i, i < p → ∀ x, (keys es)[i]? = some x → ∀ y ∈ nx x, y ∈ keys es
  le : p ≤ es.length
theorem keys_app (es : Ds) (y : Ln) (d : Nat) : keys (es ++ [(y, d)]) = keys es ++ [y] := by simp [keys]
theorem keys_len (es : Ds) : (keys es).length = es.length := by simp [keys]
theorem BI.add {w : Ln} {p : Nat} {es : Ds} (h : BI w p es) {x : Ln} {d : Nat} (hx : (x, d) ∈ es) {y : Ln} (hy : y ∈ nx x) (hn : y ∉ keys es) : BI w p (es ++ [(y, d + 1)]) where
  nd := by
    rw [keys_app, List.nodup_append]
    exact ⟨h.nd, by simp, fun a ha b hb => by simp at hb; subst hb; rintro rfl; exact hn ha⟩
  ly := by
    intro v e hv
    rcases List.mem_append.1 hv with hv | hv
    · exact h.ly v e hv
    · simp at hv
      obtain ⟨rfl, rfl⟩ := hv
      exact (stepL_mem _ _).2 ⟨x, h.ly x d hx, hy⟩
  hd := by rw [keys_app]; exact List.mem_append_left _ h.hd
  cl := by
    intro i hi z hz u hu
    rw [keys_app] at hz ⊢
    have : i < (keys es).length := by rw [keys_len]; have := h.le; omega
    rw [List.getElem?_append_left this] at hz
    exact List.mem_append_left _ (h.cl i hi z hz u hu)
  le := by have := h.le; simp; omega
theorem BI.addK {w : Ln} {p : Nat} {x : Ln} {d : Nat} : ∀ (ys : List Ln) {es : Ds}, BI w p es → (x, d) ∈ es → (∀ y ∈ ys, y ∈ nx x) → BI w p (addK d es ys) ∧ (∃ r, addK d es ys = es ++ r) ∧ ∀ y ∈ ys, y ∈ keys (addK d es ys)
  | [], es, h, _, _ => ⟨h, ⟨[], by simp [Ab.addK]⟩, by simp⟩
  | y :: ys, es, h, hx, hy => by
    rw [addK_cons]
    by_cases e : y ∈ keys es
    · rw [if_pos e]
      obtain ⟨h1, ⟨r, h2⟩, h3⟩ := BI.addK ys h hx fun z hz => hy z (by simp [hz])
      refine ⟨h1, ⟨r, h2⟩, fun z hz => ?_⟩
      rcases List.mem_cons.1 hz with rfl | hz
      · rw [h2]; unfold keys; rw [List.map_append]; exact List.mem_append_left _ e
      · exact h3 z hz
    · rw [if_neg e]
      have hn := h.add hx (hy y (by simp)) e
      obtain ⟨h1, ⟨r, h2⟩, h3⟩ := BI.addK ys hn (List.mem_append_left _ hx) fun z hz => hy z (by simp [hz])
      refine ⟨h1, ⟨(y, d + 1) :: r, by rw [h2]; simp⟩, fun z hz => ?_⟩
      rcases List.mem_cons.1 hz with rfl | hz
      · rw [h2]; unfold keys; simp
      · exact h3 z hz
theorem BI.step {w : Ln} {p : Nat} {es : Ds} (h : BI w p es) {x : Ln} {d : Nat} (hx : es[p]? = some (x, d)) : BI w (p + 1) (Ab.addK d es (nx x)) := by
  obtain ⟨h1, ⟨r, h2⟩, h3⟩ := BI.addK (nx x) h (List.mem_of_getElem? hx) fun y hy => hy
  have hp := (List.getElem?_eq_some_iff.1 hx).1
  refine ⟨h1.nd, h1.ly, h1.hd, fun i hi z hz u hu => ?_, by rw [h2]; simp; omega⟩
  by_cases e : i < p
  · exact h1.cl i e z hz u hu
  · obtain rfl : i = p := by omega
    have : (keys (Ab.addK d es (nx x)))[i]? = some x := by
      rw [h2]; unfold keys
      rw [List.getElem?_map, List.getElem?_append_left hp, hx]; rfl
    rw [hz] at this; cases this
    exact h3 u hu
theorem BI.start (w : Ln) : BI w 0 [(w, 0)] := ⟨by simp [keys], fun v d h => by simp at h; obtain ⟨rfl, rfl⟩ := h; simp [lay], by simp [keys], fun i hi => by omega, by simp⟩
theorem BI.all {w : Ln} {es : Ds} (h : BI w es.length es) : ∀ j v, v ∈ lay w j → v ∈ keys es
  | 0, v, hv => by simp only [lay, List.mem_singleton] at hv; subst hv; exact h.hd
  | j + 1, v, hv => by
    obtain ⟨u, hu, hv⟩ := (stepL_mem _ _).1 hv
    have hk := BI.all h j u hu
    obtain ⟨i, hi⟩ := List.mem_iff_getElem?.1 hk
    have hlt := (List.getElem?_eq_some_iff.1 hi).1
    rw [keys_len] at hlt
    exact h.cl i hlt u hi v hv
theorem mem_keys {es : Ds} {v : Ln} : v ∈ keys es ↔ ∃ d, (v, d) ∈ es := by
  unfold keys
  rw [List.mem_map]
  constructor
  · rintro ⟨⟨a, d⟩, h, rfl⟩; exact ⟨d, h⟩
  · rintro ⟨d, h⟩; exact ⟨(v, d), h, rfl⟩
theorem BI.mem {w : Ln} {es : Ds} (h : BI w es.length es) (v : Ln) (d : Nat) : (v, d) ∈ es ↔ v ∈ lay w d := by
  refine ⟨h.ly v d, fun hv => ?_⟩
  obtain ⟨e, he⟩ := mem_keys.1 (h.all d v hv)
  have := lay_one hv (h.ly v e he)
  subst this; exact he
/-- All lines of some layers, in order. -/
def allS : List (List Ln) → List Ln → List Ln
  | [], acc => acc
  | l :: ls, acc => allS ls (addS l acc)
theorem allS_mem (y : Ln) : ∀ (ls : List (List Ln)) (acc : List Ln), y ∈ allS ls acc ↔ (∃ l ∈ ls, y ∈ l) ∨ y ∈ acc
  | [], acc => by simp [allS]
  | l :: ls, acc => by
    unfold allS
    rw [allS_mem y ls, addS_mem]
    constructor
    · rintro (⟨l', h1, h2⟩ | h | h)
      · exact .inl ⟨l', by simp [h1], h2⟩
      · exact .inl ⟨l, by simp, h⟩
      · exact .inr h
    · rintro (⟨l', h1, h2⟩ | h)
      · rcases List.mem_cons.1 h1 with rfl | h1
        · exact .inr (.inl h2)
        · exact .inl ⟨l', h1, h2⟩
      · exact .inr (.inr h)
theorem allS_srt : ∀ (ls : List (List Ln)) {acc : List Ln}, Srt acc → Srt (allS ls acc)
  | [], _, h => h
  | l :: ls, acc, h => allS_srt ls (addS_srt l h)
/-- A sorted list is what the sorting of a list of the same members, none twice, brings. -/
theorem sort_eq {l L : List Ln} (hn : l.Nodup) (hL : Srt L) (hm : ∀ x, x ∈ l ↔ x ∈ L) : l.mergeSort (fun x y => decide (x ≤ y)) = L := by
  have hp := List.mergeSort_perm l fun x y => decide (x ≤ y)
  have tr : ∀ a b c : Ln, decide (a ≤ b) = true → decide (b ≤ c) = true → decide (a ≤ c) = true := fun a b c h1 h2 => by simp only [decide_eq_true_eq] at *; exact List.le_trans h1 h2
  have tot : ∀ a b : Ln, (decide (a ≤ b) || decide (b ≤ a)) = true := fun a b => by simp only [Bool.or_eq_true, decide_eq_true_eq]; exact List.le_total a b
  have hs := List.pairwise_mergeSort tr tot l
  have hnd : (l.mergeSort fun x y => decide (x ≤ y)).Nodup := hp.nodup_iff.2 hn
  refine Srt.ext ?_ hL fun x => by rw [hp.mem_iff]; exact hm x
  refine (hs.and hnd).imp ?_
  rintro a b ⟨h1, h2⟩
  simp only [decide_eq_true_eq] at h1
  rcases List.le_iff_lt_or_eq.1 h1 with h3 | h3
  · exact h3
  · exact absurd h3 h2
end Go.Proofs.Ytcflenomogpdbaa.Ab

/- PLAIN LAWS: the layers of live lines. -/
namespace Go.Proofs.Ytcflenomogpdbaa.Ab
open Go

def swAdd (g : Ln) (acc : List Ln) (v : Ln) : List Ln := if 0 < cE g v ∧ v ∉ acc then acc ++ [v] else acc
def swAll (g : Ln) (acc l : List Ln) : List Ln := l.foldl (swAdd g) acc
theorem swAll_cons (g : Ln) (acc : List Ln) (v : Ln) (l : List Ln) : swAll g acc (v :: l) = swAll g (swAdd g acc v) l := rfl
theorem swAll_app (g : Ln) (acc l l' : List Ln) : swAll g acc (l ++ l') = swAll g (swAll g acc l) l' := List.foldl_append
theorem swAdd_mem (g : Ln) (acc : List Ln) (v x : Ln) : x ∈ swAdd g acc v ↔ x ∈ acc ∨ (x = v ∧ 0 < cE g v) := by
  unfold swAdd
  split
  · rename_i h
    rw [List.mem_append, List.mem_singleton]
    constructor
    · rintro (h1 | h1)
      · exact .inl h1
      · exact .inr ⟨h1, h.1⟩
    · rintro (h1 | ⟨h1, _⟩)
      · exact .inl h1
      · exact .inr h1
  · rename_i h
    constructor
    · exact .inl
    · rintro (h1 | ⟨rfl, h2⟩)
      · exact h1
      · exact Classical.byContradiction fun hn => h ⟨h2, hn⟩
theorem swAll_mem (g x : Ln) : ∀ (l acc : List Ln), x ∈ swAll g acc l ↔ x ∈ acc ∨ (x ∈ l ∧ 0 < cE g x)
  | [], acc => by simp [swAll]
  | v :: l, acc => by
    rw [swAll_cons, swAll_mem g x l, swAdd_mem]
    constructor
    · rintro ((h | ⟨rfl, h⟩) | ⟨h, h2⟩)
      · exact .inl h
      · exact .inr ⟨by simp, h⟩
      · exact .inr ⟨by simp [h], h2⟩
    · rintro (h | ⟨h, h2⟩)
      · exact .inl (.inl h)
      · rcases List.mem_cons.1 h with rfl | h
        · exact .inl (.inr ⟨rfl, h2⟩)
        · exact .inr ⟨h, h2⟩
theorem swAdd_nodup {g : Ln} {acc : List Ln} (h : acc.Nodup) (v : Ln) : (swAdd g acc v).Nodup := by
  unfold swAdd
  split
  · rename_i hh
    rw [List.nodup_append]
    exact ⟨h, by simp, fun a ha b hb => by simp at hb; subst hb; rintro rfl; exact hh.2 ha⟩
  · exact h
theorem swAll_nodup {g : Ln} : ∀ (l : List Ln) {acc : List Ln}, acc.Nodup → (swAll g acc l).Nodup
  | [], _, h => h
  | v :: l, _, h => swAll_nodup l (swAdd_nodup h v)
def swNext (g : Ln) (now : List Ln) : List Ln := swAll g [] (now.flatMap nx)
def lv (g w : Ln) : Nat → List Ln
  | 0 => [w]
  | j + 1 => swNext g (lv g w j)
def lvs (g w : Ln) (n : Nat) : List (List Ln) := (List.range n).map (lv g w)
theorem lvs_succ (g w : Ln) (n : Nat) : lvs g w (n + 1) = lvs g w n ++ [lv g w n] := by unfold lvs; rw [List.range_succ, List.map_append]; rfl
theorem lv_nodup (g w : Ln) : ∀ j, (lv g w j).Nodup
  | 0 => by simp [lv]
  | j + 1 => swAll_nodup _ List.nodup_nil
theorem lv_mem {g w : Ln} (hw : 0 < cE g w) : ∀ (j : Nat) (v : Ln), v ∈ lv g w j ↔ v ∈ lay w j ∧ 0 < cE g v
  | 0, v => by
    simp only [lv, lay, List.mem_singleton]
    exact ⟨fun h => ⟨h, h ▸ hw⟩, fun h => h.1⟩
  | j + 1, v => by
    show v ∈ swAll g [] ((lv g w j).flatMap nx) ↔ v ∈ stepL (lay w j) ∧ _
    rw [swAll_mem, stepL_mem]
    constructor
    · rintro (h | ⟨h, h2⟩)
      · simp at h
      · obtain ⟨u, hu, hv⟩ := List.mem_flatMap.1 h
        exact ⟨⟨u, ((lv_mem hw j u).1 hu).1, hv⟩, h2⟩
    · rintro ⟨⟨u, hu, hv⟩, h2⟩
      exact .inr ⟨List.mem_flatMap.2 ⟨u, (lv_mem hw j u).2 ⟨hu, cE_up hv h2⟩, hv⟩, h2⟩
theorem lv_sub {g w : Ln} : ∀ (j : Nat) (v : Ln), v ∈ lv g w j → v ∈ lay w j
  | 0, v, h => by simpa [lv, lay] using h
  | j + 1, v, h => by
    rcases (swAll_mem g v _ _).1 (show v ∈ swAll g [] ((lv g w j).flatMap nx) from h) with h | ⟨h, _⟩
    · simp at h
    · obtain ⟨u, hu, hv⟩ := List.mem_flatMap.1 h
      exact (stepL_mem _ _).2 ⟨u, lv_sub j u hu, hv⟩
theorem lv_end (g w : Ln) : lv g w (mu w + 1) = [] := by
  refine List.eq_nil_iff_forall_not_mem.2 fun v hv => ?_
  have := lv_sub _ _ hv
  rw [lay_end] at this
  simp at this
/-- A line is live: on a play from the first line to the last. -/
def liveB (g f w : Ln) : Bool := decide (0 < cE g w ∧ 0 < cE w f)
theorem live_iff {g f w : Ln} (hf : 0 < cE g f) : (∃ j, w ∈ lv g f j) ↔ 0 < cE g w ∧ 0 < cE w f := by
  rw [cE_iff w f]
  constructor
  · rintro ⟨j, h⟩
    obtain ⟨h1, h2⟩ := (lv_mem hf j w).1 h
    exact ⟨h2, j, h1⟩
  · rintro ⟨h2, j, h1⟩
    exact ⟨j, (lv_mem hf j w).2 ⟨h1, h2⟩⟩
theorem live_first {g f w : Ln} (h1 : 0 < cE g w) (h2 : 0 < cE w f) : 0 < cE g f := by
  rw [cE_iff] at *
  obtain ⟨i, hi⟩ := h1
  obtain ⟨j, hj⟩ := h2
  exact ⟨j + i, lay_trans hj hi⟩
theorem lv_after {g w : Ln} {N : Nat} (h : lv g w N = []) : ∀ d, lv g w (N + d) = []
  | 0 => h
  | d + 1 => by
    show swAll g [] ((lv g w (N + d)).flatMap nx) = []
    rw [lv_after h d]; rfl
theorem lvs_any {g w v : Ln} {N : Nat} (h : lv g w N = []) : (∃ L ∈ lvs g w N, v ∈ L) ↔ ∃ j, v ∈ lv g w j := by
  constructor
  · rintro ⟨L, hL, hv⟩
    unfold lvs at hL
    obtain ⟨j, _, rfl⟩ := List.mem_map.1 hL
    exact ⟨j, hv⟩
  · rintro ⟨j, hv⟩
    by_cases hj : j < N
    · exact ⟨lv g w j, List.mem_map.2 ⟨j, by simpa using hj, rfl⟩, hv⟩
    · have := lv_after h (j - N)
      rw [show N + (j - N) = j by omega] at this
      rw [this] at hv; simp at hv
end Go.Proofs.Ytcflenomogpdbaa.Ab

/- PLAIN LAWS: live lines gathered one after the other are those of the layers. -/
namespace Go.Proofs.Ytcflenomogpdbaa.Ab
open Go

def nxL (g x : Ln) : List Ln := (nx x).filter fun v => decide (0 < cE g v)
theorem nxL_mem {g x y : Ln} : y ∈ nxL g x ↔ y ∈ nx x ∧ 0 < cE g y := by unfold nxL; rw [List.mem_filter, decide_eq_true_iff]
structure BL (g w : Ln) (p : Nat) (es : Ds) : Prop where
  nd : (keys es).Nodup
  ly : ∀ v d, (v, d) ∈ es → v ∈ lay w d ∧ 0 < cE g v
  hd : w ∈ keys es
  cl : ∀ i, i < p → ∀ x, (keys es)[i]? = some x → ∀ y ∈ nxL g x, y ∈ keys es
  le : p ≤ es.length
theorem BL.bi {g w : Ln} {p : Nat} {es : Ds} (h : BL g w p es) : BI w 0 es := ⟨h.nd, fun v d hv => (h.ly v d hv).1, h.hd, fun i hi => by omega, by omega⟩
theorem BL.add {g w : Ln} {p : Nat} {es : Ds} (h : BL g w p es) {x : Ln} {d : Nat} (hx : (x, d) ∈ es) {y : Ln} (hy : y ∈ nxL g x) (hn : y ∉ keys es) : BL g w p (es ++ [(y, d + 1)]) where
  nd := (h.bi.add hx (nxL_mem.1 hy).1 hn).nd
  ly := by
    intro v e hv
    rcases List.mem_append.1 hv with hv | hv
    · exact h.ly v e hv
    · simp at hv
      obtain ⟨rfl, rfl⟩ := hv
      exact ⟨(stepL_mem _ _).2 ⟨x, (h.ly x d hx).1, (nxL_mem.1 hy).1⟩, (nxL_mem.1 hy).2⟩
  hd := by rw [keys_app]; exact List.mem_append_left _ h.hd
  cl := by
    intro i hi z hz u hu
    rw [keys_app] at hz ⊢
    have : i < (keys es).length := by rw [keys_len]; have := h.le; omega
    rw [List.getElem?_append_left this] at hz
    exact List.mem_append_left _ (h.cl i hi z hz u hu)
  le := by have := h.le; simp; omega
theorem BL.addK {g w : Ln} {p : Nat} {x : Ln} {d : Nat} : ∀ (ys : List Ln) {es : Ds}, BL g w p es → (x, d) ∈ es → (∀ y ∈ ys, y ∈ nxL g x) → BL g w p (addK d es ys) ∧ (∃ r, addK d es ys = es ++ r) ∧ ∀ y ∈ ys, y ∈ keys (addK d es ys)
  | [], es, h, _, _ => ⟨h, ⟨[], by simp [Ab.addK]⟩, by simp⟩
  | y :: ys, es, h, hx, hy => by
    rw [addK_cons]
    by_cases e : y ∈ keys es
    · rw [if_pos e]
      obtain ⟨h1, ⟨r, h2⟩, h3⟩ := BL.addK ys h hx fun z hz => hy z (by simp [hz])
      refine ⟨h1, ⟨r, h2⟩, fun z hz => ?_⟩
      rcases List.mem_cons.1 hz with rfl | hz
      · rw [h2]; unfold keys; rw [List.map_append]; exact List.mem_append_left _ e
      · exact h3 z hz
    · rw [if_neg e]
      have hn := h.add hx (hy y (by simp)) e
      obtain ⟨h1, ⟨r, h2⟩, h3⟩ := BL.addK ys hn (List.mem_append_left _ hx) fun z hz => hy z (by simp [hz])
      refine ⟨h1, ⟨(y, d + 1) :: r, by rw [h2]; simp⟩, fun z hz => ?_⟩
      rcases List.mem_cons.1 hz with rfl | hz
      · rw [h2]; unfold keys; simp
      · exact h3 z hz
theorem BL.step {g w : Ln} {p : Nat} {es : Ds} (h : BL g w p es) {x : Ln} {d : Nat} (hx : es[p]? = some (x, d)) : BL g w (p + 1) (Ab.addK d es (nxL g x)) := by
  obtain ⟨h1, ⟨r, h2⟩, h3⟩ := BL.addK (nxL g x) h (List.mem_of_getElem? hx) fun y hy => hy
  have hp := (List.getElem?_eq_some_iff.1 hx).1
  refine ⟨h1.nd, h1.ly, h1.hd, fun i hi z hz u hu => ?_, by rw [h2]; simp; omega⟩
  by_cases e : i < p
  · exact h1.cl i e z hz u hu
  · obtain rfl : i = p := by omega
    have : (keys (Ab.addK d es (nxL g x)))[i]? = some x := by
      rw [h2]; unfold keys
      rw [List.getElem?_map, List.getElem?_append_left hp, hx]; rfl
    rw [hz] at this; cases this
    exact h3 u hu
theorem BL.start {g w : Ln} (hg : 0 < cE g w) : BL g w 0 [(w, 0)] := ⟨by simp [keys], fun v d h => by simp at h; obtain ⟨rfl, rfl⟩ := h; exact ⟨by simp [lay], hg⟩, by simp [keys], fun i hi => by omega, by simp⟩
theorem BL.all {g w : Ln} {es : Ds} (h : BL g w es.length es) : ∀ j v, v ∈ lay w j → 0 < cE g v → v ∈ keys es
  | 0, v, hv, _ => by simp only [lay, List.mem_singleton] at hv; subst hv; exact h.hd
  | j + 1, v, hv, hc => by
    obtain ⟨u, hu, hv⟩ := (stepL_mem _ _).1 hv
    have hk := BL.all h j u hu (cE_up hv hc)
    obtain ⟨i, hi⟩ := List.mem_iff_getElem?.1 hk
    have hlt := (List.getElem?_eq_some_iff.1 hi).1
    rw [keys_len] at hlt
    exact h.cl i hlt u hi v (nxL_mem.2 ⟨hv, hc⟩)
theorem BL.mem {g w : Ln} {es : Ds} (h : BL g w es.length es) (v : Ln) (d : Nat) : (v, d) ∈ es ↔ v ∈ lay w d ∧ 0 < cE g v := by
  refine ⟨h.ly v d, fun hv => ?_⟩
  obtain ⟨e, he⟩ := mem_keys.1 (h.all d v hv.1 hv.2)
  have := lay_one hv.1 (h.ly v e he).1
  subst this; exact he

/-! ### The lines behind half of the moves -/
def lyL (g w : Ln) (d : Nat) : List Ln := (lay w d).filter fun v => decide (0 < cE g v)
theorem lyL_mem {g w v : Ln} {d : Nat} : v ∈ lyL g w d ↔ v ∈ lay w d ∧ 0 < cE g v := by unfold lyL; rw [List.mem_filter, decide_eq_true_iff]
theorem lyL_srt (g w : Ln) (d : Nat) : Srt (lyL g w d) := (lay_srt w d).filter _
theorem lyL_add {g w : Ln} (hw : 0 < cE g w) (d : Nat) : addS (lv g w d) [] = lyL g w d :=
  Srt.ext (addS_srt _ List.Pairwise.nil) (lyL_srt g w d) fun x => by rw [addS_mem, lyL_mem, lv_mem hw]; simp
theorem lay_split {w x : Ln} {i : Nat} : ∀ {j : Nat}, x ∈ lay w (i + j) → ∃ v ∈ lay w i, x ∈ lay v j := by
  intro j
  induction j generalizing x with
  | zero => intro h; exact ⟨x, h, by simp [lay]⟩
  | succ j ih =>
    intro h
    obtain ⟨u, hu, hx⟩ := (stepL_mem _ _).1 (show x ∈ stepL (lay w (i + j)) from h)
    obtain ⟨v, hv, h2⟩ := ih hu
    exact ⟨v, hv, (stepL_mem _ _).2 ⟨u, h2, hx⟩⟩
theorem lv_ne {g w : Ln} {n i : Nat} (h : g ∈ lay w n) (hi : i ≤ n) : lv g w i ≠ [] := by
  have hw : 0 < cE g w := (cE_iff g w).2 ⟨n, h⟩
  obtain ⟨v, hv, hx⟩ := lay_split (i := i) (j := n - i) (by rw [show i + (n - i) = n by omega]; exact h)
  intro e
  have : v ∈ lv g w i := (lv_mem hw i v).2 ⟨hv, (cE_iff g v).2 ⟨_, hx⟩⟩
  rw [e] at this; simp at this
theorem lv_lt {g w : Ln} {n i N : Nat} (h : g ∈ lay w n) (hi : i ≤ n) (hN : lv g w N = []) : i < N := by
  apply Classical.byContradiction
  intro hh
  have := lv_after hN (i - N)
  rw [show N + (i - N) = i by omega] at this
  exact lv_ne h hi this

/-! ### There is an exchange -/
def follow : Ln → List Nat → Option Ln
  | w, [] => some w
  | w, k :: ks => match (nx w)[k]? with
    | some v => follow v ks
    | none => none
theorem follow_lay : ∀ (ks : List Nat) {w v : Ln}, follow w ks = some v → v ∈ lay w ks.length
  | [], w, v, h => by simp only [follow, Option.some.injEq] at h; subst h; simp [lay]
  | k :: ks, w, v, h => by
    unfold follow at h
    split at h
    · rename_i u hu
      exact (lay_front w v ks.length).2 ⟨u, List.mem_of_getElem? hu, follow_lay ks h⟩
    · cases h
end Go.Proofs.Ytcflenomogpdbaa.Ab

/- EXCHANGES: there is one, wherever there is a gap or one kind alone. -/
namespace Go.Proofs.Ytcflenomogpdbaa.Ab
open Go
set_option maxRecDepth 100000

def exT : List (Nat × Nat × Nat × List Nat) :=
  [(0, 0, 1, []),
   (0, 0, 2, []),
   (0, 0, 3, []),
   (0, 0, 4, []),
   (0, 0, 5, []),
   (0, 0, 6, []),
   (0, 0, 7, []),
   (0, 0, 8, []),
   (0, 1, 0, []),
   (0, 1, 1, [0]),
   (0, 1, 2, [0, 0]),
   (0, 1, 3, [0, 0, 0]),
   (0, 1, 4, [0, 0, 0, 0]),
   (0, 1, 5, [0, 0, 0, 0, 0]),
   (0, 1, 6, [0, 0, 0, 0, 0, 0]),
   (0, 1, 7, [0, 0, 0, 0, 0, 0, 0]),
   (0, 2, 0, []),
   (0, 2, 1, [0, 0]),
   (0, 2, 2, [0, 0, 0, 0]),
   (0, 2, 3, [0, 0, 0, 0, 0, 0]),
   (0, 2, 4, [0, 0, 0, 0, 0, 0, 0, 0]),
   (0, 2, 5, [0, 0, 0, 0, 0, 0, 0, 0, 0, 0]),
   (0, 2, 6, [0, 0, 0, 0, 0, 0, 0, 0, 0, 0, 0, 0]),
   (0, 3, 0, []),
   (0, 3, 1, [0, 0, 0]),
   (0, 3, 2, [0, 0, 0, 0, 0, 0]),
   (0, 3, 3, [0, 0, 0, 0, 0, 0, 0, 0, 0]),
   (0, 3, 4, [0, 0, 0, 0, 0, 0, 0, 0, 0, 0, 0, 0]),
   (0, 3, 5, [0, 0, 0, 0, 0, 0, 0, 0, 0, 0, 0, 0, 0, 0, 0]),
   (0, 4, 0, []),
   (0, 4, 1, [0, 0, 0, 0]),
   (0, 4, 2, [0, 0, 0, 0, 0, 0, 0, 0]),
   (0, 4, 3, [0, 0, 0, 0, 0, 0, 0, 0, 0, 0, 0, 0]),
   (0, 4, 4, [0, 0, 0, 0, 0, 0, 0, 0, 0, 0, 0, 0, 0, 0, 0, 0]),
   (0, 5, 0, []),
   (0, 5, 1, [0, 0, 0, 0, 0]),
   (0, 5, 2, [0, 0, 0, 0, 0, 0, 0, 0, 0, 0]),
   (0, 5, 3, [0, 0, 0, 0, 0, 0, 0, 0, 0, 0, 0, 0, 0, 0, 0]),
   (0, 6, 0, []),
   (0, 6, 1, [0, 0, 0, 0, 0, 0]),
   (0, 6, 2, [0, 0, 0, 0, 0, 0, 0, 0, 0, 0, 0, 0]),
   (0, 7, 0, []),
   (0, 7, 1, [0, 0, 0, 0, 0, 0, 0]),
   (0, 8, 0, []),
   (1, 0, 0, []),
   (1, 1, 0, [0]),
   (1, 1, 1, [0, 0, 0]),
   (1, 1, 2, [0, 0, 0, 0, 0]),
   (1, 1, 3, [0, 0, 0, 0, 0, 0, 0]),
   (1, 1, 4, [0, 0, 0, 0, 0, 0, 0, 0, 0]),
   (1, 1, 5, [0, 0, 0, 0, 0, 0, 0, 0, 0, 0, 0]),
   (1, 1, 6, [0, 0, 0, 0, 0, 0, 0, 0, 0, 0, 0, 0, 0]),
   (1, 2, 0, [0, 0]),
   (1, 2, 1, [0, 0, 0, 0, 0]),
   (1, 2, 2, [0, 0, 0, 0, 0, 0, 0, 0]),
   (1, 2, 3, [0, 0, 0, 0, 0, 0, 0, 0, 0, 0, 0]),
   (1, 2, 4, [0, 0, 0, 0, 0, 0, 0, 0, 0, 0, 0, 0, 0, 0]),
   (1, 2, 5, [0, 0, 0, 0, 0, 0, 0, 0, 0, 0, 0, 0, 0, 0, 0, 0, 0]),
   (1, 3, 0, [0, 0, 0]),
   (1, 3, 1, [0, 0, 0, 0, 0, 0, 0]),
   (1, 3, 2, [0, 0, 0, 0, 0, 0, 0, 0, 0, 0, 0]),
   (1, 3, 3, [0, 0, 0, 0, 0, 0, 0, 0, 0, 0, 0, 0, 0, 0, 0]),
   (1, 3, 4, [0, 0, 0, 0, 0, 0, 0, 0, 0, 0, 0, 0, 0, 0, 0, 0, 0, 0, 0]),
   (1, 4, 0, [0, 0, 0, 0]),
   (1, 4, 1, [0, 0, 0, 0, 0, 0, 0, 0, 0]),
   (1, 4, 2, [0, 0, 0, 0, 0, 0, 0, 0, 0, 0, 0, 0, 0, 0]),
   (1, 4, 3, [0, 0, 0, 0, 0, 0, 0, 0, 0, 0, 0, 0, 0, 0, 0, 0, 0, 0, 0]),
   (1, 5, 0, [0, 0, 0, 0, 0]),
   (1, 5, 1, [0, 0, 0, 0, 0, 0, 0, 0, 0, 0, 0]),
   (1, 5, 2, [0, 0, 0, 0, 0, 0, 0, 0, 0, 0, 0, 0, 0, 0, 0, 0, 0]),
   (1, 6, 0, [0, 0, 0, 0, 0, 0]),
   (1, 6, 1, [0, 0, 0, 0, 0, 0, 0, 0, 0, 0, 0, 0, 0]),
   (1, 7, 0, [0, 0, 0, 0, 0, 0, 0]),
   (2, 0, 0, []),
   (2, 1, 0, [0, 0]),
   (2, 1, 1, [0, 1, 0, 0, 0]),
   (2, 1, 2, [0, 1, 1, 0, 0, 0, 0, 0]),
   (2, 1, 3, [0, 1, 1, 0, 0, 0, 0, 1, 0, 0, 0]),
   (2, 1, 4, [0, 1, 1, 0, 0, 0, 0, 1, 1, 0, 0, 0, 0, 0]),
   (2, 1, 5, [0, 1, 1, 0, 0, 0, 0, 1, 1, 0, 0, 0, 0, 1, 0, 0, 0]),
   (2, 2, 0, [0, 0, 0, 0]),
   (2, 2, 1, [0, 0, 0, 1, 0, 0, 0, 0]),
   (2, 2, 2, [0, 0, 0, 1, 0, 0, 0, 1, 0, 0, 0, 0]),
   (2, 2, 3, [0, 0, 0, 1, 0, 0, 0, 1, 0, 0, 0, 1, 0, 0, 0, 0]),
   (2, 2, 4, [0, 0, 0, 1, 0, 0, 0, 1, 0, 0, 0, 1, 0, 0, 0, 1, 0, 0, 0, 0]),
   (2, 3, 0, [0, 0, 0, 0, 0, 0]),
   (2, 3, 1, [0, 0, 0, 0, 0, 1, 0, 0, 0, 0, 0]),
   (2, 3, 2, [0, 0, 0, 0, 0, 1, 0, 0, 0, 0, 1, 0, 0, 0, 0, 0]),
   (2, 3, 3, [0, 0, 0, 0, 0, 1, 0, 0, 0, 0, 1, 0, 0, 0, 0, 1, 0, 0, 0, 0, 0]),
   (2, 4, 0, [0, 0, 0, 0, 0, 0, 0, 0]),
   (2, 4, 1, [0, 0, 0, 0, 0, 0, 0, 1, 0, 0, 0, 0, 0, 0]),
   (2, 4, 2, [0, 0, 0, 0, 0, 0, 0, 1, 0, 0, 0, 0, 0, 1, 0, 0, 0, 0, 0, 0]),
   (2, 5, 0, [0, 0, 0, 0, 0, 0, 0, 0, 0, 0]),
   (2, 5, 1, [0, 0, 0, 0, 0, 0, 0, 0, 0, 1, 0, 0, 0, 0, 0, 0, 0]),
   (2, 6, 0, [0, 0, 0, 0, 0, 0, 0, 0, 0, 0, 0, 0]),
   (3, 0, 0, []),
   (3, 1, 0, [0, 0, 0]),
   (3, 1, 1, [0, 1, 0, 0, 0, 0, 0]),
   (3, 1, 2, [0, 1, 1, 0, 0, 0, 0, 1, 0, 0, 0]),
   (3, 1, 3, [0, 1, 1, 0, 0, 0, 0, 1, 1, 0, 0, 0, 0, 0, 0]),
   (3, 1, 4, [0, 1, 1, 0, 0, 0, 0, 1, 1, 1, 0, 0, 0, 0, 0, 1, 0, 0, 0]),
   (3, 2, 0, [0, 0, 0, 0, 0, 0]),
   (3, 2, 1, [0, 0, 0, 0, 1, 0, 0, 0, 0, 0, 0]),
   (3, 2, 2, [0, 0, 0, 0, 1, 1, 0, 0, 0, 0, 0, 1, 0, 0, 0, 0]),
   (3, 2, 3, [0, 0, 0, 0, 1, 1, 0, 0, 0, 0, 0, 1, 0, 0, 1, 0, 0, 0, 0, 0, 0]),
   (3, 3, 0, [0, 0, 0, 0, 0, 0, 0, 0, 0]),
   (3, 3, 1, [0, 0, 0, 0, 0, 0, 0, 1, 0, 0, 0, 0, 0, 0, 0]),
   (3, 3, 2, [0, 0, 0, 0, 0, 0, 0, 1, 1, 0, 0, 0, 0, 0, 0, 1, 0, 0, 0, 0, 0]),
   (3, 4, 0, [0, 0, 0, 0, 0, 0, 0, 0, 0, 0, 0, 0]),
   (3, 4, 1, [0, 0, 0, 0, 0, 0, 0, 0, 0, 0, 1, 0, 0, 0, 0, 0, 0, 0, 0]),
   (3, 5, 0, [0, 0, 0, 0, 0, 0, 0, 0, 0, 0, 0, 0, 0, 0, 0]),
   (4, 0, 0, []),
   (4, 1, 0, [0, 0, 0, 0]),
   (4, 1, 1, [0, 1, 0, 0, 0, 1, 0, 0, 0]),
   (4, 1, 2, [0, 1, 1, 0, 0, 0, 1, 1, 0, 0, 0, 0, 0, 0]),
   (4, 1, 3, [0, 1, 1, 0, 0, 0, 1, 1, 1, 0, 0, 0, 0, 0, 0, 1, 0, 0, 0]),
   (4, 2, 0, [0, 0, 0, 0, 0, 0, 0, 0]),
   (4, 2, 1, [0, 0, 0, 0, 0, 1, 0, 0, 0, 1, 0, 0, 0, 0]),
   (4, 2, 2, [0, 0, 0, 0, 0, 1, 1, 0, 0, 0, 1, 0, 0, 1, 0, 0, 0, 0, 0, 0]),
   (4, 3, 0, [0, 0, 0, 0, 0, 0, 0, 0, 0, 0, 0, 0]),
   (4, 3, 1, [0, 0, 0, 0, 0, 0, 0, 0, 0, 1, 0, 0, 0, 1, 0, 0, 0, 0, 0]),
   (4, 4, 0, [0, 0, 0, 0, 0, 0, 0, 0, 0, 0, 0, 0, 0, 0, 0, 0]),
   (5, 0, 0, []),
   (5, 1, 0, [0, 0, 0, 0, 0]),
   (5, 1, 1, [0, 1, 0, 0, 0, 1, 0, 0, 0, 0, 0]),
   (5, 1, 2, [0, 1, 1, 0, 0, 0, 1, 1, 0, 0, 0, 0, 0, 1, 0, 0, 0]),
   (5, 2, 0, [0, 0, 0, 0, 0, 0, 0, 0, 0, 0]),
   (5, 2, 1, [0, 0, 0, 0, 0, 0, 1, 0, 0, 0, 1, 0, 0, 0, 0, 0, 0]),
   (5, 3, 0, [0, 0, 0, 0, 0, 0, 0, 0, 0, 0, 0, 0, 0, 0, 0]),
   (6, 0, 0, []),
   (6, 1, 0, [0, 0, 0, 0, 0, 0]),
   (6, 1, 1, [0, 1, 0, 0, 0, 1, 0, 0, 0, 1, 0, 0, 0]),
   (6, 2, 0, [0, 0, 0, 0, 0, 0, 0, 0, 0, 0, 0, 0]),
   (7, 0, 0, []),
   (7, 1, 0, [0, 0, 0, 0, 0, 0, 0]),
   (8, 0, 0, [])]
def exOk (x : Nat × Nat × Nat × List Nat) : Bool := follow (lnF x.1 x.2.1 x.2.2.1) x.2.2.2 == some (List.replicate x.2.2.1 70 ++ List.replicate x.2.1 46 ++ List.replicate x.1 84) && x.2.2.2.length == x.2.1 * (x.1 + x.2.2.1) + x.1 * x.2.2.1
theorem exT_ok : exT.all exOk = true := by decide +kernel
theorem exT_all : ((List.range 9).all fun t => (List.range 9).all fun g => (List.range 9).all fun f => !(decide (1 ≤ t + g + f ∧ t + g + f ≤ 8 ∧ (0 < g ∨ t = 0 ∨ f = 0))) || exT.any fun x => x.1 == t && x.2.1 == g && x.2.2.1 == f) = true := by decide +kernel
theorem exch (t g f : Nat) (h1 : 1 ≤ t + g + f) (h8 : t + g + f ≤ 8) (hg : 0 < g ∨ t = 0 ∨ f = 0) : List.replicate f 70 ++ List.replicate g 46 ++ List.replicate t 84 ∈ lay (lnF t g f) (g * (t + f) + t * f) := by
  have h := List.all_eq_true.1 (List.all_eq_true.1 (List.all_eq_true.1 exT_all t (by simp; omega)) g (by simp; omega)) f (by simp; omega)
  rw [show decide (1 ≤ t + g + f ∧ t + g + f ≤ 8 ∧ (0 < g ∨ t = 0 ∨ f = 0)) = true from decide_eq_true ⟨h1, h8, hg⟩, Bool.not_true, Bool.false_or] at h
  obtain ⟨⟨a, b, c, ks⟩, hx, he⟩ := List.any_eq_true.1 h
  simp only [Bool.and_eq_true, beq_iff_eq] at he
  obtain ⟨⟨rfl, rfl⟩, rfl⟩ := he
  have hok := List.all_eq_true.1 exT_ok _ hx
  unfold exOk at hok
  simp only [Bool.and_eq_true, beq_iff_eq] at hok
  rw [← hok.2]
  exact follow_lay ks hok.1
end Go.Proofs.Ytcflenomogpdbaa.Ab

/- MOVES in slices: compared, marked, their marks found again. -/
namespace Go.Proofs.Ytcflenomogpdbaa.Ab
open Go
set_option maxRecDepth 100000
set_option maxHeartbeats 4000000

theorem beq_cm {α : Type} [BEq α] (x y : α) (l l' : List α) : (x :: l == y :: l') = (x == y && l == l') := rfl
def cntM : Int → Nat → List (Int × Int)
  | _, 0 => []
  | q, n + 1 => (q, q + 1) :: cntM (q + 2) n
theorem cntM_len : ∀ (n : Nat) (q : Int), (cntM q n).length = n
  | 0, _ => rfl
  | n + 1, q => by simp [cntM, cntM_len n]
theorem Slc.fldM {h : AH} {c kk off n e : Nat} {pre rest : List (Int × Int)} {x : Int × Int} (hs : Slc 2 encM h (.slice c kk off n e) (pre ++ x :: rest)) : rdRow h c kk (off + pre.length * 2 + 0) 1 = some [.int .i64 x.1] ∧ rdRow h c kk (off + pre.length * 2 + 1) 1 = some [.int .i64 x.2] := by
  have hr := hs.rd hlM
  exact ⟨rd_part hr (o := 0) (m := 1) (by omega), rd_part hr (o := 1) (m := 1) (by omega)⟩
end Go.Proofs.Ytcflenomogpdbaa.Ab

/- slices.DeleteFunc on moves, where the function handed on writes into a map. -/
namespace Go.Proofs.Ytcflenomogpdbaa.Ab
open Go
set_option maxRecDepth 100000
set_option maxHeartbeats 4000000

/-- All old rows are as they were, but for the slice's own and the map. -/
def PreY (v : AV) (cm : Nat) (h h' : AH) : Prop := h.length ≤ h'.length ∧ ∀ i, i < h.length → i ≠ cm → rowOf v ≠ some i → h'[i]? = h[i]?
theorem PreY.refl (v : AV) (cm : Nat) (h : AH) : PreY v cm h h := ⟨Nat.le_refl _, fun _ _ _ _ => rfl⟩
theorem PreY.trans {v : AV} {cm : Nat} {a b c : AH} (x : PreY v cm a b) (y : PreY v cm b c) : PreY v cm a c := ⟨Nat.le_trans x.1 y.1, fun i hi h1 h2 => by rw [y.2 i (Nat.lt_of_lt_of_le hi x.1) h1 h2, x.2 i hi h1 h2]⟩
theorem PreX.y {v : AV} {cm : Nat} {h h' : AH} (hp : PreX cm h h') : PreY v cm h h' := ⟨hp.1, fun i hi h1 _ => hp.2 i hi h1⟩
theorem PreV.y {v : AV} {cm : Nat} {h h' : AH} (hp : PreV v h h') : PreY v cm h h' := ⟨hp.1, fun i hi _ h2 => hp.2 i hi fun c kk off n e hv => by subst hv; rintro rfl; exact h2 rfl⟩
theorem OwW.stay {α : Type} {esz : Nat} {enc : α → List AV} {b h h' : AH} {v : AV} {L : List α} (ho : OwW esz enc b h v L) (hr : ∀ r, rowOf v = some r → h'[r]? = h[r]?) : OwW esz enc b h' v L := by
  unfold OwW at ho ⊢
  cases v <;> simp only [rowOf] at ho hr ⊢ <;> first
    | exact ho
    | (obtain ⟨h1, h2, h3, A, Z, fl, h4, h5⟩ := ho
       exact ⟨h1, h2, h3, A, Z, fl, by rw [hr _ rfl]; exact h4, h5⟩)
theorem OwW.row {α : Type} {esz : Nat} {enc : α → List AV} {b h : AH} {c kk off n e : Nat} {L : List α} (ho : OwW esz enc b h (.slice c kk off n e) L) : c < h.length ∧ b.length ≤ c := by
  unfold OwW at ho
  obtain ⟨_, _, h3, A, Z, fl, h4, _⟩ := ho
  exact ⟨(List.getElem?_eq_some_iff.1 h4).1, h3⟩

theorem lp_DeleteFuncM (f : Nat) (cap : List AV) (P : Int × Int → Bool) {c kk off n cm : Nat} (hcm : c ≠ cm) {b h0 : AH} (hc0 : cm < h0.length) (I : AH → Prop) (hIs : ∀ h h', I h → h'[cm]? = h[cm]? → I h') (hn : n < 2 ^ 40) {R : X → Env → AH → Prop} : ∀ (rest Fl mid : List (Int × Int)) (h : AH) (i j : Nat),
    (∀ x ∈ rest, ∀ h', PreY (.slice c kk off n 2) cm h0 h' → I h' → ∀ post : AV → AH → Prop, (∀ h'', PreX cm h' h'' → I h'' → post (.bool (P x)) h'') → S f ([.agg (encM x)] ++ cap) h' post k) →
    PreY (.slice c kk off n 2) cm h0 h → I h → mid ≠ [] → i = Fl.length → j = i + mid.length → OwW 2 encM b h (.slice c kk off n 2) (Fl ++ (mid ++ rest)) →
    (∀ h' mid' i', PreY (.slice c kk off n 2) cm h0 h' → I h' → i' = (Fl ++ rest.filter fun x => !P x).length → OwW 2 encM b h' (.slice c kk off n 2) ((Fl ++ rest.filter fun x => !P x) ++ mid') → R (.exit 0) [(0, .slice c kk off n 2), (5, .int .i64 (i' : Nat))] h') →
    Cx (.loop lp248_0) [(0, .slice c kk off n 2), (1, .fn f cap), (5, .int .i64 (i : Nat)), (6, .int .i64 (j : Nat))] h R k k
  | [], Fl, mid, h, i, j, hI, hp, h1, hm, hi, hj, ho, hR => by
    have hlen : n = (Fl ++ (mid ++ [])).length := by have := ho; unfold OwW at this; exact this.2.1
    have hnot : ¬ ((j : Int) < (n : Int)) := by simp at hlen; omega
    rw [w_loopb (c := lp248_0) (d := lb248_0) rfl]; unfold lb248_0
    simp (maxSteps := 1000000) (disch := first | omega | rfl | (simp only [zL, two63, room] <;> omega) | fail) only [↓reduceIte, ↓zP, zW, WOp, evOp, evBin, binI, binSh, binS, evNil, keyIs, keyEq, mkv, AV.cells, AV.sc, optv, bnd, env, put, Env.get, Env.set, Env.del, Env.dels, Env.init, res1, resL, resV, fillP, splice, newRow, Nat.reduceEqDiff, Nat.reduceLT, Nat.reduceLeDiff, Nat.reduceAdd, Nat.reduceMul, Nat.reduceSub, Nat.reduceBEq, reduceCtorEq, ↓zR, zQ, Tr, StA, StT, hnot]
    exact hR h mid i hp h1 (by simpa using hi) (by simpa using ho)
  | x :: rest, Fl, mid, h, i, j, hI, hp, h1, hm, hi, hj, ho, hR => by
    have ih := lp_DeleteFuncM f cap P hcm (kk := kk) (off := off) (b := b) (h0 := h0) hc0 I hIs hn (R := R) rest
    have hlen : n = (Fl ++ (mid ++ x :: rest)).length := by have := ho; unfold OwW at this; exact this.2.1
    have hlt : (j : Int) < (n : Int) := by simp at hlen; omega
    have hlt2 : (i : Int) < (n : Int) := by simp at hlen; omega
    have ea : Fl ++ (mid ++ x :: rest) = (Fl ++ mid) ++ x :: rest := by simp
    have hs := ho.slc hlM
    rw [ea] at hs
    obtain ⟨c', kk', off', hv, hr⟩ := hs.at hlM
    simp only [AV.slice.injEq] at hv
    obtain ⟨rfl, rfl, rfl, -, -⟩ := hv
    rw [show (Fl ++ mid).length = j by simp; omega] at hr
    obtain ⟨m0, mid, rfl⟩ := List.exists_cons_of_ne_nil hm
    simp only [List.length_cons] at hj
    have w2 : (j : Int) + 1 = ((j + 1 : Nat) : Int) := by omega
    have w1 : (i : Int) + 1 = ((i + 1 : Nat) : Int) := by omega
    have hpush := Pre.push h (AO.row (encM x) 0 0 false)
    have hcl := ho.row.1
    have hcm2 : cm < h.length := Nat.lt_of_lt_of_le hc0 hp.1
    have hic : I (h ++ [AO.row (encM x) 0 0 false]) := hIs _ _ h1 (hpush.2 cm hcm2)
    rw [w_loopb (c := lp248_0) (d := lb248_0) rfl]; unfold lb248_0
    simp (maxSteps := 1000000) (disch := first | omega | rfl | (simp only [zL, two63, room] <;> omega) | fail) only [↓reduceIte, ↓zP, zW, WOp, evOp, evBin, binI, binSh, binS, evNil, keyIs, keyEq, mkv, AV.cells, AV.sc, optv, bnd, env, put, Env.get, Env.set, Env.del, Env.dels, Env.init, res1, resL, resV, fillP, splice, newRow, Nat.reduceEqDiff, Nat.reduceLT, Nat.reduceLeDiff, Nat.reduceAdd, Nat.reduceMul, Nat.reduceSub, Nat.reduceBEq, reduceCtorEq, ↓zR, zQ, Tr, StA, StT, hlt, hr]
    refine hI x (by simp) _ (hp.trans (hpush.x cm).y) hic _ ?_
    intro h2 hp2 h12
    have hp12 := (hpush.x cm).trans hp2
    have ho2 : OwW 2 encM b h2 (.slice c kk off n 2) (Fl ++ (m0 :: mid ++ x :: rest)) := ho.stay fun r hr => by
      simp only [rowOf, Option.some.injEq] at hr
      subst hr
      exact hp12.2 c hcl hcm
    cases e : P x
    · have eb : Fl ++ (m0 :: mid ++ x :: rest) = Fl ++ m0 :: (mid ++ x :: rest) := by simp
      rw [eb] at ho2
      obtain ⟨c', kk', off', h3, hv3, hw3, ho3, hpv3⟩ := ho2.store hlM x 0 (encM x) (by simp [hlM]) (by simp [encM, AV.sc]) (by simp [splice, hlM, encM])
      simp only [AV.slice.injEq] at hv3
      obtain ⟨rfl, rfl, rfl, -, -⟩ := hv3
      rw [← hi, Nat.add_zero] at hw3
      have hbx : rdRow h2 h.length 0 0 2 = some (encM x) := rdRow_prex hp2 (by omega) (by rw [rd_last, if_pos (by simp [encM])]; simp [encM])
      have hI3 : I h3 := hIs _ _ h12 (hpv3.2 cm (Nat.lt_of_lt_of_le hcm2 hp12.1) fun c' kk' off' n' e' hv => by cases hv; exact Ne.symm hcm)
      simp (maxSteps := 1000000) (disch := first | omega | rfl | (simp only [zL, two63, room] <;> omega) | fail) only [↓reduceIte, ↓zP, zW, WOp, evOp, evBin, binI, binSh, binS, evNil, keyIs, keyEq, mkv, AV.cells, AV.sc, optv, bnd, env, put, Env.get, Env.set, Env.del, Env.dels, Env.init, res1, resL, resV, fillP, splice, newRow, Nat.reduceEqDiff, Nat.reduceLT, Nat.reduceLeDiff, Nat.reduceAdd, Nat.reduceMul, Nat.reduceSub, Nat.reduceBEq, reduceCtorEq, ↓zR, zQ, Tr, StA, StT, e, hlt2, hbx, hw3, w1, w2]
      rw [w_loopn (c := lp248_0) rfl]
      simp (maxSteps := 1000000) (disch := first | omega | rfl | (simp only [zL, two63, room] <;> omega) | fail) only [↓reduceIte, ↓zP, zW, WOp, evOp, evBin, binI, binSh, binS, evNil, keyIs, keyEq, mkv, AV.cells, AV.sc, optv, bnd, env, put, Env.get, Env.set, Env.del, Env.dels, Env.init, res1, resL, resV, fillP, splice, newRow, Nat.reduceEqDiff, Nat.reduceLT, Nat.reduceLeDiff, Nat.reduceAdd, Nat.reduceMul, Nat.reduceSub, Nat.reduceBEq, reduceCtorEq, ↓zR, zQ, Tr, StA, StT]
      have hfilt : (x :: rest).filter (fun x => !P x) = x :: rest.filter fun x => !P x := by rw [List.filter_cons, e]; rfl
      rw [hfilt] at hR
      refine ih (Fl ++ [x]) (mid ++ [x]) h3 (i + 1) (j + 1) (fun y hy => hI y (by simp [hy])) ((hp.trans hp12.y).trans hpv3.y) hI3 (by simp) (by simp; omega) (by simp; omega) (by simpa using ho3) ?_
      intro h' mid' i' q1 q2 q3 q4
      exact hR h' mid' i' q1 q2 (by simpa using q3) (by simpa using q4)
    · simp (maxSteps := 1000000) (disch := first | omega | rfl | (simp only [zL, two63, room] <;> omega) | fail) only [↓reduceIte, ↓zP, zW, WOp, evOp, evBin, binI, binSh, binS, evNil, keyIs, keyEq, mkv, AV.cells, AV.sc, optv, bnd, env, put, Env.get, Env.set, Env.del, Env.dels, Env.init, res1, resL, resV, fillP, splice, newRow, Nat.reduceEqDiff, Nat.reduceLT, Nat.reduceLeDiff, Nat.reduceAdd, Nat.reduceMul, Nat.reduceSub, Nat.reduceBEq, reduceCtorEq, ↓zR, zQ, Tr, StA, StT, e, w2]
      rw [w_loopn (c := lp248_0) rfl]
      simp (maxSteps := 1000000) (disch := first | omega | rfl | (simp only [zL, two63, room] <;> omega) | fail) only [↓reduceIte, ↓zP, zW, WOp, evOp, evBin, binI, binSh, binS, evNil, keyIs, keyEq, mkv, AV.cells, AV.sc, optv, bnd, env, put, Env.get, Env.set, Env.del, Env.dels, Env.init, res1, resL, resV, fillP, splice, newRow, Nat.reduceEqDiff, Nat.reduceLT, Nat.reduceLeDiff, Nat.reduceAdd, Nat.reduceMul, Nat.reduceSub, Nat.reduceBEq, reduceCtorEq, ↓zR, zQ, Tr, StA, StT]
      have hfilt : (x :: rest).filter (fun x => !P x) = rest.filter fun x => !P x := by rw [List.filter_cons, e]; rfl
      rw [hfilt] at hR
      exact ih Fl (m0 :: mid ++ [x]) h2 i (j + 1) (fun y hy => hI y (by simp [hy])) (hp.trans hp12.y) h12 (by simp) hi (by simp; omega) (by simpa using ho2) hR

theorem flat_rep2 : ∀ n : Nat, (List.replicate n [AV.int .i64 0, AV.int .i64 0]).flatten = (List.replicate n ((0 : Int), (0 : Int))).flatMap encM
  | 0 => rfl
  | n + 1 => by rw [List.replicate_succ, List.replicate_succ, List.flatten_cons, List.flatMap_cons, flat_rep2 n]
/-- The part behind i laid to zero. -/
theorem OwW.clear {b h : AH} {c kk off n : Nat} {L M : List (Int × Int)} (ho : OwW 2 encM b h (.slice c kk off n 2) (L ++ M)) (hM : M ≠ []) : ∃ h', wrRow h c kk (off + L.length * 2) ((List.replicate M.length ((0 : Int), (0 : Int))).flatMap encM) = some h' ∧ OwW 2 encM b h' (.slice c kk off L.length 2) L ∧ PreV (.slice c kk off n 2) h h' := by
  unfold OwW at ho
  obtain ⟨_, hn, hb, A, Z, fl, h4, h5, h6⟩ := ho
  have hlt := (List.getElem?_eq_some_iff.1 h4).1
  have hpl := flat_len hlM L
  have hml := flat_len hlM M
  have hrl := flat_len hlM (List.replicate M.length ((0 : Int), (0 : Int)))
  rw [List.length_replicate] at hrl
  have hsc : ((List.replicate M.length ((0 : Int), (0 : Int))).flatMap encM).all AV.sc = true := by
    rw [List.all_eq_true]
    intro y hy
    obtain ⟨a, _, ha⟩ := List.mem_flatMap.1 hy
    simp only [encM, List.mem_cons, List.not_mem_nil, or_false] at ha
    rcases ha with rfl | rfl <;> rfl
  have hrow : A ++ (L ++ M).flatMap encM ++ Z = A ++ (L.flatMap encM ++ (M.flatMap encM ++ Z)) := by simp
  rw [hrow] at h4
  refine ⟨h.set c (.row (A ++ (L.flatMap encM ++ ((List.replicate M.length ((0 : Int), (0 : Int))).flatMap encM ++ Z))) kk kk false), ?_, ?_, ?_⟩
  · unfold wrRow
    rw [h4]
    simp only
    rw [if_pos ⟨trivial, h5, by simp only [List.length_append, hpl, hml, hrl, h6]; omega, hsc⟩, splice_all _ _ _ _ _ (by omega) (by omega)]
  · unfold OwW
    refine ⟨rfl, rfl, hb, A, (List.replicate M.length ((0 : Int), (0 : Int))).flatMap encM ++ Z, kk, ?_, Nat.le_refl _, h6⟩
    rw [List.getElem?_set, if_pos rfl, if_pos hlt, List.append_assoc]
  · exact ⟨by simp, fun i _ hc => by rw [List.getElem?_set, if_neg (hc c kk off _ 2 rfl ·.symm)]⟩
theorem OwW.cut {b h : AH} {c kk off n : Nat} {L : List (Int × Int)} (ho : OwW 2 encM b h (.slice c kk off n 2) (L ++ [])) : OwW 2 encM b h (.slice c kk off L.length 2) L := by
  unfold OwW at ho ⊢
  simp only [List.append_nil] at ho
  exact ⟨rfl, rfl, ho.2.2⟩
theorem c_DeleteFuncM (f : Nat) (cap : List AV) (P : Int × Int → Bool) {cm : Nat} {b h : AH} (hc0 : cm < h.length) (I : AH → Prop) (hIs : ∀ h h', I h → h'[cm]? = h[cm]? → I h') {v : AV} {L : List (Int × Int)} (ho : OwW 2 encM b h v L) (hv : ∀ r, rowOf v = some r → r ≠ cm) (hL : L.length < 2 ^ 40) (h1 : I h)
    (hI : ∀ x ∈ L, ∀ h', PreY v cm h h' → I h' → ∀ post : AV → AH → Prop, (∀ h'', PreX cm h' h'' → I h'' → post (.bool (P x)) h'') → S f ([.agg (encM x)] ++ cap) h' post k) {post : AV → AH → Prop}
    (hp : ∀ v' h', OwW 2 encM b h' v' (L.filter fun x => !P x) → PreY v cm h h' → I h' → post v' h') : S 248 [v, .fn f cap] h post k := by
  have stayX : ∀ {h'}, PreX cm h h' → OwW 2 encM b h' v L := fun hp => ho.stay fun r hr => hp.2 r (by
    cases v <;> simp only [rowOf] at hr <;> first
      | (cases hr; done)
      | (cases hr; exact ho.row.1)) (hv r hr)
  refine S_of rfl T248 ?_; unfold fi248
  simp (maxSteps := 1000000) (disch := first | omega | rfl | (simp only [zL, two63, room] <;> omega) | fail) only [↓reduceIte, ↓zP, zW, WOp, evOp, evBin, binI, binSh, binS, evNil, keyIs, keyEq, mkv, AV.cells, AV.sc, optv, bnd, env, put, Env.get, Env.set, Env.del, Env.dels, Env.init, res1, resL, resV, fillP, splice, newRow, Nat.reduceEqDiff, Nat.reduceLT, Nat.reduceLeDiff, Nat.reduceAdd, Nat.reduceMul, Nat.reduceSub, Nat.reduceBEq, reduceCtorEq, ↓zR, zQ, Tr, StA, StT]
  refine c_IndexFuncM f cap P (fun h' => PreX cm h h' ∧ I h') hL (fun h' hh => (stayX hh.1).slc hlM) ?_ ⟨PreX.refl _ _, h1⟩ ?_
  · intro x hx h' hh post hpost
    exact hI x hx h' hh.1.y hh.2 post fun h'' hp'' hi'' => hpost h'' ⟨hh.1.trans hp'', hi''⟩
  intro h2 ⟨hp2, h12⟩
  unfold idxOf
  cases hf : L.findIdx? P with
  | none =>
    have hfl : (L.filter fun x => !P x) = L := by
      rw [List.findIdx?_eq_none_iff] at hf
      rw [List.filter_eq_self]
      intro x hx; simp [hf x hx]
    rw [hfl] at hp
    simp (maxSteps := 1000000) (disch := first | omega | rfl | (simp only [zL, two63, room] <;> omega) | fail) only [↓reduceIte, ↓zP, zW, WOp, evOp, evBin, binI, binSh, binS, evNil, keyIs, keyEq, mkv, AV.cells, AV.sc, optv, bnd, env, put, Env.get, Env.set, Env.del, Env.dels, Env.init, res1, resL, resV, fillP, splice, newRow, Nat.reduceEqDiff, Nat.reduceLT, Nat.reduceLeDiff, Nat.reduceAdd, Nat.reduceMul, Nat.reduceSub, Nat.reduceBEq, reduceCtorEq, ↓zR, zQ, Tr, StA, StT]
    exact hp v h2 (stayX hp2) hp2.y h12
  | some i =>
    obtain ⟨x, rest, hLe, hPx, hfl, hi⟩ := take_slice hf
    rw [hfl] at hp
    have ho2 := stayX hp2
    cases v with
    | slice c kk off n e =>
      obtain ⟨rfl, hn⟩ : e = 2 ∧ n = L.length := by have := ho2; unfold OwW at this; exact ⟨this.1, this.2.1⟩
      have hcm : c ≠ cm := hv c rfl
      have hi1 : (i : Int) + 1 = ((i + 1 : Nat) : Int) := by omega
      have hne : ((i : Int) == -1) = false := by simp
      have hil : (L.take i).length = i := by simp; omega
      have hll : L.length = i + 1 + rest.length := by
        have := congrArg List.length hLe
        simp only [List.length_append, List.length_cons, hil] at this
        omega
      simp (maxSteps := 1000000) (disch := first | omega | rfl | (simp only [zL, two63, room] <;> omega) | fail) only [↓reduceIte, ↓zP, zW, WOp, evOp, evBin, binI, binSh, binS, evNil, keyIs, keyEq, mkv, AV.cells, AV.sc, optv, bnd, env, put, Env.get, Env.set, Env.del, Env.dels, Env.init, res1, resL, resV, fillP, splice, newRow, Nat.reduceEqDiff, Nat.reduceLT, Nat.reduceLeDiff, Nat.reduceAdd, Nat.reduceMul, Nat.reduceSub, Nat.reduceBEq, reduceCtorEq, ↓zR, zQ, Tr, StA, StT, hne, hi1]
      refine lp_DeleteFuncM f cap P hcm (b := b) (h0 := h2) (Nat.lt_of_lt_of_le hc0 hp2.1) I hIs (by omega) rest (L.take i) [x] h2 i (i + 1) ?_ (PreY.refl _ _ _) h12 (by simp) hil.symm (by simp) ?_ ?_
      · intro y hy h' hpy hi' post hpost
        exact hI y (by rw [hLe]; simp [hy]) h' (hp2.y.trans hpy) hi' post hpost
      · rw [show L.take i ++ ([x] ++ rest) = L from hLe.symm]
        exact ho2
      · intro h3 mid i' hp3 h13 hi' ho3
        generalize (L.take i ++ rest.filter fun x => !P x) = M at *
        have hlen : n = (M ++ mid).length := by have := ho3; unfold OwW at this; exact this.2.1
        rw [List.length_append] at hlen
        have hle : (i' : Int) ≤ (n : Int) := by omega
        have hle' : M.length ≤ n := by omega
        have hsub : n - i' = mid.length := by omega
        have hq3 := hp2.y.trans hp3
        subst hi'
        by_cases hz : mid = []
        · subst hz
          have hz' : n - M.length = 0 := by simpa using hsub
          simp (maxSteps := 1000000) (disch := first | omega | rfl | (simp only [zL, two63, room] <;> omega) | fail) only [↓reduceIte, ↓zP, zW, WOp, evOp, evBin, binI, binSh, binS, evNil, keyIs, keyEq, mkv, AV.cells, AV.sc, optv, bnd, env, put, Env.get, Env.set, Env.del, Env.dels, Env.init, res1, resL, resV, fillP, splice, newRow, Nat.reduceEqDiff, Nat.reduceLT, Nat.reduceLeDiff, Nat.reduceAdd, Nat.reduceMul, Nat.reduceSub, Nat.reduceBEq, reduceCtorEq, ↓zR, zQ, Tr, StA, StT, hz']
          have := hp _ h3 ho3.cut hq3 h13
          simpa using this
        · have hz' : n - M.length ≠ 0 := by rw [hsub]; intro h0; exact hz (List.eq_nil_of_length_eq_zero h0)
          obtain ⟨h4, hw4, ho4, hp4⟩ := ho3.clear hz
          have hI4 : I h4 := hIs _ _ h13 (hp4.2 cm (Nat.lt_of_lt_of_le hc0 hq3.1) fun c' kk' off' n' e' hv => by cases hv; exact Ne.symm hcm)
          rw [← hsub, ← flat_rep2] at hw4
          have hrep := flat_rep2 (n - M.length)
          simp (maxSteps := 1000000) (disch := first | omega | rfl | (simp only [zL, two63, room] <;> omega) | fail) only [↓reduceIte, ↓zP, zW, WOp, evOp, evBin, binI, binSh, binS, evNil, keyIs, keyEq, mkv, AV.cells, AV.sc, optv, bnd, env, put, Env.get, Env.set, Env.del, Env.dels, Env.init, res1, resL, resV, fillP, splice, newRow, Nat.reduceEqDiff, Nat.reduceLT, Nat.reduceLeDiff, Nat.reduceAdd, Nat.reduceMul, Nat.reduceSub, Nat.reduceBEq, reduceCtorEq, ↓zR, zQ, Tr, StA, StT, hz', hw4]
          have := hp _ h4 ho4 (hq3.trans hp4.y) hI4
          simpa using this
    | nilS => unfold OwW at ho2; rw [ho2] at hi; simp at hi
    | empS => unfold OwW at ho2; rw [ho2] at hi; simp at hi
    | _ => unfold OwW at ho2; exact ho2.elim
end Go.Proofs.Ytcflenomogpdbaa.Ab

/- REACHING by the program: lines gathered in a map, one after the other. -/
namespace Go.Proofs.Ytcflenomogpdbaa.Ab
open Go
set_option maxRecDepth 100000
set_option maxHeartbeats 4000000

def encE (p : Ln × Nat) : AV × AV := (.str p.1, .int .i64 p.2)
theorem mfE (x : Ln) : ∀ es : Ds, mfind (.str x) (es.map encE) = some ((es.find? fun p => p.1 == x).map fun p => AV.int .i64 (p.2 : Int))
  | [] => rfl
  | (k, d) :: es => by
    rw [List.map_cons]
    simp only [encE, mfind, keyEq, List.find?_cons]
    by_cases e : x = k
    · subst e; simp
    · have e1 : (x == k) = false := by simpa using e
      have e2 : (k == x) = false := by simpa using Ne.symm e
      rw [e1, e2]
      exact mfE x es
theorem mpE (x : Ln) (d : Nat) : ∀ es : Ds, x ∉ keys es → mput (.str x) (.int .i64 (d : Int)) (es.map encE) = (es ++ [(x, d)]).map encE
  | [], _ => rfl
  | (k, e) :: es, hn => by
    have hne : x ≠ k := by rintro rfl; exact hn (by simp [keys])
    have e1 : (x == k) = false := by simpa using hne
    rw [List.map_cons, List.cons_append, List.map_cons]
    simp only [encE, mput, keyEq, e1]
    rw [mpE x d es (fun h => hn (by unfold keys at h ⊢; rw [List.map_cons]; exact List.mem_cons_of_mem _ h))]
theorem find_in {es : Ds} (hn : (keys es).Nodup) {x : Ln} {d : Nat} (h : (x, d) ∈ es) : es.find? (fun p => p.1 == x) = some (x, d) := by
  induction es with
  | nil => simp at h
  | cons p es ih =>
    unfold keys at hn
    rw [List.map_cons, List.nodup_cons] at hn
    rw [List.find?_cons]
    rcases List.mem_cons.1 h with rfl | h
    · simp
    · have : (p.1 == x) = false := by
        rw [beq_eq_false_iff_ne]
        intro e
        exact hn.1 (List.mem_map.2 ⟨(x, d), h, e.symm⟩)
      rw [this]
      exact ih hn.2 h
theorem find_out {es : Ds} {x : Ln} (h : x ∉ keys es) : es.find? (fun p => p.1 == x) = none := by
  rw [List.find?_eq_none]
  intro p hp
  simp only [beq_iff_eq]
  intro e
  exact h (by unfold keys; exact List.mem_map.2 ⟨p, hp, e⟩)
theorem BI.good {w : Ln} (hg : w.all isSign = true) {p : Nat} {es : Ds} (h : BI w p es) : ∀ v ∈ keys es, v.length = w.length ∧ v.all isSign = true := by
  intro v hv
  obtain ⟨d, hd⟩ := mem_keys.1 hv
  exact (lay_good hg d).2 v (h.ly v d hd)
theorem BI.len {w : Ln} (hg : w.all isSign = true) (hw : w.length ≤ 10) {p : Nat} {es : Ds} (h : BI w p es) : es.length ≤ 59049 := by
  have := nodup_bound (A := [46, 70, 84]) (n := w.length) h.nd (fun x hx => ⟨(h.good hg x hx).1, fun b hb => by
    have := List.all_eq_true.1 (h.good hg x hx).2 b hb
    unfold isSign at this
    simp at this ⊢
    rcases this with h | h
    · rcases h with h | h <;> simp [h]
    · simp [h]⟩)
  rw [keys_len] at this
  exact Nat.le_trans this (Nat.le_trans (Nat.pow_le_pow_right (by simp) hw) (by decide))
theorem BI.dist {w : Ln} (hw : w.length ≤ 10) {p : Nat} {es : Ds} (h : BI w p es) {v : Ln} {d : Nat} (hd : (v, d) ∈ es) : d ≤ 100 := by
  have := lay_mu w d v (h.ly v d hd)
  have := mu_le w hw
  omega
/-- The map holds them. -/
def MapIs (c : Nat) (h : AH) (es : Ds) : Prop := h[c]? = some (.map (es.map encE))
/-- A slice apart from the map and the queue. -/
def SlcQ {α : Type} (esz : Nat) (enc : α → List AV) (c : Nat) (o : AV) (h : AH) (v : AV) (L : List α) : Prop := Slc esz enc h v L ∧ ∀ r, rowOf v = some r → r ≠ c ∧ rowOf o ≠ some r
theorem own_tail {b h : AH} {r k off n : Nat} {x : Ln} {L : List Ln} (ho : OwL 1 encS b h (.slice r k off (n + 1) 1) (x :: L)) : OwL 1 encS b h (.slice r k (off + 1) n 1) L := by
  unfold OwL Own at ho ⊢
  simp only [List.length_cons, List.flatMap_cons] at ho ⊢
  obtain ⟨_, h2, h3, h4, cells, fl, h5, h6, h7, h8⟩ := ho
  have hfl := flat_len hlS L
  refine ⟨trivial, by omega, by rw [hfl], h4, cells, fl, h5, h6, by omega, ?_⟩
  rw [← List.drop_drop, h8]
  rfl
end Go.Proofs.Ytcflenomogpdbaa.Ab

/- EXCHANGES of the reference: first and last lines, how many plays lead to the last line, by what is known already. -/
namespace Go.Proofs.Ytcflenomogpdbaa.Ab
open Go
set_option maxRecDepth 100000
set_option maxHeartbeats 4000000

theorem lp_liTimes (b : UInt8) {h : AH} {R : X → Env → AH → Prop} : ∀ (n : Nat) (out : Ln), out.length + n ≤ 1000 → R (.exit 0) [(5, .str (out ++ List.replicate n b))] h →
    Cx (.loop lp124_0) [(0, .str [b]), (1, .int .i64 n), (5, .str out)] h R k k
  | 0, out, hn, hR => by
    rw [w_loopb (c := lp124_0) (d := lb124_0) rfl]; unfold lb124_0
    simp (maxSteps := 1000000) (disch := first | omega | rfl | (simp only [zL, two63, room] <;> omega) | fail) only [↓reduceIte, ↓zP, zW, WOp, evOp, evBin, binI, binSh, binS, evNil, keyIs, keyEq, mkv, AV.cells, AV.sc, optv, bnd, env, put, Env.get, Env.set, Env.del, Env.dels, Env.init, res1, resL, resV, fillP, splice, newRow, Nat.reduceEqDiff, Nat.reduceLT, Nat.reduceLeDiff, Nat.reduceAdd, Nat.reduceMul, Nat.reduceSub, Nat.reduceBEq, reduceCtorEq, ↓zR, zQ, Tr, StA, StT]
    simpa using hR
  | n + 1, out, hn, hR => by
    have ih := lp_liTimes b (h := h) (R := R) n (out ++ [b])
    have hg : ((n + 1 : Nat) : Int) > 0 := by omega
    have hs : ((n + 1 : Nat) : Int) - 1 = (n : Int) := by omega
    have hl : out.length + [b].length ≤ two63 := by simp only [two63, List.length_cons, List.length_nil]; omega
    rw [w_loopb (c := lp124_0) (d := lb124_0) rfl]; unfold lb124_0
    simp (maxSteps := 1000000) (disch := first | omega | rfl | (simp only [zL, two63, room] <;> omega) | fail) only [↓reduceIte, ↓zP, zW, WOp, evOp, evBin, binI, binSh, binS, evNil, keyIs, keyEq, mkv, AV.cells, AV.sc, optv, bnd, env, put, Env.get, Env.set, Env.del, Env.dels, Env.init, res1, resL, resV, fillP, splice, newRow, Nat.reduceEqDiff, Nat.reduceLT, Nat.reduceLeDiff, Nat.reduceAdd, Nat.reduceMul, Nat.reduceSub, Nat.reduceBEq, reduceCtorEq, ↓zR, zQ, Tr, StA, StT, hg, hs, hl]
    rw [w_loopn (c := lp124_0) rfl]
    simp (maxSteps := 1000000) (disch := first | omega | rfl | (simp only [zL, two63, room] <;> omega) | fail) only [↓reduceIte, ↓zP, zW, WOp, evOp, evBin, binI, binSh, binS, evNil, keyIs, keyEq, mkv, AV.cells, AV.sc, optv, bnd, env, put, Env.get, Env.set, Env.del, Env.dels, Env.init, res1, resL, resV, fillP, splice, newRow, Nat.reduceEqDiff, Nat.reduceLT, Nat.reduceLeDiff, Nat.reduceAdd, Nat.reduceMul, Nat.reduceSub, Nat.reduceBEq, reduceCtorEq, ↓zR, zQ, Tr, StA, StT]
    refine ih (by simp; omega) ?_
    rw [List.append_assoc, List.singleton_append, ← List.replicate_succ]
    exact hR
theorem e_liTimes (b : UInt8) (n : Nat) (hn : n ≤ 1000) {h : AH} {post : AV → AH → Prop} : S 124 [.str [b], .int .i64 n] h post k = post (.str (List.replicate n b)) h := by
  refine S_eq fun post hp => ?_
  refine S_of rfl T124 ?_; unfold fi124
  simp (maxSteps := 1000000) (disch := first | omega | rfl | (simp only [zL, two63, room] <;> omega) | fail) only [↓reduceIte, ↓zP, zW, WOp, evOp, evBin, binI, binSh, binS, evNil, keyIs, keyEq, mkv, AV.cells, AV.sc, optv, bnd, env, put, Env.get, Env.set, Env.del, Env.dels, Env.init, res1, resL, resV, fillP, splice, newRow, Nat.reduceEqDiff, Nat.reduceLT, Nat.reduceLeDiff, Nat.reduceAdd, Nat.reduceMul, Nat.reduceSub, Nat.reduceBEq, reduceCtorEq, ↓zR, zQ, Tr, StA, StT]
  refine lp_liTimes b n [] (by simpa using hn) ?_
  simp (maxSteps := 1000000) (disch := first | omega | rfl | (simp only [zL, two63, room] <;> omega) | fail) only [↓reduceIte, ↓zP, zW, WOp, evOp, evBin, binI, binSh, binS, evNil, keyIs, keyEq, mkv, AV.cells, AV.sc, optv, bnd, env, put, Env.get, Env.set, Env.del, Env.dels, Env.init, res1, resL, resV, fillP, splice, newRow, Nat.reduceEqDiff, Nat.reduceLT, Nat.reduceLeDiff, Nat.reduceAdd, Nat.reduceMul, Nat.reduceSub, Nat.reduceBEq, reduceCtorEq, ↓zR, zQ, Tr, StA, StT]
  exact hp
theorem e_liFirst (t g f : Nat) (ht : t ≤ 100) (hg : g ≤ 100) (hf : f ≤ 100) {h : AH} {post : AV → AH → Prop} : S 100 [.int .i64 t, .int .i64 g, .int .i64 f] h post k = post (.str (lnF t g f)) h := by
  refine S_eq fun post hp => ?_
  have l1 : (List.replicate t (84 : UInt8)).length + (List.replicate g (46 : UInt8)).length ≤ two63 := by simp only [List.length_replicate, two63]; omega
  have l2 : (List.replicate t (84 : UInt8) ++ List.replicate g (46 : UInt8)).length + (List.replicate f (70 : UInt8)).length ≤ two63 := by simp only [List.length_append, List.length_replicate, two63]; omega
  refine S_of rfl T100 ?_; unfold fi100
  simp (maxSteps := 1000000) (disch := first | omega | rfl | (simp only [zL, two63, room] <;> omega) | fail) only [↓reduceIte, ↓zP, zW, WOp, evOp, evBin, binI, binSh, binS, evNil, keyIs, keyEq, mkv, AV.cells, AV.sc, optv, bnd, env, put, Env.get, Env.set, Env.del, Env.dels, Env.init, res1, resL, resV, fillP, splice, newRow, Nat.reduceEqDiff, Nat.reduceLT, Nat.reduceLeDiff, Nat.reduceAdd, Nat.reduceMul, Nat.reduceSub, Nat.reduceBEq, reduceCtorEq, ↓zR, zQ, Tr, StA, StT, e_liTimes 84 t (by omega), e_liTimes 46 g (by omega), e_liTimes 70 f (by omega), l1, l2]
  exact hp
theorem e_liLast (w : Ln) (hw : w.length ≤ 100) {h : AH} {post : AV → AH → Prop} : S 251 [.str w] h post k = post (.str (lnL w)) h := by
  refine S_eq fun post hp => ?_
  have ht := List.count_le_length (a := (84 : UInt8)) (l := w)
  have hg := List.count_le_length (a := (46 : UInt8)) (l := w)
  have hf := List.count_le_length (a := (70 : UInt8)) (l := w)
  have l1 : (List.replicate (w.count 70) (70 : UInt8)).length + (List.replicate (w.count 46) (46 : UInt8)).length ≤ two63 := by simp only [List.length_replicate, two63]; omega
  have l2 : (List.replicate (w.count 70) (70 : UInt8) ++ List.replicate (w.count 46) (46 : UInt8)).length + (List.replicate (w.count 84) (84 : UInt8)).length ≤ two63 := by simp only [List.length_append, List.length_replicate, two63]; omega
  refine S_of rfl T251 ?_; unfold fi251
  simp (maxSteps := 1000000) (disch := first | omega | rfl | (simp only [zL, two63, room] <;> omega) | fail) only [↓reduceIte, ↓zP, zW, WOp, evOp, evBin, binI, binSh, binS, evNil, keyIs, keyEq, mkv, AV.cells, AV.sc, optv, bnd, env, put, Env.get, Env.set, Env.del, Env.dels, Env.init, res1, resL, resV, fillP, splice, newRow, Nat.reduceEqDiff, Nat.reduceLT, Nat.reduceLeDiff, Nat.reduceAdd, Nat.reduceMul, Nat.reduceSub, Nat.reduceBEq, reduceCtorEq, ↓zR, zQ, Tr, StA, StT, e_liCountT w (by omega), e_liCountF w (by omega), e_liCountD w (by omega), e_liTimes 84 (w.count 84) (by omega), e_liTimes 46 (w.count 46) (by omega), e_liTimes 70 (w.count 70) (by omega), l1, l2]
  exact hp

/-! ### Moves keep what a line has -/
theorem count_made' {w : Ln} {i t : Nat} (h : Mv w i t) (x : UInt8) : (madeB w i t).count x = w.count x := by
  have hne := h.ne
  obtain ⟨h1, h2, h3, h4⟩ := h
  have e1 := count_set (b := w.getD i 0) (x := x) (l := w) (i := t) h2
  have e2 := count_set (b := 46) (x := x) (l := w.set t (w.getD i 0)) (i := i) (by simpa using h1)
  rw [getD_setL h2, if_neg (Ne.symm hne)] at e2
  rw [h3] at e1
  unfold madeB
  omega
theorem lnL_made {w : Ln} {i t : Nat} (h : Mv w i t) : lnL (madeB w i t) = lnL w := by
  unfold lnL
  rw [count_made' h, count_made' h, count_made' h]

/-! ### What is known -/
def OkW (gl : Ln) (w : Ln) : Prop := lnL w = gl ∧ w.all isSign = true ∧ w.length = gl.length ∧ gl.length ≤ 8
theorem OkW.made {gl w : Ln} (ho : OkW gl w) {i t : Nat} (h : Mv w i t) : OkW gl (madeB w i t) := ⟨by rw [lnL_made h]; exact ho.1, signs_made h ho.2.1, by rw [madeB_length]; exact ho.2.2.1, ho.2.2.2⟩
def KW (gl : Ln) (c : Nat) (h : AH) (K : List Ln) : Prop := ∃ v1 v2 W, h[c]? = some (.row [v1, v2] 0 0 false) ∧ OwL 1 encS [] h v1 K ∧ OwL 1 encI [] h v2 W ∧ rowOf v1 ≠ some c ∧ rowOf v2 ≠ some c ∧ (∀ r, rowOf v1 = some r → rowOf v2 ≠ some r) ∧
  K.length = W.length ∧ K.Nodup ∧ (∀ x ∈ K, OkW gl x) ∧ ∀ (i : Nat) x b, K[i]? = some x → W[i]? = some b → b = (cE gl x : Nat)
theorem KW.lt {gl : Ln} {c : Nat} {h : AH} {K : List Ln} (hk : KW gl c h K) : c < h.length := by
  obtain ⟨_, _, _, h1, _⟩ := hk
  exact (List.getElem?_eq_some_iff.1 h1).1
theorem KW.gr_lt {gl : Ln} {c : Nat} {h : AH} {K : List Ln} (hk : KW gl c h K) {i : Nat} (hg : gr c h i) : i < h.length := by
  have hlt := hk.lt
  obtain ⟨v1, v2, W, h1, h2, h3, _⟩ := hk
  rcases hg with rfl | ⟨u1, u2, h4, h5⟩
  · exact hlt
  · rw [h1] at h4
    simp only [Option.some.injEq, AO.row.injEq, List.cons.injEq, and_true, true_and] at h4
    obtain ⟨rfl, rfl⟩ := h4
    rcases h5 with h5 | h5
    · exact own_lt h2 h5
    · exact own_lt h3 h5
theorem KW.pre {gl : Ln} {c : Nat} {h h' : AH} {K : List Ln} (hk : KW gl c h K) (hp : Pre h h') : KW gl c h' K := by
  have hlt := hk.lt
  obtain ⟨v1, v2, W, h1, h2, h3, h4⟩ := hk
  exact ⟨v1, v2, W, by rw [hp.2 c hlt]; exact h1, h2.pre hp, h3.pre hp, h4⟩
theorem KW.fresh {gl : Ln} {c : Nat} {h h' : AH} {K : List Ln} (hk : KW gl c h K) (hp : Pre h h') {r : Nat} (hr : h.length ≤ r) : ¬ gr c h' r := by
  rw [gr_pre hp hk.lt]
  intro hg
  have := hk.gr_lt hg
  omega
theorem OwL.slcW {α : Type} {esz : Nat} {enc : α → List AV} {gl : Ln} {c : Nat} {h h' : AH} {v : AV} {L : List α} {K : List Ln} (ho : OwL esz enc h h' v L) (hk : KW gl c h K) (hp : Pre h h') : SlcG esz enc c h' v L :=
  ⟨ho.slc, fun _ hr => hk.fresh hp (own_ge ho hr)⟩
theorem KW.few {gl : Ln} {c : Nat} {h : AH} {K : List Ln} (hk : KW gl c h K) : K.length ≤ 6561 := by
  obtain ⟨_, _, _, _, _, _, _, _, _, _, hnd, hok, _⟩ := hk
  by_cases hK : K = []
  · subst hK; simp
  obtain ⟨x0, l, rfl⟩ := List.exists_cons_of_ne_nil hK
  have h8 := (hok x0 (by simp)).2.2.2
  have := nodup_bound (A := [46, 70, 84]) (n := gl.length) hnd (fun x hx => ⟨(hok x hx).2.2.1, fun b hb => by
    have := List.all_eq_true.1 (hok x hx).2.1 b hb
    unfold isSign at this
    simp at this ⊢
    rcases this with h | h
    · rcases h with h | h <;> simp [h]
    · simp [h]⟩)
  exact Nat.le_trans this (Nat.le_trans (Nat.pow_le_pow_right (by simp) h8) (by decide))
def CameW (n : Nat) (K K' : List Ln) : Prop := ∀ x ∈ K', x ∈ K ∨ mu x < n
theorem CameW.refl (n : Nat) (K : List Ln) : CameW n K K := fun _ h => .inl h
theorem CameW.trans {n : Nat} {a b c : List Ln} (x : CameW n a b) (y : CameW n b c) : CameW n a c := fun k hk => by
  rcases y k hk with h | h
  · exact x k h
  · exact .inr h
theorem CameW.mono {n m : Nat} {a b : List Ln} (x : CameW n a b) (hm : n ≤ m) : CameW m a b := fun k hk => by
  rcases x k hk with h | h
  · exact .inl h
  · exact .inr (by omega)
/-- The search among what is known. -/
theorem lp_ef0 {c : Nat} {h : AH} {v1 v2 : AV} {K : List Ln} {W : List Int} (hrow : h[c]? = some (.row [v1, v2] 0 0 false)) (h1 : Slc 1 encS h v1 K) (h2 : Slc 1 encI h v2 W) (hlen : K.length = W.length) (hK : K.length < 2 ^ 39) (key : Ln) {R : X → Env → AH → Prop} :
    ∀ (rest pre : List Ln), K = pre ++ rest → (∀ (i : Nat) b, K[i]? = some key → W[i]? = some b → R .ret [(4, .int .i64 b)] h) → (key ∉ rest → R (.exit 0) [(0, .ptr c 0 0 2), (1, .str key)] h) →
    Cx (.loop lp244_0) [(0, .ptr c 0 0 2), (1, .str key), (13, v1), (14, .int .i64 K.length), (15, .int .i64 pre.length)] h R k k
  | [], pre, hpre, hf, hR => by
    subst hpre
    rw [w_loopb (c := lp244_0) (d := lb244_0) rfl]; unfold lb244_0
    simp only [List.append_nil]
    simp (maxSteps := 1000000) (disch := first | omega | rfl | (simp only [zL, two63, room] <;> omega) | fail) only [↓reduceIte, ↓zP, zW, WOp, evOp, evBin, binI, binSh, binS, evNil, keyIs, keyEq, mkv, AV.cells, AV.sc, optv, bnd, env, put, Env.get, Env.set, Env.del, Env.dels, Env.init, res1, resL, resV, fillP, splice, newRow, Nat.reduceEqDiff, Nat.reduceLT, Nat.reduceLeDiff, Nat.reduceAdd, Nat.reduceMul, Nat.reduceSub, Nat.reduceBEq, reduceCtorEq, ↓zR, zQ, Tr, StA, StT]
    exact hR (by simp)
  | x :: rest, pre, hpre, hf, hR => by
    have ih := lp_ef0 hrow h1 h2 hlen hK key (R := R) rest (pre ++ [x])
    have hrd : rdRow h c 0 1 1 = some [v2] := by simp [rdRow, hrow]
    subst hpre
    obtain ⟨r1, k1, o1, rfl, hr⟩ := h1.at hlS
    have hl : (pre ++ x :: rest).length = pre.length + 1 + rest.length := by simp; omega
    obtain ⟨b, hb⟩ : ∃ b, W[pre.length]? = some b := ⟨W[pre.length]'(by omega), by simp⟩
    have hW : W = W.take pre.length ++ b :: W.drop (pre.length + 1) := by
      have hlt : pre.length < W.length := by omega
      have := List.getElem_of_getElem? hb
      obtain ⟨_, e⟩ := this
      rw [← e, ← List.drop_eq_getElem_cons, List.take_append_drop]
    have hwl : (W.take pre.length).length = pre.length := by simp; omega
    rw [hW] at h2
    obtain ⟨r2, k2, o2, rfl, hr2⟩ := h2.at hlI
    rw [hwl] at hr2
    have hlW : W.length = pre.length + 1 + rest.length := by omega
    rw [← hW, hlW] at hrd
    rw [hl] at ih hK ⊢
    rw [w_loopb (c := lp244_0) (d := lb244_0) rfl]; unfold lb244_0
    have hlt : (pre.length : Int) < ((pre.length + 1 + rest.length : Nat) : Int) := by omega
    have hw : (pre.length : Int) + 1 = ((pre ++ [x]).length : Int) := by simp
    cases e : (x == key)
    · simp (maxSteps := 1000000) (disch := first | omega | rfl | (simp only [zL, two63, room] <;> omega) | fail) only [↓reduceIte, ↓zP, zW, WOp, evOp, evBin, binI, binSh, binS, evNil, keyIs, keyEq, mkv, AV.cells, AV.sc, optv, bnd, env, put, Env.get, Env.set, Env.del, Env.dels, Env.init, res1, resL, resV, fillP, splice, newRow, Nat.reduceEqDiff, Nat.reduceLT, Nat.reduceLeDiff, Nat.reduceAdd, Nat.reduceMul, Nat.reduceSub, Nat.reduceBEq, reduceCtorEq, ↓zR, zQ, Tr, StA, StT, hlt, hr, e, hw]
      rw [w_loopn (c := lp244_0) rfl]
      simp (maxSteps := 1000000) (disch := first | omega | rfl | (simp only [zL, two63, room] <;> omega) | fail) only [↓reduceIte, ↓zP, zW, WOp, evOp, evBin, binI, binSh, binS, evNil, keyIs, keyEq, mkv, AV.cells, AV.sc, optv, bnd, env, put, Env.get, Env.set, Env.del, Env.dels, Env.init, res1, resL, resV, fillP, splice, newRow, Nat.reduceEqDiff, Nat.reduceLT, Nat.reduceLeDiff, Nat.reduceAdd, Nat.reduceMul, Nat.reduceSub, Nat.reduceBEq, reduceCtorEq, ↓zR, zQ, Tr, StA, StT]
      refine ih (by simp) hf ?_
      intro hn
      refine hR ?_
      rw [List.mem_cons]
      rintro (rfl | hn')
      · simp at e
      · exact hn hn'
    · simp (maxSteps := 1000000) (disch := first | omega | rfl | (simp only [zL, two63, room] <;> omega) | fail) only [↓reduceIte, ↓zP, zW, WOp, evOp, evBin, binI, binSh, binS, evNil, keyIs, keyEq, mkv, AV.cells, AV.sc, optv, bnd, env, put, Env.get, Env.set, Env.del, Env.dels, Env.init, res1, resL, resV, fillP, splice, newRow, Nat.reduceEqDiff, Nat.reduceLT, Nat.reduceLeDiff, Nat.reduceAdd, Nat.reduceMul, Nat.reduceSub, Nat.reduceBEq, reduceCtorEq, ↓zR, zQ, Tr, StA, StT, hlt, hr, e, hrd, hr2]
      refine hf pre.length b ?_ hb
      rw [beq_iff_eq] at e
      subst e; simp
def EFrom (gl : Ln) (n : Nat) : Prop := ∀ (w : Ln) (c : Nat) (h : AH) (K : List Ln), mu w < n → OkW gl w → KW gl c h K → ∀ post : AV → AH → Prop,
  (∀ h' K', FrG c h h' → KW gl c h' K' → CameW (mu w + 1) K K' → post (.int .i64 (cE gl w : Nat)) h') → S 244 [.ptr c 0 0 2, .str w] h post k
theorem lp_ef1 {gl : Ln} {n : Nat} (ih : EFrom gl n) {c : Nat} {w : Ln} (hn : mu w < n + 1) (hok : OkW gl w) (hne : w ≠ gl) (vm : AV) {h0 : AH} {K0 : List Ln} {R : X → Env → AH → Prop} :
    ∀ (mr mp : List (Int × Int)) (h : AH) (K : List Ln), movesB w [84, 70] = mp ++ mr → FrG c h0 h → KW gl c h K → CameW (mu w) K0 K → SlcG 2 encM c h vm (movesB w [84, 70]) →
    (∀ h' K', FrG c h0 h' → KW gl c h' K' → CameW (mu w) K0 K' → R (.exit 2) [(0, .ptr c 0 0 2), (1, .str w), (7, .int .i64 (cE gl w : Nat))] h') →
    Cx (.loop lp244_1) [(0, .ptr c 0 0 2), (1, .str w), (7, .int .i64 (((mp.map (mkM w)).map (cE gl)).sum : Nat)), (36, vm), (37, .int .i64 (movesB w [84, 70]).length), (38, .int .i64 mp.length)] h R k k
  | [], mp, h, K, hmp, hf, hk, hc, hsm, hR => by
    have hl : (movesB w [84, 70]).length = mp.length := by rw [hmp]; simp
    have hn : ((mp.map (mkM w)).map (cE gl)).sum = cE gl w := by
      rw [cE_ne hne, nx_eq, hmp, List.append_nil]
    rw [w_loopb (c := lp244_1) (d := lb244_1) rfl]; unfold lb244_1
    rw [hl, hn]
    simp (maxSteps := 1000000) (disch := first | omega | rfl | (simp only [zL, two63, room] <;> omega) | fail) only [↓reduceIte, ↓zP, zW, WOp, evOp, evBin, binI, binSh, binS, evNil, keyIs, keyEq, mkv, AV.cells, AV.sc, optv, bnd, env, put, Env.get, Env.set, Env.del, Env.dels, Env.init, res1, resL, resV, fillP, splice, newRow, Nat.reduceEqDiff, Nat.reduceLT, Nat.reduceLeDiff, Nat.reduceAdd, Nat.reduceMul, Nat.reduceSub, Nat.reduceBEq, reduceCtorEq, ↓zR, zQ, Tr, StA, StT]
    exact hR h K hf hk hc
  | m :: mr, mp, h, K, hmp, hf, hk, hc, hsm, hR => by
    have ihl := lp_ef1 ih hn hok hne vm (c := c) (h0 := h0) (K0 := K0) (R := R) mr (mp ++ [m])
    have hmm : m ∈ movesB w [84, 70] := by rw [hmp]; simp
    obtain ⟨i, t', rfl, hmv⟩ := movesB_mv hmm
    have hwl : w.length ≤ 8 := by rw [hok.2.2.1]; exact hok.2.2.2
    have hlen := movesB_len w [84, 70]
    have hml : (movesB w [84, 70]).length = mp.length + 1 + mr.length := by rw [hmp]; simp; omega
    have hsm' := hsm
    rw [hmp] at hsm'
    obtain ⟨r1, k1, o1, hv1, hr⟩ := hsm'.1.at hlM
    rw [← hmp, hml] at hv1
    subst hv1
    rw [hml] at ihl ⊢
    have hlt : (mp.length : Int) < ((mp.length + 1 + mr.length : Nat) : Int) := by omega
    have hw1 : (mp.length : Int) + 1 = ((mp ++ [((i : Int), (t' : Int))]).length : Int) := by simp
    have hle := cE_lt (g := gl) hwl
    have hsum : ((mp.map (mkM w)).map (cE gl)).sum + cE gl (madeB w i t') ≤ cE gl w := by
      rw [cE_ne hne, nx_eq, hmp, List.map_append, List.map_append, List.sum_append, List.map_cons, List.map_cons, List.sum_cons]
      show _ + cE gl (madeB w i t') ≤ _ + (cE gl (madeB w i t') + _)
      omega
    have hs1 : ((((mp.map (mkM w)).map (cE gl)).sum : Nat) : Int) + ((cE gl (madeB w i t') : Nat) : Int) = (((((mp ++ [((i : Int), (t' : Int))]).map (mkM w)).map (cE gl)).sum : Nat) : Int) := by
      rw [List.map_append, List.map_append, List.sum_append]
      show _ = (((_ + [cE gl (madeB w i t')].sum : Nat)) : Int)
      simp
    rw [w_loopb (c := lp244_1) (d := lb244_1) rfl]; unfold lb244_1
    simp (maxSteps := 1000000) (disch := first | omega | rfl | (simp only [zL, two63, room] <;> omega) | fail) only [↓reduceIte, ↓zP, zW, WOp, evOp, evBin, binI, binSh, binS, evNil, keyIs, keyEq, mkv, AV.cells, AV.sc, optv, bnd, env, put, Env.get, Env.set, Env.del, Env.dels, Env.init, res1, resL, resV, fillP, splice, newRow, Nat.reduceEqDiff, Nat.reduceLT, Nat.reduceLeDiff, Nat.reduceAdd, Nat.reduceMul, Nat.reduceSub, Nat.reduceBEq, reduceCtorEq, ↓zR, zQ, Tr, StA, StT, hlt, hr]
    refine c_liMake w i t' hmv.fst hmv.snd hmv.ne (by omega) ?_
    intro h2 hp2
    have hp1 := (Pre.push h (AO.row (encM ((i : Int), (t' : Int))) 0 0 false)).trans hp2
    have hf1 : FrG c h h2 := hp1.frg hk.lt
    simp (maxSteps := 1000000) (disch := first | omega | rfl | (simp only [zL, two63, room] <;> omega) | fail) only [↓reduceIte, ↓zP, zW, WOp, evOp, evBin, binI, binSh, binS, evNil, keyIs, keyEq, mkv, AV.cells, AV.sc, optv, bnd, env, put, Env.get, Env.set, Env.del, Env.dels, Env.init, res1, resL, resV, fillP, splice, newRow, Nat.reduceEqDiff, Nat.reduceLT, Nat.reduceLeDiff, Nat.reduceAdd, Nat.reduceMul, Nat.reduceSub, Nat.reduceBEq, reduceCtorEq, ↓zR, zQ, Tr, StA, StT]
    have hmu := mu_made hmv
    refine ih _ _ _ _ (by omega) (hok.made hmv) (hk.pre hp1) _ ?_
    intro h4 K4 hf4 hk4 hc4
    have hf03 : FrG c h h4 := hf1.trans hf4
    simp (maxSteps := 1000000) (disch := first | omega | rfl | (simp only [zL, two63, room] <;> omega) | fail) only [↓reduceIte, ↓zP, zW, WOp, evOp, evBin, binI, binSh, binS, evNil, keyIs, keyEq, mkv, AV.cells, AV.sc, optv, bnd, env, put, Env.get, Env.set, Env.del, Env.dels, Env.init, res1, resL, resV, fillP, splice, newRow, Nat.reduceEqDiff, Nat.reduceLT, Nat.reduceLeDiff, Nat.reduceAdd, Nat.reduceMul, Nat.reduceSub, Nat.reduceBEq, reduceCtorEq, ↓zR, zQ, Tr, StA, StT, hw1, hs1]
    rw [w_loopn (c := lp244_1) rfl]
    simp (maxSteps := 1000000) (disch := first | omega | rfl | (simp only [zL, two63, room] <;> omega) | fail) only [↓reduceIte, ↓zP, zW, WOp, evOp, evBin, binI, binSh, binS, evNil, keyIs, keyEq, mkv, AV.cells, AV.sc, optv, bnd, env, put, Env.get, Env.set, Env.del, Env.dels, Env.init, res1, resL, resV, fillP, splice, newRow, Nat.reduceEqDiff, Nat.reduceLT, Nat.reduceLeDiff, Nat.reduceAdd, Nat.reduceMul, Nat.reduceSub, Nat.reduceBEq, reduceCtorEq, ↓zR, zQ, Tr, StA, StT]
    exact ihl h4 K4 (by rw [hmp]; simp) (hf.trans hf03) hk4 (hc.trans (hc4.mono (by omega))) (hsm.fr hf03) hR
theorem ef_tail {gl : Ln} {c : Nat} {h h2 : AH} {K K2 : List Ln} {w : Ln} (hf2 : FrG c h h2) (hk2 : KW gl c h2 K2) (hc2' : CameW (mu w) K K2) (hnot : w ∉ K) (hok : OkW gl w) :
    ∃ u1 u2 w1 w2 gB gC gE gF, rdRow h2 c 0 0 1 = some [u1] ∧ apRow (h2 ++ [AO.row [.str w] 0 0 false]) 1 u1 1 [.str w] = some (w1, gB) ∧ w1.cells = [w1] ∧ wrRow gB c 0 0 [w1] = some gC ∧ rdRow gC c 0 1 1 = some [u2] ∧
      apRow (gC ++ [AO.row [.int .i64 (cE gl w : Nat)] 0 0 false]) 1 u2 1 [.int .i64 (cE gl w : Nat)] = some (w2, gE) ∧ w2.cells = [w2] ∧ wrRow gE c 0 1 [w2] = some gF ∧
      FrG c h gF ∧ KW gl c gF (K2 ++ [w]) ∧ CameW (mu w + 1) K (K2 ++ [w]) := by
  have hnot2 : w ∉ K2 := by
    intro hin
    rcases hc2' _ hin with h1 | h1
    · exact hnot h1
    · omega
  have hK2 := hk2.few
  obtain ⟨u1, u2, W2, hrow2, po1, po2, m1, m2, m3, hlen2, hnd2, hal2, hgood2⟩ := hk2
  have hrd2 : rdRow h2 c 0 0 1 = some [u1] := by simp [rdRow, hrow2]
  generalize hA : h2 ++ [AO.row [.str w] 0 0 false] = gA
  have pA : Pre h2 gA := hA ▸ Pre.push _ _
  have lA : gA.length = h2.length + 1 := by rw [← hA]; simp
  obtain ⟨w1, gB, apB, owB, _⟩ := apA hlS scS (b := []) (po1.pre pA) (by simp) w (by omega)
  obtain ⟨fB1, fB2, fB3⟩ := apRow_fr apB
  have hc2 := (List.getElem?_eq_some_iff.1 hrow2).1
  have rcB : gB[c]? = some (.row [u1, u2] 0 0 false) := by rw [fB1 c (by omega) m1, pA.2 c hc2, hrow2]
  have qB := owB.cells
  have wB : wrRow gB c 0 0 [w1] = some (gB.set c (.row [w1, u2] 0 0 false)) := by simp [wrRow, rcB, splice, owB.sc1]
  have hlc : c < gB.length := by omega
  generalize hC : gB.set c (.row [w1, u2] 0 0 false) = gC at *
  have lC : gC.length = gB.length := by rw [← hC]; simp
  have rcC : gC[c]? = some (.row [w1, u2] 0 0 false) := by rw [← hC, List.getElem?_set, if_pos rfl, if_pos hlc]
  have oC : ∀ i, i ≠ c → gC[i]? = gB[i]? := fun i hi => by rw [← hC, List.getElem?_set, if_neg (Ne.symm hi)]
  have rdC : rdRow gC c 0 1 1 = some [u2] := by simp [rdRow, rcC]
  generalize hD : gC ++ [AO.row [.int .i64 (cE gl w : Nat)] 0 0 false] = gD
  have pD : Pre gC gD := hD ▸ Pre.push _ _
  have lD : gD.length = gC.length + 1 := by rw [← hD]; simp
  have l2 : ∀ r, rowOf u2 = some r → r < h2.length := fun r hr => own_lt po2 hr
  have l1 : ∀ r, rowOf u1 = some r → r < h2.length := fun r hr => own_lt po1 hr
  have po2C : OwL 1 encI [] gC u2 W2 := by
    refine own_row po2 fun r hr => ?_
    have h1 := l2 r hr
    rw [oC r (fun e => m2 (e ▸ hr)), fB1 r (by omega) (fun e => m3 r e hr), pA.2 r h1]
  obtain ⟨w2, gE, apE, owE, _⟩ := apA hlI scI (b := []) (po2C.pre pD) (by simp) ((cE gl w : Nat) : Int) (by omega)
  obtain ⟨fE1, fE2, fE3⟩ := apRow_fr apE
  have rcE : gE[c]? = some (.row [w1, u2] 0 0 false) := by rw [fE1 c (by omega) m2, pD.2 c (by omega), rcC]
  have qE := owE.cells
  have wE : wrRow gE c 0 1 [w2] = some (gE.set c (.row [w1, w2] 0 0 false)) := by simp [wrRow, rcE, splice, owE.sc1]
  have hlE : c < gE.length := by omega
  refine ⟨u1, u2, w1, w2, gB, gC, gE, gE.set c (.row [w1, w2] 0 0 false), hrd2, apB, qB, wB, rdC, by rw [hD]; exact apE, qE, wE, ?_⟩
  have d1 : ∀ r, rowOf w1 = some r → (rowOf u1 = some r ∨ r = gA.length) := fB3
  have d2 : ∀ r, rowOf w2 = some r → (rowOf u2 = some r ∨ r = gD.length) := fE3
  have c1 : rowOf w1 ≠ some c := fun e => by
    rcases d1 c e with h1 | h1
    · exact m1 h1
    · omega
  have c2 : rowOf w2 ≠ some c := fun e => by
    rcases d2 c e with h1 | h1
    · exact m2 h1
    · omega
  have x1 : ∀ r, rowOf w1 = some r → gE[r]? = gB[r]? := fun r hr => by
    have h3 : r ≠ c := fun e => c1 (e ▸ hr)
    have h4 : r < gB.length := own_lt owB hr
    have h5 : rowOf u2 ≠ some r := by
      intro e
      have := l2 r e
      rcases d1 r hr with h1 | h1
      · exact m3 r h1 e
      · omega
    rw [fE1 r (by omega) h5, pD.2 r (by omega), oC r h3]
  refine ⟨hf2.trans ?_, ?_, ?_⟩
  · refine ⟨by simp; omega, fun i hi hg => ?_⟩
    have g1 : i ≠ c := fun e => hg (.inl e)
    have g2 : rowOf u1 ≠ some i := fun e => hg (.inr ⟨u1, u2, hrow2, .inl e⟩)
    have g3 : rowOf u2 ≠ some i := fun e => hg (.inr ⟨u1, u2, hrow2, .inr e⟩)
    refine ⟨?_, ?_⟩
    · rw [List.getElem?_set, if_neg (Ne.symm g1), fE1 i (by omega) g3, pD.2 i (by omega), oC i g1, fB1 i (by omega) g2, pA.2 i hi]
    · rintro (e | ⟨y1, y2, e1, e2⟩)
      · exact g1 e
      · rw [List.getElem?_set, if_pos rfl, if_pos hlE] at e1
        simp only [Option.some.injEq, AO.row.injEq, List.cons.injEq, and_true, true_and] at e1
        obtain ⟨rfl, rfl⟩ := e1
        rcases e2 with e2 | e2
        · rcases d1 i e2 with h1 | h1
          · exact g2 h1
          · omega
        · rcases d2 i e2 with h1 | h1
          · exact g3 h1
          · omega
  · refine ⟨w1, w2, W2 ++ [((cE gl w : Nat) : Int)], by rw [List.getElem?_set, if_pos rfl, if_pos hlE], ?_, ?_, c1, c2, ?_, by simp [hlen2], ?_, ?_, ?_⟩
    · refine own_row owB fun r hr => ?_
      rw [List.getElem?_set, if_neg (by intro e; subst e; exact c1 hr), x1 r hr]
    · refine own_row owE fun r hr => ?_
      rw [List.getElem?_set, if_neg (by intro e; subst e; exact c2 hr)]
    · intro r h1 h3
      rcases d1 r h1 with h4 | h4 <;> rcases d2 r h3 with h5 | h5
      · exact m3 r h4 h5
      · have := l1 r h4; omega
      · have := l2 r h5; omega
      · omega
    · rw [List.nodup_append]
      exact ⟨hnd2, by simp, fun a ha b hb' => by simp at hb'; subst hb'; rintro rfl; exact hnot2 ha⟩
    · intro x hx
      rcases List.mem_append.1 hx with hx | hx
      · exact hal2 x hx
      · simp at hx; subst hx; exact hok
    · intro i x b hx hb'
      by_cases hi : i < K2.length
      · rw [List.getElem?_append_left hi] at hx
        rw [List.getElem?_append_left (by omega)] at hb'
        exact hgood2 i x b hx hb'
      · have hi2 : i = K2.length := by
          have := (List.getElem?_eq_some_iff.1 hx).1
          simp at this; omega
        subst hi2
        rw [List.getElem?_append_right (Nat.le_refl _)] at hx
        rw [List.getElem?_append_right (by omega)] at hb'
        simp at hx
        rw [show K2.length - W2.length = 0 by omega] at hb'
        simp at hb'
        subst hb'
        subst hx
        rfl
  · intro x hx
    rcases List.mem_append.1 hx with hx | hx
    · exact (hc2'.mono (by omega)) x hx
    · simp at hx; subst hx; exact .inr (by omega)
theorem c_efrom (gl : Ln) : ∀ n : Nat, EFrom gl n
  | 0 => fun w c h K hn _ _ _ _ => by omega
  | n + 1 => by
    intro w c h K hn hok hk post hp
    have ih := c_efrom gl n
    have hwl : w.length ≤ 8 := by rw [hok.2.2.1]; exact hok.2.2.2
    have hK := hk.few
    have hk0 := hk
    obtain ⟨v1, v2, W, hrow, ho1, ho2, n1, n2, n3, hlen, hnd, hal, hgood⟩ := hk
    have hrd : rdRow h c 0 0 1 = some [v1] := by simp [rdRow, hrow]
    refine S_of rfl T244 ?_; unfold fi244
    have hv1 := fun g => Slc.lenV (ho1.slc) (g := g) (ρ := fun _ => _) (x := .t 0) rfl; simp only [evOp] at hv1
    simp (maxSteps := 1000000) (disch := first | omega | rfl | (simp only [zL, two63, room] <;> omega) | fail) only [↓reduceIte, ↓zP, zW, WOp, evOp, evBin, binI, binSh, binS, evNil, keyIs, keyEq, mkv, AV.cells, AV.sc, optv, bnd, env, put, Env.get, Env.set, Env.del, Env.dels, Env.init, res1, resL, resV, fillP, splice, newRow, Nat.reduceEqDiff, Nat.reduceLT, Nat.reduceLeDiff, Nat.reduceAdd, Nat.reduceMul, Nat.reduceSub, Nat.reduceBEq, reduceCtorEq, ↓zR, zQ, Tr, StA, StT, hrd, hv1]
    refine lp_ef0 hrow ho1.slc ho2.slc hlen (by omega) w K [] rfl ?_ ?_
    · intro i b h1 h2
      obtain rfl := hgood i _ b h1 h2
      simp (maxSteps := 1000000) (disch := first | omega | rfl | (simp only [zL, two63, room] <;> omega) | fail) only [↓reduceIte, ↓zP, zW, WOp, evOp, evBin, binI, binSh, binS, evNil, keyIs, keyEq, mkv, AV.cells, AV.sc, optv, bnd, env, put, Env.get, Env.set, Env.del, Env.dels, Env.init, res1, resL, resV, fillP, splice, newRow, Nat.reduceEqDiff, Nat.reduceLT, Nat.reduceLeDiff, Nat.reduceAdd, Nat.reduceMul, Nat.reduceSub, Nat.reduceBEq, reduceCtorEq, ↓zR, zQ, Tr, StA, StT]
      exact hp h K (FrG.refl _ _) hk0 (CameW.refl _ _)
    · intro hnot
      by_cases hwg : w = gl
      · have hb : (w == lnL w) = true := by rw [hok.1, beq_iff_eq]; exact hwg
        obtain ⟨u1, u2, w1, w2, gB, gC, gE, gF, t1, t2, t3, t4, t5, t6, t7, t8, t9, t10, t11⟩ := ef_tail (FrG.refl c h) hk0 (CameW.refl _ _) hnot hok
        have h1 : cE gl w = 1 := by rw [hwg, cE_self]
        rw [h1] at t6 hp
        have z : ((1 : Nat) : Int) = 1 := rfl
        rw [z] at t6
        simp only [AV.cells] at t3 t7
        simp (maxSteps := 1000000) (disch := first | omega | rfl | (simp only [zL, two63, room] <;> omega) | fail) only [↓reduceIte, ↓zP, zW, WOp, evOp, evBin, binI, binSh, binS, evNil, keyIs, keyEq, mkv, AV.cells, AV.sc, optv, bnd, env, put, Env.get, Env.set, Env.del, Env.dels, Env.init, res1, resL, resV, fillP, splice, newRow, Nat.reduceEqDiff, Nat.reduceLT, Nat.reduceLeDiff, Nat.reduceAdd, Nat.reduceMul, Nat.reduceSub, Nat.reduceBEq, reduceCtorEq, ↓zR, zQ, Tr, StA, StT, e_liLast w (by omega), hb, t1, t2, t3, t4, t5, t6, t7, t8]
        exact hp gF (K ++ [w]) t9 t10 t11
      · have hb : (w == lnL w) = false := by rw [hok.1, beq_eq_false_iff_ne]; exact hwg
        simp (maxSteps := 1000000) (disch := first | omega | rfl | (simp only [zL, two63, room] <;> omega) | fail) only [↓reduceIte, ↓zP, zW, WOp, evOp, evBin, binI, binSh, binS, evNil, keyIs, keyEq, mkv, AV.cells, AV.sc, optv, bnd, env, put, Env.get, Env.set, Env.del, Env.dels, Env.init, res1, resL, resV, fillP, splice, newRow, Nat.reduceEqDiff, Nat.reduceLT, Nat.reduceLeDiff, Nat.reduceAdd, Nat.reduceMul, Nat.reduceSub, Nat.reduceBEq, reduceCtorEq, ↓zR, zQ, Tr, StA, StT, e_liLast w (by omega), hb]
        refine c_liMoves w hok.2.1 (by omega) true true ?_
        intro vm h2 ho2 hp2
        rw [liMovesB_eq, show kindsS true true = [84, 70] from rfl] at ho2
        have hsm := ho2.slcW hk0 hp2
        have hf2 := hp2.frg (c := c) hk0.lt
        have hlen := movesB_len w [84, 70]
        have hv2 := fun g => Slc.lenV (hsm.1) (g := g) (ρ := fun _ => _) (x := .t 0) rfl; simp only [evOp] at hv2
        have z : (0 : Int) = (((([] : List (Int × Int)).map (mkM w)).map (cE gl)).sum : Nat) := rfl
        simp (maxSteps := 1000000) (disch := first | omega | rfl | (simp only [zL, two63, room] <;> omega) | fail) only [↓reduceIte, ↓zP, zW, WOp, evOp, evBin, binI, binSh, binS, evNil, keyIs, keyEq, mkv, AV.cells, AV.sc, optv, bnd, env, put, Env.get, Env.set, Env.del, Env.dels, Env.init, res1, resL, resV, fillP, splice, newRow, Nat.reduceEqDiff, Nat.reduceLT, Nat.reduceLeDiff, Nat.reduceAdd, Nat.reduceMul, Nat.reduceSub, Nat.reduceBEq, reduceCtorEq, ↓zR, zQ, Tr, StA, StT, hv2]
        rw [z]
        refine lp_ef1 ih hn hok hwg vm (h0 := h) (K0 := K) (movesB w [84, 70]) [] h2 K rfl hf2 (hk0.pre hp2) (CameW.refl _ _) hsm ?_
        intro h3 K3 hf3 hk3 hc3
        obtain ⟨u1, u2, w1, w2, gB, gC, gE, gF, t1, t2, t3, t4, t5, t6, t7, t8, t9, t10, t11⟩ := ef_tail hf3 hk3 hc3 hnot hok
        simp only [AV.cells] at t3 t7
        simp (maxSteps := 1000000) (disch := first | omega | rfl | (simp only [zL, two63, room] <;> omega) | fail) only [↓reduceIte, ↓zP, zW, WOp, evOp, evBin, binI, binSh, binS, evNil, keyIs, keyEq, mkv, AV.cells, AV.sc, optv, bnd, env, put, Env.get, Env.set, Env.del, Env.dels, Env.init, res1, resL, resV, fillP, splice, newRow, Nat.reduceEqDiff, Nat.reduceLT, Nat.reduceLeDiff, Nat.reduceAdd, Nat.reduceMul, Nat.reduceSub, Nat.reduceBEq, reduceCtorEq, ↓zR, zQ, Tr, StA, StT, t1, t2, t3, t4, t5, t6, t7, t8]
        exact hp gF (K3 ++ [w]) t9 t10 t11
end Go.Proofs.Ytcflenomogpdbaa.Ab

/- EXCHANGES of the reference: layers of live lines. -/
namespace Go.Proofs.Ytcflenomogpdbaa.Ab
open Go
set_option maxRecDepth 100000
set_option maxHeartbeats 4000000

theorem lp_hasS {v : AV} {L : List Ln} (hL : L.length < 2 ^ 40) {h : AH} (hs : Slc 1 encS h v L) (x : Ln) {R : X → Env → AH → Prop} : ∀ (rest pre : List Ln), L = pre ++ rest → (x ∈ rest → R .ret [(4, .bool true)] h) → (x ∉ rest → R (.exit 0) [] h) →
    Cx (.loop lp243_0) [(1, .str x), (7, v), (8, .int .i64 L.length), (9, .int .i64 pre.length)] h R k k
  | [], pre, hpre, h1, h2 => by
    subst hpre
    rw [w_loopb (c := lp243_0) (d := lb243_0) rfl]; unfold lb243_0
    simp only [List.append_nil]
    simp (maxSteps := 1000000) (disch := first | omega | rfl | (simp only [zL, two63, room] <;> omega) | fail) only [↓reduceIte, ↓zP, zW, WOp, evOp, evBin, binI, binSh, binS, evNil, keyIs, keyEq, mkv, AV.cells, AV.sc, optv, bnd, env, put, Env.get, Env.set, Env.del, Env.dels, Env.init, res1, resL, resV, fillP, splice, newRow, Nat.reduceEqDiff, Nat.reduceLT, Nat.reduceLeDiff, Nat.reduceAdd, Nat.reduceMul, Nat.reduceSub, Nat.reduceBEq, reduceCtorEq, ↓zR, zQ, Tr, StA, StT]
    exact h2 (by simp)
  | y :: rest, pre, hpre, h1, h2 => by
    have ih := lp_hasS hL hs x (R := R) rest (pre ++ [y])
    subst hpre
    obtain ⟨c, kk, off, rfl, hr⟩ := hs.at hlS
    have hlen : (pre ++ y :: rest).length = pre.length + 1 + rest.length := by simp; omega
    rw [hlen] at ih hL ⊢
    have hlt : (pre.length : Int) < ((pre.length + 1 + rest.length : Nat) : Int) := by omega
    have hw1 : (pre.length : Int) + 1 = ((pre ++ [y]).length : Int) := by simp
    rw [w_loopb (c := lp243_0) (d := lb243_0) rfl]; unfold lb243_0
    cases e : (y == x)
    · have hne : ¬ x = y := fun h => by subst h; simp at e
      simp (maxSteps := 1000000) (disch := first | omega | rfl | (simp only [zL, two63, room] <;> omega) | fail) only [↓reduceIte, ↓zP, zW, WOp, evOp, evBin, binI, binSh, binS, evNil, keyIs, keyEq, mkv, AV.cells, AV.sc, optv, bnd, env, put, Env.get, Env.set, Env.del, Env.dels, Env.init, res1, resL, resV, fillP, splice, newRow, Nat.reduceEqDiff, Nat.reduceLT, Nat.reduceLeDiff, Nat.reduceAdd, Nat.reduceMul, Nat.reduceSub, Nat.reduceBEq, reduceCtorEq, ↓zR, zQ, Tr, StA, StT, hlt, hr, e, hw1]
      rw [w_loopn (c := lp243_0) rfl]
      simp (maxSteps := 1000000) (disch := first | omega | rfl | (simp only [zL, two63, room] <;> omega) | fail) only [↓reduceIte, ↓zP, zW, WOp, evOp, evBin, binI, binSh, binS, evNil, keyIs, keyEq, mkv, AV.cells, AV.sc, optv, bnd, env, put, Env.get, Env.set, Env.del, Env.dels, Env.init, res1, resL, resV, fillP, splice, newRow, Nat.reduceEqDiff, Nat.reduceLT, Nat.reduceLeDiff, Nat.reduceAdd, Nat.reduceMul, Nat.reduceSub, Nat.reduceBEq, reduceCtorEq, ↓zR, zQ, Tr, StA, StT]
      exact ih (by simp) (fun hx => h1 (by simp [hx])) fun hx => h2 (by simp [hx, hne])
    · have he : y = x := by simpa using e
      simp (maxSteps := 1000000) (disch := first | omega | rfl | (simp only [zL, two63, room] <;> omega) | fail) only [↓reduceIte, ↓zP, zW, WOp, evOp, evBin, binI, binSh, binS, evNil, keyIs, keyEq, mkv, AV.cells, AV.sc, optv, bnd, env, put, Env.get, Env.set, Env.del, Env.dels, Env.init, res1, resL, resV, fillP, splice, newRow, Nat.reduceEqDiff, Nat.reduceLT, Nat.reduceLeDiff, Nat.reduceAdd, Nat.reduceMul, Nat.reduceSub, Nat.reduceBEq, reduceCtorEq, ↓zR, zQ, Tr, StA, StT, hlt, hr, e]
      exact h1 (by simp [he])
theorem c_hasS {v : AV} {L : List Ln} (hL : L.length < 2 ^ 40) {h : AH} (hs : Slc 1 encS h v L) (x : Ln) {post : AV → AH → Prop} (hp : post (.bool (decide (x ∈ L))) h) : S 243 [v, .str x] h post k := by
  refine S_of rfl T243 ?_; unfold fi243
  have hv := fun g => Slc.lenV (hs) (g := g) (ρ := fun _ => _) (x := .t 0) rfl; simp only [evOp] at hv
  simp (maxSteps := 1000000) (disch := first | omega | rfl | (simp only [zL, two63, room] <;> omega) | fail) only [↓reduceIte, ↓zP, zW, WOp, evOp, evBin, binI, binSh, binS, evNil, keyIs, keyEq, mkv, AV.cells, AV.sc, optv, bnd, env, put, Env.get, Env.set, Env.del, Env.dels, Env.init, res1, resL, resV, fillP, splice, newRow, Nat.reduceEqDiff, Nat.reduceLT, Nat.reduceLeDiff, Nat.reduceAdd, Nat.reduceMul, Nat.reduceSub, Nat.reduceBEq, reduceCtorEq, ↓zR, zQ, Tr, StA, StT, hv]
  refine lp_hasS hL hs x L [] rfl ?_ ?_
  · intro hx
    simp (maxSteps := 1000000) (disch := first | omega | rfl | (simp only [zL, two63, room] <;> omega) | fail) only [↓reduceIte, ↓zP, zW, WOp, evOp, evBin, binI, binSh, binS, evNil, keyIs, keyEq, mkv, AV.cells, AV.sc, optv, bnd, env, put, Env.get, Env.set, Env.del, Env.dels, Env.init, res1, resL, resV, fillP, splice, newRow, Nat.reduceEqDiff, Nat.reduceLT, Nat.reduceLeDiff, Nat.reduceAdd, Nat.reduceMul, Nat.reduceSub, Nat.reduceBEq, reduceCtorEq, ↓zR, zQ, Tr, StA, StT]
    simpa [hx] using hp
  · intro hx
    simp (maxSteps := 1000000) (disch := first | omega | rfl | (simp only [zL, two63, room] <;> omega) | fail) only [↓reduceIte, ↓zP, zW, WOp, evOp, evBin, binI, binSh, binS, evNil, keyIs, keyEq, mkv, AV.cells, AV.sc, optv, bnd, env, put, Env.get, Env.set, Env.del, Env.dels, Env.init, res1, resL, resV, fillP, splice, newRow, Nat.reduceEqDiff, Nat.reduceLT, Nat.reduceLeDiff, Nat.reduceAdd, Nat.reduceMul, Nat.reduceSub, Nat.reduceBEq, reduceCtorEq, ↓zR, zQ, Tr, StA, StT]
    simpa [hx] using hp

/-! ### What is not touched by asking -/
def NG (c : Nat) (h : AH) (v : AV) : Prop := ∀ r, rowOf v = some r → ¬ gr c h r
theorem KW.keep {gl : Ln} {c : Nat} {h h' : AH} {K : List Ln} (hk : KW gl c h K) (he : ∀ i, gr c h i → h'[i]? = h[i]?) : KW gl c h' K := by
  have hc := he c (.inl rfl)
  obtain ⟨v1, v2, W, h1, h2, h3, h4⟩ := hk
  exact ⟨v1, v2, W, by rw [hc]; exact h1, own_row h2 fun r hr => he r (.inr ⟨v1, v2, h1, .inl hr⟩), own_row h3 fun r hr => he r (.inr ⟨v1, v2, h1, .inr hr⟩), h4⟩
theorem gr_keep {c : Nat} {h h' : AH} (hc : h'[c]? = h[c]?) (i : Nat) : gr c h' i ↔ gr c h i := by unfold gr; rw [hc]
theorem NG.fr {c : Nat} {h h' : AH} {v : AV} (hn : NG c h v) (hf : FrG c h h') (hl : ∀ r, rowOf v = some r → r < h.length) : NG c h' v := fun r hr => (hf.2 r (hl r hr) (hn r hr)).2
theorem own_fr {α : Type} {esz : Nat} {enc : α → List AV} {c : Nat} {b h h' : AH} {v : AV} {L : List α} (ho : OwL esz enc b h v L) (hn : NG c h v) (hf : FrG c h h') : OwL esz enc b h' v L := own_row ho fun r hr => (hf.2 r (own_lt ho hr) (hn r hr)).1
theorem apG {α : Type} {esz : Nat} {enc : α → List AV} (hl : ∀ x, (enc x).length = esz) (hsc : ∀ x, (enc x).all AV.sc = true) {gl : Ln} {c : Nat} {b h0 h : AH} {v : AV} {L : List α} {K : List Ln} (ho : OwL esz enc b h v L) (hb : b.length ≤ h.length) (hng : NG c h v) (hk : KW gl c h K) (hL : L.length + 1 ≤ 1099511627776) (x : α) :
    ∃ v' h', apRow h esz v 1 (enc x) = some (v', h') ∧ OwL esz enc b h' v' (L ++ [x]) ∧ NG c h' v' ∧ KW gl c h' K ∧ h.length ≤ h'.length ∧ (∀ i, i < h.length → rowOf v ≠ some i → h'[i]? = h[i]?) ∧ (∀ r, rowOf v' = some r → rowOf v = some r ∨ r = h.length) ∧ ∀ i, gr c h' i ↔ gr c h i := by
  obtain ⟨v', h', ha, ho', _⟩ := apA hl hsc ho hb x hL
  obtain ⟨f1, f2, f3⟩ := apRow_fr ha
  have hg : ∀ i, gr c h i → h'[i]? = h[i]? := fun i hi => f1 i (hk.gr_lt hi) fun e => hng i e hi
  have hgr := gr_keep (h := h) (h' := h') (hg c (.inl rfl))
  refine ⟨v', h', ha, ho', fun r hr hgr' => ?_, hk.keep hg, f2, f1, f3, hgr⟩
  rw [hgr] at hgr'
  rcases f3 r hr with h1 | h1
  · exact hng r h1 hgr'
  · have := hk.gr_lt hgr'; omega

def GoodW (gl : Ln) (A : List Ln) : Prop := A.Nodup ∧ ∀ x ∈ A, OkW gl x
theorem GoodW.few {gl : Ln} {A : List Ln} (h : GoodW gl A) : A.length ≤ 6561 := by
  obtain ⟨hnd, hok⟩ := h
  by_cases hK : A = []
  · subst hK; simp
  obtain ⟨x0, l, rfl⟩ := List.exists_cons_of_ne_nil hK
  have h8 := (hok x0 (by simp)).2.2.2
  have := nodup_bound (A := [46, 70, 84]) (n := gl.length) hnd (fun x hx => ⟨(hok x hx).2.2.1, fun b hb => by
    have := List.all_eq_true.1 (hok x hx).2.1 b hb
    unfold isSign at this
    simp at this ⊢
    rcases this with h | h
    · rcases h with h | h <;> simp [h]
    · simp [h]⟩)
  exact Nat.le_trans this (Nat.le_trans (Nat.pow_le_pow_right (by simp) h8) (by decide))
theorem GoodW.add {gl : Ln} {A : List Ln} (h : GoodW gl A) {v : Ln} (hv : OkW gl v) : GoodW gl (swAdd gl A v) := ⟨swAdd_nodup h.1 v, fun x hx => by
  rcases (swAdd_mem gl A v x).1 hx with h1 | ⟨rfl, _⟩
  · exact h.2 x h1
  · exact hv⟩
theorem GoodW.nil {gl : Ln} : GoodW gl [] := ⟨List.nodup_nil, fun x hx => by simp at hx⟩
theorem OkW.nx {gl w v : Ln} (ho : OkW gl w) (h : v ∈ nx w) : OkW gl v := by
  obtain ⟨i, t, _, hm, rfl⟩ := nextB_mv h
  exact ho.made hm
theorem GoodW.all {gl : Ln} : ∀ (l : List Ln) {A : List Ln}, GoodW gl A → (∀ x ∈ l, OkW gl x) → GoodW gl (swAll gl A l)
  | [], _, h, _ => h
  | v :: l, _, h, hl => GoodW.all l (h.add (hl v (by simp))) fun x hx => hl x (by simp [hx])
theorem lv_good {gl w : Ln} (hw : OkW gl w) : ∀ j, GoodW gl (lv gl w j)
  | 0 => ⟨by simp [lv], fun x hx => by simp only [lv, List.mem_singleton] at hx; subst hx; exact hw⟩
  | j + 1 => GoodW.all _ GoodW.nil fun x hx => by
    obtain ⟨u, hu, hv⟩ := List.mem_flatMap.1 hx
    exact ((lv_good hw j).2 u hu).nx hv
/-- The steps of a round: what was there at its start stays, but for what is known. -/
structure SwI (gl : Ln) (c : Nat) (h0 : AH) (A : List Ln) (v : AV) (h : AH) : Prop where
  ow : OwL 1 encS h0 h v A
  ng : NG c h v
  fr : FrG c h0 h
  kn : ∃ K, KW gl c h K
  gd : GoodW gl A
theorem SwI.pre {gl : Ln} {c : Nat} {h0 h h' : AH} {A : List Ln} {v : AV} (s : SwI gl c h0 A v h) (hp : Pre h h') : SwI gl c h0 A v h' := by
  obtain ⟨K, hk⟩ := s.kn
  have hfr := hp.frg hk.lt
  exact ⟨s.ow.pre hp, s.ng.fr hfr fun r hr => own_lt s.ow hr, s.fr.trans hfr, ⟨K, hk.pre hp⟩, s.gd⟩
theorem SwI.frg {gl : Ln} {c : Nat} {h0 h h' : AH} {A : List Ln} {v : AV} (s : SwI gl c h0 A v h) (hf : FrG c h h') (hk : ∃ K, KW gl c h' K) : SwI gl c h0 A v h' :=
  ⟨own_fr s.ow s.ng hf, s.ng.fr hf fun r hr => own_lt s.ow hr, s.fr.trans hf, hk, s.gd⟩
theorem SwI.app {gl : Ln} {c : Nat} {h0 h : AH} {A : List Ln} {v : AV} (s : SwI gl c h0 A v h) {x : Ln} (hx : OkW gl x) (hc : 0 < cE gl x) (hn : x ∉ A) : ∃ v' h', apRow h 1 v 1 [.str x] = some (v', h') ∧ SwI gl c h0 (swAdd gl A x) v' h' ∧ (∀ i, i < h.length → rowOf v ≠ some i → h'[i]? = h[i]?) ∧ (∀ r, rowOf v' = some r → rowOf v = some r ∨ r = h.length) ∧ ∀ i, gr c h' i ↔ gr c h i := by
  obtain ⟨K, hk⟩ := s.kn
  obtain ⟨v', h', ha, ho, hng, hk', hl, f1, f3, hgr⟩ := apG hlS scS (h0 := h0) s.ow s.fr.1 s.ng hk (by have := s.gd.few; omega) x
  have e : swAdd gl A x = A ++ [x] := by unfold swAdd; rw [if_pos ⟨hc, hn⟩]
  refine ⟨v', h', ha, ⟨?_, hng, ⟨Nat.le_trans s.fr.1 hl, fun i hi hg => ?_⟩, ⟨K, hk'⟩, s.gd.add hx⟩, f1, f3, hgr⟩
  · rw [e]; exact ho
  · obtain ⟨h1, h2⟩ := s.fr.2 i hi hg
    have hvi : rowOf v ≠ some i := fun e => by have := own_ge s.ow e; omega
    exact ⟨by rw [f1 i (Nat.lt_of_lt_of_le hi s.fr.1) hvi, h1], fun hg' => h2 ((hgr i).1 hg')⟩

theorem lp_sw2 {gl : Ln} {c : Nat} {w : Ln} (hok : OkW gl w) {t6 t22 t23 t24 vm : AV} {h0 : AH} {R : X → Env → AH → Prop} :
    ∀ (mr mp : List (Int × Int)) (A : List Ln) (v : AV) (h : AH), movesB w [84, 70] = mp ++ mr → SwI gl c h0 A v h → SlcG 2 encM c h vm (movesB w [84, 70]) → (∀ r, rowOf vm = some r → rowOf v ≠ some r) →
    (∀ v' h', SwI gl c h0 (swAll gl A (mr.map (mkM w))) v' h' → FrG c h0 h' → R (.exit 4) [(0, .ptr c 0 0 2), (6, t6), (7, v'), (22, t22), (23, t23), (24, t24)] h') →
    Cx (.loop lp250_2) [(0, .ptr c 0 0 2), (6, t6), (7, v), (9, .str w), (22, t22), (23, t23), (24, t24), (29, vm), (30, .int .i64 (movesB w [84, 70]).length), (31, .int .i64 mp.length)] h R k k
  | [], mp, A, v, h, hmp, hs, hsm, hd0, hR => by
    have hl : (movesB w [84, 70]).length = mp.length := by rw [hmp]; simp
    rw [w_loopb (c := lp250_2) (d := lb250_2) rfl]; unfold lb250_2
    rw [hl]
    simp (maxSteps := 1000000) (disch := first | omega | rfl | (simp only [zL, two63, room] <;> omega) | fail) only [↓reduceIte, ↓zP, zW, WOp, evOp, evBin, binI, binSh, binS, evNil, keyIs, keyEq, mkv, AV.cells, AV.sc, optv, bnd, env, put, Env.get, Env.set, Env.del, Env.dels, Env.init, res1, resL, resV, fillP, splice, newRow, Nat.reduceEqDiff, Nat.reduceLT, Nat.reduceLeDiff, Nat.reduceAdd, Nat.reduceMul, Nat.reduceSub, Nat.reduceBEq, reduceCtorEq, ↓zR, zQ, Tr, StA, StT]
    exact hR v h hs hs.fr
  | m :: mr, mp, A, v, h, hmp, hs, hsm, hd0, hR => by
    have ih := lp_sw2 hok (c := c) (t6 := t6) (t22 := t22) (t23 := t23) (t24 := t24) (vm := vm) (h0 := h0) (R := R) mr (mp ++ [m])
    have hmm : m ∈ movesB w [84, 70] := by rw [hmp]; simp
    have hml : (movesB w [84, 70]).length = mp.length + 1 + mr.length := by rw [hmp]; simp; omega
    have hsm' := hsm.1
    rw [hmp] at hsm'
    obtain ⟨r1, k1, o1, hv1, hr⟩ := hsm'.at hlM
    rw [← hmp, hml] at hv1
    obtain ⟨i, t', rfl, hmv⟩ := movesB_mv hmm
    subst hv1
    rw [hml] at ih ⊢
    have hbd := movesB_len w [84, 70]
    have hwl : w.length ≤ 8 := by rw [hok.2.2.1]; exact hok.2.2.2
    have hlt : (mp.length : Int) < ((mp.length + 1 + mr.length : Nat) : Int) := by omega
    have hw1 : (mp.length : Int) + 1 = ((mp ++ [((i : Int), (t' : Int))]).length : Int) := by simp
    have hmk : mkM w ((i : Int), (t' : Int)) = madeB w i t' := rfl
    have hokm := hok.made hmv
    rw [List.map_cons, swAll_cons, hmk] at hR
    rw [w_loopb (c := lp250_2) (d := lb250_2) rfl]; unfold lb250_2
    simp (maxSteps := 1000000) (disch := first | omega | rfl | (simp only [zL, two63, room] <;> omega) | fail) only [↓reduceIte, ↓zP, zW, WOp, evOp, evBin, binI, binSh, binS, evNil, keyIs, keyEq, mkv, AV.cells, AV.sc, optv, bnd, env, put, Env.get, Env.set, Env.del, Env.dels, Env.init, res1, resL, resV, fillP, splice, newRow, Nat.reduceEqDiff, Nat.reduceLT, Nat.reduceLeDiff, Nat.reduceAdd, Nat.reduceMul, Nat.reduceSub, Nat.reduceBEq, reduceCtorEq, ↓zR, zQ, Tr, StA, StT, hlt, hr]
    refine c_liMake w i t' hmv.fst hmv.snd hmv.ne (by omega) ?_
    intro h2 hp2
    have hp1 := (Pre.push h (AO.row (encM ((i : Int), (t' : Int))) 0 0 false)).trans hp2
    obtain ⟨K, hk⟩ := hs.kn
    have hf1 := hp1.frg (c := c) hk.lt
    simp (maxSteps := 1000000) (disch := first | omega | rfl | (simp only [zL, two63, room] <;> omega) | fail) only [↓reduceIte, ↓zP, zW, WOp, evOp, evBin, binI, binSh, binS, evNil, keyIs, keyEq, mkv, AV.cells, AV.sc, optv, bnd, env, put, Env.get, Env.set, Env.del, Env.dels, Env.init, res1, resL, resV, fillP, splice, newRow, Nat.reduceEqDiff, Nat.reduceLT, Nat.reduceLeDiff, Nat.reduceAdd, Nat.reduceMul, Nat.reduceSub, Nat.reduceBEq, reduceCtorEq, ↓zR, zQ, Tr, StA, StT]
    refine c_efrom gl _ (madeB w i t') c h2 K (Nat.lt_succ_self _) hokm (hk.pre hp1) _ ?_
    intro h3 K3 hf3 hk3 _
    have hf13 := hf1.trans hf3
    have hs3 := hs.frg hf13 ⟨K3, hk3⟩
    have hsm3 := hsm.fr hf13
    have hfew := hs3.gd.few
    by_cases hpos : 0 < cE gl (madeB w i t')
    · have hpi : ((cE gl (madeB w i t') : Nat) : Int) > 0 := by omega
      simp (maxSteps := 1000000) (disch := first | omega | rfl | (simp only [zL, two63, room] <;> omega) | fail) only [↓reduceIte, ↓zP, zW, WOp, evOp, evBin, binI, binSh, binS, evNil, keyIs, keyEq, mkv, AV.cells, AV.sc, optv, bnd, env, put, Env.get, Env.set, Env.del, Env.dels, Env.init, res1, resL, resV, fillP, splice, newRow, Nat.reduceEqDiff, Nat.reduceLT, Nat.reduceLeDiff, Nat.reduceAdd, Nat.reduceMul, Nat.reduceSub, Nat.reduceBEq, reduceCtorEq, ↓zR, zQ, Tr, StA, StT, hpi]
      refine c_hasS (L := A) (by omega) hs3.ow.slc (madeB w i t') ?_
      by_cases hin : madeB w i t' ∈ A
      · have hd : decide (madeB w i t' ∈ A) = true := by simpa using hin
        have e : swAdd gl A (madeB w i t') = A := by unfold swAdd; rw [if_neg (fun hh => hh.2 hin)]
        rw [e] at hR
        simp (maxSteps := 1000000) (disch := first | omega | rfl | (simp only [zL, two63, room] <;> omega) | fail) only [↓reduceIte, ↓zP, zW, WOp, evOp, evBin, binI, binSh, binS, evNil, keyIs, keyEq, mkv, AV.cells, AV.sc, optv, bnd, env, put, Env.get, Env.set, Env.del, Env.dels, Env.init, res1, resL, resV, fillP, splice, newRow, Nat.reduceEqDiff, Nat.reduceLT, Nat.reduceLeDiff, Nat.reduceAdd, Nat.reduceMul, Nat.reduceSub, Nat.reduceBEq, reduceCtorEq, ↓zR, zQ, Tr, StA, StT, hd, hw1]
        rw [w_loopn (c := lp250_2) rfl]
        simp (maxSteps := 1000000) (disch := first | omega | rfl | (simp only [zL, two63, room] <;> omega) | fail) only [↓reduceIte, ↓zP, zW, WOp, evOp, evBin, binI, binSh, binS, evNil, keyIs, keyEq, mkv, AV.cells, AV.sc, optv, bnd, env, put, Env.get, Env.set, Env.del, Env.dels, Env.init, res1, resL, resV, fillP, splice, newRow, Nat.reduceEqDiff, Nat.reduceLT, Nat.reduceLeDiff, Nat.reduceAdd, Nat.reduceMul, Nat.reduceSub, Nat.reduceBEq, reduceCtorEq, ↓zR, zQ, Tr, StA, StT]
        exact ih A v h3 (by rw [hmp]; simp) hs3 hsm3 hd0 hR
      · have hd : decide (madeB w i t' ∈ A) = false := by simpa using hin
        have hpush := Pre.push h3 (AO.row [.str (madeB w i t')] 0 0 false)
        have hs4 := hs3.pre hpush
        have hsm4 := hsm3.fr (hpush.frg (c := c) hk3.lt)
        obtain ⟨v5, h5, ha, hs5, f1, f3, hgr⟩ := hs4.app hokm hpos hin
        have hrl : ∀ r, rowOf (AV.slice r1 k1 o1 (mp.length + 1 + mr.length) 2) = some r → r < h3.length := fun r hr => hsm3.1.lt hr
        simp (maxSteps := 1000000) (disch := first | omega | rfl | (simp only [zL, two63, room] <;> omega) | fail) only [↓reduceIte, ↓zP, zW, WOp, evOp, evBin, binI, binSh, binS, evNil, keyIs, keyEq, mkv, AV.cells, AV.sc, optv, bnd, env, put, Env.get, Env.set, Env.del, Env.dels, Env.init, res1, resL, resV, fillP, splice, newRow, Nat.reduceEqDiff, Nat.reduceLT, Nat.reduceLeDiff, Nat.reduceAdd, Nat.reduceMul, Nat.reduceSub, Nat.reduceBEq, reduceCtorEq, ↓zR, zQ, Tr, StA, StT, hd, ha, hw1]
        rw [w_loopn (c := lp250_2) rfl]
        simp (maxSteps := 1000000) (disch := first | omega | rfl | (simp only [zL, two63, room] <;> omega) | fail) only [↓reduceIte, ↓zP, zW, WOp, evOp, evBin, binI, binSh, binS, evNil, keyIs, keyEq, mkv, AV.cells, AV.sc, optv, bnd, env, put, Env.get, Env.set, Env.del, Env.dels, Env.init, res1, resL, resV, fillP, splice, newRow, Nat.reduceEqDiff, Nat.reduceLT, Nat.reduceLeDiff, Nat.reduceAdd, Nat.reduceMul, Nat.reduceSub, Nat.reduceBEq, reduceCtorEq, ↓zR, zQ, Tr, StA, StT]
        refine ih _ v5 h5 (by rw [hmp]; simp) hs5 ⟨hsm4.1.stay fun r hr => f1 r (Nat.lt_of_lt_of_le (hrl r hr) hpush.1) (hd0 r hr), fun r hr hg => hsm4.2 r hr ((hgr r).1 hg)⟩ ?_ hR
        intro r hr e
        rcases f3 r e with h6 | h6
        · exact hd0 r hr h6
        · have := hrl r hr
          have := hpush.1
          omega
    · have hpi : ¬ ((cE gl (madeB w i t') : Nat) : Int) > 0 := by omega
      have e : swAdd gl A (madeB w i t') = A := by unfold swAdd; rw [if_neg (fun hh => hpos hh.1)]
      rw [e] at hR
      simp (maxSteps := 1000000) (disch := first | omega | rfl | (simp only [zL, two63, room] <;> omega) | fail) only [↓reduceIte, ↓zP, zW, WOp, evOp, evBin, binI, binSh, binS, evNil, keyIs, keyEq, mkv, AV.cells, AV.sc, optv, bnd, env, put, Env.get, Env.set, Env.del, Env.dels, Env.init, res1, resL, resV, fillP, splice, newRow, Nat.reduceEqDiff, Nat.reduceLT, Nat.reduceLeDiff, Nat.reduceAdd, Nat.reduceMul, Nat.reduceSub, Nat.reduceBEq, reduceCtorEq, ↓zR, zQ, Tr, StA, StT, hpi, hw1]
      rw [w_loopn (c := lp250_2) rfl]
      simp (maxSteps := 1000000) (disch := first | omega | rfl | (simp only [zL, two63, room] <;> omega) | fail) only [↓reduceIte, ↓zP, zW, WOp, evOp, evBin, binI, binSh, binS, evNil, keyIs, keyEq, mkv, AV.cells, AV.sc, optv, bnd, env, put, Env.get, Env.set, Env.del, Env.dels, Env.init, res1, resL, resV, fillP, splice, newRow, Nat.reduceEqDiff, Nat.reduceLT, Nat.reduceLeDiff, Nat.reduceAdd, Nat.reduceMul, Nat.reduceSub, Nat.reduceBEq, reduceCtorEq, ↓zR, zQ, Tr, StA, StT]
      exact ih A v h3 (by rw [hmp]; simp) hs3 hsm3 hd0 hR

theorem lp_sw1 {gl : Ln} {c : Nat} {t6 tl : AV} {L : List Ln} (hL : GoodW gl L) {h0 : AH} (hsl : SlcG 1 encS c h0 tl L) {R : X → Env → AH → Prop} :
    ∀ (rest pre : List Ln) (A : List Ln) (v : AV) (h : AH), L = pre ++ rest → SwI gl c h0 A v h →
    (∀ v' h', SwI gl c h0 (swAll gl A (rest.flatMap nx)) v' h' → R (.exit 2) [(0, .ptr c 0 0 2), (6, t6), (7, v')] h') →
    Cx (.loop lp250_1) [(0, .ptr c 0 0 2), (6, t6), (7, v), (22, tl), (23, .int .i64 L.length), (24, .int .i64 pre.length)] h R k k
  | [], pre, A, v, h, hpre, hs, hR => by
    have hl : L.length = pre.length := by rw [hpre]; simp
    rw [w_loopb (c := lp250_1) (d := lb250_1) rfl]; unfold lb250_1
    rw [hl]
    simp (maxSteps := 1000000) (disch := first | omega | rfl | (simp only [zL, two63, room] <;> omega) | fail) only [↓reduceIte, ↓zP, zW, WOp, evOp, evBin, binI, binSh, binS, evNil, keyIs, keyEq, mkv, AV.cells, AV.sc, optv, bnd, env, put, Env.get, Env.set, Env.del, Env.dels, Env.init, res1, resL, resV, fillP, splice, newRow, Nat.reduceEqDiff, Nat.reduceLT, Nat.reduceLeDiff, Nat.reduceAdd, Nat.reduceMul, Nat.reduceSub, Nat.reduceBEq, reduceCtorEq, ↓zR, zQ, Tr, StA, StT]
    exact hR v h hs
  | w :: rest, pre, A, v, h, hpre, hs, hR => by
    have ih := lp_sw1 hL hsl (t6 := t6) (R := R) rest (pre ++ [w])
    have hml : L.length = pre.length + 1 + rest.length := by rw [hpre]; simp; omega
    have hok := hL.2 w (by rw [hpre]; simp)
    have hwl : w.length ≤ 8 := by rw [hok.2.2.1]; exact hok.2.2.2
    have hsl' := (hsl.fr hs.fr).1
    rw [hpre] at hsl'
    obtain ⟨r1, k1, o1, hv1, hr⟩ := hsl'.at hlS
    rw [← hpre, hml] at hv1
    subst hv1
    have hbd := hL.few
    rw [hml] at ih hbd ⊢
    have hlt : (pre.length : Int) < ((pre.length + 1 + rest.length : Nat) : Int) := by omega
    have hw1 : (pre.length : Int) + 1 = ((pre ++ [w]).length : Int) := by simp
    obtain ⟨K, hk⟩ := hs.kn
    have hmb := movesB_len w [84, 70]
    rw [w_loopb (c := lp250_1) (d := lb250_1) rfl]; unfold lb250_1
    simp (maxSteps := 1000000) (disch := first | omega | rfl | (simp only [zL, two63, room] <;> omega) | fail) only [↓reduceIte, ↓zP, zW, WOp, evOp, evBin, binI, binSh, binS, evNil, keyIs, keyEq, mkv, AV.cells, AV.sc, optv, bnd, env, put, Env.get, Env.set, Env.del, Env.dels, Env.init, res1, resL, resV, fillP, splice, newRow, Nat.reduceEqDiff, Nat.reduceLT, Nat.reduceLeDiff, Nat.reduceAdd, Nat.reduceMul, Nat.reduceSub, Nat.reduceBEq, reduceCtorEq, ↓zR, zQ, Tr, StA, StT, hlt, hr]
    refine c_liMoves w hok.2.1 (by omega) true true ?_
    intro vm h2 ho2 hp2
    rw [liM_eq] at ho2
    have hvm := fun g => Slc.lenV (ho2.slc) (g := g) (ρ := fun _ => _) (x := .t 0) rfl; simp only [evOp] at hvm
    simp (maxSteps := 1000000) (disch := first | omega | rfl | (simp only [zL, two63, room] <;> omega) | fail) only [↓reduceIte, ↓zP, zW, WOp, evOp, evBin, binI, binSh, binS, evNil, keyIs, keyEq, mkv, AV.cells, AV.sc, optv, bnd, env, put, Env.get, Env.set, Env.del, Env.dels, Env.init, res1, resL, resV, fillP, splice, newRow, Nat.reduceEqDiff, Nat.reduceLT, Nat.reduceLeDiff, Nat.reduceAdd, Nat.reduceMul, Nat.reduceSub, Nat.reduceBEq, reduceCtorEq, ↓zR, zQ, Tr, StA, StT, hvm]
    refine lp_sw2 hok (movesB w [84, 70]) [] A v h2 rfl (hs.pre hp2) (ho2.slcW hk hp2) (fun r hr e => ?_) ?_
    · have h1 := own_ge ho2 hr
      have h3 := own_lt hs.ow e
      omega
    intro v3 h3 hs3 hf3
    simp (maxSteps := 1000000) (disch := first | omega | rfl | (simp only [zL, two63, room] <;> omega) | fail) only [↓reduceIte, ↓zP, zW, WOp, evOp, evBin, binI, binSh, binS, evNil, keyIs, keyEq, mkv, AV.cells, AV.sc, optv, bnd, env, put, Env.get, Env.set, Env.del, Env.dels, Env.init, res1, resL, resV, fillP, splice, newRow, Nat.reduceEqDiff, Nat.reduceLT, Nat.reduceLeDiff, Nat.reduceAdd, Nat.reduceMul, Nat.reduceSub, Nat.reduceBEq, reduceCtorEq, ↓zR, zQ, Tr, StA, StT, hw1]
    rw [w_loopn (c := lp250_1) rfl]
    simp (maxSteps := 1000000) (disch := first | omega | rfl | (simp only [zL, two63, room] <;> omega) | fail) only [↓reduceIte, ↓zP, zW, WOp, evOp, evBin, binI, binSh, binS, evNil, keyIs, keyEq, mkv, AV.cells, AV.sc, optv, bnd, env, put, Env.get, Env.set, Env.del, Env.dels, Env.init, res1, resL, resV, fillP, splice, newRow, Nat.reduceEqDiff, Nat.reduceLT, Nat.reduceLeDiff, Nat.reduceAdd, Nat.reduceMul, Nat.reduceSub, Nat.reduceBEq, reduceCtorEq, ↓zR, zQ, Tr, StA, StT]
    refine ih _ v3 h3 (by rw [hpre]; simp) hs3 ?_
    intro v' h' hs'
    refine hR v' h' ?_
    rw [List.flatMap_cons, swAll_app]
    exact hs'
theorem LL.fr {c : Nat} {h h' : AH} {o : AV} {vs : List SV} {Ls : List (List Ln)} (hl : LL h o vs Ls) (hn : ∀ x ∈ vs, NG c h x.1) (hf : FrG c h h') : LL h' o vs Ls :=
  ⟨hl.1, fun i v L h1 h2 => ⟨(hl.2 i v L h1 h2).1.stay fun r hr => (hf.2 r ((hl.2 i v L h1 h2).1.lt hr) (hn v (List.mem_of_getElem? h1) r hr)).1, (hl.2 i v L h1 h2).2⟩⟩
structure SwO (gl w : Ln) (c : Nat) (b : AH) (j : Nat) (now o : AV) (vs : List SV) (h : AH) : Prop where
  ow : OwL 1 encV b h o vs
  ng : NG c h o
  ll : LL h o vs (lvs gl w j)
  nv : ∀ x ∈ vs, NG c h x.1
  sl : SlcG 1 encS c h now (lv gl w j)
  dj : ∀ r, rowOf now = some r → rowOf o ≠ some r
  kn : ∃ K, KW gl c h K
  fr : FrG c b h
theorem lp_sw0 {gl w : Ln} (hok : OkW gl w) {c : Nat} {b : AH} {R : X → Env → AH → Prop} :
    ∀ (d j : Nat) (now o : AV) (vs : List SV) (h : AH), j + d = mu w + 1 → SwO gl w c b j now o vs h →
    (∀ o' h' vs' N, lv gl w N = [] → N ≤ mu w + 1 → (∃ now', SwO gl w c b N now' o' vs' h') → R (.exit 0) [(6, o')] h') →
    Cx (.loop lp250_0) [(0, .ptr c 0 0 2), (5, now), (6, o)] h R k k := by
  have hwl : w.length ≤ 8 := by rw [hok.2.2.1]; exact hok.2.2.2
  have hmu := mu_le w (by omega)
  have stop : ∀ (j : Nat) (now o : AV) (vs : List SV) (h : AH), j ≤ mu w + 1 → lv gl w j = [] → SwO gl w c b j now o vs h → (∀ o' h' vs' N, lv gl w N = [] → N ≤ mu w + 1 → (∃ now', SwO gl w c b N now' o' vs' h') → R (.exit 0) [(6, o')] h') →
      Cx (.loop lp250_0) [(0, .ptr c 0 0 2), (5, now), (6, o)] h R k k := by
    intro j now o vs h hj he hs hR
    have hsl := hs.sl.1
    rw [he] at hsl
    have hv := fun g => Slc.lenV (hsl) (g := g) (ρ := fun _ => _) (x := .t 0) rfl; simp only [evOp] at hv
    have z : ¬ ((([] : List Ln).length : Int) > 0) := by simp
    rw [w_loopb (c := lp250_0) (d := lb250_0) rfl]; unfold lb250_0
    simp (maxSteps := 1000000) (disch := first | omega | rfl | (simp only [zL, two63, room] <;> omega) | fail) only [↓reduceIte, ↓zP, zW, WOp, evOp, evBin, binI, binSh, binS, evNil, keyIs, keyEq, mkv, AV.cells, AV.sc, optv, bnd, env, put, Env.get, Env.set, Env.del, Env.dels, Env.init, res1, resL, resV, fillP, splice, newRow, Nat.reduceEqDiff, Nat.reduceLT, Nat.reduceLeDiff, Nat.reduceAdd, Nat.reduceMul, Nat.reduceSub, Nat.reduceBEq, reduceCtorEq, ↓zR, zQ, Tr, StA, StT, hv, z]
    exact hR o h vs j he hj ⟨now, hs⟩
  intro d
  induction d with
  | zero =>
    intro j now o vs h hj hs hR
    exact stop j now o vs h (by omega) (by rw [show j = mu w + 1 by omega]; exact lv_end gl w) hs hR
  | succ d ih =>
    intro j now o vs h hj hs hR
    by_cases he : lv gl w j = []
    · exact stop j now o vs h (by omega) he hs hR
    · have hsl := hs.sl.1
      have hgd := lv_good hok j
      have hfew := hgd.few
      have hv := fun g => Slc.lenV (hsl) (g := g) (ρ := fun _ => _) (x := .t 0) rfl; simp only [evOp] at hv
      have z : ((lv gl w j).length : Int) > 0 := by
        have : 0 < (lv gl w j).length := List.length_pos_iff.2 he
        omega
      have hsc := (sl_cells hsl).2
      have hce := (sl_cells hsl).1
      simp only [AV.cells] at hce
      have hsc' := hsc
      unfold AV.sc at hsc'
      obtain ⟨K, hk⟩ := hs.kn
      have hlen : vs.length = j := by have := hs.ll.1; simpa [lvs] using this
      have hpx := Pre.push h (AO.row [now] 0 0 false)
      have hfx := hpx.frg (c := c) hk.lt
      obtain ⟨o3, h3, ha, ho3, hng3, hk3, hl3, f1, f3, hgr⟩ := apG hlV scV (h0 := b) (own_fr hs.ow hs.ng hfx) (Nat.le_trans hs.fr.1 hpx.1) (hs.ng.fr hfx fun r hr => own_lt hs.ow hr) (hk.pre hpx) (by omega) ⟨now, hsc⟩
      simp only [encV] at ha
      have hol : ∀ r, rowOf o = some r → r < h.length := fun r hr => own_lt hs.ow hr
      have hsl1 := (hs.sl.fr hfx)
      have hll3 : LL h3 o3 (vs ++ [(⟨now, hsc⟩ : SV)]) (lvs gl w (j + 1)) := by
        rw [lvs_succ]
        exact (hs.ll.fr hs.nv hfx).app hsl1.1 hs.dj f1 (fun r hr => (f3 r hr).imp id fun e => by omega)
      have ngs : ∀ {x : AV} {L : List Ln}, Slc 1 encS h x L → NG c h x → NG c h3 x := fun hx hn r hr hg => hn r hr ((gr_pre hpx hk.lt r).1 ((hgr r).1 hg))
      have hsl3 : SlcG 1 encS c h3 now (lv gl w j) := ⟨hsl1.1.stay fun r hr => f1 r (Nat.lt_of_lt_of_le (hsl.lt hr) hpx.1) (hs.dj r hr), ngs hsl hs.sl.2⟩
      have hnv3 : ∀ x ∈ vs ++ [(⟨now, hsc⟩ : SV)], NG c h3 x.1 := by
        intro x hx
        rcases List.mem_append.1 hx with hx | hx
        · obtain ⟨i, hi⟩ := List.mem_iff_getElem?.1 hx
          have hil := (List.getElem?_eq_some_iff.1 hi).1
          have hL : (lvs gl w j)[i]? = some (lv gl w i) := by unfold lvs; rw [List.getElem?_map, List.getElem?_range (by omega)]; rfl
          exact ngs (hs.ll.2 i x _ hi hL).1 (hs.nv x hx)
        · simp at hx; subst hx; exact ngs hsl hs.sl.2
      have hfr3 : FrG c b h3 := by
        refine ⟨Nat.le_trans hs.fr.1 (Nat.le_trans hpx.1 hl3), fun i hi hg => ?_⟩
        obtain ⟨q1, q2⟩ := hs.fr.2 i hi hg
        have hil : i < h.length := Nat.lt_of_lt_of_le hi hs.fr.1
        have ho : rowOf o ≠ some i := fun e => by have := own_ge hs.ow e; omega
        refine ⟨by rw [f1 i (Nat.lt_of_lt_of_le hil hpx.1) ho, hpx.2 i hil, q1], fun hg' => q2 ((gr_pre hpx hk.lt i).1 ((hgr i).1 hg'))⟩
      rw [w_loopb (c := lp250_0) (d := lb250_0) rfl]; unfold lb250_0
      simp (maxSteps := 1000000) (disch := first | omega | rfl | (simp only [zL, two63, room] <;> omega) | fail) only [↓reduceIte, ↓zP, zW, WOp, evOp, evBin, binI, binSh, binS, evNil, keyIs, keyEq, mkv, AV.cells, AV.sc, optv, bnd, env, put, Env.get, Env.set, Env.del, Env.dels, Env.init, res1, resL, resV, fillP, splice, newRow, Nat.reduceEqDiff, Nat.reduceLT, Nat.reduceLeDiff, Nat.reduceAdd, Nat.reduceMul, Nat.reduceSub, Nat.reduceBEq, reduceCtorEq, ↓zR, zQ, Tr, StA, StT, hv, z, hsc', hce, ha]
      refine lp_sw1 hgd hsl3 (h0 := h3) (lv gl w j) [] [] .nilS h3 rfl ⟨OwL.nil, fun r hr => (by cases hr), FrG.refl _ _, ⟨K, hk3⟩, GoodW.nil⟩ ?_
      intro v' h' hs'
      rw [show swAll gl [] ((lv gl w j).flatMap nx) = lv gl w (j + 1) from rfl] at hs'
      simp (maxSteps := 1000000) (disch := first | omega | rfl | (simp only [zL, two63, room] <;> omega) | fail) only [↓reduceIte, ↓zP, zW, WOp, evOp, evBin, binI, binSh, binS, evNil, keyIs, keyEq, mkv, AV.cells, AV.sc, optv, bnd, env, put, Env.get, Env.set, Env.del, Env.dels, Env.init, res1, resL, resV, fillP, splice, newRow, Nat.reduceEqDiff, Nat.reduceLT, Nat.reduceLeDiff, Nat.reduceAdd, Nat.reduceMul, Nat.reduceSub, Nat.reduceBEq, reduceCtorEq, ↓zR, zQ, Tr, StA, StT]
      rw [w_loopn (c := lp250_0) rfl]
      simp (maxSteps := 1000000) (disch := first | omega | rfl | (simp only [zL, two63, room] <;> omega) | fail) only [↓reduceIte, ↓zP, zW, WOp, evOp, evBin, binI, binSh, binS, evNil, keyIs, keyEq, mkv, AV.cells, AV.sc, optv, bnd, env, put, Env.get, Env.set, Env.del, Env.dels, Env.init, res1, resL, resV, fillP, splice, newRow, Nat.reduceEqDiff, Nat.reduceLT, Nat.reduceLeDiff, Nat.reduceAdd, Nat.reduceMul, Nat.reduceSub, Nat.reduceBEq, reduceCtorEq, ↓zR, zQ, Tr, StA, StT]
      refine ih (j + 1) v' o3 (vs ++ [⟨now, hsc⟩]) h' (by omega) ⟨own_fr ho3 hng3 hs'.fr, hng3.fr hs'.fr fun r hr => own_lt ho3 hr, hll3.fr hnv3 hs'.fr, fun x hx => ?_, ⟨hs'.ow.slc, hs'.ng⟩, fun r hr e => ?_, hs'.kn, hfr3.trans hs'.fr⟩ ?_
      · refine (hnv3 x hx).fr hs'.fr fun r hr => ?_
        obtain ⟨i, hi⟩ := List.mem_iff_getElem?.1 hx
        have hil := (List.getElem?_eq_some_iff.1 hi).1
        have hL : (lvs gl w (j + 1))[i]? = some (lv gl w i) := by unfold lvs; rw [List.getElem?_map, List.getElem?_range (by simp at hil; omega)]; rfl
        exact (hll3.2 i x _ hi hL).1.lt hr
      · have := own_ge hs'.ow hr
        have := own_lt ho3 e
        omega
      · intro o' h2 vs' N q1 q2 q3
        exact hR o' h2 vs' N q1 q2 q3

theorem c_swReach {gl w : Ln} (hok : OkW gl w) {c : Nat} {h : AH} {K : List Ln} (hk : KW gl c h K) {post : AV → AH → Prop}
    (hp : ∀ o h' vs N, lv gl w N = [] → N ≤ 101 → OwL 1 encV h h' o vs → LL h' o vs (lvs gl w N) → NG c h' o → (∀ x ∈ vs, NG c h' x.1) → (∃ K', KW gl c h' K') → FrG c h h' → post o h') : S 250 [.ptr c 0 0 2, .str w] h post k := by
  have hwl : w.length ≤ 8 := by rw [hok.2.2.1]; exact hok.2.2.2
  have hmu := mu_le w (by omega)
  have p1 := Pre.push h (AO.row [.str w] 0 0 false)
  refine S_of rfl T250 ?_; unfold fi250
  simp (maxSteps := 1000000) (disch := first | omega | rfl | (simp only [zL, two63, room] <;> omega) | fail) only [↓reduceIte, ↓zP, zW, WOp, evOp, evBin, binI, binSh, binS, evNil, keyIs, keyEq, mkv, AV.cells, AV.sc, optv, bnd, env, put, Env.get, Env.set, Env.del, Env.dels, Env.init, res1, resL, resV, fillP, splice, newRow, Nat.reduceEqDiff, Nat.reduceLT, Nat.reduceLeDiff, Nat.reduceAdd, Nat.reduceMul, Nat.reduceSub, Nat.reduceBEq, reduceCtorEq, ↓zR, zQ, Tr, StA, StT]
  refine lp_sw0 hok (b := h) (mu w + 1) 0 _ .nilS [] _ (by omega) ⟨OwL.nil, fun r hr => (by cases hr), ⟨rfl, fun i v L h1 h2 => (by simp at h1)⟩, fun x hx => (by simp at hx), ⟨?_, fun r hr => ?_⟩, fun r hr e => (by cases e), ⟨K, hk.pre p1⟩, p1.frg hk.lt⟩ ?_
  · show Slc 1 encS _ _ [w]
    unfold Slc Sl
    refine ⟨rfl, rfl, rfl, ?_⟩
    rw [rd_last, if_pos (by simp)]; rfl
  · simp only [rowOf, Option.some.injEq] at hr
    subst hr
    exact hk.fresh p1 (Nat.le_refl _)
  intro o' h' vs' N h1 h2 ⟨now, hs⟩
  simp (maxSteps := 1000000) (disch := first | omega | rfl | (simp only [zL, two63, room] <;> omega) | fail) only [↓reduceIte, ↓zP, zW, WOp, evOp, evBin, binI, binSh, binS, evNil, keyIs, keyEq, mkv, AV.cells, AV.sc, optv, bnd, env, put, Env.get, Env.set, Env.del, Env.dels, Env.init, res1, resL, resV, fillP, splice, newRow, Nat.reduceEqDiff, Nat.reduceLT, Nat.reduceLeDiff, Nat.reduceAdd, Nat.reduceMul, Nat.reduceSub, Nat.reduceBEq, reduceCtorEq, ↓zR, zQ, Tr, StA, StT]
  exact hp o' h' vs' N h1 (by omega) hs.ow hs.ll hs.ng hs.nv hs.kn hs.fr

/-! ### Live lines -/
theorem counts_ok {w : Ln} : w.count 84 ≤ w.length ∧ w.count 46 ≤ w.length ∧ w.count 70 ≤ w.length := ⟨List.count_le_length, List.count_le_length, List.count_le_length⟩
theorem lnF_count (t g f : Nat) : (lnF t g f).count 84 = t ∧ (lnF t g f).count 46 = g ∧ (lnF t g f).count 70 = f ∧ (lnF t g f).length = t + g + f := by
  unfold lnF
  refine ⟨?_, ?_, ?_, ?_⟩ <;> simp [List.count_append, List.count_replicate] <;> omega
theorem signs_count : ∀ {w : Ln}, w.all isSign = true → w.count 84 + w.count 46 + w.count 70 = w.length
  | [], _ => by simp
  | a :: l, h => by
    simp only [List.all_cons, Bool.and_eq_true] at h
    have ih := signs_count h.2
    have ha : a = 46 ∨ a = 70 ∨ a = 84 := by
      have := h.1
      unfold isSign at this
      simp at this
      rcases this with (h | h) | h <;> simp [h]
    simp only [List.count_cons, List.length_cons]
    rcases ha with rfl | rfl | rfl <;> simp <;> omega
theorem lnF_signs (t g f : Nat) : (lnF t g f).all isSign = true := by
  unfold lnF
  rw [List.all_eq_true]
  intro x hx
  simp only [List.mem_append, List.mem_replicate] at hx
  rcases hx with (⟨_, rfl⟩ | ⟨_, rfl⟩) | ⟨_, rfl⟩ <;> rfl
def firstOf (w : Ln) : Ln := lnF (w.count 84) (w.count 46) (w.count 70)
theorem firstOf_ok {w : Ln} (hg : w.all isSign = true) (hw : w.length ≤ 8) : OkW (lnL w) (firstOf w) ∧ OkW (lnL w) w := by
  have hc := signs_count hg
  obtain ⟨a, b, d, e⟩ := lnF_count (w.count 84) (w.count 46) (w.count 70)
  have hl : (lnL w).length = w.length := by unfold lnL; simp; omega
  refine ⟨⟨?_, lnF_signs _ _ _, ?_, by omega⟩, rfl, hg, hl.symm, by omega⟩
  · unfold firstOf lnL; rw [a, b, d]
  · unfold firstOf; omega
theorem c_swLive {gl : Ln} (t g f : Nat) (hok : OkW gl (lnF t g f)) {c : Nat} {h : AH} {K : List Ln} (hk : KW gl c h K) {post : AV → AH → Prop}
    (hp0 : cE gl (lnF t g f) = 0 → ∀ h', (∃ K', KW gl c h' K') → FrG c h h' → post .nilS h')
    (hp : 0 < cE gl (lnF t g f) → ∀ o h' vs N, lv gl (lnF t g f) N = [] → N ≤ 101 → LL h' o vs (lvs gl (lnF t g f) N) → Slc 1 encV h' o vs → NG c h' o → (∀ x ∈ vs, NG c h' x.1) → (∃ K', KW gl c h' K') → FrG c h h' → post o h') : S 242 [.ptr c 0 0 2, .int .i64 t, .int .i64 g, .int .i64 f] h post k := by
  have hl : t + g + f ≤ 8 := by have := hok.2.2.1; have := hok.2.2.2; have := (lnF_count t g f).2.2.2; omega
  generalize hw : lnF t g f = w at *
  refine S_of rfl T242 ?_; unfold fi242
  simp (maxSteps := 1000000) (disch := first | omega | rfl | (simp only [zL, two63, room] <;> omega) | fail) only [↓reduceIte, ↓zP, zW, WOp, evOp, evBin, binI, binSh, binS, evNil, keyIs, keyEq, mkv, AV.cells, AV.sc, optv, bnd, env, put, Env.get, Env.set, Env.del, Env.dels, Env.init, res1, resL, resV, fillP, splice, newRow, Nat.reduceEqDiff, Nat.reduceLT, Nat.reduceLeDiff, Nat.reduceAdd, Nat.reduceMul, Nat.reduceSub, Nat.reduceBEq, reduceCtorEq, ↓zR, zQ, Tr, StA, StT, e_liFirst t g f (by omega) (by omega) (by omega), hw]
  refine c_efrom gl _ w c h K (Nat.lt_succ_self _) hok hk _ ?_
  intro h1 K1 hf1 hk1 _
  by_cases h0 : cE gl w = 0
  · have e : (((cE gl w : Nat) : Int) == 0) = true := by rw [h0]; rfl
    simp (maxSteps := 1000000) (disch := first | omega | rfl | (simp only [zL, two63, room] <;> omega) | fail) only [↓reduceIte, ↓zP, zW, WOp, evOp, evBin, binI, binSh, binS, evNil, keyIs, keyEq, mkv, AV.cells, AV.sc, optv, bnd, env, put, Env.get, Env.set, Env.del, Env.dels, Env.init, res1, resL, resV, fillP, splice, newRow, Nat.reduceEqDiff, Nat.reduceLT, Nat.reduceLeDiff, Nat.reduceAdd, Nat.reduceMul, Nat.reduceSub, Nat.reduceBEq, reduceCtorEq, ↓zR, zQ, Tr, StA, StT, e]
    exact hp0 h0 h1 ⟨K1, hk1⟩ hf1
  · have e : (((cE gl w : Nat) : Int) == 0) = false := by rw [beq_eq_false_iff_ne]; omega
    simp (maxSteps := 1000000) (disch := first | omega | rfl | (simp only [zL, two63, room] <;> omega) | fail) only [↓reduceIte, ↓zP, zW, WOp, evOp, evBin, binI, binSh, binS, evNil, keyIs, keyEq, mkv, AV.cells, AV.sc, optv, bnd, env, put, Env.get, Env.set, Env.del, Env.dels, Env.init, res1, resL, resV, fillP, splice, newRow, Nat.reduceEqDiff, Nat.reduceLT, Nat.reduceLeDiff, Nat.reduceAdd, Nat.reduceMul, Nat.reduceSub, Nat.reduceBEq, reduceCtorEq, ↓zR, zQ, Tr, StA, StT, e]
    refine c_swReach hok hk1 ?_
    intro o h2 vs N q1 q2 q3 q4 q5 q6 q7 q8
    simp (maxSteps := 1000000) (disch := first | omega | rfl | (simp only [zL, two63, room] <;> omega) | fail) only [↓reduceIte, ↓zP, zW, WOp, evOp, evBin, binI, binSh, binS, evNil, keyIs, keyEq, mkv, AV.cells, AV.sc, optv, bnd, env, put, Env.get, Env.set, Env.del, Env.dels, Env.init, res1, resL, resV, fillP, splice, newRow, Nat.reduceEqDiff, Nat.reduceLT, Nat.reduceLeDiff, Nat.reduceAdd, Nat.reduceMul, Nat.reduceSub, Nat.reduceBEq, reduceCtorEq, ↓zR, zQ, Tr, StA, StT]
    exact hp (by omega) o h2 vs N q1 q2 q4 q3.slc q5 q6 q7 (hf1.trans q8)
def swIsB (w : Ln) : Bool := decide (0 < cE (lnL w) w ∧ 0 < cE w (firstOf w))
end Go.Proofs.Ytcflenomogpdbaa.Ab

/- LIVE MOVES: both sides, and the law. -/
namespace Go.Proofs.Ytcflenomogpdbaa.Ab
open Go
set_option maxRecDepth 100000
set_option maxHeartbeats 4000000

def lvL (w : Ln) : List (Int × Int) := (movesB w [84, 70]).filter fun m => decide (0 < cE (lnL w) (mkM w m))
def lvB (w : Ln) : Bool := goodLine w && (decide ((w.length : Int) ≤ 8) && swIsB w)
theorem lvB_iff {w : Ln} (h : lvB w = true) : w.all isSign = true ∧ 1 ≤ w.length ∧ w.length ≤ 8 ∧ swIsB w = true := by
  unfold lvB goodLine at h
  simp only [Bool.and_eq_true, decide_eq_true_eq] at h
  exact ⟨h.1.2, h.1.1.1, by omega, h.2.2⟩

/-! ### The program -/
theorem c_to (g : Ln) {h : AH} {post : AV → AH → Prop} (hp : ∀ c h', Mg g c h' → Pre h h' → h.length ≤ c → post (.agg [.str g, .map c]) h') : S 238 [.str g] h post k := by
  have em : (h ++ [AO.row [.str [], .nilM] 0 0 false] ++ [AO.map []])[(h ++ [AO.row [.str [], .nilM] 0 0 false]).length]? = some (.map []) := by simp
  have mf : mfind (.str g) [] = some none := rfl
  have mp : mput (.str g) (.int .i64 1) [] = [(.str g, .int .i64 1)] := rfl
  have e1 : (h ++ [AO.row [.str [], .nilM] 0 0 false] ++ [AO.map []]).set (h ++ [AO.row [.str [], .nilM] 0 0 false]).length (.map [(.str g, .int .i64 1)]) = h ++ [AO.row [.str [], .nilM] 0 0 false] ++ [AO.map [(.str g, .int .i64 1)]] := by
    rw [List.set_append_right _ _ (Nat.le_refl _), Nat.sub_self, List.set_cons_zero]
  have hx : (h ++ [AO.row [.str [], .nilM] 0 0 false]).length = h.length + 1 := by simp
  have hw : wrRow (h ++ [AO.row [.str [], .nilM] 0 0 false] ++ [AO.map [(.str g, .int .i64 1)]]) h.length 0 0 [.str g, .map (h.length + 1)] = some (h ++ [AO.row [.str g, .map (h.length + 1)] 0 0 false] ++ [AO.map [(.str g, .int .i64 1)]]) := by
    simp [wrRow, splice, AV.sc]
  have hr : rdRow (h ++ [AO.row [.str g, .map (h.length + 1)] 0 0 false] ++ [AO.map [(.str g, .int .i64 1)]]) h.length 0 0 2 = some [.str g, .map (h.length + 1)] := by
    simp [rdRow]
  have hm : Mg g (h.length + 1) (h ++ [AO.row [.str g, .map (h.length + 1)] 0 0 false] ++ [AO.map [(.str g, .int .i64 1)]]) := by
    have := Mg.new (g := g) (h := h ++ [AO.row [.str g, .map (h.length + 1)] 0 0 false])
    rw [show (h ++ [AO.row [.str g, .map (h.length + 1)] 0 0 false]).length = h.length + 1 by simp] at this
    exact this
  have hpr : Pre h (h ++ [AO.row [.str g, .map (h.length + 1)] 0 0 false] ++ [AO.map [(.str g, .int .i64 1)]]) := (Pre.push h _).trans (Pre.push _ _)
  have hq := hp _ _ hm hpr (by omega)
  refine S_of rfl T238 ?_; unfold fi238
  rw [hx] at em e1
  simp (maxSteps := 1000000) (disch := first | omega | rfl | (simp only [zL, two63, room] <;> omega) | fail) only [↓reduceIte, ↓zP, zW, WOp, evOp, evBin, binI, binSh, binS, evNil, keyIs, keyEq, mkv, AV.cells, AV.sc, optv, bnd, env, put, Env.get, Env.set, Env.del, Env.dels, Env.init, res1, resL, resV, fillP, splice, newRow, Nat.reduceEqDiff, Nat.reduceLT, Nat.reduceLeDiff, Nat.reduceAdd, Nat.reduceMul, Nat.reduceSub, Nat.reduceBEq, reduceCtorEq, ↓zR, zQ, Tr, StA, StT, hx, em, mf, mp, e1, hw, hr]
  exact hq
theorem c_live1 (g w : Ln) (hw : w.length ≤ 8) {cm b2 b3 : Nat} {m : Int × Int} (hmm : m ∈ movesB w [84, 70]) {h : AH} (hm : Mg g cm h) (r2 : rdRow h b2 0 0 2 = some [.str g, .map cm]) (r3 : rdRow h b3 0 0 1 = some [.str w]) {post : AV → AH → Prop}
    (hp : ∀ h', PreX cm h h' → Mg g cm h' → post (.bool (((cE g (mkM w m) : Nat) : Int) == 0)) h') : S 247 [.agg (encM m), .ptr b2 0 0 2, .ptr b3 0 0 1] h post k := by
  obtain ⟨i, t', rfl, hmv⟩ := movesB_mv hmm
  have hpush := Pre.push h (AO.row (encM ((i : Int), (t' : Int))) 0 0 false)
  have q2 := rdRow_pre hpush r2
  have q3 := rdRow_pre hpush r3
  refine S_of rfl T247 ?_; unfold fi247
  simp (maxSteps := 1000000) (disch := first | omega | rfl | (simp only [zL, two63, room] <;> omega) | fail) only [↓reduceIte, ↓zP, zW, WOp, evOp, evBin, binI, binSh, binS, evNil, keyIs, keyEq, mkv, AV.cells, AV.sc, optv, bnd, env, put, Env.get, Env.set, Env.del, Env.dels, Env.init, res1, resL, resV, fillP, splice, newRow, Nat.reduceEqDiff, Nat.reduceLT, Nat.reduceLeDiff, Nat.reduceAdd, Nat.reduceMul, Nat.reduceSub, Nat.reduceBEq, reduceCtorEq, ↓zR, zQ, Tr, StA, StT, q2, q3]
  refine w_drw ?_
  simp (maxSteps := 1000000) (disch := first | omega | rfl | (simp only [zL, two63, room] <;> omega) | fail) only [↓reduceIte, ↓zP, zW, WOp, evOp, evBin, binI, binSh, binS, evNil, keyIs, keyEq, mkv, AV.cells, AV.sc, optv, bnd, env, put, Env.get, Env.set, Env.del, Env.dels, Env.init, res1, resL, resV, fillP, splice, newRow, Nat.reduceEqDiff, Nat.reduceLT, Nat.reduceLeDiff, Nat.reduceAdd, Nat.reduceMul, Nat.reduceSub, Nat.reduceBEq, reduceCtorEq, ↓zR, zQ, Tr, StA, StT, q2, q3]
  refine c_made w i t' hmv.fst hmv.snd (by omega) ?_
  intro h2 hp2
  have hp1 := hpush.trans hp2
  simp (maxSteps := 1000000) (disch := first | omega | rfl | (simp only [zL, two63, room] <;> omega) | fail) only [↓reduceIte, ↓zP, zW, WOp, evOp, evBin, binI, binSh, binS, evNil, keyIs, keyEq, mkv, AV.cells, AV.sc, optv, bnd, env, put, Env.get, Env.set, Env.del, Env.dels, Env.init, res1, resL, resV, fillP, splice, newRow, Nat.reduceEqDiff, Nat.reduceLT, Nat.reduceLeDiff, Nat.reduceAdd, Nat.reduceMul, Nat.reduceSub, Nat.reduceBEq, reduceCtorEq, ↓zR, zQ, Tr, StA, StT]
  refine c_from g _ (madeB w i t') cm h2 (Nat.lt_succ_self _) (by rw [madeB_length]; exact hw) (hm.pre hp1) _ ?_
  intro h3 hp3 hm3
  have q4 := rdRow_pre hp2 q2
  simp (maxSteps := 1000000) (disch := first | omega | rfl | (simp only [zL, two63, room] <;> omega) | fail) only [↓reduceIte, ↓zP, zW, WOp, evOp, evBin, binI, binSh, binS, evNil, keyIs, keyEq, mkv, AV.cells, AV.sc, optv, bnd, env, put, Env.get, Env.set, Env.del, Env.dels, Env.init, res1, resL, resV, fillP, splice, newRow, Nat.reduceEqDiff, Nat.reduceLT, Nat.reduceLeDiff, Nat.reduceAdd, Nat.reduceMul, Nat.reduceSub, Nat.reduceBEq, reduceCtorEq, ↓zR, zQ, Tr, StA, StT, q2, q4]
  exact hp h3 ((hp1.x cm).trans hp3) hm3
theorem c_live (g w : Ln) (hw : w.length ≤ 8) {cm : Nat} {b h : AH} (hb : b.length ≤ h.length) (hm : Mg g cm h) {post : AV → AH → Prop}
    (hp : ∀ v' h', OwW 2 encM b h' v' ((movesB w [84, 70]).filter fun m => decide (0 < cE g (mkM w m))) → PreX cm h h' → Mg g cm h' → post v' h') : S 239 [.agg [.str g, .map cm], .str w] h post k := by
  have p1 := Pre.push h (AO.row [.str g, .map cm] 0 0 false)
  have p2 := Pre.push (h ++ [AO.row [.str g, .map cm] 0 0 false]) (AO.row [.str w] 0 0 false)
  have p12 := p1.trans p2
  have hl1 : (h ++ [AO.row [.str g, .map cm] 0 0 false]).length = h.length + 1 := by simp
  have r2 : rdRow (h ++ [AO.row [.str g, .map cm] 0 0 false] ++ [AO.row [.str w] 0 0 false]) h.length 0 0 2 = some [.str g, .map cm] := rdRow_pre p2 (by rw [rd_last, if_pos (by simp)]; simp)
  have r3 : rdRow (h ++ [AO.row [.str g, .map cm] 0 0 false] ++ [AO.row [.str w] 0 0 false]) (h.length + 1) 0 0 1 = some [.str w] := by rw [← hl1, rd_last, if_pos (by simp)]; simp
  have hcl := hm.lt
  have hbd := movesB_len w [84, 70]
  refine S_of rfl T239 ?_; unfold fi239
  simp (maxSteps := 1000000) (disch := first | omega | rfl | (simp only [zL, two63, room] <;> omega) | fail) only [↓reduceIte, ↓zP, zW, WOp, evOp, evBin, binI, binSh, binS, evNil, keyIs, keyEq, mkv, AV.cells, AV.sc, optv, bnd, env, put, Env.get, Env.set, Env.del, Env.dels, Env.init, res1, resL, resV, fillP, splice, newRow, Nat.reduceEqDiff, Nat.reduceLT, Nat.reduceLeDiff, Nat.reduceAdd, Nat.reduceMul, Nat.reduceSub, Nat.reduceBEq, reduceCtorEq, ↓zR, zQ, Tr, StA, StT, hl1, r3]
  refine c_moves w [84, 70] (by omega) ?_
  intro vm h2 ho2 hp2
  have hoL : OwL 2 encM (h ++ [AO.row [.str g, .map cm] 0 0 false] ++ [AO.row [.str w] 0 0 false]) h2 vm (movesB w [84, 70]) := ho2
  have hown : ∀ r, rowOf vm = some r → h.length + 2 ≤ r := fun r hr => by have := own_ge ho2 hr; simp at this; omega
  have q2 := rdRow_pre hp2 r2
  have q3 := rdRow_pre hp2 r3
  have hpe := p12.trans hp2
  simp (maxSteps := 1000000) (disch := first | omega | rfl | (simp only [zL, two63, room] <;> omega) | fail) only [↓reduceIte, ↓zP, zW, WOp, evOp, evBin, binI, binSh, binS, evNil, keyIs, keyEq, mkv, AV.cells, AV.sc, optv, bnd, env, put, Env.get, Env.set, Env.del, Env.dels, Env.init, res1, resL, resV, fillP, splice, newRow, Nat.reduceEqDiff, Nat.reduceLT, Nat.reduceLeDiff, Nat.reduceAdd, Nat.reduceMul, Nat.reduceSub, Nat.reduceBEq, reduceCtorEq, ↓zR, zQ, Tr, StA, StT]
  refine c_DeleteFuncM _ [.ptr h.length 0 0 2, .ptr (h.length + 1) 0 0 1] (fun m => (((cE g (mkM w m) : Nat) : Int) == 0)) (cm := cm) (b := b) (h := h2) (Nat.lt_of_lt_of_le hcl hpe.1) (fun h' => Mg g cm h') (fun a a' h1 h2 => h1.prey h2) (hoL.w.base (by simp; omega)) (fun r hr => by have := hown r hr; omega) (by omega) (hm.pre hpe) ?_ ?_
  · intro x hx h' hpy hmh post hpost
    have g2 : rdRow h' h.length 0 0 2 = some [.str g, .map cm] := by
      rw [← q2]
      unfold rdRow
      rw [hpy.2 h.length (rd_lt q2) (by omega) fun e => by have := hown _ e; omega]
    have g3 : rdRow h' (h.length + 1) 0 0 1 = some [.str w] := by
      rw [← q3]
      unfold rdRow
      rw [hpy.2 (h.length + 1) (rd_lt q3) (by omega) fun e => by have := hown _ e; omega]
    exact c_live1 g w hw hx hmh g2 g3 fun h'' a b => hpost h'' a b
  · intro v' h' ho' hpy hm'
    have e : (fun x : Int × Int => !(((cE g (mkM w x) : Nat) : Int) == 0)) = fun m => decide (0 < cE g (mkM w m)) := by
      funext m
      by_cases hz : cE g (mkM w m) = 0
      · rw [hz]; rfl
      · have h1 : (((cE g (mkM w m) : Nat) : Int) == 0) = false := by rw [beq_eq_false_iff_ne]; omega
        have h2 : decide (0 < cE g (mkM w m)) = true := by rw [decide_eq_true_iff]; omega
        rw [h1, h2]; rfl
    rw [e] at ho'
    simp (maxSteps := 1000000) (disch := first | omega | rfl | (simp only [zL, two63, room] <;> omega) | fail) only [↓reduceIte, ↓zP, zW, WOp, evOp, evBin, binI, binSh, binS, evNil, keyIs, keyEq, mkv, AV.cells, AV.sc, optv, bnd, env, put, Env.get, Env.set, Env.del, Env.dels, Env.init, res1, resL, resV, fillP, splice, newRow, Nat.reduceEqDiff, Nat.reduceLT, Nat.reduceLeDiff, Nat.reduceAdd, Nat.reduceMul, Nat.reduceSub, Nat.reduceBEq, reduceCtorEq, ↓zR, zQ, Tr, StA, StT]
    refine hp v' h' ho' ⟨Nat.le_trans hpe.1 hpy.1, fun i hi hc => ?_⟩ hm'
    rw [hpy.2 i (Nat.lt_of_lt_of_le hi hpe.1) hc fun e => by have := hown _ e; omega, hpe.2 i hi]
theorem KW.new {gl : Ln} {h : AH} : KW gl h.length (h ++ [.row [.nilS, .nilS] 0 0 false]) [] :=
  ⟨.nilS, .nilS, [], by simp, OwL.nil, OwL.nil, by simp [rowOf], by simp [rowOf], by simp [rowOf], rfl, List.nodup_nil, fun x hx => (List.not_mem_nil hx).elim, fun i x b hx => by simp at hx⟩
theorem FrG.new {h h' : AH} (hf : FrG h.length (h ++ [.row [.nilS, .nilS] 0 0 false]) h') : Pre h h' := by
  have hpre := Pre.push h (AO.row [.nilS, .nilS] 0 0 false)
  refine ⟨Nat.le_trans hpre.1 hf.1, fun i hi => ?_⟩
  have hng : ¬ gr h.length (h ++ [.row [.nilS, .nilS] 0 0 false]) i := by
    rintro (rfl | ⟨v1, v2, e1, e2⟩)
    · exact Nat.lt_irrefl _ hi
    · simp at e1
      obtain ⟨rfl, rfl⟩ := e1
      simp [rowOf] at e2
  rw [(hf.2 i (Nat.lt_of_lt_of_le hi hpre.1) hng).1, hpre.2 i hi]
theorem lvL_len (w : Ln) : (lvL w).length ≤ w.length := Nat.le_trans (List.length_filter_le _ _) (movesB_len w [84, 70])
end Go.Proofs.Ytcflenomogpdbaa.Ab

/- LINES gathered from a map, whose order is not known: impl.someReached. -/
namespace Go.Proofs.Ytcflenomogpdbaa.Ab
open Go
set_option maxRecDepth 100000
set_option maxHeartbeats 4000000

theorem toCx {c : C} {e : Env} {h : AH} {R : RP} : WC T E c e h R = Cx c e h R k k := rfl
theorem own_isrow {α : Type} {esz : Nat} {enc : α → List AV} {b h : AH} {v : AV} {L : List α} (ho : OwL esz enc b h v L) {r : Nat} (hr : rowOf v = some r) : ∃ cs k fl ro, h[r]? = some (.row cs k fl ro) := by
  unfold OwL Own at ho
  cases v <;> simp only [rowOf] at hr <;> try (cases hr; done)
  obtain ⟨_, _, _, _, cells, fl, h1, _⟩ := ho
  cases hr
  exact ⟨_, _, _, _, h1⟩
theorem own_obj {α : Type} {esz : Nat} {enc : α → List AV} {b h : AH} {v : AV} {L : List α} (ho : OwL esz enc b h v L) {c : Nat} {o o' : AO} (hc : h[c]? = some o) (hn : ∀ cs k fl ro, o ≠ .row cs k fl ro) : OwL esz enc b (h.set c o') v L := by
  refine own_row ho fun r hr => ?_
  obtain ⟨cs, k, fl, ro, h1⟩ := own_isrow ho hr
  rw [List.getElem?_set, if_neg]
  rintro rfl
  rw [hc] at h1
  exact hn _ _ _ _ (Option.some.inj h1)
theorem own_shape {α : Type} {esz : Nat} {enc : α → List AV} {b h : AH} {v : AV} {L : List α} {x : α} (ho : OwL esz enc b h v (L ++ [x])) : ∃ r k off n, v = .slice r k off n esz ∧ n = (L ++ [x]).length := by
  unfold OwL Own at ho
  cases v <;> simp only at ho <;> try (exact ho.elim)
  all_goals try (have := ho.1; simp at this; done)
  obtain ⟨rfl, h2, _⟩ := ho
  exact ⟨_, _, _, _, rfl, h2⟩
/-- What was gathered, in the order of the steps. -/
def sel (P : Ln → Nat → Bool) (es : Ds) (seen : List Nat) : List Ln := seen.filterMap fun i => match es[i]? with
  | some p => if P p.1 p.2 then some p.1 else none
  | none => none
theorem sel_snoc (P : Ln → Nat → Bool) (es : Ds) (seen : List Nat) {i : Nat} {v : Ln} {d : Nat} (h : es[i]? = some (v, d)) : sel P es (seen ++ [i]) = if P v d then sel P es seen ++ [v] else sel P es seen := by
  unfold sel
  rw [List.filterMap_append, List.filterMap_cons, List.filterMap_nil, h]
  cases hp : P v d <;> simp [hp]
theorem nodup_le : ∀ {n : Nat} {l : List Nat}, l.Nodup → (∀ i ∈ l, i < n) → l.length ≤ n
  | 0, l, _, h => by
    cases l with
    | nil => simp
    | cons a l => exact absurd (h a (by simp)) (by omega)
  | n + 1, l, hn, h => by
    by_cases hm : n ∈ l
    · have h1 := nodup_le (n := n) (l := l.erase n) (hn.erase n) fun i hi => by
        have h2 := (hn.mem_erase_iff).1 hi
        have h3 := h i h2.2
        have h4 := h2.1
        omega
      rw [List.length_erase_of_mem hm] at h1
      omega
    · have h1 := nodup_le (n := n) (l := l) hn fun i hi => by
        have h3 := h i hi
        have : i ≠ n := by rintro rfl; exact hm hi
        omega
      omega
theorem sel_mem {P : Ln → Nat → Bool} {es : Ds} {seen : List Nat} (hall : ∀ i, i < es.length → i ∈ seen) (v : Ln) : v ∈ sel P es seen ↔ ∃ d, (v, d) ∈ es ∧ P v d = true := by
  unfold sel
  rw [List.mem_filterMap]
  constructor
  · rintro ⟨i, _, hi⟩
    cases he : es[i]? with
    | none => rw [he] at hi; cases hi
    | some p =>
      rw [he] at hi
      simp only at hi
      split at hi
      · rename_i hp
        cases hi
        exact ⟨p.2, List.mem_of_getElem? he, hp⟩
      · cases hi
  · rintro ⟨d, hd, hp⟩
    obtain ⟨i, hi⟩ := List.mem_iff_getElem?.1 hd
    refine ⟨i, hall i (List.getElem?_eq_some_iff.1 hi).1, ?_⟩
    rw [hi]
    simp [hp]
theorem sel_nodup {P : Ln → Nat → Bool} {es : Ds} (hk : (keys es).Nodup) : ∀ {seen : List Nat}, seen.Nodup → (sel P es seen).Nodup
  | [], _ => by simp [sel]
  | i :: seen, h => by
    rw [List.nodup_cons] at h
    have ih := sel_nodup (P := P) hk h.2
    have e : sel P es (i :: seen) = (match es[i]? with
      | some p => if P p.1 p.2 then [p.1] else []
      | none => []) ++ sel P es seen := by
      unfold sel
      rw [List.filterMap_cons]
      cases es[i]? with
      | none => rfl
      | some p => cases hp : P p.1 p.2 <;> simp [hp]
    rw [e]
    cases he : es[i]? with
    | none => simpa using ih
    | some p =>
      simp only
      split
      · rw [List.singleton_append, List.nodup_cons]
        refine ⟨fun hm => ?_, ih⟩
        unfold sel at hm
        rw [List.mem_filterMap] at hm
        obtain ⟨j, hj, hj2⟩ := hm
        cases he2 : es[j]? with
        | none => rw [he2] at hj2; cases hj2
        | some q =>
          rw [he2] at hj2
          simp only at hj2
          split at hj2
          · have hqp := Option.some.inj hj2
            have h1 : (keys es)[i]? = some p.1 := by unfold keys; rw [List.getElem?_map, he]; rfl
            have h2 : (keys es)[j]? = some p.1 := by unfold keys; rw [List.getElem?_map, he2]; simpa using hqp
            have hi := (List.getElem?_eq_some_iff.1 h1).1
            have hj3 := (List.getElem?_eq_some_iff.1 h2).1
            have h3 : (keys es)[i] = (keys es)[j] := by
              rw [List.getElem?_eq_getElem hi] at h1
              rw [List.getElem?_eq_getElem hj3] at h2
              rw [Option.some.inj h1, Option.some.inj h2]
            have hpw := List.pairwise_iff_getElem.1 hk
            have : i = j := by
              rcases Nat.lt_trichotomy i j with hl | hl | hl
              · exact absurd h3 (hpw i j hi hj3 hl)
              · exact hl
              · exact absurd h3.symm (hpw j i hj3 hi hl)
            subst this
            exact h.1 hj
          · cases hj2
      · simpa using ih
theorem dl_some {w : Ln} (hw : w.length ≤ 10) {P : Ln → Nat → Bool} {es : Ds} {n0 : Nat} (hb : BI w n0 es) (hel : es.length ≤ 59049) {f : Nat} {cap : List AV} {b : AH} {c ci : Nat} (hci : b.length ≤ ci)
    (hS : ∀ (v : Ln) (d : Nat) (h' : AH), (v, d) ∈ es → Pre b h' → ∀ post : AV → AH → Prop, (∀ h'', Pre h' h'' → post (.bool (P v d)) h'') → S f ([.str v, .int .i64 (d : Int)] ++ cap) h' post k) {R : RP} :
    ∀ (n : Nat) (seen : List Nat) (o : AV) (h : AH), seen.length + n = es.length → seen.Nodup → (∀ i ∈ seen, i < es.length) → h[ci]? = some (.mit c (es.map encE).length seen) → h[c]? = some (.map (es.map encE)) → OwL 1 encS b h o (sel P es seen) → (o = .empS ∨ (sel P es seen ≠ [] ∧ ∃ r k off m, o = .slice r k off m 1)) → Pre b h →
    (∀ seen' o' h', seen'.Nodup → (∀ i, i < es.length → i ∈ seen') → OwL 1 encS b h' o' (sel P es seen') → (o' = .empS ∨ (sel P es seen' ≠ [] ∧ ∃ r k off m, o' = .slice r k off m 1)) → Pre b h' → R (.exit 0) [(6, o')] h') →
    dRounds (dW (WC T E) dSomeL) R (n + 1) [(1, .fn f cap), (6, o), (15, .iter ci)] h := by
  intro n
  induction n with
  | zero =>
    intro seen o h hn hnd hsl hmit hmap ho hsh hp hR
    have hall : ∀ i, i < es.length → i ∈ seen := by
      intro i hi
      apply Classical.byContradiction
      intro hns
      have := nodup_le (n := es.length) (l := i :: seen) (by rw [List.nodup_cons]; exact ⟨hns, hnd⟩) (by
        intro j hj
        rcases List.mem_cons.1 hj with rfl | hj
        · exact hi
        · exact hsl j hj)
      simp at this; omega
    unfold dRounds dSomeL
    simp only [dW, Env.dels, Env.del, Env.get, reduceCtorEq, ↓reduceIte, Nat.reduceEqDiff]
    refine ⟨ci, c, seen, es.map encE, rfl, hmit, hmap, fun i k v he hns => ?_, fun _ => ?_⟩
    · have hlt := (List.getElem?_eq_some_iff.1 he).1
      rw [List.length_map] at hlt
      exact absurd (hall i hlt) hns
    · simp only [dW, toCx, then_normal]
      simp (maxSteps := 1000000) (disch := first | omega | rfl | (simp only [zL, two63, room] <;> omega) | fail) only [↓reduceIte, ↓zP, zW, WOp, evOp, evBin, binI, binSh, binS, evNil, keyIs, keyEq, mkv, AV.cells, AV.sc, optv, bnd, env, put, Env.get, Env.set, Env.del, Env.dels, Env.init, res1, resL, resV, fillP, splice, newRow, Nat.reduceEqDiff, Nat.reduceLT, Nat.reduceLeDiff, Nat.reduceAdd, Nat.reduceMul, Nat.reduceSub, Nat.reduceBEq, reduceCtorEq, ↓zR, zQ, Tr, StA, StT]
      exact hR seen o h hnd hall ho hsh hp
  | succ n ih =>
    intro seen o h hn hnd hsl hmit hmap ho hsh hp hR
    obtain ⟨K, hK⟩ : ∃ K : RP, K = then' (fun e' h' => dRounds (dW (WC T E) dSomeL) R (n + 1) e' h') R := ⟨_, rfl⟩
    have hKn : ∀ e' h', K .normal e' h' = dRounds (dW (WC T E) dSomeL) R (n + 1) e' h' := fun e' h' => by rw [hK]; rfl
    have hKe : ∀ j e' h', K (.exit j) e' h' = R (.exit j) e' h' := fun j e' h' => by rw [hK]; rfl
    show dW (WC T E) dSomeL [(1, .fn f cap), (6, o), (15, .iter ci)] h (then' (fun e' h' => dRounds (dW (WC T E) dSomeL) R (n + 1) e' h') R)
    rw [← hK]
    clear hK
    unfold dSomeL
    simp only [dW, Env.dels, Env.del, Env.get, reduceCtorEq, ↓reduceIte, Nat.reduceEqDiff]
    refine ⟨ci, c, seen, es.map encE, rfl, hmit, hmap, fun i k v he hns => ?_, fun hall => ?_⟩
    · rw [List.getElem?_map, Option.map_eq_some_iff] at he
      obtain ⟨⟨v0, d0⟩, hv0, hkv⟩ := he
      simp only [encE, Prod.mk.injEq] at hkv
      obtain ⟨rfl, rfl⟩ := hkv
      have hlt := (List.getElem?_eq_some_iff.1 hv0).1
      have hcil := (List.getElem?_eq_some_iff.1 hmit).1
      have hne : ci ≠ c := by rintro rfl; rw [hmit] at hmap; cases hmap
      have m1 : (h.set ci (.mit c (es.map encE).length (seen ++ [i])))[ci]? = some (.mit c (es.map encE).length (seen ++ [i])) := by rw [List.getElem?_set, if_pos rfl, if_pos hcil]
      have m2 : (h.set ci (.mit c (es.map encE).length (seen ++ [i])))[c]? = some (.map (es.map encE)) := by rw [List.getElem?_set, if_neg hne]; exact hmap
      have m3 : (seen ++ [i]).getLast? = some i := by simp
      have m4 : (es.map encE)[i]? = some (.str v0, .int .i64 (d0 : Int)) := by rw [List.getElem?_map, hv0]; rfl
      have hp1 : Pre b (h.set ci (.mit c (es.map encE).length (seen ++ [i]))) := hp.set hci
      have ho1 : OwL 1 encS b (h.set ci (.mit c (es.map encE).length (seen ++ [i]))) o (sel P es seen) := own_obj ho hmit (fun _ _ _ _ => by simp)
      have hsn := sel_snoc P es seen hv0
      have hnd1 : (seen ++ [i]).Nodup := by rw [List.nodup_append]; exact ⟨hnd, by simp, fun a ha b hb => by simp at hb; subst hb; rintro rfl; exact hns ha⟩
      have hsl1 : ∀ j ∈ seen ++ [i], j < es.length := by
        intro j hj
        rcases List.mem_append.1 hj with hj | hj
        · exact hsl j hj
        · simp at hj; subst hj; exact hlt
      have hlen1 : (seen ++ [i]).length + n = es.length := by simp; omega
      simp only [dW, toCx, then_normal]
      simp (maxSteps := 1000000) (disch := first | omega | rfl | (simp only [zL, two63, room] <;> omega) | fail) only [↓reduceIte, ↓zP, zW, WOp, evOp, evBin, binI, binSh, binS, evNil, keyIs, keyEq, mkv, AV.cells, AV.sc, optv, bnd, env, put, Env.get, Env.set, Env.del, Env.dels, Env.init, res1, resL, resV, fillP, splice, newRow, Nat.reduceEqDiff, Nat.reduceLT, Nat.reduceLeDiff, Nat.reduceAdd, Nat.reduceMul, Nat.reduceSub, Nat.reduceBEq, reduceCtorEq, ↓zR, zQ, Tr, StA, StT]
      unfold dSome1
      simp only [dW, toCx]
      simp (maxSteps := 1000000) (disch := first | omega | rfl | (simp only [zL, two63, room] <;> omega) | fail) only [↓reduceIte, ↓zP, zW, WOp, evOp, evBin, binI, binSh, binS, evNil, keyIs, keyEq, mkv, AV.cells, AV.sc, optv, bnd, env, put, Env.get, Env.set, Env.del, Env.dels, Env.init, res1, resL, resV, fillP, splice, newRow, Nat.reduceEqDiff, Nat.reduceLT, Nat.reduceLeDiff, Nat.reduceAdd, Nat.reduceMul, Nat.reduceSub, Nat.reduceBEq, reduceCtorEq, ↓zR, zQ, Tr, StA, StT, m1, m2, m3, m4]
      generalize h.set ci (.mit c (es.map encE).length (seen ++ [i])) = h1 at *
      unfold dSome2
      simp only [dW, toCx]
      simp (maxSteps := 1000000) (disch := first | omega | rfl | (simp only [zL, two63, room] <;> omega) | fail) only [↓reduceIte, ↓zP, zW, WOp, evOp, evBin, binI, binSh, binS, evNil, keyIs, keyEq, mkv, AV.cells, AV.sc, optv, bnd, env, put, Env.get, Env.set, Env.del, Env.dels, Env.init, res1, resL, resV, fillP, splice, newRow, Nat.reduceEqDiff, Nat.reduceLT, Nat.reduceLeDiff, Nat.reduceAdd, Nat.reduceMul, Nat.reduceSub, Nat.reduceBEq, reduceCtorEq, ↓zR, zQ, Tr, StA, StT]
      refine hS v0 d0 h1 (List.mem_of_getElem? hv0) hp1 _ ?_
      intro h2 hp2
      have n1 : h2[ci]? = some (.mit c (es.map encE).length (seen ++ [i])) := by rw [hp2.2 ci (List.getElem?_eq_some_iff.1 m1).1]; exact m1
      have n2 : h2[c]? = some (.map (es.map encE)) := by rw [hp2.2 c (List.getElem?_eq_some_iff.1 m2).1]; exact m2
      have hsl2 : (sel P es seen).length ≤ 59049 := Nat.le_trans (Nat.le_trans (List.length_filterMap_le _ _) (by omega)) hel
      simp (maxSteps := 1000000) (disch := first | omega | rfl | (simp only [zL, two63, room] <;> omega) | fail) only [↓reduceIte, ↓zP, zW, WOp, evOp, evBin, binI, binSh, binS, evNil, keyIs, keyEq, mkv, AV.cells, AV.sc, optv, bnd, env, put, Env.get, Env.set, Env.del, Env.dels, Env.init, res1, resL, resV, fillP, splice, newRow, Nat.reduceEqDiff, Nat.reduceLT, Nat.reduceLeDiff, Nat.reduceAdd, Nat.reduceMul, Nat.reduceSub, Nat.reduceBEq, reduceCtorEq, ↓zR, zQ, Tr, StA, StT]
      unfold dSome3
      simp only [dW, toCx]
      cases e : P v0 d0
      · rw [e] at hsn
        simp only [Bool.false_eq_true, if_false] at hsn
        simp (maxSteps := 1000000) (disch := first | omega | rfl | (simp only [zL, two63, room] <;> omega) | fail) only [↓reduceIte, ↓zP, zW, WOp, evOp, evBin, binI, binSh, binS, evNil, keyIs, keyEq, mkv, AV.cells, AV.sc, optv, bnd, env, put, Env.get, Env.set, Env.del, Env.dels, Env.init, res1, resL, resV, fillP, splice, newRow, Nat.reduceEqDiff, Nat.reduceLT, Nat.reduceLeDiff, Nat.reduceAdd, Nat.reduceMul, Nat.reduceSub, Nat.reduceBEq, reduceCtorEq, ↓zR, zQ, Tr, StA, StT]
        rw [hKn]
        refine ih (seen ++ [i]) o h2 hlen1 hnd1 hsl1 n1 n2 (by rw [hsn]; exact ho1.pre hp2) (by rw [hsn]; exact hsh) (hp1.trans hp2) hR
      · rw [e] at hsn
        simp only [if_true] at hsn
        have hpx := Pre.push h2 (AO.row [.str v0] 0 0 false)
        obtain ⟨o3, h3, ha, ho3, hp3⟩ := apL hlS scS ((ho1.pre hp2).pre hpx) ((hp1.trans hp2).trans hpx) v0 (by omega)
        obtain ⟨f1, f2, f3⟩ := apRow_fr ha
        obtain ⟨r3, k3, off3, m3', hsh3, _⟩ := own_shape ho3
        have hnr : ∀ {cc : Nat} {ob : AO}, h2[cc]? = some ob → (∀ cs k fl ro, ob ≠ .row cs k fl ro) → h3[cc]? = some ob := by
          intro cc ob hcc hnr
          have hl := (List.getElem?_eq_some_iff.1 hcc).1
          rw [f1 cc (by simp; omega) (fun hrc => ?_), hpx.2 cc hl, hcc]
          obtain ⟨cs, k, fl, ro, h4⟩ := own_isrow (ho1.pre hp2) hrc
          rw [hcc] at h4
          exact hnr _ _ _ _ (Option.some.inj h4)
        simp (maxSteps := 1000000) (disch := first | omega | rfl | (simp only [zL, two63, room] <;> omega) | fail) only [↓reduceIte, ↓zP, zW, WOp, evOp, evBin, binI, binSh, binS, evNil, keyIs, keyEq, mkv, AV.cells, AV.sc, optv, bnd, env, put, Env.get, Env.set, Env.del, Env.dels, Env.init, res1, resL, resV, fillP, splice, newRow, Nat.reduceEqDiff, Nat.reduceLT, Nat.reduceLeDiff, Nat.reduceAdd, Nat.reduceMul, Nat.reduceSub, Nat.reduceBEq, reduceCtorEq, ↓zR, zQ, Tr, StA, StT, ha]
        rw [hKn]
        refine ih (seen ++ [i]) o3 h3 hlen1 hnd1 hsl1 (hnr n1 fun _ _ _ _ => by simp) (hnr n2 fun _ _ _ _ => by simp) (by rw [hsn]; exact ho3) (.inr ⟨by rw [hsn]; simp, r3, k3, off3, m3', hsh3⟩) hp3 hR
    · have hall' : ∀ i, i < es.length → i ∈ seen := fun i hi => hall i (by rw [List.length_map]; exact hi)
      simp only [dW, toCx, then_normal]
      simp (maxSteps := 1000000) (disch := first | omega | rfl | (simp only [zL, two63, room] <;> omega) | fail) only [↓reduceIte, ↓zP, zW, WOp, evOp, evBin, binI, binSh, binS, evNil, keyIs, keyEq, mkv, AV.cells, AV.sc, optv, bnd, env, put, Env.get, Env.set, Env.del, Env.dels, Env.init, res1, resL, resV, fillP, splice, newRow, Nat.reduceEqDiff, Nat.reduceLT, Nat.reduceLeDiff, Nat.reduceAdd, Nat.reduceMul, Nat.reduceSub, Nat.reduceBEq, reduceCtorEq, ↓zR, zQ, Tr, StA, StT]
      rw [hKe]
      exact hR seen o h hnd hall' ho hsh hp
end Go.Proofs.Ytcflenomogpdbaa.Ab

/- LINES gathered from a map: what impl.someReached answers. -/
namespace Go.Proofs.Ytcflenomogpdbaa.Ab
open Go
set_option maxRecDepth 100000
set_option maxHeartbeats 4000000

theorem S_extY {f : Nat} {xs : List AV} {h h' : AH} {post : AV → AH → Prop} {G : List AV → AH → Option (AV × AH)} {r : AV} (hEf : E f = some (fun _ xs h => G xs h)) (hG : G xs h = some (r, h')) (hp : post r h') : S f xs h post k := Spec_ext hEf 0 hG hp
theorem S_extZ {f : Nat} {xs : List AV} {h : AH} {post : AV → AH → Prop} {d : D} {ra rb : Nat} {q : Nat × Bool × List Ln} (hEf : E f = some (xGather d ra rb)) (hd : dW (WC T E) d (Env.init 0 xs) h (FinR ra rb h q)) (hp : post (ansR h q).1 (ansR h q).2) : S f xs h post k := by
  obtain ⟨n, hn⟩ := dW_fuel hE d (Env.init 0 xs) h (fun _ => FinR ra rb h q) (fun _ _ _ _ _ _ x => x) (dW_mono (fun c e h R R' hr ⟨n, x, e', h', h1, h2⟩ => ⟨n, x, e', h', h1, hr _ _ _ h2⟩) d _ h _ _ (fun x e' h' hx => ⟨0, hx⟩) hd)
  exact Spec_ext hEf n (xGather_at hn) hp
theorem strs_of : ∀ L : List Ln, strsOf (L.map AV.str) = some L
  | [] => rfl
  | s :: L => by rw [List.map_cons]; simp only [strsOf, strs_of L, Option.map_some]
theorem flat_strs (L : List Ln) : L.flatMap encS = L.map AV.str := by
  induction L with
  | nil => rfl
  | cons s L ih => rw [List.flatMap_cons, ih]; rfl
/-- A slice of one's own, sorted in its place. -/
theorem sort_own {b h : AH} {r kk off n : Nat} {L : List Ln} (ho : OwL 1 encS b h (.slice r kk off n 1) L) (hL : L ≠ []) (hl : L.length ≤ 59049) :
    ∃ h' cells fl, xSortS [.slice r kk off n 1] h = some (.tup [], h') ∧ b.length ≤ r ∧ h'[r]? = some (.row cells kk fl false) ∧ fl ≤ kk ∧ n = L.length ∧ off + n * 1 = cells.length ∧ cells.drop off = (L.mergeSort fun x y => decide (x ≤ y)).map AV.str ∧ h'.length = h.length ∧ ∀ i, i ≠ r → h'[i]? = h[i]? := by
  unfold OwL Own at ho
  simp only at ho
  obtain ⟨_, rfl, h3, h4, cells, fl, h5, h6, h7, h8⟩ := ho
  have hlt := (List.getElem?_eq_some_iff.1 h5).1
  rw [flat_strs] at h8
  have hn1 : 1 ≤ L.length := by
    cases L with
    | nil => exact absurd rfl hL
    | cons _ _ => simp
  have hrd : rdRow h r kk off L.length = some (L.map AV.str) := by
    unfold rdRow
    rw [h5]
    simp only
    rw [if_pos ⟨h6, Nat.le_refl _, by omega⟩, h8, List.take_of_length_le (by simp)]
  have hsl : (L.mergeSort fun x y => decide (x ≤ y)).length = L.length := List.length_mergeSort _
  have hsc : ((L.mergeSort fun x y => decide (x ≤ y)).map AV.str).all AV.sc = true := by
    rw [List.all_eq_true]
    intro x hx
    obtain ⟨s, _, rfl⟩ := List.mem_map.1 hx
    rfl
  have hw : wrRow h r kk off ((L.mergeSort fun x y => decide (x ≤ y)).map AV.str) = some (h.set r (.row (splice cells off ((L.mergeSort fun x y => decide (x ≤ y)).map AV.str)) kk kk false)) := by
    unfold wrRow
    rw [h5]
    simp only
    rw [if_pos ⟨trivial, h6, by rw [List.length_map, hsl]; omega, hsc⟩]
  have hspl : splice cells off ((L.mergeSort fun x y => decide (x ≤ y)).map AV.str) = cells.take off ++ (L.mergeSort fun x y => decide (x ≤ y)).map AV.str := by
    unfold splice
    rw [List.drop_of_length_le (by rw [List.length_map, hsl]; omega), List.append_nil]
  refine ⟨_, splice cells off ((L.mergeSort fun x y => decide (x ≤ y)).map AV.str), kk, ?_, h4, by rw [List.getElem?_set, if_pos rfl, if_pos hlt], Nat.le_refl _, rfl, ?_, ?_, by simp, fun i hi => by rw [List.getElem?_set, if_neg (Ne.symm hi)]⟩
  · unfold xSortS
    simp only
    rw [if_pos ⟨trivial, hn1, by omega⟩, hrd]
    simp only [strs_of, hw, Option.map_some]
  · rw [hspl, List.length_append, List.length_take, List.length_map, hsl]; omega
  · rw [hspl, List.drop_left' (by rw [List.length_take]; omega)]
end Go.Proofs.Ytcflenomogpdbaa.Ab

/- HALFWAY: the numbers of an exchange; live lines gathered by the program. -/
namespace Go.Proofs.Ytcflenomogpdbaa.Ab
open Go
set_option maxRecDepth 100000
set_option maxHeartbeats 4000000

/-! ### The numbers -/
def nmB (t g f : Int) : Bool := decide ((0 ≤ t ∧ t ≤ 8) ∧ (0 ≤ g ∧ g ≤ 8) ∧ (0 ≤ f ∧ f ≤ 8) ∧ 1 ≤ t + g + f ∧ t + g + f ≤ 8)
def exB (t g f : Int) : Bool := nmB t g f && decide (0 < g ∨ t = 0 ∨ f = 0)
theorem nmB_no1 {t g f : Int} (h : ¬ (0 ≤ t ∧ t ≤ 8)) : nmB t g f = false := decide_eq_false fun hh => h hh.1
theorem nmB_no2 {t g f : Int} (h : ¬ (0 ≤ g ∧ g ≤ 8)) : nmB t g f = false := decide_eq_false fun hh => h hh.2.1
theorem nmB_no3 {t g f : Int} (h : ¬ (0 ≤ f ∧ f ≤ 8)) : nmB t g f = false := decide_eq_false fun hh => h hh.2.2.1
theorem nmB_yes {t g f : Int} (h1 : 0 ≤ t ∧ t ≤ 8) (h2 : 0 ≤ g ∧ g ≤ 8) (h3 : 0 ≤ f ∧ f ≤ 8) : nmB t g f = decide (1 ≤ t + g + f ∧ t + g + f ≤ 8) := by
  unfold nmB
  rw [decide_eq_decide]
  exact ⟨fun h => h.2.2.2, fun h => ⟨h1, h2, h3, h⟩⟩
theorem e_areCounts8 (t g f : Int) {h : AH} {post : AV → AH → Prop} : S 92 [.int .i64 t, .int .i64 g, .int .i64 f, .int .i64 8] h post k = post (.bool (nmB t g f)) h := by
  refine S_eq fun post hp => ?_
  refine S_of rfl T92 ?_; unfold fi92
  by_cases h1 : 0 ≤ t ∧ t ≤ 8
  · by_cases h2 : 0 ≤ g ∧ g ≤ 8
    · by_cases h3 : 0 ≤ f ∧ f ≤ 8
      · rw [nmB_yes h1 h2 h3] at hp
        simp (maxSteps := 1000000) (disch := first | omega | rfl | (simp only [zL, two63, room] <;> omega) | fail) only [↓reduceIte, ↓zP, zW, WOp, evOp, evBin, binI, binSh, binS, evNil, keyIs, keyEq, mkv, AV.cells, AV.sc, optv, bnd, env, put, Env.get, Env.set, Env.del, Env.dels, Env.init, res1, resL, resV, fillP, splice, newRow, Nat.reduceEqDiff, Nat.reduceLT, Nat.reduceLeDiff, Nat.reduceAdd, Nat.reduceMul, Nat.reduceSub, Nat.reduceBEq, reduceCtorEq, ↓zR, zQ, Tr, StA, StT, e_within, h1, h2, h3]
        exact hp
      · rw [nmB_no3 h3] at hp
        simp (maxSteps := 1000000) (disch := first | omega | rfl | (simp only [zL, two63, room] <;> omega) | fail) only [↓reduceIte, ↓zP, zW, WOp, evOp, evBin, binI, binSh, binS, evNil, keyIs, keyEq, mkv, AV.cells, AV.sc, optv, bnd, env, put, Env.get, Env.set, Env.del, Env.dels, Env.init, res1, resL, resV, fillP, splice, newRow, Nat.reduceEqDiff, Nat.reduceLT, Nat.reduceLeDiff, Nat.reduceAdd, Nat.reduceMul, Nat.reduceSub, Nat.reduceBEq, reduceCtorEq, ↓zR, zQ, Tr, StA, StT, e_within, h1, h2, h3]
        exact hp
    · rw [nmB_no2 h2] at hp
      simp (maxSteps := 1000000) (disch := first | omega | rfl | (simp only [zL, two63, room] <;> omega) | fail) only [↓reduceIte, ↓zP, zW, WOp, evOp, evBin, binI, binSh, binS, evNil, keyIs, keyEq, mkv, AV.cells, AV.sc, optv, bnd, env, put, Env.get, Env.set, Env.del, Env.dels, Env.init, res1, resL, resV, fillP, splice, newRow, Nat.reduceEqDiff, Nat.reduceLT, Nat.reduceLeDiff, Nat.reduceAdd, Nat.reduceMul, Nat.reduceSub, Nat.reduceBEq, reduceCtorEq, ↓zR, zQ, Tr, StA, StT, e_within, h1, h2]
      exact hp
  · rw [nmB_no1 h1] at hp
    simp (maxSteps := 1000000) (disch := first | omega | rfl | (simp only [zL, two63, room] <;> omega) | fail) only [↓reduceIte, ↓zP, zW, WOp, evOp, evBin, binI, binSh, binS, evNil, keyIs, keyEq, mkv, AV.cells, AV.sc, optv, bnd, env, put, Env.get, Env.set, Env.del, Env.dels, Env.init, res1, resL, resV, fillP, splice, newRow, Nat.reduceEqDiff, Nat.reduceLT, Nat.reduceLeDiff, Nat.reduceAdd, Nat.reduceMul, Nat.reduceSub, Nat.reduceBEq, reduceCtorEq, ↓zR, zQ, Tr, StA, StT, e_within, h1]
    exact hp
def exN (t g f : Int) : Int := if exB t g f then g * (t + f) + t * f else 0
theorem mul8 {a b : Int} (ha : 0 ≤ a ∧ a ≤ 16) (hb : 0 ≤ b ∧ b ≤ 16) : 0 ≤ a * b ∧ a * b ≤ 256 := by
  refine ⟨Int.mul_nonneg ha.1 hb.1, ?_⟩
  have := Int.mul_le_mul ha.2 hb.2 hb.1 (by omega)
  simpa using this
theorem nmB_iff {t g f : Int} (h : nmB t g f = true) : (0 ≤ t ∧ t ≤ 8) ∧ (0 ≤ g ∧ g ≤ 8) ∧ (0 ≤ f ∧ f ≤ 8) ∧ 1 ≤ t + g + f ∧ t + g + f ≤ 8 := of_decide_eq_true h
theorem e_exLen (t g f : Int) {h : AH} {post : AV → AH → Prop} : S 313 [.int .i64 t, .int .i64 g, .int .i64 f] h post k = post (.tup [.int .i64 (exN t g f), .bool (exB t g f)]) h := by
  refine S_eq fun post hp => ?_
  unfold exN exB at hp
  refine S_of rfl T313 ?_; unfold fi313
  cases e : nmB t g f
  · rw [e] at hp
    simp (maxSteps := 1000000) (disch := first | omega | rfl | (simp only [zL, two63, room] <;> omega) | fail) only [↓reduceIte, ↓zP, zW, WOp, evOp, evBin, binI, binSh, binS, evNil, keyIs, keyEq, mkv, AV.cells, AV.sc, optv, bnd, env, put, Env.get, Env.set, Env.del, Env.dels, Env.init, res1, resL, resV, fillP, splice, newRow, Nat.reduceEqDiff, Nat.reduceLT, Nat.reduceLeDiff, Nat.reduceAdd, Nat.reduceMul, Nat.reduceSub, Nat.reduceBEq, reduceCtorEq, ↓zR, zQ, Tr, StA, StT, e_areCounts8, e]
    simpa using hp
  · obtain ⟨h1, h2, h3, h4, h5⟩ := nmB_iff e
    have m1 := mul8 (a := g) (b := t + f) (by omega) (by omega)
    have m2 := mul8 (a := t) (b := f) (by omega) (by omega)
    rw [e] at hp
    generalize hq1 : g * (t + f) = q1 at *
    generalize hq2 : t * f = q2 at *
    by_cases ht : t > 0
    · by_cases hf : f > 0
      · by_cases hg : g = 0
        · have hd : decide (0 < g ∨ t = 0 ∨ f = 0) = false := decide_eq_false (by omega)
          rw [hd] at hp
          have hgb : (g == 0) = true := by rw [beq_iff_eq]; exact hg
          simp (maxSteps := 1000000) (disch := first | omega | rfl | (simp only [zL, two63, room] <;> omega) | fail) only [↓reduceIte, ↓zP, zW, WOp, evOp, evBin, binI, binSh, binS, evNil, keyIs, keyEq, mkv, AV.cells, AV.sc, optv, bnd, env, put, Env.get, Env.set, Env.del, Env.dels, Env.init, res1, resL, resV, fillP, splice, newRow, Nat.reduceEqDiff, Nat.reduceLT, Nat.reduceLeDiff, Nat.reduceAdd, Nat.reduceMul, Nat.reduceSub, Nat.reduceBEq, reduceCtorEq, ↓zR, zQ, Tr, StA, StT, e_areCounts8, e, ht, hf, hgb]
          simpa using hp
        · have hd : decide (0 < g ∨ t = 0 ∨ f = 0) = true := decide_eq_true (by omega)
          rw [hd] at hp
          have hgb : (g == 0) = false := by rw [beq_eq_false_iff_ne]; exact hg
          simp (maxSteps := 1000000) (disch := first | omega | rfl | (simp only [zL, two63, room] <;> omega) | fail) only [↓reduceIte, ↓zP, zW, WOp, evOp, evBin, binI, binSh, binS, evNil, keyIs, keyEq, mkv, AV.cells, AV.sc, optv, bnd, env, put, Env.get, Env.set, Env.del, Env.dels, Env.init, res1, resL, resV, fillP, splice, newRow, Nat.reduceEqDiff, Nat.reduceLT, Nat.reduceLeDiff, Nat.reduceAdd, Nat.reduceMul, Nat.reduceSub, Nat.reduceBEq, reduceCtorEq, ↓zR, zQ, Tr, StA, StT, e_areCounts8, e, ht, hf, hgb, hq1, hq2]
          simpa using hp
      · have hd : decide (0 < g ∨ t = 0 ∨ f = 0) = true := decide_eq_true (by omega)
        rw [hd] at hp
        simp (maxSteps := 1000000) (disch := first | omega | rfl | (simp only [zL, two63, room] <;> omega) | fail) only [↓reduceIte, ↓zP, zW, WOp, evOp, evBin, binI, binSh, binS, evNil, keyIs, keyEq, mkv, AV.cells, AV.sc, optv, bnd, env, put, Env.get, Env.set, Env.del, Env.dels, Env.init, res1, resL, resV, fillP, splice, newRow, Nat.reduceEqDiff, Nat.reduceLT, Nat.reduceLeDiff, Nat.reduceAdd, Nat.reduceMul, Nat.reduceSub, Nat.reduceBEq, reduceCtorEq, ↓zR, zQ, Tr, StA, StT, e_areCounts8, e, ht, hf, hq1, hq2]
        simpa using hp
    · have hd : decide (0 < g ∨ t = 0 ∨ f = 0) = true := decide_eq_true (by omega)
      rw [hd] at hp
      simp (maxSteps := 1000000) (disch := first | omega | rfl | (simp only [zL, two63, room] <;> omega) | fail) only [↓reduceIte, ↓zP, zW, WOp, evOp, evBin, binI, binSh, binS, evNil, keyIs, keyEq, mkv, AV.cells, AV.sc, optv, bnd, env, put, Env.get, Env.set, Env.del, Env.dels, Env.init, res1, resL, resV, fillP, splice, newRow, Nat.reduceEqDiff, Nat.reduceLT, Nat.reduceLeDiff, Nat.reduceAdd, Nat.reduceMul, Nat.reduceSub, Nat.reduceBEq, reduceCtorEq, ↓zR, zQ, Tr, StA, StT, e_areCounts8, e, ht, hq1, hq2]
      simpa using hp
theorem lp_l1All (lo hi : Int) {vm : AV} {L : List Int} {b : AH} (hs : Slc 1 encI b vm L) (hL : L.length < 2 ^ 40) {R : X → Env → AH → Prop} : ∀ (rest pre : List Int), L = pre ++ rest → ((rest.all fun n => decide (lo ≤ n ∧ n ≤ hi)) = true → R (.exit 0) [] b) → ((rest.all fun n => decide (lo ≤ n ∧ n ≤ hi)) = false → R .ret [(6, .bool false)] b) →
    Cx (.loop lp114_0) [(1, .int .i64 lo), (2, .int .i64 hi), (9, vm), (10, .int .i64 L.length), (11, .int .i64 pre.length)] b R k k
  | [], pre, hpre, h1, h2 => by
    subst hpre
    rw [w_loopb (c := lp114_0) (d := lb114_0) rfl]; unfold lb114_0
    simp only [List.append_nil]
    simp (maxSteps := 1000000) (disch := first | omega | rfl | (simp only [zL, two63, room] <;> omega) | fail) only [↓reduceIte, ↓zP, zW, WOp, evOp, evBin, binI, binSh, binS, evNil, keyIs, keyEq, mkv, AV.cells, AV.sc, optv, bnd, env, put, Env.get, Env.set, Env.del, Env.dels, Env.init, res1, resL, resV, fillP, splice, newRow, Nat.reduceEqDiff, Nat.reduceLT, Nat.reduceLeDiff, Nat.reduceAdd, Nat.reduceMul, Nat.reduceSub, Nat.reduceBEq, reduceCtorEq, ↓zR, zQ, Tr, StA, StT]
    exact h1 rfl
  | x :: rest, pre, hpre, h1, h2 => by
    have ih := lp_l1All lo hi hs hL (R := R) rest (pre ++ [x])
    subst hpre
    obtain ⟨c, kk, off, rfl, hr⟩ := hs.at hlI
    have hlen : (pre ++ x :: rest).length = pre.length + 1 + rest.length := by simp; omega
    rw [hlen] at ih hL ⊢
    have hlt : (pre.length : Int) < ((pre.length + 1 + rest.length : Nat) : Int) := by omega
    have hw1 : (pre.length : Int) + 1 = ((pre ++ [x]).length : Int) := by simp
    rw [w_loopb (c := lp114_0) (d := lb114_0) rfl]; unfold lb114_0
    cases e : decide (lo ≤ x ∧ x ≤ hi)
    · simp (maxSteps := 1000000) (disch := first | omega | rfl | (simp only [zL, two63, room] <;> omega) | fail) only [↓reduceIte, ↓zP, zW, WOp, evOp, evBin, binI, binSh, binS, evNil, keyIs, keyEq, mkv, AV.cells, AV.sc, optv, bnd, env, put, Env.get, Env.set, Env.del, Env.dels, Env.init, res1, resL, resV, fillP, splice, newRow, Nat.reduceEqDiff, Nat.reduceLT, Nat.reduceLeDiff, Nat.reduceAdd, Nat.reduceMul, Nat.reduceSub, Nat.reduceBEq, reduceCtorEq, ↓zR, zQ, Tr, StA, StT, hlt, hr, e_l1In, e]
      exact h2 (by rw [List.all_cons, e]; rfl)
    · simp (maxSteps := 1000000) (disch := first | omega | rfl | (simp only [zL, two63, room] <;> omega) | fail) only [↓reduceIte, ↓zP, zW, WOp, evOp, evBin, binI, binSh, binS, evNil, keyIs, keyEq, mkv, AV.cells, AV.sc, optv, bnd, env, put, Env.get, Env.set, Env.del, Env.dels, Env.init, res1, resL, resV, fillP, splice, newRow, Nat.reduceEqDiff, Nat.reduceLT, Nat.reduceLeDiff, Nat.reduceAdd, Nat.reduceMul, Nat.reduceSub, Nat.reduceBEq, reduceCtorEq, ↓zR, zQ, Tr, StA, StT, hlt, hr, e_l1In, e, hw1]
      rw [w_loopn (c := lp114_0) rfl]
      simp (maxSteps := 1000000) (disch := first | omega | rfl | (simp only [zL, two63, room] <;> omega) | fail) only [↓reduceIte, ↓zP, zW, WOp, evOp, evBin, binI, binSh, binS, evNil, keyIs, keyEq, mkv, AV.cells, AV.sc, optv, bnd, env, put, Env.get, Env.set, Env.del, Env.dels, Env.init, res1, resL, resV, fillP, splice, newRow, Nat.reduceEqDiff, Nat.reduceLT, Nat.reduceLeDiff, Nat.reduceAdd, Nat.reduceMul, Nat.reduceSub, Nat.reduceBEq, reduceCtorEq, ↓zR, zQ, Tr, StA, StT]
      exact ih (by simp) (fun hx => h1 (by rw [List.all_cons, e, hx]; rfl)) fun hx => h2 (by rw [List.all_cons, e, hx]; rfl)
theorem c_sExLen (t g f : Int) {h : AH} {post : AV → AH → Prop} (hp : ∀ h', Pre h h' → post (.tup [.int .i64 (exN t g f), .bool (exB t g f)]) h') : S 312 [.int .i64 t, .int .i64 g, .int .i64 f] h post k := by
  unfold exN exB at hp
  have p0 := Pre.push h (AO.row [.int .i64 t, .int .i64 g, .int .i64 f] 0 0 false)
  have hs : Slc 1 encI (h ++ [AO.row [.int .i64 t, .int .i64 g, .int .i64 f] 0 0 false]) (.slice h.length 0 0 3 1) [t, g, f] := by
    unfold Slc Sl
    refine ⟨rfl, rfl, rfl, ?_⟩
    rw [rd_last, if_pos (by simp)]; rfl
  have hR := hp _ p0
  have hall : ([t, g, f].all fun n => decide ((0 : Int) ≤ n ∧ n ≤ 8)) = (decide ((0 ≤ t ∧ t ≤ 8) ∧ (0 ≤ g ∧ g ≤ 8) ∧ (0 ≤ f ∧ f ≤ 8))) := by simp [Bool.decide_and, Bool.and_assoc]
  refine S_of rfl T312 ?_; unfold fi312
  simp (maxSteps := 1000000) (disch := first | omega | rfl | (simp only [zL, two63, room] <;> omega) | fail) only [↓reduceIte, ↓zP, zW, WOp, evOp, evBin, binI, binSh, binS, evNil, keyIs, keyEq, mkv, AV.cells, AV.sc, optv, bnd, env, put, Env.get, Env.set, Env.del, Env.dels, Env.init, res1, resL, resV, fillP, splice, newRow, Nat.reduceEqDiff, Nat.reduceLT, Nat.reduceLeDiff, Nat.reduceAdd, Nat.reduceMul, Nat.reduceSub, Nat.reduceBEq, reduceCtorEq, ↓zR, zQ, Tr, StA, StT]
  refine S_of rfl T315 ?_; unfold fi315
  simp (maxSteps := 1000000) (disch := first | omega | rfl | (simp only [zL, two63, room] <;> omega) | fail) only [↓reduceIte, ↓zP, zW, WOp, evOp, evBin, binI, binSh, binS, evNil, keyIs, keyEq, mkv, AV.cells, AV.sc, optv, bnd, env, put, Env.get, Env.set, Env.del, Env.dels, Env.init, res1, resL, resV, fillP, splice, newRow, Nat.reduceEqDiff, Nat.reduceLT, Nat.reduceLeDiff, Nat.reduceAdd, Nat.reduceMul, Nat.reduceSub, Nat.reduceBEq, reduceCtorEq, ↓zR, zQ, Tr, StA, StT]
  refine S_of rfl T114 ?_; unfold fi114
  simp (maxSteps := 1000000) (disch := first | omega | rfl | (simp only [zL, two63, room] <;> omega) | fail) only [↓reduceIte, ↓zP, zW, WOp, evOp, evBin, binI, binSh, binS, evNil, keyIs, keyEq, mkv, AV.cells, AV.sc, optv, bnd, env, put, Env.get, Env.set, Env.del, Env.dels, Env.init, res1, resL, resV, fillP, splice, newRow, Nat.reduceEqDiff, Nat.reduceLT, Nat.reduceLeDiff, Nat.reduceAdd, Nat.reduceMul, Nat.reduceSub, Nat.reduceBEq, reduceCtorEq, ↓zR, zQ, Tr, StA, StT]
  refine lp_l1All 0 8 hs (by simp) [t, g, f] [] rfl ?_ ?_
  · intro hx
    rw [hall, decide_eq_true_iff] at hx
    obtain ⟨h1, h2, h3⟩ := hx
    rw [nmB_yes h1 h2 h3] at hR
    have m1 := mul8 (a := g) (b := t + f) (by omega) (by omega)
    have m2 := mul8 (a := t) (b := f) (by omega) (by omega)
    generalize hq1 : g * (t + f) = q1 at *
    generalize hq2 : t * f = q2 at *
    cases e : decide (1 ≤ t + g + f ∧ t + g + f ≤ 8)
    · rw [e] at hR
      simp (maxSteps := 1000000) (disch := first | omega | rfl | (simp only [zL, two63, room] <;> omega) | fail) only [↓reduceIte, ↓zP, zW, WOp, evOp, evBin, binI, binSh, binS, evNil, keyIs, keyEq, mkv, AV.cells, AV.sc, optv, bnd, env, put, Env.get, Env.set, Env.del, Env.dels, Env.init, res1, resL, resV, fillP, splice, newRow, Nat.reduceEqDiff, Nat.reduceLT, Nat.reduceLeDiff, Nat.reduceAdd, Nat.reduceMul, Nat.reduceSub, Nat.reduceBEq, reduceCtorEq, ↓zR, zQ, Tr, StA, StT, e_l1In, e]
      simpa using hR
    · rw [e] at hR
      simp (maxSteps := 1000000) (disch := first | omega | rfl | (simp only [zL, two63, room] <;> omega) | fail) only [↓reduceIte, ↓zP, zW, WOp, evOp, evBin, binI, binSh, binS, evNil, keyIs, keyEq, mkv, AV.cells, AV.sc, optv, bnd, env, put, Env.get, Env.set, Env.del, Env.dels, Env.init, res1, resL, resV, fillP, splice, newRow, Nat.reduceEqDiff, Nat.reduceLT, Nat.reduceLeDiff, Nat.reduceAdd, Nat.reduceMul, Nat.reduceSub, Nat.reduceBEq, reduceCtorEq, ↓zR, zQ, Tr, StA, StT, e_l1In, e]
      refine S_of rfl T316 ?_; unfold fi316
      by_cases hg : g > 0
      · have hd : decide (0 < g ∨ t = 0 ∨ f = 0) = true := decide_eq_true (by omega)
        rw [hd] at hR
        simp (maxSteps := 1000000) (disch := first | omega | rfl | (simp only [zL, two63, room] <;> omega) | fail) only [↓reduceIte, ↓zP, zW, WOp, evOp, evBin, binI, binSh, binS, evNil, keyIs, keyEq, mkv, AV.cells, AV.sc, optv, bnd, env, put, Env.get, Env.set, Env.del, Env.dels, Env.init, res1, resL, resV, fillP, splice, newRow, Nat.reduceEqDiff, Nat.reduceLT, Nat.reduceLeDiff, Nat.reduceAdd, Nat.reduceMul, Nat.reduceSub, Nat.reduceBEq, reduceCtorEq, ↓zR, zQ, Tr, StA, StT, hg, hq1, hq2]
        simpa using hR
      · by_cases ht : t = 0
        · have hd : decide (0 < g ∨ t = 0 ∨ f = 0) = true := decide_eq_true (by omega)
          rw [hd] at hR
          have htb : (t == 0) = true := by rw [beq_iff_eq]; exact ht
          simp (maxSteps := 1000000) (disch := first | omega | rfl | (simp only [zL, two63, room] <;> omega) | fail) only [↓reduceIte, ↓zP, zW, WOp, evOp, evBin, binI, binSh, binS, evNil, keyIs, keyEq, mkv, AV.cells, AV.sc, optv, bnd, env, put, Env.get, Env.set, Env.del, Env.dels, Env.init, res1, resL, resV, fillP, splice, newRow, Nat.reduceEqDiff, Nat.reduceLT, Nat.reduceLeDiff, Nat.reduceAdd, Nat.reduceMul, Nat.reduceSub, Nat.reduceBEq, reduceCtorEq, ↓zR, zQ, Tr, StA, StT, hg, htb, hq1, hq2]
          simpa using hR
        · have htb : (t == 0) = false := by rw [beq_eq_false_iff_ne]; exact ht
          by_cases hf : f = 0
          · have hd : decide (0 < g ∨ t = 0 ∨ f = 0) = true := decide_eq_true (by omega)
            rw [hd] at hR
            have hfb : (f == 0) = true := by rw [beq_iff_eq]; exact hf
            simp (maxSteps := 1000000) (disch := first | omega | rfl | (simp only [zL, two63, room] <;> omega) | fail) only [↓reduceIte, ↓zP, zW, WOp, evOp, evBin, binI, binSh, binS, evNil, keyIs, keyEq, mkv, AV.cells, AV.sc, optv, bnd, env, put, Env.get, Env.set, Env.del, Env.dels, Env.init, res1, resL, resV, fillP, splice, newRow, Nat.reduceEqDiff, Nat.reduceLT, Nat.reduceLeDiff, Nat.reduceAdd, Nat.reduceMul, Nat.reduceSub, Nat.reduceBEq, reduceCtorEq, ↓zR, zQ, Tr, StA, StT, hg, htb, hfb, hq1, hq2]
            simpa using hR
          · have hd : decide (0 < g ∨ t = 0 ∨ f = 0) = false := decide_eq_false (by omega)
            rw [hd] at hR
            have hfb : (f == 0) = false := by rw [beq_eq_false_iff_ne]; exact hf
            simp (maxSteps := 1000000) (disch := first | omega | rfl | (simp only [zL, two63, room] <;> omega) | fail) only [↓reduceIte, ↓zP, zW, WOp, evOp, evBin, binI, binSh, binS, evNil, keyIs, keyEq, mkv, AV.cells, AV.sc, optv, bnd, env, put, Env.get, Env.set, Env.del, Env.dels, Env.init, res1, resL, resV, fillP, splice, newRow, Nat.reduceEqDiff, Nat.reduceLT, Nat.reduceLeDiff, Nat.reduceAdd, Nat.reduceMul, Nat.reduceSub, Nat.reduceBEq, reduceCtorEq, ↓zR, zQ, Tr, StA, StT, hg, htb, hfb, hq1, hq2]
            simpa using hR
  · intro hx
    have e : nmB t g f = false := decide_eq_false fun hh => by
      rw [hall, decide_eq_false_iff_not] at hx
      exact hx ⟨hh.1, hh.2.1, hh.2.2.1⟩
    rw [e] at hR
    simp (maxSteps := 1000000) (disch := first | omega | rfl | (simp only [zL, two63, room] <;> omega) | fail) only [↓reduceIte, ↓zP, zW, WOp, evOp, evBin, binI, binSh, binS, evNil, keyIs, keyEq, mkv, AV.cells, AV.sc, optv, bnd, env, put, Env.get, Env.set, Env.del, Env.dels, Env.init, res1, resL, resV, fillP, splice, newRow, Nat.reduceEqDiff, Nat.reduceLT, Nat.reduceLeDiff, Nat.reduceAdd, Nat.reduceMul, Nat.reduceSub, Nat.reduceBEq, reduceCtorEq, ↓zR, zQ, Tr, StA, StT]
    simpa using hR
end Go.Proofs.Ytcflenomogpdbaa.Ab

/- HALFWAY: live lines gathered by the program in a map. -/
namespace Go.Proofs.Ytcflenomogpdbaa.Ab
open Go
set_option maxRecDepth 100000
set_option maxHeartbeats 4000000

theorem c_swapOf (t g f : Nat) (h8 : 1 ≤ t + g + f ∧ t + g + f ≤ 8) {h : AH} {post : AV → AH → Prop}
    (hp : ∀ c h', Mg (lnL (lnF t g f)) c h' → Pre h h' → h.length ≤ c → post (.tup [.str (lnF t g f), .agg [.str (lnL (lnF t g f)), .map c], .bool (decide (0 < cE (lnL (lnF t g f)) (lnF t g f)))]) h') : S 317 [.int .i64 t, .int .i64 g, .int .i64 f] h post k := by
  have hnm : nmB t g f = true := decide_eq_true (by omega)
  have hlen := (lnF_count t g f).2.2.2
  have p0 := Pre.push h (AO.row [.str [], .nilM] 0 0 false)
  refine S_of rfl T317 ?_; unfold fi317
  simp (maxSteps := 1000000) (disch := first | omega | rfl | (simp only [zL, two63, room] <;> omega) | fail) only [↓reduceIte, ↓zP, zW, WOp, evOp, evBin, binI, binSh, binS, evNil, keyIs, keyEq, mkv, AV.cells, AV.sc, optv, bnd, env, put, Env.get, Env.set, Env.del, Env.dels, Env.init, res1, resL, resV, fillP, splice, newRow, Nat.reduceEqDiff, Nat.reduceLT, Nat.reduceLeDiff, Nat.reduceAdd, Nat.reduceMul, Nat.reduceSub, Nat.reduceBEq, reduceCtorEq, ↓zR, zQ, Tr, StA, StT, e_areCounts8, hnm, e_first t g f (by omega) (by omega) (by omega)]
  generalize lnF t g f = w at *
  simp (maxSteps := 1000000) (disch := first | omega | rfl | (simp only [zL, two63, room] <;> omega) | fail) only [↓reduceIte, ↓zP, zW, WOp, evOp, evBin, binI, binSh, binS, evNil, keyIs, keyEq, mkv, AV.cells, AV.sc, optv, bnd, env, put, Env.get, Env.set, Env.del, Env.dels, Env.init, res1, resL, resV, fillP, splice, newRow, Nat.reduceEqDiff, Nat.reduceLT, Nat.reduceLeDiff, Nat.reduceAdd, Nat.reduceMul, Nat.reduceSub, Nat.reduceBEq, reduceCtorEq, ↓zR, zQ, Tr, StA, StT, e_last w (by omega)]
  refine c_to (lnL w) ?_
  intro c h1 hm1 hp1 hc
  have hc' : h.length + 1 ≤ c := by simpa using hc
  have P1 := p0.trans hp1
  have p2 := Pre.push h1 (AO.row [.str (lnL w), .map c] 0 0 false)
  have rb : rdRow (h1 ++ [AO.row [.str (lnL w), .map c] 0 0 false]) h1.length 0 0 2 = some [.str (lnL w), .map c] := by rw [rd_last, if_pos (by simp)]; simp
  simp (maxSteps := 1000000) (disch := first | omega | rfl | (simp only [zL, two63, room] <;> omega) | fail) only [↓reduceIte, ↓zP, zW, WOp, evOp, evBin, binI, binSh, binS, evNil, keyIs, keyEq, mkv, AV.cells, AV.sc, optv, bnd, env, put, Env.get, Env.set, Env.del, Env.dels, Env.init, res1, resL, resV, fillP, splice, newRow, Nat.reduceEqDiff, Nat.reduceLT, Nat.reduceLeDiff, Nat.reduceAdd, Nat.reduceMul, Nat.reduceSub, Nat.reduceBEq, reduceCtorEq, ↓zR, zQ, Tr, StA, StT, rb]
  refine w_drw ?_
  simp (maxSteps := 1000000) (disch := first | omega | rfl | (simp only [zL, two63, room] <;> omega) | fail) only [↓reduceIte, ↓zP, zW, WOp, evOp, evBin, binI, binSh, binS, evNil, keyIs, keyEq, mkv, AV.cells, AV.sc, optv, bnd, env, put, Env.get, Env.set, Env.del, Env.dels, Env.init, res1, resL, resV, fillP, splice, newRow, Nat.reduceEqDiff, Nat.reduceLT, Nat.reduceLeDiff, Nat.reduceAdd, Nat.reduceMul, Nat.reduceSub, Nat.reduceBEq, reduceCtorEq, ↓zR, zQ, Tr, StA, StT, rb]
  refine c_from (lnL w) _ w c _ (Nat.lt_succ_self _) (by omega) (hm1.pre p2) _ ?_
  intro h3 hx3 hm3
  have hcl := hm1.lt
  have rb3 : rdRow h3 h1.length 0 0 2 = some [.str (lnL w), .map c] := rdRow_prex hx3 (by omega) rb
  have r0 : h3[h.length]? = some (AO.row [.str [], .nilM] 0 0 false) := by
    rw [hx3.2 h.length (by have := hp1.1; simp at this ⊢; omega) (by omega), p2.2 h.length (by have := hp1.1; simp at this; omega), hp1.2 h.length (by simp)]
    simp
  have hl3 := (List.getElem?_eq_some_iff.1 r0).1
  have hw3 : wrRow h3 h.length 0 0 [.str (lnL w), .map c] = some (h3.set h.length (.row [.str (lnL w), .map c] 0 0 false)) := by simp [wrRow, r0, splice, AV.sc]
  have hrf : rdRow (h3.set h.length (.row [.str (lnL w), .map c] 0 0 false)) h.length 0 0 2 = some [.str (lnL w), .map c] := by simp [rdRow, hl3]
  have hrb : rdRow (h3.set h.length (.row [.str (lnL w), .map c] 0 0 false)) h1.length 0 0 2 = some [.str (lnL w), .map c] := by
    have := rb3
    unfold rdRow at this ⊢
    rw [List.getElem?_set, if_neg (by have := hp1.1; simp at this; omega)]
    exact this
  have hR := hp c (h3.set h.length (.row [.str (lnL w), .map c] 0 0 false)) (hm3.prey (by rw [List.getElem?_set, if_neg (by omega)])) ?_ (by omega)
  · have e : decide (((cE (lnL w) w : Nat) : Int) > 0) = decide (0 < cE (lnL w) w) := by rw [decide_eq_decide]; omega
    rw [← e] at hR
    simp (maxSteps := 1000000) (disch := first | omega | rfl | (simp only [zL, two63, room] <;> omega) | fail) only [↓reduceIte, ↓zP, zW, WOp, evOp, evBin, binI, binSh, binS, evNil, keyIs, keyEq, mkv, AV.cells, AV.sc, optv, bnd, env, put, Env.get, Env.set, Env.del, Env.dels, Env.init, res1, resL, resV, fillP, splice, newRow, Nat.reduceEqDiff, Nat.reduceLT, Nat.reduceLeDiff, Nat.reduceAdd, Nat.reduceMul, Nat.reduceSub, Nat.reduceBEq, reduceCtorEq, ↓zR, zQ, Tr, StA, StT, rb, rb3, hw3, hrf, hrb]
    exact hR
  · refine ⟨by have := hx3.1; have := p2.1; have := P1.1; simp; omega, fun i hi => ?_⟩
    rw [List.getElem?_set, if_neg (by omega), hx3.2 i (by have := p2.1; have := P1.1; omega) (by omega), p2.2 i (by have := P1.1; omega), P1.2 i hi]

def lvM (g x : Ln) : List (Int × Int) := (movesB x [84, 70]).filter fun m => decide (0 < cE g (mkM x m))
theorem lvM_map (g x : Ln) : (lvM g x).map (mkM x) = nxL g x := by
  unfold lvM nxL
  rw [nx_eq, List.filter_map]
  rfl
theorem lp_ll1 {g w : Ln} (hg : w.all isSign = true) (hw : w.length ≤ 8) {p : Nat} {x : Ln} {d : Nat} {c cm cb : Nat} {b : AH} (hcb : b.length ≤ c) (hcm : cm < b.length) {vm : AV} {R : X → Env → AH → Prop} :
    ∀ (mr mp : List (Int × Int)) (es : Ds) (o : AV) (h : AH), lvM g x = mp ++ mr → BL g w p es → es[p]? = some (x, d) → MapIs c h es → OwL 1 encS b h o ((keys es).drop p) → PreX cm b h → Mg g cm h → SlcQ 2 encM c o h vm (lvM g x) →
    (∀ o' h', BL g w p (addK d es (mr.map (mkM x))) → (addK d es (mr.map (mkM x)))[p]? = some (x, d) → MapIs c h' (addK d es (mr.map (mkM x))) → OwL 1 encS b h' o' ((keys (addK d es (mr.map (mkM x)))).drop p) → PreX cm b h' → Mg g cm h' → R (.exit 2) [(8, .ptr cb 0 0 2), (10, .map c), (11, o')] h') →
    Cx (.loop lp314_1) [(8, .ptr cb 0 0 2), (10, .map c), (11, o), (42, vm), (43, .int .i64 (lvM g x).length), (44, .int .i64 mp.length)] h R k k
  | [], mp, es, o, h, hmp, hb, hx, hm, ho, hp, hM, hs, hR => by
    have hl : (lvM g x).length = mp.length := by rw [hmp]; simp
    rw [w_loopb (c := lp314_1) (d := lb314_1) rfl]; unfold lb314_1
    rw [hl]
    simp (maxSteps := 1000000) (disch := first | omega | rfl | (simp only [zL, two63, room] <;> omega) | fail) only [↓reduceIte, ↓zP, zW, WOp, evOp, evBin, binI, binSh, binS, evNil, keyIs, keyEq, mkv, AV.cells, AV.sc, optv, bnd, env, put, Env.get, Env.set, Env.del, Env.dels, Env.init, res1, resL, resV, fillP, splice, newRow, Nat.reduceEqDiff, Nat.reduceLT, Nat.reduceLeDiff, Nat.reduceAdd, Nat.reduceMul, Nat.reduceSub, Nat.reduceBEq, reduceCtorEq, ↓zR, zQ, Tr, StA, StT]
    exact hR o h hb hx hm ho hp hM
  | m :: mr, mp, es, o, h, hmp, hb, hx, hm, ho, hp, hM, hs, hR => by
    have ih := lp_ll1 (g := g) hg hw (p := p) (x := x) (d := d) hcb hcm (cb := cb) (vm := vm) (R := R) mr (mp ++ [m])
    have hml' : m ∈ lvM g x := by rw [hmp]; simp
    have hmm : m ∈ movesB x [84, 70] := (List.mem_filter.1 hml').1
    have hml : (lvM g x).length = mp.length + 1 + mr.length := by rw [hmp]; simp; omega
    have hbd : (lvM g x).length ≤ x.length := Nat.le_trans (List.length_filter_le _ _) (movesB_len x [84, 70])
    have hxm := List.mem_of_getElem? hx
    obtain ⟨hxl, hxg⟩ := hb.bi.good hg x (mem_keys.2 ⟨d, hxm⟩)
    have hsm := hs.1
    rw [hmp] at hsm
    obtain ⟨r1, k1, o1, hv1, hr⟩ := hsm.at hlM
    rw [← hmp, hml] at hv1
    obtain ⟨i', t', rfl, hmv⟩ := movesB_mv hmm
    subst hv1
    rw [hml] at ih ⊢
    have hlt : (mp.length : Int) < ((mp.length + 1 + mr.length : Nat) : Int) := by omega
    have hw1 : (mp.length : Int) + 1 = ((mp ++ [((i' : Int), (t' : Int))]).length : Int) := by simp
    have hpl := (List.getElem?_eq_some_iff.1 hx).1
    have hq : (keys es).drop p = x :: (keys es).drop (p + 1) := by
      have h1 : p < (keys es).length := by rw [keys_len]; exact hpl
      rw [List.drop_eq_getElem_cons h1]
      have h2 : (keys es)[p]? = some x := by unfold keys; rw [List.getElem?_map, hx]; rfl
      rw [List.getElem?_eq_getElem h1] at h2
      cases h2; rfl
    have hoq := ho
    rw [hq] at hoq
    obtain ⟨r2, k2, o2, hv2, hr2⟩ := hoq.slc.at hlS (pre := [])
    rw [List.nil_append] at hv2
    have hr2' : rdRow h r2 k2 (o2 + Int.toNat 0 * 1) 1 = some [.str x] := hr2
    have hpos : (0 : Int) < ((x :: (keys es).drop (p + 1)).length : Int) := by simp only [List.length_cons]; omega
    have hd100 := hb.bi.dist (by omega) hxm
    have hesl := hb.bi.len hg (by omega)
    have hnx : madeB x i' t' ∈ nxL g x := by rw [← lvM_map, hmp]; simp [mkM]
    have hpush := Pre.push h (AO.row (encM ((i' : Int), (t' : Int))) 0 0 false)
    have hr3 := rdRow_pre hpush hr2'
    have hor : b.length ≤ r2 := by subst hv2; exact own_ge ho rfl
    subst hv2
    simp only [List.map_cons, addK_cons] at hR
    have hmk : mkM x ((i' : Int), (t' : Int)) = madeB x i' t' := rfl
    rw [hmk] at hR
    have hcml : cm < h.length := hM.lt
    rw [w_loopb (c := lp314_1) (d := lb314_1) rfl]; unfold lb314_1
    simp (maxSteps := 1000000) (disch := first | omega | rfl | (simp only [zL, two63, room] <;> omega) | fail) only [↓reduceIte, ↓zP, zW, WOp, evOp, evBin, binI, binSh, binS, evNil, keyIs, keyEq, mkv, AV.cells, AV.sc, optv, bnd, env, put, Env.get, Env.set, Env.del, Env.dels, Env.init, res1, resL, resV, fillP, splice, newRow, Nat.reduceEqDiff, Nat.reduceLT, Nat.reduceLeDiff, Nat.reduceAdd, Nat.reduceMul, Nat.reduceSub, Nat.reduceBEq, reduceCtorEq, ↓zR, zQ, Tr, StA, StT, hlt, hr, hpos, hr3]
    refine c_made x i' t' hmv.fst hmv.snd (by omega) ?_
    intro h2 hp2
    have hp1 := hpush.trans hp2
    have hcl : c < h.length := (List.getElem?_eq_some_iff.1 hm).1
    have hm2 : h2[c]? = some (.map (es.map encE)) := by rw [hp1.2 c hcl]; exact hm
    have hmf := mfE (madeB x i' t') es
    have hmx := mfE x es
    rw [find_in hb.nd hxm] at hmx
    have hr4 := rdRow_pre hp2 hr3
    by_cases hin : madeB x i' t' ∈ keys es
    · rw [if_pos hin] at hR
      obtain ⟨e, he⟩ := mem_keys.1 hin
      rw [find_in hb.nd he] at hmf
      simp only [Option.map_some] at hmf
      simp (maxSteps := 1000000) (disch := first | omega | rfl | (simp only [zL, two63, room] <;> omega) | fail) only [↓reduceIte, ↓zP, zW, WOp, evOp, evBin, binI, binSh, binS, evNil, keyIs, keyEq, mkv, AV.cells, AV.sc, optv, bnd, env, put, Env.get, Env.set, Env.del, Env.dels, Env.init, res1, resL, resV, fillP, splice, newRow, Nat.reduceEqDiff, Nat.reduceLT, Nat.reduceLeDiff, Nat.reduceAdd, Nat.reduceMul, Nat.reduceSub, Nat.reduceBEq, reduceCtorEq, ↓zR, zQ, Tr, StA, StT, hm2, hmf]
      simp (maxSteps := 1000000) (disch := first | omega | rfl | (simp only [zL, two63, room] <;> omega) | fail) only [↓reduceIte, ↓zP, zW, WOp, evOp, evBin, binI, binSh, binS, evNil, keyIs, keyEq, mkv, AV.cells, AV.sc, optv, bnd, env, put, Env.get, Env.set, Env.del, Env.dels, Env.init, res1, resL, resV, fillP, splice, newRow, Nat.reduceEqDiff, Nat.reduceLT, Nat.reduceLeDiff, Nat.reduceAdd, Nat.reduceMul, Nat.reduceSub, Nat.reduceBEq, reduceCtorEq, ↓zR, zQ, Tr, StA, StT, hw1]
      rw [w_loopn (c := lp314_1) rfl]
      simp (maxSteps := 1000000) (disch := first | omega | rfl | (simp only [zL, two63, room] <;> omega) | fail) only [↓reduceIte, ↓zP, zW, WOp, evOp, evBin, binI, binSh, binS, evNil, keyIs, keyEq, mkv, AV.cells, AV.sc, optv, bnd, env, put, Env.get, Env.set, Env.del, Env.dels, Env.init, res1, resL, resV, fillP, splice, newRow, Nat.reduceEqDiff, Nat.reduceLT, Nat.reduceLeDiff, Nat.reduceAdd, Nat.reduceMul, Nat.reduceSub, Nat.reduceBEq, reduceCtorEq, ↓zR, zQ, Tr, StA, StT]
      exact ih es _ h2 (by rw [hmp]; simp) hb hx hm2 (ho.pre hp1) (hp.trans (hp1.x cm)) (hM.pre hp1) ⟨hs.1.pre hp1, hs.2⟩ hR
    · rw [if_neg hin] at hR
      rw [find_out hin] at hmf
      simp only [Option.map_none] at hmf
      simp only [Option.map_some] at hmx
      have hmp2 := mpE (madeB x i' t') (d + 1) es hin
      have hd1 : (d : Int) + 1 = ((d + 1 : Nat) : Int) := by omega
      have hkd : (keys (es ++ [(madeB x i' t', d + 1)])).drop p = (keys es).drop p ++ [madeB x i' t'] := by
        rw [keys_app, List.drop_append_of_le_length (by rw [keys_len]; omega)]
      have hbn := hb.add hxm hnx hin
      have hxn : (es ++ [(madeB x i' t', d + 1)])[p]? = some (x, d) := by rw [List.getElem?_append_left hpl]; exact hx
      have hc2 : c < h2.length := Nat.lt_of_lt_of_le hcl hp1.1
      have hne : ∀ r, rowOf (AV.slice r2 k2 o2 (x :: (keys es).drop (p + 1)).length 1) = some r → r ≠ c := by
        intro r hr e
        cases hr
        have h1 := rdRow_pre hp2 hr3
        unfold rdRow at h1
        rw [e, hm2] at h1
        cases h1
      have hvc : r1 ≠ c := (hs.2 r1 rfl).1
      have ho3 : OwL 1 encS b (h2.set c (.map ((es ++ [(madeB x i' t', d + 1)]).map encE))) (.slice r2 k2 o2 (x :: (keys es).drop (p + 1)).length 1) ((keys es).drop p) := own_row (ho.pre hp1) fun r hr => by rw [List.getElem?_set, if_neg (Ne.symm (hne r hr))]
      have hp3 : PreX cm b (h2.set c (.map ((es ++ [(madeB x i' t', d + 1)]).map encE))) := by
        have := hp.trans (hp1.x cm)
        exact ⟨by simpa using this.1, fun i hi hc => by rw [List.getElem?_set, if_neg (by omega)]; exact this.2 i hi hc⟩
      have hM3 : Mg g cm (h2.set c (.map ((es ++ [(madeB x i' t', d + 1)]).map encE))) := (hM.pre hp1).prey (by rw [List.getElem?_set, if_neg (by omega)])
      have hm3 : (h2.set c (.map ((es ++ [(madeB x i' t', d + 1)]).map encE)))[c]? = some (.map ((es ++ [(madeB x i' t', d + 1)]).map encE)) := by rw [List.getElem?_set, if_pos rfl, if_pos hc2]
      have hs3 : Slc 2 encM (h2.set c (.map ((es ++ [(madeB x i' t', d + 1)]).map encE))) (.slice r1 k1 o1 (mp.length + 1 + mr.length) 2) (lvM g x) := (hs.1.pre hp1).stay fun r hr => by cases hr; rw [List.getElem?_set, if_neg (Ne.symm hvc)]
      have hlen3 : (h2.set c (.map ((es ++ [(madeB x i' t', d + 1)]).map encE))).length = h2.length := by simp
      have hr5 : rdRow (h2.set c (.map ((es ++ [(madeB x i' t', d + 1)]).map encE))) r2 k2 (o2 + Int.toNat 0 * 1) 1 = some [.str x] := by
        have := hr4
        unfold rdRow at this ⊢
        rw [List.getElem?_set, if_neg (Ne.symm (hne r2 rfl))]
        exact this
      have hset : h2.set c (.map (mput (.str (madeB x i' t')) (.int .i64 ((d + 1 : Nat) : Int)) (es.map encE))) = h2.set c (.map ((es ++ [(madeB x i' t', d + 1)]).map encE)) := by rw [hmp2]
      generalize hh3 : h2.set c (.map ((es ++ [(madeB x i' t', d + 1)]).map encE)) = h3 at *
      have hpx := Pre.push h3 (AO.row [.str (madeB x i' t')] 0 0 false)
      obtain ⟨o5, h5, ha, ho5, _⟩ := apA hlS scS (ho3.pre hpx) (by have := hp3.1; have := hpx.1; omega) (madeB x i' t') (by rw [List.length_drop, keys_len]; omega)
      obtain ⟨f1, f2, f3⟩ := apRow_fr ha
      rw [← hkd] at ho5
      rw [List.length_cons] at ha
      simp (maxSteps := 1000000) (disch := first | omega | rfl | (simp only [zL, two63, room] <;> omega) | fail) only [↓reduceIte, ↓zP, zW, WOp, evOp, evBin, binI, binSh, binS, evNil, keyIs, keyEq, mkv, AV.cells, AV.sc, optv, bnd, env, put, Env.get, Env.set, Env.del, Env.dels, Env.init, res1, resL, resV, fillP, splice, newRow, Nat.reduceEqDiff, Nat.reduceLT, Nat.reduceLeDiff, Nat.reduceAdd, Nat.reduceMul, Nat.reduceSub, Nat.reduceBEq, reduceCtorEq, ↓zR, zQ, Tr, StA, StT, hm2, hmf, hpos, hr4, hmx, hd1, hset, ha]
      simp (maxSteps := 1000000) (disch := first | omega | rfl | (simp only [zL, two63, room] <;> omega) | fail) only [↓reduceIte, ↓zP, zW, WOp, evOp, evBin, binI, binSh, binS, evNil, keyIs, keyEq, mkv, AV.cells, AV.sc, optv, bnd, env, put, Env.get, Env.set, Env.del, Env.dels, Env.init, res1, resL, resV, fillP, splice, newRow, Nat.reduceEqDiff, Nat.reduceLT, Nat.reduceLeDiff, Nat.reduceAdd, Nat.reduceMul, Nat.reduceSub, Nat.reduceBEq, reduceCtorEq, ↓zR, zQ, Tr, StA, StT, hw1]
      rw [w_loopn (c := lp314_1) rfl]
      simp (maxSteps := 1000000) (disch := first | omega | rfl | (simp only [zL, two63, room] <;> omega) | fail) only [↓reduceIte, ↓zP, zW, WOp, evOp, evBin, binI, binSh, binS, evNil, keyIs, keyEq, mkv, AV.cells, AV.sc, optv, bnd, env, put, Env.get, Env.set, Env.del, Env.dels, Env.init, res1, resL, resV, fillP, splice, newRow, Nat.reduceEqDiff, Nat.reduceLT, Nat.reduceLeDiff, Nat.reduceAdd, Nat.reduceMul, Nat.reduceSub, Nat.reduceBEq, reduceCtorEq, ↓zR, zQ, Tr, StA, StT]
      have hrc : ∀ i, i < b.length → rowOf (AV.slice r2 k2 o2 (x :: (keys es).drop (p + 1)).length 1) ≠ some i := fun i hi e => by cases e; omega
      refine ih (es ++ [(madeB x i' t', d + 1)]) o5 h5 (by rw [hmp]; simp) hbn hxn ?_ ho5 ⟨?_, fun i hi hc => ?_⟩ ?_ ⟨?_, fun r hr => ?_⟩ hR
      · unfold MapIs
        rw [f1 c (by simp; omega) (fun hrc => hne c hrc rfl), hpx.2 c (by omega)]
        exact hm3
      · have := hp3.1; have := hpx.1; omega
      · rw [f1 i (by have := hp3.1; have := hpx.1; omega) (hrc i hi), hpx.2 i (by have := hp3.1; omega)]
        exact hp3.2 i hi hc
      · exact (hM3.pre hpx).prey (f1 cm (by have := (hM3.pre hpx).lt; exact this) (hrc cm hcm))
      · refine (hs3.pre hpx).stay fun r hr => ?_
        have h1 := (hs3.pre hpx).lt hr
        exact f1 r h1 ((hs.2 r hr).2)
      · refine ⟨(hs.2 r hr).1, fun e => ?_⟩
        rcases f3 r e with h1 | h1
        · exact (hs.2 r hr).2 h1
        · have := hs3.lt hr
          simp at h1; omega
theorem lp_ll0 {g w : Ln} (hg : w.all isSign = true) (hw : w.length ≤ 8) {c cm cb : Nat} {b : AH} (hcb : b.length ≤ c) (hcm : cm < b.length) (hbb : rdRow b cb 0 0 2 = some [.str g, .map cm]) (hbm : cb ≠ cm) {R : X → Env → AH → Prop} :
    ∀ (d p : Nat) (es : Ds) (o : AV) (h : AH), p + d = 59050 → BL g w p es → MapIs c h es → OwL 1 encS b h o ((keys es).drop p) → PreX cm b h → Mg g cm h →
    (∀ h' es', BL g w es'.length es' → MapIs c h' es' → PreX cm b h' → R (.exit 0) [(10, .map c)] h') → Cx (.loop lp314_0) [(8, .ptr cb 0 0 2), (10, .map c), (11, o)] h R k k
  | 0, p, es, o, h, hd, hb, hm, ho, hp, hM, hR => by
    have h1 := hb.bi.len hg (by omega)
    have h2 := hb.le
    omega
  | d + 1, p, es, o, h, hd, hb, hm, ho, hp, hM, hR => by
    have hl := hb.bi.len hg (by omega)
    have hvo := fun g => Slc.lenV (ho.slc) (g := g) (ρ := fun _ => _) (x := .t 0) rfl; simp only [evOp] at hvo
    have hdl : ((keys es).drop p).length = es.length - p := by rw [List.length_drop, keys_len]
    by_cases hpe : p = es.length
    · subst hpe
      have hz : ¬ ((((keys es).drop es.length).length : Int) > 0) := by rw [hdl]; omega
      rw [w_loopb (c := lp314_0) (d := lb314_0) rfl]; unfold lb314_0
      simp (maxSteps := 1000000) (disch := first | omega | rfl | (simp only [zL, two63, room] <;> omega) | fail) only [↓reduceIte, ↓zP, zW, WOp, evOp, evBin, binI, binSh, binS, evNil, keyIs, keyEq, mkv, AV.cells, AV.sc, optv, bnd, env, put, Env.get, Env.set, Env.del, Env.dels, Env.init, res1, resL, resV, fillP, splice, newRow, Nat.reduceEqDiff, Nat.reduceLT, Nat.reduceLeDiff, Nat.reduceAdd, Nat.reduceMul, Nat.reduceSub, Nat.reduceBEq, reduceCtorEq, ↓zR, zQ, Tr, StA, StT, hvo, hz]
      exact hR h es hb hm hp
    · have hlt : p < es.length := by have := hb.le; omega
      have ih := lp_ll0 (g := g) hg hw hcb hcm hbb hbm (R := R) d (p + 1)
      obtain ⟨⟨x, dx⟩, hx⟩ : ∃ e, es[p]? = some e := ⟨es[p], List.getElem?_eq_getElem hlt⟩
      have hxm := List.mem_of_getElem? hx
      obtain ⟨hxl, hxg⟩ := hb.bi.good hg x (mem_keys.2 ⟨dx, hxm⟩)
      have hq : ∀ {es' : Ds}, es'[p]? = some (x, dx) → (keys es').drop p = x :: (keys es').drop (p + 1) := by
        intro es' hx'
        have h1 : p < (keys es').length := by rw [keys_len]; exact (List.getElem?_eq_some_iff.1 hx').1
        rw [List.drop_eq_getElem_cons h1]
        have h2 : (keys es')[p]? = some x := by unfold keys; rw [List.getElem?_map, hx']; rfl
        rw [List.getElem?_eq_getElem h1] at h2
        cases h2; rfl
      have hoq := ho
      rw [hq hx] at hoq
      obtain ⟨r2, k2, o2, hv2, hr2⟩ := hoq.slc.at hlS (pre := [])
      rw [List.nil_append] at hv2
      have hr2' : rdRow h r2 k2 (o2 + Int.toNat 0 * 1) 1 = some [.str x] := hr2
      have hpos : ((x :: (keys es).drop (p + 1)).length : Int) > 0 := by simp only [List.length_cons]; omega
      have hpos' : (0 : Int) < ((x :: (keys es).drop (p + 1)).length : Int) := by simp only [List.length_cons]; omega
      have hrb := rdRow_prex hp hbm hbb
      have hor : b.length ≤ r2 := by subst hv2; exact own_ge ho rfl
      subst hv2
      have hbd : (lvM g x).length ≤ x.length := Nat.le_trans (List.length_filter_le _ _) (movesB_len x [84, 70])
      rw [w_loopb (c := lp314_0) (d := lb314_0) rfl]; unfold lb314_0
      simp (maxSteps := 1000000) (disch := first | omega | rfl | (simp only [zL, two63, room] <;> omega) | fail) only [↓reduceIte, ↓zP, zW, WOp, evOp, evBin, binI, binSh, binS, evNil, keyIs, keyEq, mkv, AV.cells, AV.sc, optv, bnd, env, put, Env.get, Env.set, Env.del, Env.dels, Env.init, res1, resL, resV, fillP, splice, newRow, Nat.reduceEqDiff, Nat.reduceLT, Nat.reduceLeDiff, Nat.reduceAdd, Nat.reduceMul, Nat.reduceSub, Nat.reduceBEq, reduceCtorEq, ↓zR, zQ, Tr, StA, StT, hpos, hpos', hr2', hrb]
      refine c_live g x (by omega) (b := h) (Nat.le_refl _) hM ?_
      intro vm h2 hom hp2 hM2
      rw [show ((movesB x [84, 70]).filter fun m => decide (0 < cE g (mkM x m))) = lvM g x from rfl] at hom
      have hsl := hom.slc hlM
      have hvm := fun g => Slc.lenV (hsl) (g := g) (ρ := fun _ => _) (x := .t 0) rfl; simp only [evOp] at hvm
      simp (maxSteps := 1000000) (disch := first | omega | rfl | (simp only [zL, two63, room] <;> omega) | fail) only [↓reduceIte, ↓zP, zW, WOp, evOp, evBin, binI, binSh, binS, evNil, keyIs, keyEq, mkv, AV.cells, AV.sc, optv, bnd, env, put, Env.get, Env.set, Env.del, Env.dels, Env.init, res1, resL, resV, fillP, splice, newRow, Nat.reduceEqDiff, Nat.reduceLT, Nat.reduceLeDiff, Nat.reduceAdd, Nat.reduceMul, Nat.reduceSub, Nat.reduceBEq, reduceCtorEq, ↓zR, zQ, Tr, StA, StT, hvm]
      have hcl : c < h.length := (List.getElem?_eq_some_iff.1 hm).1
      have hoe : OwL 1 encS b h2 (.slice r2 k2 o2 (x :: (keys es).drop (p + 1)).length 1) ((keys es).drop p) := own_row ho fun r hr => by
        have h1 := own_lt ho hr
        have h3 := own_ge ho hr
        exact hp2.2 r h1 (by omega)
      refine lp_ll1 (g := g) hg hw (p := p) (x := x) (d := dx) hcb hcm (lvM g x) [] es _ h2 rfl hb hx (by unfold MapIs; rw [hp2.2 c hcl (by omega)]; exact hm) hoe (hp.trans hp2) hM2 ⟨hsl, fun r hr => ?_⟩ ?_
      · have h1 : h.length ≤ r := by
          unfold OwW at hom
          cases vm <;> simp only [rowOf] at hr hom <;> first
            | (cases hr; done)
            | (cases hr; exact hom.2.2.1)
        refine ⟨by omega, fun e => ?_⟩
        have h2 := own_lt ho e
        omega
      intro o3 h3 hb3 hx3 hm3 ho3 hp3 hM3
      have hst := hb.step hx
      rw [← lvM_map] at hst
      have hoq3 := ho3
      rw [hq hx3] at hoq3
      obtain ⟨r4, k4, o4, hv4, _⟩ := hoq3.slc.at hlS (pre := [])
      rw [List.nil_append] at hv4
      have hl3 := hb3.bi.len hg (by omega)
      have hone : (1 : Int) ≤ ((x :: (keys (addK dx es ((lvM g x).map (mkM x)))).drop (p + 1)).length : Int) := by simp only [List.length_cons]; omega
      subst hv4
      simp (maxSteps := 1000000) (disch := first | omega | rfl | (simp only [zL, two63, room] <;> omega) | fail) only [↓reduceIte, ↓zP, zW, WOp, evOp, evBin, binI, binSh, binS, evNil, keyIs, keyEq, mkv, AV.cells, AV.sc, optv, bnd, env, put, Env.get, Env.set, Env.del, Env.dels, Env.init, res1, resL, resV, fillP, splice, newRow, Nat.reduceEqDiff, Nat.reduceLT, Nat.reduceLeDiff, Nat.reduceAdd, Nat.reduceMul, Nat.reduceSub, Nat.reduceBEq, reduceCtorEq, ↓zR, zQ, Tr, StA, StT, hone]
      rw [w_loopn (c := lp314_0) rfl]
      simp (maxSteps := 1000000) (disch := first | omega | rfl | (simp only [zL, two63, room] <;> omega) | fail) only [↓reduceIte, ↓zP, zW, WOp, evOp, evBin, binI, binSh, binS, evNil, keyIs, keyEq, mkv, AV.cells, AV.sc, optv, bnd, env, put, Env.get, Env.set, Env.del, Env.dels, Env.init, res1, resL, resV, fillP, splice, newRow, Nat.reduceEqDiff, Nat.reduceLT, Nat.reduceLeDiff, Nat.reduceAdd, Nat.reduceMul, Nat.reduceSub, Nat.reduceBEq, reduceCtorEq, ↓zR, zQ, Tr, StA, StT]
      refine ih _ _ h3 (by omega) hst hm3 ?_ hp3 hM3 hR
      have ht := own_tail (b := b) (h := h3) (r := r4) (k := k4) (off := o4) (n := ((keys (addK dx es ((lvM g x).map (mkM x)))).drop (p + 1)).length) hoq3
      simpa using ht

theorem c_liveLines (t g f : Nat) (h8 : 1 ≤ t + g + f ∧ t + g + f ≤ 8) (hpos : 0 < cE (lnL (lnF t g f)) (lnF t g f)) {h : AH} {post : AV → AH → Prop}
    (hp : ∀ c h' es, BL (lnL (lnF t g f)) (lnF t g f) es.length es → MapIs c h' es → h.length ≤ c → Pre h h' → post (.map c) h') : S 314 [.int .i64 t, .int .i64 g, .int .i64 f] h post k := by
  have hlen := (lnF_count t g f).2.2.2
  have hsg := lnF_signs t g f
  refine S_of rfl T314 ?_; unfold fi314
  simp (maxSteps := 1000000) (disch := first | omega | rfl | (simp only [zL, two63, room] <;> omega) | fail) only [↓reduceIte, ↓zP, zW, WOp, evOp, evBin, binI, binSh, binS, evNil, keyIs, keyEq, mkv, AV.cells, AV.sc, optv, bnd, env, put, Env.get, Env.set, Env.del, Env.dels, Env.init, res1, resL, resV, fillP, splice, newRow, Nat.reduceEqDiff, Nat.reduceLT, Nat.reduceLeDiff, Nat.reduceAdd, Nat.reduceMul, Nat.reduceSub, Nat.reduceBEq, reduceCtorEq, ↓zR, zQ, Tr, StA, StT]
  refine c_swapOf t g f h8 ?_
  intro cm h1 hm1 hp1 hcm
  rw [show decide (0 < cE (lnL (lnF t g f)) (lnF t g f)) = true from decide_eq_true hpos]
  generalize lnF t g f = w at *
  generalize lnL w = gl at *
  have hcl := hm1.lt
  have e0 : wrRow (h1 ++ [AO.row [.str [], .nilM] 0 0 false]) h1.length 0 0 [.str gl, .map cm] = some (h1 ++ [AO.row [.str gl, .map cm] 0 0 false]) := by simp [wrRow, splice, AV.sc]
  have p1 := Pre.push h1 (AO.row [.str gl, .map cm] 0 0 false)
  have hbl : (h1 ++ [AO.row [.str gl, .map cm] 0 0 false]).length = h1.length + 1 := by simp
  have rb : rdRow (h1 ++ [AO.row [.str gl, .map cm] 0 0 false]) h1.length 0 0 2 = some [.str gl, .map cm] := by rw [rd_last, if_pos (by simp)]; simp
  generalize hb : h1 ++ [AO.row [.str gl, .map cm] 0 0 false] = b at *
  have hm0 : (b ++ [AO.map []])[b.length]? = some (AO.map []) := by simp
  have hmf : mfind (.str w) [] = some none := rfl
  have hset : List.set (b ++ [AO.map []]) b.length (AO.map (mput (.str w) (.int .i64 0) [])) = b ++ [AO.map [(.str w, .int .i64 0)]] := by simp [mput]
  have q1 := Pre.push b (AO.map [(.str w, .int .i64 0)])
  have q2 := Pre.push (b ++ [AO.map [(.str w, .int .i64 0)]]) (AO.row [.str w] 0 0 false)
  simp (maxSteps := 1000000) (disch := first | omega | rfl | (simp only [zL, two63, room] <;> omega) | fail) only [↓reduceIte, ↓zP, zW, WOp, evOp, evBin, binI, binSh, binS, evNil, keyIs, keyEq, mkv, AV.cells, AV.sc, optv, bnd, env, put, Env.get, Env.set, Env.del, Env.dels, Env.init, res1, resL, resV, fillP, splice, newRow, Nat.reduceEqDiff, Nat.reduceLT, Nat.reduceLeDiff, Nat.reduceAdd, Nat.reduceMul, Nat.reduceSub, Nat.reduceBEq, reduceCtorEq, ↓zR, zQ, Tr, StA, StT, e0]
  try rw [hb]
  simp (maxSteps := 1000000) (disch := first | omega | rfl | (simp only [zL, two63, room] <;> omega) | fail) only [↓reduceIte, ↓zP, zW, WOp, evOp, evBin, binI, binSh, binS, evNil, keyIs, keyEq, mkv, AV.cells, AV.sc, optv, bnd, env, put, Env.get, Env.set, Env.del, Env.dels, Env.init, res1, resL, resV, fillP, splice, newRow, Nat.reduceEqDiff, Nat.reduceLT, Nat.reduceLeDiff, Nat.reduceAdd, Nat.reduceMul, Nat.reduceSub, Nat.reduceBEq, reduceCtorEq, ↓zR, zQ, Tr, StA, StT, hm0, hmf, hset]
  refine lp_ll0 (g := gl) hsg (by omega) (c := b.length) (cm := cm) (cb := h1.length) (b := b) (Nat.le_refl _) (by omega) rb (by omega) 59050 0 [(w, 0)] _ _ (by omega) (BL.start hpos) ?_ ?_ ((q1.trans q2).x cm) ((hm1.pre p1).pre (q1.trans q2)) ?_
  · unfold MapIs
    rw [q2.2 b.length (by simp)]
    simp [encE]
  · unfold OwL Own
    exact ⟨rfl, rfl, rfl, by simp, [.str w], 0, by simp, Nat.le_refl _, rfl, rfl⟩
  intro h' es' hbi hmi hpx
  have hfin : Pre h h' := by
    refine ⟨by have := hp1.1; have := p1.1; have := hpx.1; omega, fun i hi => ?_⟩
    rw [hpx.2 i (by have := hp1.1; have := p1.1; omega) (by omega), p1.2 i (by have := hp1.1; omega), hp1.2 i hi]
  have hR := hp b.length h' es' hbi hmi (by have := hp1.1; omega) hfin
  simp (maxSteps := 1000000) (disch := first | omega | rfl | (simp only [zL, two63, room] <;> omega) | fail) only [↓reduceIte, ↓zP, zW, WOp, evOp, evBin, binI, binSh, binS, evNil, keyIs, keyEq, mkv, AV.cells, AV.sc, optv, bnd, env, put, Env.get, Env.set, Env.del, Env.dels, Env.init, res1, resL, resV, fillP, splice, newRow, Nat.reduceEqDiff, Nat.reduceLT, Nat.reduceLeDiff, Nat.reduceAdd, Nat.reduceMul, Nat.reduceSub, Nat.reduceBEq, reduceCtorEq, ↓zR, zQ, Tr, StA, StT]
  exact hR

/-! ### The steps over the map -/
theorem dl_half {w : Ln} (hw : w.length ≤ 10) {n0 : Nat} {es : Ds} (hb : BI w n0 es) (hel : es.length ≤ 59049) {n : Nat} (hn0 : n ≤ 1000) {b : AH} {c ci : Nat} (hci : b.length ≤ ci) {R : RP} :
    ∀ (m : Nat) (seen : List Nat) (o : AV) (h : AH), seen.length + m = es.length → seen.Nodup → (∀ i ∈ seen, i < es.length) → h[ci]? = some (.mit c (es.map encE).length seen) → h[c]? = some (.map (es.map encE)) → OwL 1 encS b h o (sel (fun _ d => d == n / 2) es seen) → (o = .empS ∨ (sel (fun _ d => d == n / 2) es seen ≠ [] ∧ ∃ r k off l, o = .slice r k off l 1)) → Pre b h →
    (∀ seen' o' h', seen'.Nodup → (∀ i, i < es.length → i ∈ seen') → OwL 1 encS b h' o' (sel (fun _ d => d == n / 2) es seen') → (o' = .empS ∨ (sel (fun _ d => d == n / 2) es seen' ≠ [] ∧ ∃ r k off l, o' = .slice r k off l 1)) → Pre b h' → R (.exit 0) [(10, o')] h') →
    dRounds (dW (WC T E) dHalfL) R (m + 1) [(8, .int .i64 n), (10, o), (27, .iter ci)] h := by
  intro m
  induction m with
  | zero =>
    intro seen o h hn hnd hsl hmit hmap ho hsh hp hR
    have hall : ∀ i, i < es.length → i ∈ seen := by
      intro i hi
      apply Classical.byContradiction
      intro hns
      have := nodup_le (n := es.length) (l := i :: seen) (by rw [List.nodup_cons]; exact ⟨hns, hnd⟩) (by
        intro j hj
        rcases List.mem_cons.1 hj with rfl | hj
        · exact hi
        · exact hsl j hj)
      simp at this; omega
    unfold dRounds dHalfL
    simp only [dW, Env.dels, Env.del, Env.get, reduceCtorEq, ↓reduceIte, Nat.reduceEqDiff]
    refine ⟨ci, c, seen, es.map encE, rfl, hmit, hmap, fun i k v he hns => ?_, fun _ => ?_⟩
    · have hlt := (List.getElem?_eq_some_iff.1 he).1
      rw [List.length_map] at hlt
      exact absurd (hall i hlt) hns
    · simp only [toCx]
      unfold dHalfB
      simp (maxSteps := 1000000) (disch := first | omega | rfl | (simp only [zL, two63, room] <;> omega) | fail) only [↓reduceIte, ↓zP, zW, WOp, evOp, evBin, binI, binSh, binS, evNil, keyIs, keyEq, mkv, AV.cells, AV.sc, optv, bnd, env, put, Env.get, Env.set, Env.del, Env.dels, Env.init, res1, resL, resV, fillP, splice, newRow, Nat.reduceEqDiff, Nat.reduceLT, Nat.reduceLeDiff, Nat.reduceAdd, Nat.reduceMul, Nat.reduceSub, Nat.reduceBEq, reduceCtorEq, ↓zR, zQ, Tr, StA, StT]
      exact hR seen o h hnd hall ho hsh hp
  | succ m ih =>
    intro seen o h hn hnd hsl hmit hmap ho hsh hp hR
    obtain ⟨K, hK⟩ : ∃ K : RP, K = then' (fun e' h' => dRounds (dW (WC T E) dHalfL) R (m + 1) e' h') R := ⟨_, rfl⟩
    have hKn : ∀ e' h', K .normal e' h' = dRounds (dW (WC T E) dHalfL) R (m + 1) e' h' := fun e' h' => by rw [hK]; rfl
    have hKe : ∀ j e' h', K (.exit j) e' h' = R (.exit j) e' h' := fun j e' h' => by rw [hK]; rfl
    show dW (WC T E) dHalfL [(8, .int .i64 n), (10, o), (27, .iter ci)] h (then' (fun e' h' => dRounds (dW (WC T E) dHalfL) R (m + 1) e' h') R)
    rw [← hK]
    clear hK
    unfold dHalfL
    simp only [dW, Env.dels, Env.del, Env.get, reduceCtorEq, ↓reduceIte, Nat.reduceEqDiff]
    refine ⟨ci, c, seen, es.map encE, rfl, hmit, hmap, fun i k v he hns => ?_, fun hall => ?_⟩
    · rw [List.getElem?_map, Option.map_eq_some_iff] at he
      obtain ⟨⟨v0, d0⟩, hv0, hkv⟩ := he
      simp only [encE, Prod.mk.injEq] at hkv
      obtain ⟨rfl, rfl⟩ := hkv
      have hlt := (List.getElem?_eq_some_iff.1 hv0).1
      have hcil := (List.getElem?_eq_some_iff.1 hmit).1
      have hne : ci ≠ c := by rintro rfl; rw [hmit] at hmap; cases hmap
      have m1 : (h.set ci (.mit c (es.map encE).length (seen ++ [i])))[ci]? = some (.mit c (es.map encE).length (seen ++ [i])) := by rw [List.getElem?_set, if_pos rfl, if_pos hcil]
      have m2 : (h.set ci (.mit c (es.map encE).length (seen ++ [i])))[c]? = some (.map (es.map encE)) := by rw [List.getElem?_set, if_neg hne]; exact hmap
      have m3 : (seen ++ [i]).getLast? = some i := by simp
      have m4 : (es.map encE)[i]? = some (.str v0, .int .i64 (d0 : Int)) := by rw [List.getElem?_map, hv0]; rfl
      have hp1 : Pre b (h.set ci (.mit c (es.map encE).length (seen ++ [i]))) := hp.set hci
      have ho1 : OwL 1 encS b (h.set ci (.mit c (es.map encE).length (seen ++ [i]))) o (sel (fun _ d => d == n / 2) es seen) := own_obj ho hmit (fun _ _ _ _ => by simp)
      have hsn := sel_snoc (fun _ d => d == n / 2) es seen hv0
      have hnd1 : (seen ++ [i]).Nodup := by rw [List.nodup_append]; exact ⟨hnd, by simp, fun a ha b hb => by simp at hb; subst hb; rintro rfl; exact hns ha⟩
      have hsl1 : ∀ j ∈ seen ++ [i], j < es.length := by
        intro j hj
        rcases List.mem_append.1 hj with hj | hj
        · exact hsl j hj
        · simp at hj; subst hj; exact hlt
      have hlen1 : (seen ++ [i]).length + m = es.length := by simp; omega
      have hsl2 : (sel (fun _ d => d == n / 2) es seen).length ≤ 59049 := Nat.le_trans (Nat.le_trans (List.length_filterMap_le _ _) (by omega)) hel
      have hq : ((n : Nat) : Int).tdiv 2 = ((n / 2 : Nat) : Int) := by rw [Int.tdiv_eq_ediv_of_nonneg (by omega)]; omega
      have h20 : ¬ ((2 : Int) = 0) := by decide
      have hwr : IntKind.i64.wrap ((n / 2 : Nat) : Int) = ((n / 2 : Nat) : Int) := wrap_i (by omega)
      generalize h.set ci (.mit c (es.map encE).length (seen ++ [i])) = h1 at *
      simp only [toCx]
      unfold dHalfB
      cases e : (d0 == n / 2)
      · have ei : (((d0 : Nat) : Int) == ((n / 2 : Nat) : Int)) = false := by
          rw [beq_eq_false_iff_ne] at e ⊢
          omega
        simp only [e, Bool.false_eq_true, if_false] at hsn
        simp (maxSteps := 1000000) (disch := first | omega | rfl | (simp only [zL, two63, room] <;> omega) | fail) only [↓reduceIte, ↓zP, zW, WOp, evOp, evBin, binI, binSh, binS, evNil, keyIs, keyEq, mkv, AV.cells, AV.sc, optv, bnd, env, put, Env.get, Env.set, Env.del, Env.dels, Env.init, res1, resL, resV, fillP, splice, newRow, Nat.reduceEqDiff, Nat.reduceLT, Nat.reduceLeDiff, Nat.reduceAdd, Nat.reduceMul, Nat.reduceSub, Nat.reduceBEq, reduceCtorEq, ↓zR, zQ, Tr, StA, StT, m1, m2, m3, m4, hq, h20, hwr, ei]
        rw [hKn]
        refine ih (seen ++ [i]) o h1 hlen1 hnd1 hsl1 m1 m2 (by rw [hsn]; exact ho1) (by rw [hsn]; exact hsh) hp1 hR
      · have ei : (((d0 : Nat) : Int) == ((n / 2 : Nat) : Int)) = true := by
          rw [beq_iff_eq] at e ⊢
          omega
        simp only [e, if_true] at hsn
        have hpx := Pre.push h1 (AO.row [.str v0] 0 0 false)
        obtain ⟨o3, h3, ha, ho3, hp3⟩ := apL hlS scS (ho1.pre hpx) (hp1.trans hpx) v0 (by omega)
        obtain ⟨f1, f2, f3⟩ := apRow_fr ha
        obtain ⟨r3, k3, off3, m3', hsh3, _⟩ := own_shape ho3
        have hnr : ∀ {cc : Nat} {ob : AO}, h1[cc]? = some ob → (∀ cs k fl ro, ob ≠ .row cs k fl ro) → h3[cc]? = some ob := by
          intro cc ob hcc hnr
          have hl := (List.getElem?_eq_some_iff.1 hcc).1
          rw [f1 cc (by simp; omega) (fun hrc => ?_), hpx.2 cc hl, hcc]
          obtain ⟨cs, k, fl, ro, h4⟩ := own_isrow ho1 hrc
          rw [hcc] at h4
          exact hnr _ _ _ _ (Option.some.inj h4)
        simp (maxSteps := 1000000) (disch := first | omega | rfl | (simp only [zL, two63, room] <;> omega) | fail) only [↓reduceIte, ↓zP, zW, WOp, evOp, evBin, binI, binSh, binS, evNil, keyIs, keyEq, mkv, AV.cells, AV.sc, optv, bnd, env, put, Env.get, Env.set, Env.del, Env.dels, Env.init, res1, resL, resV, fillP, splice, newRow, Nat.reduceEqDiff, Nat.reduceLT, Nat.reduceLeDiff, Nat.reduceAdd, Nat.reduceMul, Nat.reduceSub, Nat.reduceBEq, reduceCtorEq, ↓zR, zQ, Tr, StA, StT, m1, m2, m3, m4, hq, h20, hwr, ei, ha]
        rw [hKn]
        refine ih (seen ++ [i]) o3 h3 hlen1 hnd1 hsl1 (hnr m1 fun _ _ _ _ => by simp) (hnr m2 fun _ _ _ _ => by simp) (by rw [hsn]; exact ho3) (.inr ⟨by rw [hsn]; simp, r3, k3, off3, m3', hsh3⟩) hp3 hR
    · have hall' : ∀ i, i < es.length → i ∈ seen := fun i hi => hall i (by rw [List.length_map]; exact hi)
      simp only [toCx]
      unfold dHalfB
      simp (maxSteps := 1000000) (disch := first | omega | rfl | (simp only [zL, two63, room] <;> omega) | fail) only [↓reduceIte, ↓zP, zW, WOp, evOp, evBin, binI, binSh, binS, evNil, keyIs, keyEq, mkv, AV.cells, AV.sc, optv, bnd, env, put, Env.get, Env.set, Env.del, Env.dels, Env.init, res1, resL, resV, fillP, splice, newRow, Nat.reduceEqDiff, Nat.reduceLT, Nat.reduceLeDiff, Nat.reduceAdd, Nat.reduceMul, Nat.reduceSub, Nat.reduceBEq, reduceCtorEq, ↓zR, zQ, Tr, StA, StT]
      rw [hKe]
      exact hR seen o h hnd hall' ho hsh hp
end Go.Proofs.Ytcflenomogpdbaa.Ab
