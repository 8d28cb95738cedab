/- The proof that the law FnExactReachedAfter of the given program returns true for every input; the condition: the tables that the row lists are laid as the program's text lays them. -/
import Derived.Test.YthiafpdackiglaaDoorCards
import Derived.Test.YthiafpdackiglaaDoorTie
import Derived.OpenShut
import Derived.Deep.DeepHandedRow
import Derived.Lib.LaidTab
import Derived.Test.YthiafpdackiglaaDoorQ3
set_option linter.unusedSimpArgs false
set_option linter.unusedVariables false
/- REACHING by the program: lines gathered in a map, one after the other. -/
namespace Go.Proofs.YthiafpdackiglaaDoor.Ab
open Go
set_option maxRecDepth 100000
set_option maxHeartbeats 4000000

def encE (p : Ln × Nat) : AV × AV := (.str p.1, .int .i64 p.2)
theorem mfE (x : Ln) : ∀ es : Ds, mfind (.str x) (es.map encE) = some ((es.find? fun p => p.1 == x).map fun p => AV.int .i64 (p.2 : Int))
  | [] => rfl
  | (k, d) :: es => by
    rw [List.map_cons]
    simp only [encE, mfind, keyEq, List.find?_cons]
    by_cases e : x = k
    · subst e; simp
    · have e1 : (x == k) = false := by simpa using e
      have e2 : (k == x) = false := by simpa using Ne.symm e
      rw [e1, e2]
      exact mfE x es
theorem mpE (x : Ln) (d : Nat) : ∀ es : Ds, x ∉ keys es → mput (.str x) (.int .i64 (d : Int)) (es.map encE) = (es ++ [(x, d)]).map encE
  | [], _ => rfl
  | (k, e) :: es, hn => by
    have hne : x ≠ k := by rintro rfl; exact hn (by simp [keys])
    have e1 : (x == k) = false := by simpa using hne
    rw [List.map_cons, List.cons_append, List.map_cons]
    simp only [encE, mput, keyEq, e1]
    rw [mpE x d es (fun h => hn (by unfold keys at h ⊢; rw [List.map_cons]; exact List.mem_cons_of_mem _ h))]
theorem find_in {es : Ds} (hn : (keys es).Nodup) {x : Ln} {d : Nat} (h : (x, d) ∈ es) : es.find? (fun p => p.1 == x) = some (x, d) := by
  induction es with
  | nil => simp at h
  | cons p es ih =>
    unfold keys at hn
    rw [List.map_cons, List.nodup_cons] at hn
    rw [List.find?_cons]
    rcases List.mem_cons.1 h with rfl | h
    · simp
    · have : (p.1 == x) = false := by
        rw [beq_eq_false_iff_ne]
        intro e
        exact hn.1 (List.mem_map.2 ⟨(x, d), h, e.symm⟩)
      rw [this]
      exact ih hn.2 h
theorem find_out {es : Ds} {x : Ln} (h : x ∉ keys es) : es.find? (fun p => p.1 == x) = none := by
  rw [List.find?_eq_none]
  intro p hp
  simp only [beq_iff_eq]
  intro e
  exact h (by unfold keys; exact List.mem_map.2 ⟨p, hp, e⟩)
theorem BI.good {w : Ln} (hg : w.all isSign = true) {p : Nat} {es : Ds} (h : BI w p es) : ∀ v ∈ keys es, v.length = w.length ∧ v.all isSign = true := by
  intro v hv
  obtain ⟨d, hd⟩ := mem_keys.1 hv
  exact (lay_good hg d).2 v (h.ly v d hd)
theorem BI.len {w : Ln} (hg : w.all isSign = true) (hw : w.length ≤ 10) {p : Nat} {es : Ds} (h : BI w p es) : es.length ≤ 59049 := by
  have := nodup_bound (A := [46, 70, 84]) (n := w.length) h.nd (fun x hx => ⟨(h.good hg x hx).1, fun b hb => by
    have := List.all_eq_true.1 (h.good hg x hx).2 b hb
    unfold isSign at this
    simp at this ⊢
    rcases this with h | h
    · rcases h with h | h <;> simp [h]
    · simp [h]⟩)
  rw [keys_len] at this
  exact Nat.le_trans this (Nat.le_trans (Nat.pow_le_pow_right (by simp) hw) (by decide))
theorem BI.dist {w : Ln} (hw : w.length ≤ 10) {p : Nat} {es : Ds} (h : BI w p es) {v : Ln} {d : Nat} (hd : (v, d) ∈ es) : d ≤ 100 := by
  have := lay_mu w d v (h.ly v d hd)
  have := mu_le w hw
  omega
/-- The map holds them. -/
def MapIs (c : Nat) (h : AH) (es : Ds) : Prop := h[c]? = some (.map (es.map encE))
/-- A slice apart from the map and the queue. -/
def SlcQ {α : Type} (esz : Nat) (enc : α → List AV) (c : Nat) (o : AV) (h : AH) (v : AV) (L : List α) : Prop := Slc esz enc h v L ∧ ∀ r, rowOf v = some r → r ≠ c ∧ rowOf o ≠ some r
theorem lp_bf1 {w : Ln} (hg : w.all isSign = true) (hw : w.length ≤ 10) {p : Nat} {x : Ln} {d : Nat} {c : Nat} {b : AH} (hcb : b.length ≤ c) {vm : AV} {R : X → Env → AH → Prop} :
    ∀ (mr mp : List (Int × Int)) (es : Ds) (o : AV) (h : AH), movesB x [84, 70] = mp ++ mr → BI w p es → es[p]? = some (x, d) → MapIs c h es → OwL 1 encS b h o ((keys es).drop p) → Pre b h → SlcQ 2 encM c o h vm (movesB x [84, 70]) →
    (∀ o' h', BI w p (addK d es (mr.map (mkM x))) → (addK d es (mr.map (mkM x)))[p]? = some (x, d) → MapIs c h' (addK d es (mr.map (mkM x))) → OwL 1 encS b h' o' ((keys (addK d es (mr.map (mkM x)))).drop p) → Pre b h' → R (.exit 2) [(3, .map c), (4, o')] h') →
    Cx (.loop lp273_1) [(3, .map c), (4, o), (23, vm), (24, .int .i64 (movesB x [84, 70]).length), (25, .int .i64 mp.length)] h R k k
  | [], mp, es, o, h, hmp, hb, hx, hm, ho, hp, hs, hR => by
    have hl : (movesB x [84, 70]).length = mp.length := by rw [hmp]; simp
    rw [w_loopb (c := lp273_1) (d := lb273_1) rfl]; unfold lb273_1
    rw [hl]
    simp (maxSteps := 1000000) (disch := first | omega | rfl | (simp only [zL, two63, room] <;> omega) | fail) only [↓reduceIte, ↓zP, zW, WOp, evOp, evBin, binI, binSh, binS, evNil, keyIs, keyEq, mkv, AV.cells, AV.sc, optv, bnd, env, put, Env.get, Env.set, Env.del, Env.dels, Env.init, res1, resL, resV, fillP, splice, newRow, Nat.reduceEqDiff, Nat.reduceLT, Nat.reduceLeDiff, Nat.reduceAdd, Nat.reduceMul, Nat.reduceSub, Nat.reduceBEq, reduceCtorEq, ↓zR, zQ, Tr, StA, StT]
    exact hR o h hb hx hm ho hp
  | m :: mr, mp, es, o, h, hmp, hb, hx, hm, ho, hp, hs, hR => by
    have ih := lp_bf1 hg hw (p := p) (x := x) (d := d) hcb (vm := vm) (R := R) mr (mp ++ [m])
    have hmm : m ∈ movesB x [84, 70] := by rw [hmp]; simp
    have hml : (movesB x [84, 70]).length = mp.length + 1 + mr.length := by rw [hmp]; simp; omega
    have hbd := movesB_len x [84, 70]
    have hxm := List.mem_of_getElem? hx
    obtain ⟨hxl, hxg⟩ := hb.good hg x (mem_keys.2 ⟨d, hxm⟩)
    have hsm := hs.1
    rw [hmp] at hsm
    obtain ⟨r1, k1, o1, hv1, hr⟩ := hsm.at hlM
    rw [← hmp, hml] at hv1
    obtain ⟨i', t', rfl, hmv⟩ := movesB_mv hmm
    subst hv1
    rw [hml] at ih ⊢
    have hlt : (mp.length : Int) < ((mp.length + 1 + mr.length : Nat) : Int) := by omega
    have hw1 : (mp.length : Int) + 1 = ((mp ++ [((i' : Int), (t' : Int))]).length : Int) := by simp
    have hpl := (List.getElem?_eq_some_iff.1 hx).1
    have hq : (keys es).drop p = x :: (keys es).drop (p + 1) := by
      have h1 : p < (keys es).length := by rw [keys_len]; exact hpl
      rw [List.drop_eq_getElem_cons h1]
      have h2 : (keys es)[p]? = some x := by unfold keys; rw [List.getElem?_map, hx]; rfl
      rw [List.getElem?_eq_getElem h1] at h2
      cases h2; rfl
    have hoq := ho
    rw [hq] at hoq
    obtain ⟨r2, k2, o2, hv2, hr2⟩ := hoq.slc.at hlS (pre := [])
    rw [List.nil_append] at hv2
    have hr2' : rdRow h r2 k2 (o2 + Int.toNat 0 * 1) 1 = some [.str x] := hr2
    have hpos : (0 : Int) < ((x :: (keys es).drop (p + 1)).length : Int) := by simp only [List.length_cons]; omega
    have hd100 := hb.dist hw hxm
    have hesl := hb.len hg hw
    have hnx : madeB x i' t' ∈ nx x := by rw [nx_eq, hmp]; simp [mkM]
    have hpush := Pre.push h (AO.row (encM ((i' : Int), (t' : Int))) 0 0 false)
    have hr3 := rdRow_pre hpush hr2'
    subst hv2
    simp only [List.map_cons, addK_cons] at hR
    have hmk : mkM x ((i' : Int), (t' : Int)) = madeB x i' t' := rfl
    rw [hmk] at hR
    rw [w_loopb (c := lp273_1) (d := lb273_1) rfl]; unfold lb273_1
    simp (maxSteps := 1000000) (disch := first | omega | rfl | (simp only [zL, two63, room] <;> omega) | fail) only [↓reduceIte, ↓zP, zW, WOp, evOp, evBin, binI, binSh, binS, evNil, keyIs, keyEq, mkv, AV.cells, AV.sc, optv, bnd, env, put, Env.get, Env.set, Env.del, Env.dels, Env.init, res1, resL, resV, fillP, splice, newRow, Nat.reduceEqDiff, Nat.reduceLT, Nat.reduceLeDiff, Nat.reduceAdd, Nat.reduceMul, Nat.reduceSub, Nat.reduceBEq, reduceCtorEq, ↓zR, zQ, Tr, StA, StT, hlt, hr, hpos, hr3]
    refine c_made x i' t' hmv.fst hmv.snd (by omega) ?_
    intro h2 hp2
    have hp1 := hpush.trans hp2
    have hcl : c < h.length := (List.getElem?_eq_some_iff.1 hm).1
    have hm2 : h2[c]? = some (.map (es.map encE)) := by rw [hp1.2 c hcl]; exact hm
    have hmf := mfE (madeB x i' t') es
    have hmx := mfE x es
    rw [find_in hb.nd hxm] at hmx
    have hr4 := rdRow_pre hp2 hr3
    by_cases hin : madeB x i' t' ∈ keys es
    · rw [if_pos hin] at hR
      obtain ⟨e, he⟩ := mem_keys.1 hin
      rw [find_in hb.nd he] at hmf
      simp only [Option.map_some] at hmf
      simp (maxSteps := 1000000) (disch := first | omega | rfl | (simp only [zL, two63, room] <;> omega) | fail) only [↓reduceIte, ↓zP, zW, WOp, evOp, evBin, binI, binSh, binS, evNil, keyIs, keyEq, mkv, AV.cells, AV.sc, optv, bnd, env, put, Env.get, Env.set, Env.del, Env.dels, Env.init, res1, resL, resV, fillP, splice, newRow, Nat.reduceEqDiff, Nat.reduceLT, Nat.reduceLeDiff, Nat.reduceAdd, Nat.reduceMul, Nat.reduceSub, Nat.reduceBEq, reduceCtorEq, ↓zR, zQ, Tr, StA, StT, hm2, hmf]
      simp (maxSteps := 1000000) (disch := first | omega | rfl | (simp only [zL, two63, room] <;> omega) | fail) only [↓reduceIte, ↓zP, zW, WOp, evOp, evBin, binI, binSh, binS, evNil, keyIs, keyEq, mkv, AV.cells, AV.sc, optv, bnd, env, put, Env.get, Env.set, Env.del, Env.dels, Env.init, res1, resL, resV, fillP, splice, newRow, Nat.reduceEqDiff, Nat.reduceLT, Nat.reduceLeDiff, Nat.reduceAdd, Nat.reduceMul, Nat.reduceSub, Nat.reduceBEq, reduceCtorEq, ↓zR, zQ, Tr, StA, StT, hw1]
      rw [w_loopn (c := lp273_1) rfl]
      simp (maxSteps := 1000000) (disch := first | omega | rfl | (simp only [zL, two63, room] <;> omega) | fail) only [↓reduceIte, ↓zP, zW, WOp, evOp, evBin, binI, binSh, binS, evNil, keyIs, keyEq, mkv, AV.cells, AV.sc, optv, bnd, env, put, Env.get, Env.set, Env.del, Env.dels, Env.init, res1, resL, resV, fillP, splice, newRow, Nat.reduceEqDiff, Nat.reduceLT, Nat.reduceLeDiff, Nat.reduceAdd, Nat.reduceMul, Nat.reduceSub, Nat.reduceBEq, reduceCtorEq, ↓zR, zQ, Tr, StA, StT]
      exact ih es _ h2 (by rw [hmp]; simp) hb hx hm2 (ho.pre hp1) (hp.trans hp1) ⟨hs.1.pre hp1, hs.2⟩ hR
    · rw [if_neg hin] at hR
      rw [find_out hin] at hmf
      simp only [Option.map_none] at hmf
      simp only [Option.map_some] at hmx
      have hmp2 := mpE (madeB x i' t') (d + 1) es hin
      have hd1 : (d : Int) + 1 = ((d + 1 : Nat) : Int) := by omega
      have hkd : (keys (es ++ [(madeB x i' t', d + 1)])).drop p = (keys es).drop p ++ [madeB x i' t'] := by
        rw [keys_app, List.drop_append_of_le_length (by rw [keys_len]; omega)]
      have hbn := hb.add hxm hnx hin
      have hxn : (es ++ [(madeB x i' t', d + 1)])[p]? = some (x, d) := by rw [List.getElem?_append_left hpl]; exact hx
      have hc2 : c < h2.length := Nat.lt_of_lt_of_le hcl hp1.1
      have hne : ∀ r, rowOf (AV.slice r2 k2 o2 (x :: (keys es).drop (p + 1)).length 1) = some r → r ≠ c := by
        intro r hr e
        cases hr
        have h1 := rdRow_pre hp2 hr3
        unfold rdRow at h1
        rw [e, hm2] at h1
        cases h1
      have hvc : r1 ≠ c := (hs.2 r1 rfl).1
      have ho3 : OwL 1 encS b (h2.set c (.map ((es ++ [(madeB x i' t', d + 1)]).map encE))) (.slice r2 k2 o2 (x :: (keys es).drop (p + 1)).length 1) ((keys es).drop p) := own_row (ho.pre hp1) fun r hr => by rw [List.getElem?_set, if_neg (Ne.symm (hne r hr))]
      have hp3 : Pre b (h2.set c (.map ((es ++ [(madeB x i' t', d + 1)]).map encE))) := (hp.trans hp1).set hcb
      have hm3 : (h2.set c (.map ((es ++ [(madeB x i' t', d + 1)]).map encE)))[c]? = some (.map ((es ++ [(madeB x i' t', d + 1)]).map encE)) := by rw [List.getElem?_set, if_pos rfl, if_pos hc2]
      have hs3 : Slc 2 encM (h2.set c (.map ((es ++ [(madeB x i' t', d + 1)]).map encE))) (.slice r1 k1 o1 (mp.length + 1 + mr.length) 2) (movesB x [84, 70]) := (hs.1.pre hp1).stay fun r hr => by cases hr; rw [List.getElem?_set, if_neg (Ne.symm hvc)]
      have hlen3 : (h2.set c (.map ((es ++ [(madeB x i' t', d + 1)]).map encE))).length = h2.length := by simp
      have hr5 : rdRow (h2.set c (.map ((es ++ [(madeB x i' t', d + 1)]).map encE))) r2 k2 (o2 + Int.toNat 0 * 1) 1 = some [.str x] := by
        have := hr4
        unfold rdRow at this ⊢
        rw [List.getElem?_set, if_neg (Ne.symm (hne r2 rfl))]
        exact this
      have hset : h2.set c (.map (mput (.str (madeB x i' t')) (.int .i64 ((d + 1 : Nat) : Int)) (es.map encE))) = h2.set c (.map ((es ++ [(madeB x i' t', d + 1)]).map encE)) := by rw [hmp2]
      generalize hh3 : h2.set c (.map ((es ++ [(madeB x i' t', d + 1)]).map encE)) = h3 at *
      have hpx := Pre.push h3 (AO.row [.str (madeB x i' t')] 0 0 false)
      obtain ⟨o5, h5, ha, ho5, hp5⟩ := apL hlS scS (ho3.pre hpx) (hp3.trans hpx) (madeB x i' t') (by rw [List.length_drop, keys_len]; omega)
      obtain ⟨f1, f2, f3⟩ := apRow_fr ha
      rw [← hkd] at ho5
      rw [List.length_cons] at ha
      simp (maxSteps := 1000000) (disch := first | omega | rfl | (simp only [zL, two63, room] <;> omega) | fail) only [↓reduceIte, ↓zP, zW, WOp, evOp, evBin, binI, binSh, binS, evNil, keyIs, keyEq, mkv, AV.cells, AV.sc, optv, bnd, env, put, Env.get, Env.set, Env.del, Env.dels, Env.init, res1, resL, resV, fillP, splice, newRow, Nat.reduceEqDiff, Nat.reduceLT, Nat.reduceLeDiff, Nat.reduceAdd, Nat.reduceMul, Nat.reduceSub, Nat.reduceBEq, reduceCtorEq, ↓zR, zQ, Tr, StA, StT, hm2, hmf, hpos, hr4, hmx, hd1, hset, ha]
      simp (maxSteps := 1000000) (disch := first | omega | rfl | (simp only [zL, two63, room] <;> omega) | fail) only [↓reduceIte, ↓zP, zW, WOp, evOp, evBin, binI, binSh, binS, evNil, keyIs, keyEq, mkv, AV.cells, AV.sc, optv, bnd, env, put, Env.get, Env.set, Env.del, Env.dels, Env.init, res1, resL, resV, fillP, splice, newRow, Nat.reduceEqDiff, Nat.reduceLT, Nat.reduceLeDiff, Nat.reduceAdd, Nat.reduceMul, Nat.reduceSub, Nat.reduceBEq, reduceCtorEq, ↓zR, zQ, Tr, StA, StT, hw1]
      rw [w_loopn (c := lp273_1) rfl]
      simp (maxSteps := 1000000) (disch := first | omega | rfl | (simp only [zL, two63, room] <;> omega) | fail) only [↓reduceIte, ↓zP, zW, WOp, evOp, evBin, binI, binSh, binS, evNil, keyIs, keyEq, mkv, AV.cells, AV.sc, optv, bnd, env, put, Env.get, Env.set, Env.del, Env.dels, Env.init, res1, resL, resV, fillP, splice, newRow, Nat.reduceEqDiff, Nat.reduceLT, Nat.reduceLeDiff, Nat.reduceAdd, Nat.reduceMul, Nat.reduceSub, Nat.reduceBEq, reduceCtorEq, ↓zR, zQ, Tr, StA, StT]
      refine ih (es ++ [(madeB x i' t', d + 1)]) o5 h5 (by rw [hmp]; simp) hbn hxn ?_ ho5 hp5 ⟨?_, fun r hr => ?_⟩ hR
      · unfold MapIs
        rw [f1 c (by simp; omega) (fun hrc => hne c hrc rfl), hpx.2 c (by omega)]
        exact hm3
      · refine (hs3.pre hpx).stay fun r hr => ?_
        have h1 := (hs3.pre hpx).lt hr
        exact f1 r h1 ((hs.2 r hr).2)
      · refine ⟨(hs.2 r hr).1, fun e => ?_⟩
        rcases f3 r e with h1 | h1
        · exact (hs.2 r hr).2 h1
        · have := hs3.lt hr
          simp at h1; omega
theorem own_tail {b h : AH} {r k off n : Nat} {x : Ln} {L : List Ln} (ho : OwL 1 encS b h (.slice r k off (n + 1) 1) (x :: L)) : OwL 1 encS b h (.slice r k (off + 1) n 1) L := by
  unfold OwL Own at ho ⊢
  simp only [List.length_cons, List.flatMap_cons] at ho ⊢
  obtain ⟨_, h2, h3, h4, cells, fl, h5, h6, h7, h8⟩ := ho
  have hfl := flat_len hlS L
  refine ⟨trivial, by omega, by rw [hfl], h4, cells, fl, h5, h6, by omega, ?_⟩
  rw [← List.drop_drop, h8]
  rfl
theorem lp_bf0 {w : Ln} (hg : w.all isSign = true) (hw : w.length ≤ 10) {c : Nat} {b : AH} (hcb : b.length ≤ c) {R : X → Env → AH → Prop} :
    ∀ (d p : Nat) (es : Ds) (o : AV) (h : AH), p + d = 59050 → BI w p es → MapIs c h es → OwL 1 encS b h o ((keys es).drop p) → Pre b h →
    (∀ h' es', BI w es'.length es' → MapIs c h' es' → Pre b h' → R (.exit 0) [(3, .map c)] h') → Cx (.loop lp273_0) [(3, .map c), (4, o)] h R k k
  | 0, p, es, o, h, hd, hb, hm, ho, hp, hR => by
    have h1 := hb.len hg hw
    have h2 := hb.le
    omega
  | d + 1, p, es, o, h, hd, hb, hm, ho, hp, hR => by
    have hl := hb.len hg hw
    have hvo := fun g => Slc.lenV (ho.slc) (g := g) (ρ := fun _ => _) (x := .t 0) rfl; simp only [evOp] at hvo
    have hdl : ((keys es).drop p).length = es.length - p := by rw [List.length_drop, keys_len]
    by_cases hpe : p = es.length
    · subst hpe
      have hz : (((keys es).drop es.length).length : Int) = 0 := by rw [hdl]; omega
      rw [w_loopb (c := lp273_0) (d := lb273_0) rfl]; unfold lb273_0
      simp (maxSteps := 1000000) (disch := first | omega | rfl | (simp only [zL, two63, room] <;> omega) | fail) only [↓reduceIte, ↓zP, zW, WOp, evOp, evBin, binI, binSh, binS, evNil, keyIs, keyEq, mkv, AV.cells, AV.sc, optv, bnd, env, put, Env.get, Env.set, Env.del, Env.dels, Env.init, res1, resL, resV, fillP, splice, newRow, Nat.reduceEqDiff, Nat.reduceLT, Nat.reduceLeDiff, Nat.reduceAdd, Nat.reduceMul, Nat.reduceSub, Nat.reduceBEq, reduceCtorEq, ↓zR, zQ, Tr, StA, StT, hvo, hz]
      exact hR h es hb hm hp
    · have hlt : p < es.length := by have := hb.le; omega
      have ih := lp_bf0 hg hw hcb (R := R) d (p + 1)
      obtain ⟨⟨x, dx⟩, hx⟩ : ∃ e, es[p]? = some e := ⟨es[p], List.getElem?_eq_getElem hlt⟩
      have hxm := List.mem_of_getElem? hx
      obtain ⟨hxl, hxg⟩ := hb.good hg x (mem_keys.2 ⟨dx, hxm⟩)
      have hq : ∀ {es' : Ds}, es'[p]? = some (x, dx) → (keys es').drop p = x :: (keys es').drop (p + 1) := by
        intro es' hx'
        have h1 : p < (keys es').length := by rw [keys_len]; exact (List.getElem?_eq_some_iff.1 hx').1
        rw [List.drop_eq_getElem_cons h1]
        have h2 : (keys es')[p]? = some x := by unfold keys; rw [List.getElem?_map, hx']; rfl
        rw [List.getElem?_eq_getElem h1] at h2
        cases h2; rfl
      have hoq := ho
      rw [hq hx] at hoq
      obtain ⟨r2, k2, o2, hv2, hr2⟩ := hoq.slc.at hlS (pre := [])
      rw [List.nil_append] at hv2
      have hr2' : rdRow h r2 k2 (o2 + Int.toNat 0 * 1) 1 = some [.str x] := hr2
      have hpos : (0 : Int) < ((x :: (keys es).drop (p + 1)).length : Int) := by simp only [List.length_cons]; omega
      subst hv2
      rw [w_loopb (c := lp273_0) (d := lb273_0) rfl]; unfold lb273_0
      simp (maxSteps := 1000000) (disch := first | omega | rfl | (simp only [zL, two63, room] <;> omega) | fail) only [↓reduceIte, ↓zP, zW, WOp, evOp, evBin, binI, binSh, binS, evNil, keyIs, keyEq, mkv, AV.cells, AV.sc, optv, bnd, env, put, Env.get, Env.set, Env.del, Env.dels, Env.init, res1, resL, resV, fillP, splice, newRow, Nat.reduceEqDiff, Nat.reduceLT, Nat.reduceLeDiff, Nat.reduceAdd, Nat.reduceMul, Nat.reduceSub, Nat.reduceBEq, reduceCtorEq, ↓zR, zQ, Tr, StA, StT, hpos, hr2']
      refine c_moves x [84, 70] (by omega) ?_
      intro vm h2 hom hp2
      have hom' : OwL 2 encM h h2 vm (movesB x [84, 70]) := hom
      have hvm := fun g => Slc.lenV (hom'.slc) (g := g) (ρ := fun _ => _) (x := .t 0) rfl; simp only [evOp] at hvm
      simp (maxSteps := 1000000) (disch := first | omega | rfl | (simp only [zL, two63, room] <;> omega) | fail) only [↓reduceIte, ↓zP, zW, WOp, evOp, evBin, binI, binSh, binS, evNil, keyIs, keyEq, mkv, AV.cells, AV.sc, optv, bnd, env, put, Env.get, Env.set, Env.del, Env.dels, Env.init, res1, resL, resV, fillP, splice, newRow, Nat.reduceEqDiff, Nat.reduceLT, Nat.reduceLeDiff, Nat.reduceAdd, Nat.reduceMul, Nat.reduceSub, Nat.reduceBEq, reduceCtorEq, ↓zR, zQ, Tr, StA, StT, hvm]
      have hcl : c < h.length := (List.getElem?_eq_some_iff.1 hm).1
      refine lp_bf1 hg hw (p := p) (x := x) (d := dx) hcb (movesB x [84, 70]) [] es _ h2 rfl hb hx (by unfold MapIs; rw [hp2.2 c hcl]; exact hm) (ho.pre hp2) (hp.trans hp2) ⟨hom'.slc, fun r hr => ?_⟩ ?_
      · have h1 := own_ge hom' hr
        refine ⟨by omega, fun e => ?_⟩
        have h2 := own_lt ho e
        omega
      intro o3 h3 hb3 hx3 hm3 ho3 hp3
      have hst := hb.step hx
      rw [nx_eq] at hst
      have hoq3 := ho3
      rw [hq hx3] at hoq3
      obtain ⟨r4, k4, o4, hv4, _⟩ := hoq3.slc.at hlS (pre := [])
      rw [List.nil_append] at hv4
      have hl3 := hb3.len hg hw
      have hone : (1 : Int) ≤ ((x :: (keys (addK dx es ((movesB x [84, 70]).map (mkM x)))).drop (p + 1)).length : Int) := by simp only [List.length_cons]; omega
      subst hv4
      simp (maxSteps := 1000000) (disch := first | omega | rfl | (simp only [zL, two63, room] <;> omega) | fail) only [↓reduceIte, ↓zP, zW, WOp, evOp, evBin, binI, binSh, binS, evNil, keyIs, keyEq, mkv, AV.cells, AV.sc, optv, bnd, env, put, Env.get, Env.set, Env.del, Env.dels, Env.init, res1, resL, resV, fillP, splice, newRow, Nat.reduceEqDiff, Nat.reduceLT, Nat.reduceLeDiff, Nat.reduceAdd, Nat.reduceMul, Nat.reduceSub, Nat.reduceBEq, reduceCtorEq, ↓zR, zQ, Tr, StA, StT, hone]
      rw [w_loopn (c := lp273_0) rfl]
      simp (maxSteps := 1000000) (disch := first | omega | rfl | (simp only [zL, two63, room] <;> omega) | fail) only [↓reduceIte, ↓zP, zW, WOp, evOp, evBin, binI, binSh, binS, evNil, keyIs, keyEq, mkv, AV.cells, AV.sc, optv, bnd, env, put, Env.get, Env.set, Env.del, Env.dels, Env.init, res1, resL, resV, fillP, splice, newRow, Nat.reduceEqDiff, Nat.reduceLT, Nat.reduceLeDiff, Nat.reduceAdd, Nat.reduceMul, Nat.reduceSub, Nat.reduceBEq, reduceCtorEq, ↓zR, zQ, Tr, StA, StT]
      refine ih _ _ h3 (by omega) hst hm3 ?_ hp3 hR
      have ht := own_tail (b := b) (h := h3) (r := r4) (k := k4) (off := o4) (n := ((keys (addK dx es ((movesB x [84, 70]).map (mkM x)))).drop (p + 1)).length) hoq3
      simpa using ht
theorem c_reached (w : Ln) (hg : w.all isSign = true) (hw : w.length ≤ 10) {h : AH} {post : AV → AH → Prop} (hp : ∀ c h' es, BI w es.length es → MapIs c h' es → h.length ≤ c → Pre h h' → post (.map c) h') : S 273 [.str w] h post k := by
  have p1 := Pre.push h (AO.map [(.str w, .int .i64 0)])
  have p2 := Pre.push (h ++ [AO.map [(.str w, .int .i64 0)]]) (AO.row [.str w] 0 0 false)
  have hm0 : (h ++ [AO.map []])[h.length]? = some (AO.map []) := by simp
  have hmf : mfind (.str w) [] = some none := rfl
  have hset : List.set (h ++ [AO.map []]) h.length (AO.map (mput (.str w) (.int .i64 0) [])) = h ++ [AO.map [(.str w, .int .i64 0)]] := by simp [mput]
  refine S_of rfl T273 ?_; unfold fi273
  simp (maxSteps := 1000000) (disch := first | omega | rfl | (simp only [zL, two63, room] <;> omega) | fail) only [↓reduceIte, ↓zP, zW, WOp, evOp, evBin, binI, binSh, binS, evNil, keyIs, keyEq, mkv, AV.cells, AV.sc, optv, bnd, env, put, Env.get, Env.set, Env.del, Env.dels, Env.init, res1, resL, resV, fillP, splice, newRow, Nat.reduceEqDiff, Nat.reduceLT, Nat.reduceLeDiff, Nat.reduceAdd, Nat.reduceMul, Nat.reduceSub, Nat.reduceBEq, reduceCtorEq, ↓zR, zQ, Tr, StA, StT, hm0, hmf, hset]
  refine lp_bf0 hg hw (c := h.length) (b := h) (Nat.le_refl _) 59050 0 [(w, 0)] _ _ (by omega) (BI.start w) ?_ ?_ (p1.trans p2) ?_
  · unfold MapIs
    rw [p2.2 h.length (by simp)]
    simp [encE]
  · unfold OwL Own
    exact ⟨rfl, rfl, rfl, by simp, [.str w], 0, by simp, Nat.le_refl _, rfl, rfl⟩
  intro h' es' hb hm hp'
  simp (maxSteps := 1000000) (disch := first | omega | rfl | (simp only [zL, two63, room] <;> omega) | fail) only [↓reduceIte, ↓zP, zW, WOp, evOp, evBin, binI, binSh, binS, evNil, keyIs, keyEq, mkv, AV.cells, AV.sc, optv, bnd, env, put, Env.get, Env.set, Env.del, Env.dels, Env.init, res1, resL, resV, fillP, splice, newRow, Nat.reduceEqDiff, Nat.reduceLT, Nat.reduceLeDiff, Nat.reduceAdd, Nat.reduceMul, Nat.reduceSub, Nat.reduceBEq, reduceCtorEq, ↓zR, zQ, Tr, StA, StT]
  exact hp h.length h' es' hb hm (Nat.le_refl _) hp'
end Go.Proofs.YthiafpdackiglaaDoor.Ab

/- LINES gathered from a map, whose order is not known: impl.someReached. -/
namespace Go.Proofs.YthiafpdackiglaaDoor.Ab
open Go
set_option maxRecDepth 100000
set_option maxHeartbeats 4000000

theorem toCx {c : C} {e : Env} {h : AH} {R : RP} : WC T E c e h R = Cx c e h R k k := rfl
theorem own_isrow {α : Type} {esz : Nat} {enc : α → List AV} {b h : AH} {v : AV} {L : List α} (ho : OwL esz enc b h v L) {r : Nat} (hr : rowOf v = some r) : ∃ cs k fl ro, h[r]? = some (.row cs k fl ro) := by
  unfold OwL Own at ho
  cases v <;> simp only [rowOf] at hr <;> try (cases hr; done)
  obtain ⟨_, _, _, _, cells, fl, h1, _⟩ := ho
  cases hr
  exact ⟨_, _, _, _, h1⟩
theorem own_obj {α : Type} {esz : Nat} {enc : α → List AV} {b h : AH} {v : AV} {L : List α} (ho : OwL esz enc b h v L) {c : Nat} {o o' : AO} (hc : h[c]? = some o) (hn : ∀ cs k fl ro, o ≠ .row cs k fl ro) : OwL esz enc b (h.set c o') v L := by
  refine own_row ho fun r hr => ?_
  obtain ⟨cs, k, fl, ro, h1⟩ := own_isrow ho hr
  rw [List.getElem?_set, if_neg]
  rintro rfl
  rw [hc] at h1
  exact hn _ _ _ _ (Option.some.inj h1)
theorem own_shape {α : Type} {esz : Nat} {enc : α → List AV} {b h : AH} {v : AV} {L : List α} {x : α} (ho : OwL esz enc b h v (L ++ [x])) : ∃ r k off n, v = .slice r k off n esz ∧ n = (L ++ [x]).length := by
  unfold OwL Own at ho
  cases v <;> simp only at ho <;> try (exact ho.elim)
  all_goals try (have := ho.1; simp at this; done)
  obtain ⟨rfl, h2, _⟩ := ho
  exact ⟨_, _, _, _, rfl, h2⟩
/-- What was gathered, in the order of the steps. -/
def sel (P : Ln → Nat → Bool) (es : Ds) (seen : List Nat) : List Ln := seen.filterMap fun i => match es[i]? with
  | some p => if P p.1 p.2 then some p.1 else none
  | none => none
theorem sel_snoc (P : Ln → Nat → Bool) (es : Ds) (seen : List Nat) {i : Nat} {v : Ln} {d : Nat} (h : es[i]? = some (v, d)) : sel P es (seen ++ [i]) = if P v d then sel P es seen ++ [v] else sel P es seen := by
  unfold sel
  rw [List.filterMap_append, List.filterMap_cons, List.filterMap_nil, h]
  cases hp : P v d <;> simp [hp]
theorem nodup_le : ∀ {n : Nat} {l : List Nat}, l.Nodup → (∀ i ∈ l, i < n) → l.length ≤ n
  | 0, l, _, h => by
    cases l with
    | nil => simp
    | cons a l => exact absurd (h a (by simp)) (by omega)
  | n + 1, l, hn, h => by
    by_cases hm : n ∈ l
    · have h1 := nodup_le (n := n) (l := l.erase n) (hn.erase n) fun i hi => by
        have h2 := (hn.mem_erase_iff).1 hi
        have h3 := h i h2.2
        have h4 := h2.1
        omega
      rw [List.length_erase_of_mem hm] at h1
      omega
    · have h1 := nodup_le (n := n) (l := l) hn fun i hi => by
        have h3 := h i hi
        have : i ≠ n := by rintro rfl; exact hm hi
        omega
      omega
theorem sel_mem {P : Ln → Nat → Bool} {es : Ds} {seen : List Nat} (hall : ∀ i, i < es.length → i ∈ seen) (v : Ln) : v ∈ sel P es seen ↔ ∃ d, (v, d) ∈ es ∧ P v d = true := by
  unfold sel
  rw [List.mem_filterMap]
  constructor
  · rintro ⟨i, _, hi⟩
    cases he : es[i]? with
    | none => rw [he] at hi; cases hi
    | some p =>
      rw [he] at hi
      simp only at hi
      split at hi
      · rename_i hp
        cases hi
        exact ⟨p.2, List.mem_of_getElem? he, hp⟩
      · cases hi
  · rintro ⟨d, hd, hp⟩
    obtain ⟨i, hi⟩ := List.mem_iff_getElem?.1 hd
    refine ⟨i, hall i (List.getElem?_eq_some_iff.1 hi).1, ?_⟩
    rw [hi]
    simp [hp]
theorem sel_nodup {P : Ln → Nat → Bool} {es : Ds} (hk : (keys es).Nodup) : ∀ {seen : List Nat}, seen.Nodup → (sel P es seen).Nodup
  | [], _ => by simp [sel]
  | i :: seen, h => by
    rw [List.nodup_cons] at h
    have ih := sel_nodup (P := P) hk h.2
    have e : sel P es (i :: seen) = (match es[i]? with
      | some p => if P p.1 p.2 then [p.1] else []
      | none => []) ++ sel P es seen := by
      unfold sel
      rw [List.filterMap_cons]
      cases es[i]? with
      | none => rfl
      | some p => cases hp : P p.1 p.2 <;> simp [hp]
    rw [e]
    cases he : es[i]? with
    | none => simpa using ih
    | some p =>
      simp only
      split
      · rw [List.singleton_append, List.nodup_cons]
        refine ⟨fun hm => ?_, ih⟩
        unfold sel at hm
        rw [List.mem_filterMap] at hm
        obtain ⟨j, hj, hj2⟩ := hm
        cases he2 : es[j]? with
        | none => rw [he2] at hj2; cases hj2
        | some q =>
          rw [he2] at hj2
          simp only at hj2
          split at hj2
          · have hqp := Option.some.inj hj2
            have h1 : (keys es)[i]? = some p.1 := by unfold keys; rw [List.getElem?_map, he]; rfl
            have h2 : (keys es)[j]? = some p.1 := by unfold keys; rw [List.getElem?_map, he2]; simpa using hqp
            have hi := (List.getElem?_eq_some_iff.1 h1).1
            have hj3 := (List.getElem?_eq_some_iff.1 h2).1
            have h3 : (keys es)[i] = (keys es)[j] := by
              rw [List.getElem?_eq_getElem hi] at h1
              rw [List.getElem?_eq_getElem hj3] at h2
              rw [Option.some.inj h1, Option.some.inj h2]
            have hpw := List.pairwise_iff_getElem.1 hk
            have : i = j := by
              rcases Nat.lt_trichotomy i j with hl | hl | hl
              · exact absurd h3 (hpw i j hi hj3 hl)
              · exact hl
              · exact absurd h3.symm (hpw j i hj3 hi hl)
            subst this
            exact h.1 hj
          · cases hj2
      · simpa using ih
theorem dl_some {w : Ln} (hw : w.length ≤ 10) {P : Ln → Nat → Bool} {es : Ds} {n0 : Nat} (hb : BI w n0 es) (hel : es.length ≤ 59049) {f : Nat} {cap : List AV} {b : AH} {c ci : Nat} (hci : b.length ≤ ci)
    (hS : ∀ (v : Ln) (d : Nat) (h' : AH), (v, d) ∈ es → Pre b h' → ∀ post : AV → AH → Prop, (∀ h'', Pre h' h'' → post (.bool (P v d)) h'') → S f ([.str v, .int .i64 (d : Int)] ++ cap) h' post k) {R : RP} :
    ∀ (n : Nat) (seen : List Nat) (o : AV) (h : AH), seen.length + n = es.length → seen.Nodup → (∀ i ∈ seen, i < es.length) → h[ci]? = some (.mit c (es.map encE).length seen) → h[c]? = some (.map (es.map encE)) → OwL 1 encS b h o (sel P es seen) → (o = .empS ∨ (sel P es seen ≠ [] ∧ ∃ r k off m, o = .slice r k off m 1)) → Pre b h →
    (∀ seen' o' h', seen'.Nodup → (∀ i, i < es.length → i ∈ seen') → OwL 1 encS b h' o' (sel P es seen') → (o' = .empS ∨ (sel P es seen' ≠ [] ∧ ∃ r k off m, o' = .slice r k off m 1)) → Pre b h' → R (.exit 0) [(6, o')] h') →
    dRounds (dW (WC T E) dSomeL) R (n + 1) [(1, .fn f cap), (6, o), (15, .iter ci)] h := by
  intro n
  induction n with
  | zero =>
    intro seen o h hn hnd hsl hmit hmap ho hsh hp hR
    have hall : ∀ i, i < es.length → i ∈ seen := by
      intro i hi
      apply Classical.byContradiction
      intro hns
      have := nodup_le (n := es.length) (l := i :: seen) (by rw [List.nodup_cons]; exact ⟨hns, hnd⟩) (by
        intro j hj
        rcases List.mem_cons.1 hj with rfl | hj
        · exact hi
        · exact hsl j hj)
      simp at this; omega
    unfold dRounds dSomeL
    simp only [dW, Env.dels, Env.del, Env.get, reduceCtorEq, ↓reduceIte, Nat.reduceEqDiff]
    refine ⟨ci, c, seen, es.map encE, rfl, hmit, hmap, fun i k v he hns => ?_, fun _ => ?_⟩
    · have hlt := (List.getElem?_eq_some_iff.1 he).1
      rw [List.length_map] at hlt
      exact absurd (hall i hlt) hns
    · simp only [dW, toCx, then_normal]
      simp (maxSteps := 1000000) (disch := first | omega | rfl | (simp only [zL, two63, room] <;> omega) | fail) only [↓reduceIte, ↓zP, zW, WOp, evOp, evBin, binI, binSh, binS, evNil, keyIs, keyEq, mkv, AV.cells, AV.sc, optv, bnd, env, put, Env.get, Env.set, Env.del, Env.dels, Env.init, res1, resL, resV, fillP, splice, newRow, Nat.reduceEqDiff, Nat.reduceLT, Nat.reduceLeDiff, Nat.reduceAdd, Nat.reduceMul, Nat.reduceSub, Nat.reduceBEq, reduceCtorEq, ↓zR, zQ, Tr, StA, StT]
      exact hR seen o h hnd hall ho hsh hp
  | succ n ih =>
    intro seen o h hn hnd hsl hmit hmap ho hsh hp hR
    obtain ⟨K, hK⟩ : ∃ K : RP, K = then' (fun e' h' => dRounds (dW (WC T E) dSomeL) R (n + 1) e' h') R := ⟨_, rfl⟩
    have hKn : ∀ e' h', K .normal e' h' = dRounds (dW (WC T E) dSomeL) R (n + 1) e' h' := fun e' h' => by rw [hK]; rfl
    have hKe : ∀ j e' h', K (.exit j) e' h' = R (.exit j) e' h' := fun j e' h' => by rw [hK]; rfl
    show dW (WC T E) dSomeL [(1, .fn f cap), (6, o), (15, .iter ci)] h (then' (fun e' h' => dRounds (dW (WC T E) dSomeL) R (n + 1) e' h') R)
    rw [← hK]
    clear hK
    unfold dSomeL
    simp only [dW, Env.dels, Env.del, Env.get, reduceCtorEq, ↓reduceIte, Nat.reduceEqDiff]
    refine ⟨ci, c, seen, es.map encE, rfl, hmit, hmap, fun i k v he hns => ?_, fun hall => ?_⟩
    · rw [List.getElem?_map, Option.map_eq_some_iff] at he
      obtain ⟨⟨v0, d0⟩, hv0, hkv⟩ := he
      simp only [encE, Prod.mk.injEq] at hkv
      obtain ⟨rfl, rfl⟩ := hkv
      have hlt := (List.getElem?_eq_some_iff.1 hv0).1
      have hcil := (List.getElem?_eq_some_iff.1 hmit).1
      have hne : ci ≠ c := by rintro rfl; rw [hmit] at hmap; cases hmap
      have m1 : (h.set ci (.mit c (es.map encE).length (seen ++ [i])))[ci]? = some (.mit c (es.map encE).length (seen ++ [i])) := by rw [List.getElem?_set, if_pos rfl, if_pos hcil]
      have m2 : (h.set ci (.mit c (es.map encE).length (seen ++ [i])))[c]? = some (.map (es.map encE)) := by rw [List.getElem?_set, if_neg hne]; exact hmap
      have m3 : (seen ++ [i]).getLast? = some i := by simp
      have m4 : (es.map encE)[i]? = some (.str v0, .int .i64 (d0 : Int)) := by rw [List.getElem?_map, hv0]; rfl
      have hp1 : Pre b (h.set ci (.mit c (es.map encE).length (seen ++ [i]))) := hp.set hci
      have ho1 : OwL 1 encS b (h.set ci (.mit c (es.map encE).length (seen ++ [i]))) o (sel P es seen) := own_obj ho hmit (fun _ _ _ _ => by simp)
      have hsn := sel_snoc P es seen hv0
      have hnd1 : (seen ++ [i]).Nodup := by rw [List.nodup_append]; exact ⟨hnd, by simp, fun a ha b hb => by simp at hb; subst hb; rintro rfl; exact hns ha⟩
      have hsl1 : ∀ j ∈ seen ++ [i], j < es.length := by
        intro j hj
        rcases List.mem_append.1 hj with hj | hj
        · exact hsl j hj
        · simp at hj; subst hj; exact hlt
      have hlen1 : (seen ++ [i]).length + n = es.length := by simp; omega
      simp only [dW, toCx, then_normal]
      simp (maxSteps := 1000000) (disch := first | omega | rfl | (simp only [zL, two63, room] <;> omega) | fail) only [↓reduceIte, ↓zP, zW, WOp, evOp, evBin, binI, binSh, binS, evNil, keyIs, keyEq, mkv, AV.cells, AV.sc, optv, bnd, env, put, Env.get, Env.set, Env.del, Env.dels, Env.init, res1, resL, resV, fillP, splice, newRow, Nat.reduceEqDiff, Nat.reduceLT, Nat.reduceLeDiff, Nat.reduceAdd, Nat.reduceMul, Nat.reduceSub, Nat.reduceBEq, reduceCtorEq, ↓zR, zQ, Tr, StA, StT]
      unfold dSome1
      simp only [dW, toCx]
      simp (maxSteps := 1000000) (disch := first | omega | rfl | (simp only [zL, two63, room] <;> omega) | fail) only [↓reduceIte, ↓zP, zW, WOp, evOp, evBin, binI, binSh, binS, evNil, keyIs, keyEq, mkv, AV.cells, AV.sc, optv, bnd, env, put, Env.get, Env.set, Env.del, Env.dels, Env.init, res1, resL, resV, fillP, splice, newRow, Nat.reduceEqDiff, Nat.reduceLT, Nat.reduceLeDiff, Nat.reduceAdd, Nat.reduceMul, Nat.reduceSub, Nat.reduceBEq, reduceCtorEq, ↓zR, zQ, Tr, StA, StT, m1, m2, m3, m4]
      generalize h.set ci (.mit c (es.map encE).length (seen ++ [i])) = h1 at *
      unfold dSome2
      simp only [dW, toCx]
      simp (maxSteps := 1000000) (disch := first | omega | rfl | (simp only [zL, two63, room] <;> omega) | fail) only [↓reduceIte, ↓zP, zW, WOp, evOp, evBin, binI, binSh, binS, evNil, keyIs, keyEq, mkv, AV.cells, AV.sc, optv, bnd, env, put, Env.get, Env.set, Env.del, Env.dels, Env.init, res1, resL, resV, fillP, splice, newRow, Nat.reduceEqDiff, Nat.reduceLT, Nat.reduceLeDiff, Nat.reduceAdd, Nat.reduceMul, Nat.reduceSub, Nat.reduceBEq, reduceCtorEq, ↓zR, zQ, Tr, StA, StT]
      refine hS v0 d0 h1 (List.mem_of_getElem? hv0) hp1 _ ?_
      intro h2 hp2
      have n1 : h2[ci]? = some (.mit c (es.map encE).length (seen ++ [i])) := by rw [hp2.2 ci (List.getElem?_eq_some_iff.1 m1).1]; exact m1
      have n2 : h2[c]? = some (.map (es.map encE)) := by rw [hp2.2 c (List.getElem?_eq_some_iff.1 m2).1]; exact m2
      have hsl2 : (sel P es seen).length ≤ 59049 := Nat.le_trans (Nat.le_trans (List.length_filterMap_le _ _) (by omega)) hel
      simp (maxSteps := 1000000) (disch := first | omega | rfl | (simp only [zL, two63, room] <;> omega) | fail) only [↓reduceIte, ↓zP, zW, WOp, evOp, evBin, binI, binSh, binS, evNil, keyIs, keyEq, mkv, AV.cells, AV.sc, optv, bnd, env, put, Env.get, Env.set, Env.del, Env.dels, Env.init, res1, resL, resV, fillP, splice, newRow, Nat.reduceEqDiff, Nat.reduceLT, Nat.reduceLeDiff, Nat.reduceAdd, Nat.reduceMul, Nat.reduceSub, Nat.reduceBEq, reduceCtorEq, ↓zR, zQ, Tr, StA, StT]
      unfold dSome3
      simp only [dW, toCx]
      cases e : P v0 d0
      · rw [e] at hsn
        simp only [Bool.false_eq_true, if_false] at hsn
        simp (maxSteps := 1000000) (disch := first | omega | rfl | (simp only [zL, two63, room] <;> omega) | fail) only [↓reduceIte, ↓zP, zW, WOp, evOp, evBin, binI, binSh, binS, evNil, keyIs, keyEq, mkv, AV.cells, AV.sc, optv, bnd, env, put, Env.get, Env.set, Env.del, Env.dels, Env.init, res1, resL, resV, fillP, splice, newRow, Nat.reduceEqDiff, Nat.reduceLT, Nat.reduceLeDiff, Nat.reduceAdd, Nat.reduceMul, Nat.reduceSub, Nat.reduceBEq, reduceCtorEq, ↓zR, zQ, Tr, StA, StT]
        rw [hKn]
        refine ih (seen ++ [i]) o h2 hlen1 hnd1 hsl1 n1 n2 (by rw [hsn]; exact ho1.pre hp2) (by rw [hsn]; exact hsh) (hp1.trans hp2) hR
      · rw [e] at hsn
        simp only [if_true] at hsn
        have hpx := Pre.push h2 (AO.row [.str v0] 0 0 false)
        obtain ⟨o3, h3, ha, ho3, hp3⟩ := apL hlS scS ((ho1.pre hp2).pre hpx) ((hp1.trans hp2).trans hpx) v0 (by omega)
        obtain ⟨f1, f2, f3⟩ := apRow_fr ha
        obtain ⟨r3, k3, off3, m3', hsh3, _⟩ := own_shape ho3
        have hnr : ∀ {cc : Nat} {ob : AO}, h2[cc]? = some ob → (∀ cs k fl ro, ob ≠ .row cs k fl ro) → h3[cc]? = some ob := by
          intro cc ob hcc hnr
          have hl := (List.getElem?_eq_some_iff.1 hcc).1
          rw [f1 cc (by simp; omega) (fun hrc => ?_), hpx.2 cc hl, hcc]
          obtain ⟨cs, k, fl, ro, h4⟩ := own_isrow (ho1.pre hp2) hrc
          rw [hcc] at h4
          exact hnr _ _ _ _ (Option.some.inj h4)
        simp (maxSteps := 1000000) (disch := first | omega | rfl | (simp only [zL, two63, room] <;> omega) | fail) only [↓reduceIte, ↓zP, zW, WOp, evOp, evBin, binI, binSh, binS, evNil, keyIs, keyEq, mkv, AV.cells, AV.sc, optv, bnd, env, put, Env.get, Env.set, Env.del, Env.dels, Env.init, res1, resL, resV, fillP, splice, newRow, Nat.reduceEqDiff, Nat.reduceLT, Nat.reduceLeDiff, Nat.reduceAdd, Nat.reduceMul, Nat.reduceSub, Nat.reduceBEq, reduceCtorEq, ↓zR, zQ, Tr, StA, StT, ha]
        rw [hKn]
        refine ih (seen ++ [i]) o3 h3 hlen1 hnd1 hsl1 (hnr n1 fun _ _ _ _ => by simp) (hnr n2 fun _ _ _ _ => by simp) (by rw [hsn]; exact ho3) (.inr ⟨by rw [hsn]; simp, r3, k3, off3, m3', hsh3⟩) hp3 hR
    · have hall' : ∀ i, i < es.length → i ∈ seen := fun i hi => hall i (by rw [List.length_map]; exact hi)
      simp only [dW, toCx, then_normal]
      simp (maxSteps := 1000000) (disch := first | omega | rfl | (simp only [zL, two63, room] <;> omega) | fail) only [↓reduceIte, ↓zP, zW, WOp, evOp, evBin, binI, binSh, binS, evNil, keyIs, keyEq, mkv, AV.cells, AV.sc, optv, bnd, env, put, Env.get, Env.set, Env.del, Env.dels, Env.init, res1, resL, resV, fillP, splice, newRow, Nat.reduceEqDiff, Nat.reduceLT, Nat.reduceLeDiff, Nat.reduceAdd, Nat.reduceMul, Nat.reduceSub, Nat.reduceBEq, reduceCtorEq, ↓zR, zQ, Tr, StA, StT]
      rw [hKe]
      exact hR seen o h hnd hall' ho hsh hp
end Go.Proofs.YthiafpdackiglaaDoor.Ab

/- WORDS counted by layers: the reference's side. -/
namespace Go.Proofs.YthiafpdackiglaaDoor.Ab
open Go
set_option maxRecDepth 100000
set_option maxHeartbeats 4000000

theorem Slc.get {α : Type} {esz : Nat} {enc : α → List AV} (hl : ∀ x, (enc x).length = esz) {h : AH} {v : AV} {L : List α} (hs : Slc esz enc h v L) {i : Nat} (hi : i < L.length) : ∃ c kk off, v = .slice c kk off L.length esz ∧ rdRow h c kk (off + i * esz) esz = some (enc L[i]) := by
  have hsp : L = L.take i ++ L[i] :: L.drop (i + 1) := by rw [← List.drop_eq_getElem_cons, List.take_append_drop]
  have hpl : (L.take i).length = i := by rw [List.length_take]; omega
  have hs' : Slc esz enc h v (L.take i ++ L[i] :: L.drop (i + 1)) := by rw [← hsp]; exact hs
  obtain ⟨c, kk, off, hv, hr⟩ := hs'.at hl
  rw [← hsp] at hv
  rw [hpl] at hr
  exact ⟨c, kk, off, hv, hr⟩
def SlcX {α : Type} (esz : Nat) (enc : α → List AV) (c : Nat) (h : AH) (v : AV) (L : List α) : Prop := Slc esz enc h v L ∧ ∀ r, rowOf v = some r → r ≠ c
theorem SlcX.fr {α : Type} {esz : Nat} {enc : α → List AV} {c : Nat} {h h' : AH} {v : AV} {L : List α} (hs : SlcX esz enc c h v L) (hp : PreX c h h') : SlcX esz enc c h' v L :=
  ⟨hs.1.stay fun r hr => hp.2 r (hs.1.lt hr) (hs.2 r hr), hs.2⟩
theorem Slc.x {α : Type} {esz : Nat} {enc : α → List AV} {c : Nat} {h : AH} {v : AV} {L : List α} (hs : Slc esz enc h v L) (hc : h.length ≤ c) : SlcX esz enc c h v L := ⟨hs, fun r hr => by have := hs.lt hr; omega⟩

theorem pcs_snoc (L : List Ln) (w : Ln) (p : Ln → Nat) (x : Ln) : pcs (L ++ [w]) p x = pcs L p x + (nx w).count x * p w := by simp [pcs]
theorem pcs_mono {L L' : List Ln} (w : Ln) (p : Ln → Nat) (x : Ln) : pcs (L ++ [w]) p x ≤ pcs (L ++ w :: L') p x := by simp [pcs]
theorem rep0_flat (n : Nat) : (List.replicate n [AV.int .i64 0]).flatten = (List.replicate n (0 : Int)).flatMap encI := by
  induction n with
  | zero => rfl
  | succ n ih => rw [List.replicate_succ, List.replicate_succ, List.flatten_cons, List.flatMap_cons, ih]
theorem lays_get {w : Ln} {j n : Nat} (h : j < n) : (lays w n)[j]? = some (lay w j) := by
  unfold lays; rw [List.getElem?_map, List.getElem?_range h]; rfl
theorem words_mem_len : ∀ (j : Nat) (w x : Ln), x ∈ words j w → x.length = j
  | 0, w, x, h => by simp [words] at h; subst h; rfl
  | j + 1, w, x, h => by
    unfold words at h
    rw [List.mem_append] at h
    rcases h with h | h
    all_goals
      obtain ⟨v, _, hv⟩ := List.mem_flatMap.1 h
      obtain ⟨y, hy, rfl⟩ := List.mem_map.1 hv
      rw [List.length_cons, words_mem_len j v y hy]
theorem liB_eq (w : Ln) (tf ff : Bool) : liMovesB w tf ff = movesB w (kindsS tf ff) := liMovesB_eq w tf ff
/-- One kind's part of the words. -/
def part (s : UInt8) (j : Nat) (w : Ln) : List Ln := (nextB w [s]).flatMap fun v => (words j v).map (s :: ·)
theorem words_succ (j : Nat) (w : Ln) : words (j + 1) w = part 70 j w ++ part 84 j w := rfl
end Go.Proofs.YthiafpdackiglaaDoor.Ab

/- WORDS counted by the program. -/
namespace Go.Proofs.YthiafpdackiglaaDoor.Ab
open Go
set_option maxRecDepth 100000
set_option maxHeartbeats 4000000

def oneB (w : Ln) : Bool := fewB w && ((w.count 46 : Nat) : Int) == 1
theorem fewB_iff {w : Ln} (h : fewB w = true) : w.all isSign = true ∧ 1 ≤ w.length ∧ w.length ≤ 10 := by
  simp only [fewB, goodLine, Bool.and_eq_true, decide_eq_true_eq] at h
  exact ⟨h.1.2, by omega, by omega⟩
theorem oneB_iff {w : Ln} (h : oneB w = true) : oneGap w ∧ w.length ≤ 10 := by
  simp only [oneB, Bool.and_eq_true, beq_iff_eq] at h
  obtain ⟨h1, h2⟩ := h
  obtain ⟨h3, h4, h5⟩ := fewB_iff h1
  exact ⟨⟨h3, by omega⟩, h5⟩
theorem few_eq (s : Ln) : (decide (1 ≤ (s.length : Int) ∧ (s.length : Int) ≤ 10) && s.all isSign) = fewB s := by
  unfold fewB goodLine
  rw [Bool.eq_iff_iff]
  simp only [Bool.and_eq_true, decide_eq_true_eq]
  constructor
  · rintro ⟨h1, h2⟩; exact ⟨⟨by omega, h2⟩, by omega⟩
  · rintro ⟨⟨h1, h2⟩, h3⟩; exact ⟨by omega, h2⟩
theorem e_isReachLine (s : Ln) (hs : s.length < 2 ^ 60) {h : AH} {post : AV → AH → Prop} : S 56 [.str s] h post k = post (.bool (fewB s)) h := by
  refine S_eq fun post hp => ?_
  refine S_of rfl T56 ?_; unfold fi56
  simp (maxSteps := 1000000) (disch := first | omega | rfl | (simp only [zL, two63, room] <;> omega) | fail) only [↓reduceIte, ↓zP, zW, WOp, evOp, evBin, binI, binSh, binS, evNil, keyIs, keyEq, mkv, AV.cells, AV.sc, optv, bnd, env, put, Env.get, Env.set, Env.del, Env.dels, Env.init, res1, resL, resV, fillP, splice, newRow, Nat.reduceEqDiff, Nat.reduceLT, Nat.reduceLeDiff, Nat.reduceAdd, Nat.reduceMul, Nat.reduceSub, Nat.reduceBEq, reduceCtorEq, ↓zR, zQ, Tr, StA, StT]
  refine c_isLineOf s 10 (by omega) hs ?_
  rw [few_eq]
  simp (maxSteps := 1000000) (disch := first | omega | rfl | (simp only [zL, two63, room] <;> omega) | fail) only [↓reduceIte, ↓zP, zW, WOp, evOp, evBin, binI, binSh, binS, evNil, keyIs, keyEq, mkv, AV.cells, AV.sc, optv, bnd, env, put, Env.get, Env.set, Env.del, Env.dels, Env.init, res1, resL, resV, fillP, splice, newRow, Nat.reduceEqDiff, Nat.reduceLT, Nat.reduceLeDiff, Nat.reduceAdd, Nat.reduceMul, Nat.reduceSub, Nat.reduceBEq, reduceCtorEq, ↓zR, zQ, Tr, StA, StT]
  exact hp
theorem cntb (c : UInt8) (s : Ln) : Go.Lib.countByte s c = s.count c := rfl
abbrev OfS := {p : Ln × Nat // p.1.all isSign = true}
def ofK (s : OfS) : Ln := s.1.1 ++ List.replicate s.1.2 33
def ofV (s : OfS) : AV := .int .i64 (cntP s.1.2 s.1.1 : Nat)
theorem ofK_inj (s s' : OfS) (h : ofK s = ofK s') : ofV s = ofV s' := by
  obtain ⟨⟨w, n⟩, hw⟩ := s
  obtain ⟨⟨w', n'⟩, hw'⟩ := s'
  unfold ofK at h
  simp only at h hw hw'
  have key : ∀ {w w' : Ln} {n n' : Nat}, w.all isSign = true → w'.all isSign = true → w ++ List.replicate n 33 = w' ++ List.replicate n' 33 → w = w' ∧ n = n' := by
    intro w
    induction w with
    | nil =>
      intro w' n n' _ h2 h
      cases w' with
      | nil => simpa using h
      | cons b w' =>
        simp only [List.all_cons, Bool.and_eq_true] at h2
        cases n with
        | zero => simp at h
        | succ n =>
          rw [List.replicate_succ] at h
          simp at h
          rw [← h.1] at h2
          exact absurd h2.1 (by decide)
    | cons a w ih =>
      intro w' n n' h1 h2 h
      simp only [List.all_cons, Bool.and_eq_true] at h1
      cases w' with
      | nil =>
        cases n' with
        | zero => simp at h
        | succ n' =>
          rw [List.replicate_succ] at h
          simp at h
          rw [h.1] at h1
          exact absurd h1.1 (by decide)
      | cons b w' =>
        simp only [List.all_cons, Bool.and_eq_true] at h2
        simp only [List.cons_append, List.cons.injEq] at h
        obtain ⟨e1, e2⟩ := ih h1.2 h2.2 h.2
        exact ⟨by rw [h.1, e1], e2⟩
  obtain ⟨rfl, rfl⟩ := key hw hw' h
  rfl
theorem rep33 : ∀ n : Nat, Go.Lib.repeatL [33] n = List.replicate n 33
  | 0 => rfl
  | n + 1 => by rw [Go.Lib.repeatL, rep33 n, List.replicate_succ]; rfl
theorem pow40 {j : Nat} (h : j ≤ 40) : 2 ^ j ≤ 1099511627776 := Nat.le_trans (Nat.pow_le_pow_right (by omega) h) (by decide)
end Go.Proofs.YthiafpdackiglaaDoor.Ab

/- LINES gathered from a map: what impl.someReached answers. -/
namespace Go.Proofs.YthiafpdackiglaaDoor.Ab
open Go
set_option maxRecDepth 100000
set_option maxHeartbeats 4000000

theorem S_extY {f : Nat} {xs : List AV} {h h' : AH} {post : AV → AH → Prop} {G : List AV → AH → Option (AV × AH)} {r : AV} (hEf : E f = some (fun _ xs h => G xs h)) (hG : G xs h = some (r, h')) (hp : post r h') : S f xs h post k := Spec_ext hEf 0 hG hp
theorem S_extZ {f : Nat} {xs : List AV} {h : AH} {post : AV → AH → Prop} {d : D} {q : Nat × Bool × List Ln} (hEf : E f = some (xGather d)) (hd : dW (WC T E) d (Env.init 0 xs) h (FinR h q)) (hp : post (ansR h q).1 (ansR h q).2) : S f xs h post k := by
  obtain ⟨n, hn⟩ := dW_fuel hE d (Env.init 0 xs) h (fun _ => FinR h q) (fun _ _ _ _ _ _ x => x) (dW_mono (fun c e h R R' hr ⟨n, x, e', h', h1, h2⟩ => ⟨n, x, e', h', h1, hr _ _ _ h2⟩) d _ h _ _ (fun x e' h' hx => ⟨0, hx⟩) hd)
  exact Spec_ext hEf n (xGather_at hn) hp
theorem strs_of : ∀ L : List Ln, strsOf (L.map AV.str) = some L
  | [] => rfl
  | s :: L => by rw [List.map_cons]; simp only [strsOf, strs_of L, Option.map_some]
theorem flat_strs (L : List Ln) : L.flatMap encS = L.map AV.str := by
  induction L with
  | nil => rfl
  | cons s L ih => rw [List.flatMap_cons, ih]; rfl
/-- A slice of one's own, sorted in its place. -/
theorem sort_own {b h : AH} {r kk off n : Nat} {L : List Ln} (ho : OwL 1 encS b h (.slice r kk off n 1) L) (hL : L ≠ []) (hl : L.length ≤ 59049) :
    ∃ h' cells fl, xSortS [.slice r kk off n 1] h = some (.tup [], h') ∧ b.length ≤ r ∧ h'[r]? = some (.row cells kk fl false) ∧ fl ≤ kk ∧ n = L.length ∧ off + n * 1 = cells.length ∧ cells.drop off = (L.mergeSort fun x y => decide (x ≤ y)).map AV.str ∧ h'.length = h.length ∧ ∀ i, i ≠ r → h'[i]? = h[i]? := by
  unfold OwL Own at ho
  simp only at ho
  obtain ⟨_, rfl, h3, h4, cells, fl, h5, h6, h7, h8⟩ := ho
  have hlt := (List.getElem?_eq_some_iff.1 h5).1
  rw [flat_strs] at h8
  have hn1 : 1 ≤ L.length := by
    cases L with
    | nil => exact absurd rfl hL
    | cons _ _ => simp
  have hrd : rdRow h r kk off L.length = some (L.map AV.str) := by
    unfold rdRow
    rw [h5]
    simp only
    rw [if_pos ⟨h6, Nat.le_refl _, by omega⟩, h8, List.take_of_length_le (by simp)]
  have hsl : (L.mergeSort fun x y => decide (x ≤ y)).length = L.length := List.length_mergeSort _
  have hsc : ((L.mergeSort fun x y => decide (x ≤ y)).map AV.str).all AV.sc = true := by
    rw [List.all_eq_true]
    intro x hx
    obtain ⟨s, _, rfl⟩ := List.mem_map.1 hx
    rfl
  have hw : wrRow h r kk off ((L.mergeSort fun x y => decide (x ≤ y)).map AV.str) = some (h.set r (.row (splice cells off ((L.mergeSort fun x y => decide (x ≤ y)).map AV.str)) kk kk false)) := by
    unfold wrRow
    rw [h5]
    simp only
    rw [if_pos ⟨trivial, h6, by rw [List.length_map, hsl]; omega, hsc⟩]
  have hspl : splice cells off ((L.mergeSort fun x y => decide (x ≤ y)).map AV.str) = cells.take off ++ (L.mergeSort fun x y => decide (x ≤ y)).map AV.str := by
    unfold splice
    rw [List.drop_of_length_le (by rw [List.length_map, hsl]; omega), List.append_nil]
  refine ⟨_, splice cells off ((L.mergeSort fun x y => decide (x ≤ y)).map AV.str), kk, ?_, h4, by rw [List.getElem?_set, if_pos rfl, if_pos hlt], Nat.le_refl _, rfl, ?_, ?_, by simp, fun i hi => by rw [List.getElem?_set, if_neg (Ne.symm hi)]⟩
  · unfold xSortS
    simp only
    rw [if_pos ⟨trivial, hn1, by omega⟩, hrd]
    simp only [strs_of, hw, Option.map_some]
  · rw [hspl, List.length_append, List.length_take, List.length_map, hsl]; omega
  · rw [hspl, List.drop_left' (by rw [List.length_take]; omega)]
theorem c_someReached (w : Ln) (hs : w.length < 2 ^ 60) (f : Nat) (cap : List AV) (P : Ln → Nat → Bool) (L : List Ln) {h : AH} (hL : fewB w = true → Srt L ∧ ∀ v, v ∈ L ↔ ∃ d, v ∈ lay w d ∧ P v d = true)
    (hS : fewB w = true → ∀ (v : Ln) (d : Nat) (h' : AH), v ∈ lay w d → Pre h h' → ∀ post : AV → AH → Prop, (∀ h'', Pre h' h'' → post (.bool (P v d)) h'') → S f ([.str v, .int .i64 (d : Int)] ++ cap) h' post k)
    {post : AV → AH → Prop} (hp0 : fewB w = false → post (.tup [.nilS, .bool false]) h) (hp1 : fewB w = true → ∀ v' h', OwL 1 encS h h' v' L → Pre h h' → post (.tup [v', .bool true]) h') : S 270 [.str w, .fn f cap] h post k := by
  cases e : fewB w
  · refine S_extZ (d := dSome) (q := (0, false, [])) rfl ?_ (by exact hp0 e)
    unfold dSome
    simp only [dW, toCx]
    simp (maxSteps := 1000000) (disch := first | omega | rfl | (simp only [zL, two63, room] <;> omega) | fail) only [↓reduceIte, ↓zP, zW, WOp, evOp, evBin, binI, binSh, binS, evNil, keyIs, keyEq, mkv, AV.cells, AV.sc, optv, bnd, env, put, Env.get, Env.set, Env.del, Env.dels, Env.init, res1, resL, resV, fillP, splice, newRow, Nat.reduceEqDiff, Nat.reduceLT, Nat.reduceLeDiff, Nat.reduceAdd, Nat.reduceMul, Nat.reduceSub, Nat.reduceBEq, reduceCtorEq, ↓zR, zQ, Tr, StA, StT, e_isReachLine w hs, e]
    exact ⟨rfl, rfl, fun _ _ => rfl, .inl ⟨rfl, rfl, rfl⟩⟩
  obtain ⟨hg, hw1, hw⟩ := fewB_iff e
  obtain ⟨hsrt, hmem⟩ := hL e
  have fin : ∀ (q : Nat × Bool × List Ln), dW (WC T E) dSome (Env.init 0 [.str w, .fn f cap]) h (FinR h q) → post (ansR h q).1 (ansR h q).2 → S 270 [.str w, .fn f cap] h post k := fun q a b => S_extZ (d := dSome) (q := q) rfl a b
  have main : dW (WC T E) dSome (Env.init 0 [.str w, .fn f cap]) h (FinR h (if L = [] then (1, true, []) else (2, true, L))) := by
    unfold dSome
    simp only [dW, toCx]
    simp (maxSteps := 1000000) (disch := first | omega | rfl | (simp only [zL, two63, room] <;> omega) | fail) only [↓reduceIte, ↓zP, zW, WOp, evOp, evBin, binI, binSh, binS, evNil, keyIs, keyEq, mkv, AV.cells, AV.sc, optv, bnd, env, put, Env.get, Env.set, Env.del, Env.dels, Env.init, res1, resL, resV, fillP, splice, newRow, Nat.reduceEqDiff, Nat.reduceLT, Nat.reduceLeDiff, Nat.reduceAdd, Nat.reduceMul, Nat.reduceSub, Nat.reduceBEq, reduceCtorEq, ↓zR, zQ, Tr, StA, StT, e_isReachLine w hs, e]
    unfold dSomeM
    simp only [dW, toCx]
    simp (maxSteps := 1000000) (disch := first | omega | rfl | (simp only [zL, two63, room] <;> omega) | fail) only [↓reduceIte, ↓zP, zW, WOp, evOp, evBin, binI, binSh, binS, evNil, keyIs, keyEq, mkv, AV.cells, AV.sc, optv, bnd, env, put, Env.get, Env.set, Env.del, Env.dels, Env.init, res1, resL, resV, fillP, splice, newRow, Nat.reduceEqDiff, Nat.reduceLT, Nat.reduceLeDiff, Nat.reduceAdd, Nat.reduceMul, Nat.reduceSub, Nat.reduceBEq, reduceCtorEq, ↓zR, zQ, Tr, StA, StT]
    refine c_reached w hg hw ?_
    intro c h1 es hb hm hc1 hp1'
    unfold MapIs at hm
    simp (maxSteps := 1000000) (disch := first | omega | rfl | (simp only [zL, two63, room] <;> omega) | fail) only [↓reduceIte, ↓zP, zW, WOp, evOp, evBin, binI, binSh, binS, evNil, keyIs, keyEq, mkv, AV.cells, AV.sc, optv, bnd, env, put, Env.get, Env.set, Env.del, Env.dels, Env.init, res1, resL, resV, fillP, splice, newRow, Nat.reduceEqDiff, Nat.reduceLT, Nat.reduceLeDiff, Nat.reduceAdd, Nat.reduceMul, Nat.reduceSub, Nat.reduceBEq, reduceCtorEq, ↓zR, zQ, Tr, StA, StT, hm]
    have hel := hb.len hg hw
    have hcl := (List.getElem?_eq_some_iff.1 hm).1
    have hpm := Pre.push h1 (AO.mit c (es.map encE).length [])
    have m1 : (h1 ++ [AO.mit c (es.map encE).length []])[h1.length]? = some (.mit c (es.map encE).length []) := by simp
    have m2 : (h1 ++ [AO.mit c (es.map encE).length []])[c]? = some (.map (es.map encE)) := by rw [hpm.2 c hcl]; exact hm
    refine ⟨es.length + 1, dl_some hw (P := P) hb hel (f := f) (cap := cap) (b := h) (c := c) (ci := h1.length) hp1'.1 (fun v d h' hvd hq po hpo => hS e v d h' (hb.ly v d hvd) hq po hpo) es.length [] .empS _ (by simp) List.nodup_nil (by simp) m1 m2 OwL.emp (.inl rfl) (hp1'.trans hpm) ?_⟩
    intro seen o h3 hnd hall ho hsh hp3
    have hsel : (sel P es seen).mergeSort (fun x y => decide (x ≤ y)) = L := sort_eq (sel_nodup hb.nd hnd) hsrt fun v => by
      rw [sel_mem hall, hmem]
      constructor
      · rintro ⟨d, h1, h2⟩; exact ⟨d, (hb.mem v d).1 h1, h2⟩
      · rintro ⟨d, h1, h2⟩; exact ⟨d, (hb.mem v d).2 h1, h2⟩
    simp only [inBlk, ↓reduceIte, then_normal]
    unfold dSomeT
    simp only [dW, toCx]
    rcases hsh with rfl | ⟨hne, r, kk, off, n, rfl⟩
    · have hnil : sel P es seen = [] := by
        unfold OwL Own at ho
        exact List.eq_nil_of_length_eq_zero ho.1
      rw [hnil] at hsel
      have hLn : L = [] := by rw [← hsel]; simp
      rw [if_pos hLn]
      simp (maxSteps := 1000000) (disch := first | omega | rfl | (simp only [zL, two63, room] <;> omega) | fail) only [↓reduceIte, ↓zP, zW, WOp, evOp, evBin, binI, binSh, binS, evNil, keyIs, keyEq, mkv, AV.cells, AV.sc, optv, bnd, env, put, Env.get, Env.set, Env.del, Env.dels, Env.init, res1, resL, resV, fillP, splice, newRow, Nat.reduceEqDiff, Nat.reduceLT, Nat.reduceLeDiff, Nat.reduceAdd, Nat.reduceMul, Nat.reduceSub, Nat.reduceBEq, reduceCtorEq, ↓zR, zQ, Tr, StA, StT]
      refine S_extY (G := xSortS) rfl (r := .tup []) (h' := h3) rfl ?_
      simp (maxSteps := 1000000) (disch := first | omega | rfl | (simp only [zL, two63, room] <;> omega) | fail) only [↓reduceIte, ↓zP, zW, WOp, evOp, evBin, binI, binSh, binS, evNil, keyIs, keyEq, mkv, AV.cells, AV.sc, optv, bnd, env, put, Env.get, Env.set, Env.del, Env.dels, Env.init, res1, resL, resV, fillP, splice, newRow, Nat.reduceEqDiff, Nat.reduceLT, Nat.reduceLeDiff, Nat.reduceAdd, Nat.reduceMul, Nat.reduceSub, Nat.reduceBEq, reduceCtorEq, ↓zR, zQ, Tr, StA, StT]
      exact ⟨rfl, rfl, hp3.2, .inr (.inl ⟨rfl, rfl, rfl⟩)⟩
    · have hlen : (sel P es seen).length ≤ 59049 := by
        have h1 := List.length_filterMap_le (fun i => match es[i]? with
          | some p => if P p.1 p.2 then some p.1 else none
          | none => none) seen
        have h2 := nodup_le hnd (n := es.length)
        have : ∀ i ∈ seen, i < es.length ∨ es.length ≤ i := fun i _ => Nat.lt_or_ge i es.length
        have h3 : (sel P es seen).length ≤ es.length := by
          have hk : (sel P es seen).Nodup := sel_nodup hb.nd hnd
          have hsub : ∀ v ∈ sel P es seen, v ∈ keys es := fun v hv => by
            obtain ⟨d, hd, _⟩ := (sel_mem hall v).1 hv
            exact mem_keys.2 ⟨d, hd⟩
          have := hk.length_le_of_subset (fun v hv => hsub v hv)
          rwa [keys_len] at this
        omega
      have hLn : L ≠ [] := by
        intro hL0
        have := List.length_mergeSort (le := fun x y => decide (x ≤ y)) (sel P es seen)
        rw [hsel, hL0] at this
        exact hne (List.eq_nil_of_length_eq_zero this.symm)
      rw [if_neg hLn]
      obtain ⟨h4, cells, fl, hx, g1, g2, g3, g4, g5, g6, g7, g8⟩ := sort_own ho hne hlen
      rw [hsel] at g6
      have hll : L.length = (sel P es seen).length := by rw [← hsel]; exact List.length_mergeSort _
      simp (maxSteps := 1000000) (disch := first | omega | rfl | (simp only [zL, two63, room] <;> omega) | fail) only [↓reduceIte, ↓zP, zW, WOp, evOp, evBin, binI, binSh, binS, evNil, keyIs, keyEq, mkv, AV.cells, AV.sc, optv, bnd, env, put, Env.get, Env.set, Env.del, Env.dels, Env.init, res1, resL, resV, fillP, splice, newRow, Nat.reduceEqDiff, Nat.reduceLT, Nat.reduceLeDiff, Nat.reduceAdd, Nat.reduceMul, Nat.reduceSub, Nat.reduceBEq, reduceCtorEq, ↓zR, zQ, Tr, StA, StT]
      refine S_extY (G := xSortS) rfl hx ?_
      simp (maxSteps := 1000000) (disch := first | omega | rfl | (simp only [zL, two63, room] <;> omega) | fail) only [↓reduceIte, ↓zP, zW, WOp, evOp, evBin, binI, binSh, binS, evNil, keyIs, keyEq, mkv, AV.cells, AV.sc, optv, bnd, env, put, Env.get, Env.set, Env.del, Env.dels, Env.init, res1, resL, resV, fillP, splice, newRow, Nat.reduceEqDiff, Nat.reduceLT, Nat.reduceLeDiff, Nat.reduceAdd, Nat.reduceMul, Nat.reduceSub, Nat.reduceBEq, reduceCtorEq, ↓zR, zQ, Tr, StA, StT]
      refine ⟨rfl, rfl, fun i hi => ?_, .inr (.inr ⟨rfl, r, kk, off, n, cells, fl, rfl, g1, g2, g3, by rw [g4]; exact hll.symm, ?_, g5, g6⟩)⟩
      · rw [g8 i (by omega)]; exact hp3.2 i hi
      · rw [g4, ← hll]
        cases L with
        | nil => exact absurd rfl hLn
        | cons _ _ => simp
  by_cases hLn : L = []
  · rw [if_pos hLn] at main
    exact fin _ main (hp1 e .empS h (by rw [hLn]; exact OwL.emp) (Pre.refl _))
  · rw [if_neg hLn] at main
    refine fin _ main ?_
    show post (.tup [.slice h.length 0 0 L.length 1, .bool true]) (h ++ [.row (L.map AV.str) 0 0 false])
    refine hp1 e _ _ ?_ (Pre.push _ _)
    unfold OwL Own
    refine ⟨rfl, rfl, (flat_len hlS L).symm, Nat.le_refl _, L.map AV.str, 0, by simp, Nat.le_refl _, by rw [List.length_map]; omega, ?_⟩
    rw [List.drop_zero, flat_strs]
end Go.Proofs.YthiafpdackiglaaDoor.Ab

/- MARKS on texts; the law of Solutions. -/
namespace Go.Proofs.YthiafpdackiglaaDoor.Ab
open Go
set_option maxRecDepth 100000
set_option maxHeartbeats 4000000

theorem lp_eqSS {v u : AV} {L M : List (List UInt8)} (hlen : L.length < 2 ^ 40) {h : AH} (hs : Slc 1 encS h v L) (ht : Slc 1 encS h u M) (hll : L.length = M.length) {R : X → Env → AH → Prop} : ∀ (rest rest' pre pre' : List (List UInt8)), L = pre ++ rest → M = pre' ++ rest' → pre.length = pre'.length →
    ((rest == rest') = true → R (.exit 0) [] h) → ((rest == rest') = false → R .ret [(4, .bool false)] h) → Cx (.loop lp48_0) [(0, v), (1, u), (5, .int .i64 pre.length)] h R k k
  | [], rest', pre, pre', hL, hM, hpp, h1, h2 => by
    have : rest' = [] := by
      have e1 := congrArg List.length hL
      have e2 := congrArg List.length hM
      simp at e1 e2
      exact List.eq_nil_of_length_eq_zero (by omega)
    subst this
    rw [w_loopb (c := lp48_0) (d := lb48_0) rfl]; unfold lb48_0
    have hv := fun g => Slc.lenV (hs) (g := g) (ρ := fun _ => _) (x := .t 0) rfl; simp only [evOp] at hv
    have hl : L.length = pre.length := by rw [hL]; simp
    simp (maxSteps := 1000000) (disch := first | omega | rfl | (simp only [zL, two63, room] <;> omega) | fail) only [↓reduceIte, ↓zP, zW, WOp, evOp, evBin, binI, binSh, binS, evNil, keyIs, keyEq, mkv, AV.cells, AV.sc, optv, bnd, env, put, Env.get, Env.set, Env.del, Env.dels, Env.init, res1, resL, resV, fillP, splice, newRow, Nat.reduceEqDiff, Nat.reduceLT, Nat.reduceLeDiff, Nat.reduceAdd, Nat.reduceMul, Nat.reduceSub, Nat.reduceBEq, reduceCtorEq, ↓zR, zQ, Tr, StA, StT, hv, hl]
    exact h1 rfl
  | x :: rest, [], pre, pre', hL, hM, hpp, h1, h2 => by
    have e1 := congrArg List.length hL
    have e2 := congrArg List.length hM
    simp at e1 e2
    omega
  | x :: rest, y :: rest', pre, pre', hL, hM, hpp, h1, h2 => by
    have ih := lp_eqSS hlen hs ht hll (R := R) rest rest' (pre ++ [x]) (pre' ++ [y])
    have hv := fun g => Slc.lenV (hs) (g := g) (ρ := fun _ => _) (x := .t 0) rfl; simp only [evOp] at hv
    have hl : L.length = pre.length + 1 + rest.length := by rw [hL]; simp; omega
    have hm : M.length = pre.length + 1 + rest'.length := by rw [hM, hpp]; simp; omega
    have hs' := hs
    have ht' := ht
    rw [hL] at hs'
    rw [hM] at ht'
    obtain ⟨r1, k1, o1, hve, hr⟩ := hs'.at hlS
    obtain ⟨r2, k2, o2, hue, hr2⟩ := ht'.at hlS
    rw [← hL, hl] at hve
    rw [← hM, hm] at hue
    rw [← hpp] at hr2
    subst hve
    subst hue
    have hlt : (pre.length : Int) < ((pre.length + 1 + rest.length : Nat) : Int) := by omega
    have hlt2 : (pre.length : Int) < ((pre.length + 1 + rest'.length : Nat) : Int) := by omega
    have hw1 : (pre.length : Int) + 1 = ((pre ++ [x]).length : Int) := by simp
    rw [w_loopb (c := lp48_0) (d := lb48_0) rfl]; unfold lb48_0
    cases e : (x == y)
    · have en : (x != y) = true := by simp only [bne, e]; rfl
      simp (maxSteps := 1000000) (disch := first | omega | rfl | (simp only [zL, two63, room] <;> omega) | fail) only [↓reduceIte, ↓zP, zW, WOp, evOp, evBin, binI, binSh, binS, evNil, keyIs, keyEq, mkv, AV.cells, AV.sc, optv, bnd, env, put, Env.get, Env.set, Env.del, Env.dels, Env.init, res1, resL, resV, fillP, splice, newRow, Nat.reduceEqDiff, Nat.reduceLT, Nat.reduceLeDiff, Nat.reduceAdd, Nat.reduceMul, Nat.reduceSub, Nat.reduceBEq, reduceCtorEq, ↓zR, zQ, Tr, StA, StT, hlt, hlt2, hr, hr2, en, e]
      exact h2 (by rw [beq_cc, e]; rfl)
    · have en : (x != y) = false := by simp only [bne, e]; rfl
      simp (maxSteps := 1000000) (disch := first | omega | rfl | (simp only [zL, two63, room] <;> omega) | fail) only [↓reduceIte, ↓zP, zW, WOp, evOp, evBin, binI, binSh, binS, evNil, keyIs, keyEq, mkv, AV.cells, AV.sc, optv, bnd, env, put, Env.get, Env.set, Env.del, Env.dels, Env.init, res1, resL, resV, fillP, splice, newRow, Nat.reduceEqDiff, Nat.reduceLT, Nat.reduceLeDiff, Nat.reduceAdd, Nat.reduceMul, Nat.reduceSub, Nat.reduceBEq, reduceCtorEq, ↓zR, zQ, Tr, StA, StT, hlt, hlt2, hr, hr2, en, e]
      simp (maxSteps := 1000000) (disch := first | omega | rfl | (simp only [zL, two63, room] <;> omega) | fail) only [↓reduceIte, ↓zP, zW, WOp, evOp, evBin, binI, binSh, binS, evNil, keyIs, keyEq, mkv, AV.cells, AV.sc, optv, bnd, env, put, Env.get, Env.set, Env.del, Env.dels, Env.init, res1, resL, resV, fillP, splice, newRow, Nat.reduceEqDiff, Nat.reduceLT, Nat.reduceLeDiff, Nat.reduceAdd, Nat.reduceMul, Nat.reduceSub, Nat.reduceBEq, reduceCtorEq, ↓zR, zQ, Tr, StA, StT, hw1]
      rw [w_loopn (c := lp48_0) rfl]
      simp (maxSteps := 1000000) (disch := first | omega | rfl | (simp only [zL, two63, room] <;> omega) | fail) only [↓reduceIte, ↓zP, zW, WOp, evOp, evBin, binI, binSh, binS, evNil, keyIs, keyEq, mkv, AV.cells, AV.sc, optv, bnd, env, put, Env.get, Env.set, Env.del, Env.dels, Env.init, res1, resL, resV, fillP, splice, newRow, Nat.reduceEqDiff, Nat.reduceLT, Nat.reduceLeDiff, Nat.reduceAdd, Nat.reduceMul, Nat.reduceSub, Nat.reduceBEq, reduceCtorEq, ↓zR, zQ, Tr, StA, StT]
      exact ih (by rw [hL]; simp) (by rw [hM]; simp) (by simp [hpp]) (fun q => h1 (by rw [beq_cc, e, q]; rfl)) (fun q => h2 (by rw [beq_cc, e, q]; rfl))
theorem c_eqSS {v u : AV} {L M : List (List UInt8)} (hlen : L.length < 2 ^ 40) {h : AH} (hs : Slc 1 encS h v L) (ht : Slc 1 encS h u M) {post : AV → AH → Prop} (hp : post (.bool (L == M)) h) : S 48 [v, u] h post k := by
  refine S_of rfl T48 ?_; unfold fi48
  have hv := fun g => Slc.lenV (hs) (g := g) (ρ := fun _ => _) (x := .t 0) rfl; simp only [evOp] at hv
  have hu := fun g => Slc.lenV (ht) (g := g) (ρ := fun _ => _) (x := .t 0) rfl; simp only [evOp] at hu
  by_cases hl : L.length = M.length
  · simp (maxSteps := 1000000) (disch := first | omega | rfl | (simp only [zL, two63, room] <;> omega) | fail) only [↓reduceIte, ↓zP, zW, WOp, evOp, evBin, binI, binSh, binS, evNil, keyIs, keyEq, mkv, AV.cells, AV.sc, optv, bnd, env, put, Env.get, Env.set, Env.del, Env.dels, Env.init, res1, resL, resV, fillP, splice, newRow, Nat.reduceEqDiff, Nat.reduceLT, Nat.reduceLeDiff, Nat.reduceAdd, Nat.reduceMul, Nat.reduceSub, Nat.reduceBEq, reduceCtorEq, ↓zR, zQ, Tr, StA, StT, hv, hu, hl]
    refine lp_eqSS hlen hs ht hl L M [] [] rfl rfl rfl ?_ ?_
    · intro e
      simp (maxSteps := 1000000) (disch := first | omega | rfl | (simp only [zL, two63, room] <;> omega) | fail) only [↓reduceIte, ↓zP, zW, WOp, evOp, evBin, binI, binSh, binS, evNil, keyIs, keyEq, mkv, AV.cells, AV.sc, optv, bnd, env, put, Env.get, Env.set, Env.del, Env.dels, Env.init, res1, resL, resV, fillP, splice, newRow, Nat.reduceEqDiff, Nat.reduceLT, Nat.reduceLeDiff, Nat.reduceAdd, Nat.reduceMul, Nat.reduceSub, Nat.reduceBEq, reduceCtorEq, ↓zR, zQ, Tr, StA, StT]
      exact e ▸ hp
    · intro e
      simp (maxSteps := 1000000) (disch := first | omega | rfl | (simp only [zL, two63, room] <;> omega) | fail) only [↓reduceIte, ↓zP, zW, WOp, evOp, evBin, binI, binSh, binS, evNil, keyIs, keyEq, mkv, AV.cells, AV.sc, optv, bnd, env, put, Env.get, Env.set, Env.del, Env.dels, Env.init, res1, resL, resV, fillP, splice, newRow, Nat.reduceEqDiff, Nat.reduceLT, Nat.reduceLeDiff, Nat.reduceAdd, Nat.reduceMul, Nat.reduceSub, Nat.reduceBEq, reduceCtorEq, ↓zR, zQ, Tr, StA, StT]
      exact e ▸ hp
  · have hne : ((L.length : Int) != (M.length : Int)) = true := by simp; omega
    simp (maxSteps := 1000000) (disch := first | omega | rfl | (simp only [zL, two63, room] <;> omega) | fail) only [↓reduceIte, ↓zP, zW, WOp, evOp, evBin, binI, binSh, binS, evNil, keyIs, keyEq, mkv, AV.cells, AV.sc, optv, bnd, env, put, Env.get, Env.set, Env.del, Env.dels, Env.init, res1, resL, resV, fillP, splice, newRow, Nat.reduceEqDiff, Nat.reduceLT, Nat.reduceLeDiff, Nat.reduceAdd, Nat.reduceMul, Nat.reduceSub, Nat.reduceBEq, reduceCtorEq, ↓zR, zQ, Tr, StA, StT, hv, hu, hne]
    have : (L == M) = false := by
      rw [beq_eq_false_iff_ne]; rintro rfl; exact hl rfl
    exact this ▸ hp

/-! ### The text of a mark -/
def mdig (k : Nat) (out : List UInt8) : List UInt8 := if h : k = 0 then out else mdig (k / 10) (UInt8.ofNat (48 + k % 10) :: out)
termination_by k
decreasing_by omega
def mtxt (q : Nat) : List UInt8 := 109 :: mdig q []
theorem wrap_d : ∀ d, d < 10 → IntKind.u8.wrap (48 + ((d : Nat) : Int)) = ((UInt8.ofNat (48 + d)).toNat : Int) := by decide
theorem lp_markText {b : AH} {R : X → Env → AH → Prop} : ∀ (d k : Nat) (out : List UInt8) (h : AH), k ≤ d → out.length + k < 2 ^ 35 → Pre b h →
    (∀ h', Pre b h' → (mdig k out).length < 2 ^ 35 → R (.exit 0) [(3, .str (mdig k out))] h') → Cx (.loop lp98_0) [(0, .int .i64 (k : Nat)), (3, .str out)] h R Ab.k Ab.k
  | d, 0, out, h, hd, hb, hp, hR => by
    rw [mdig] at hR
    have hz : ¬ (((0 : Nat) : Int) > 0) := by omega
    rw [w_loopb (c := lp98_0) (d := lb98_0) rfl]; unfold lb98_0
    simp (maxSteps := 1000000) (disch := first | omega | rfl | (simp only [zL, two63, room] <;> omega) | fail) only [↓reduceIte, ↓zP, zW, WOp, evOp, evBin, binI, binSh, binS, evNil, keyIs, keyEq, mkv, AV.cells, AV.sc, optv, bnd, env, put, Env.get, Env.set, Env.del, Env.dels, Env.init, res1, resL, resV, fillP, splice, newRow, Nat.reduceEqDiff, Nat.reduceLT, Nat.reduceLeDiff, Nat.reduceAdd, Nat.reduceMul, Nat.reduceSub, Nat.reduceBEq, reduceCtorEq, ↓zR, zQ, Tr, StA, StT, hz]
    exact hR h hp (by simp; omega)
  | 0, k + 1, out, h, hd, hb, hp, hR => by omega
  | d + 1, k + 1, out, h, hd, hb, hp, hR => by
    have ih := lp_markText (b := b) (R := R) d ((k + 1) / 10) (UInt8.ofNat (48 + (k + 1) % 10) :: out)
    rw [mdig] at hR
    rw [dif_neg (by omega)] at hR
    generalize hk : k + 1 = n at *
    have hz : ((n : Nat) : Int) > 0 := by omega
    have hm : ((n : Nat) : Int).tmod 10 = ((n % 10 : Nat) : Int) := by rw [Int.tmod_eq_emod_of_nonneg (by omega)]; omega
    have hq : ((n : Nat) : Int).tdiv 10 = ((n / 10 : Nat) : Int) := by rw [Int.tdiv_eq_ediv_of_nonneg (by omega)]; omega
    have hwd := wrap_d (n % 10) (by omega)
    have hw1 : IntKind.i64.wrap (48 + ((n % 10 : Nat) : Int)) = 48 + ((n % 10 : Nat) : Int) := wrap_i (by omega)
    have hw2 : IntKind.i64.wrap ((n / 10 : Nat) : Int) = ((n / 10 : Nat) : Int) := wrap_i (by omega)
    generalize UInt8.ofNat (48 + n % 10) = c at *
    have hbl : bytesL [AV.int .u8 (c.toNat : Int)] = some [c] := bytesL_map [c]
    rw [w_loopb (c := lp98_0) (d := lb98_0) rfl]; unfold lb98_0
    have h10 : ¬ ((10 : Int) = 0) := by decide
    simp (maxSteps := 1000000) (disch := first | omega | rfl | (simp only [zL, two63, room] <;> omega) | fail) only [↓reduceIte, ↓zP, zW, WOp, evOp, evBin, binI, binSh, binS, evNil, keyIs, keyEq, mkv, AV.cells, AV.sc, optv, bnd, env, put, Env.get, Env.set, Env.del, Env.dels, Env.init, res1, resL, resV, fillP, splice, newRow, Nat.reduceEqDiff, Nat.reduceLT, Nat.reduceLeDiff, Nat.reduceAdd, Nat.reduceMul, Nat.reduceSub, Nat.reduceBEq, reduceCtorEq, ↓zR, zQ, Tr, StA, StT, hz, hm, hq, hw1, hwd, hw2, hbl, h10]
    rw [w_loopn (c := lp98_0) rfl]
    simp (maxSteps := 1000000) (disch := first | omega | rfl | (simp only [zL, two63, room] <;> omega) | fail) only [↓reduceIte, ↓zP, zW, WOp, evOp, evBin, binI, binSh, binS, evNil, keyIs, keyEq, mkv, AV.cells, AV.sc, optv, bnd, env, put, Env.get, Env.set, Env.del, Env.dels, Env.init, res1, resL, resV, fillP, splice, newRow, Nat.reduceEqDiff, Nat.reduceLT, Nat.reduceLeDiff, Nat.reduceAdd, Nat.reduceMul, Nat.reduceSub, Nat.reduceBEq, reduceCtorEq, ↓zR, zQ, Tr, StA, StT]
    exact ih _ (by omega) (by simp; omega) (hp.trans (Pre.push _ _)) hR
theorem c_markText (q : Nat) (hq : 1 ≤ q ∧ q < 2 ^ 34) {h : AH} {post : AV → AH → Prop} (hp : ∀ h', Pre h h' → post (.str (mtxt q)) h') : S 98 [.int .i64 q] h post k := by
  have hz : ¬ ((q : Int) ≤ 0) := by omega
  refine S_of rfl T98 ?_; unfold fi98
  simp (maxSteps := 1000000) (disch := first | omega | rfl | (simp only [zL, two63, room] <;> omega) | fail) only [↓reduceIte, ↓zP, zW, WOp, evOp, evBin, binI, binSh, binS, evNil, keyIs, keyEq, mkv, AV.cells, AV.sc, optv, bnd, env, put, Env.get, Env.set, Env.del, Env.dels, Env.init, res1, resL, resV, fillP, splice, newRow, Nat.reduceEqDiff, Nat.reduceLT, Nat.reduceLeDiff, Nat.reduceAdd, Nat.reduceMul, Nat.reduceSub, Nat.reduceBEq, reduceCtorEq, ↓zR, zQ, Tr, StA, StT, hz]
  refine lp_markText (b := h) q q [] h (Nat.le_refl _) (by simp; omega) (Pre.refl _) ?_
  intro h' hp' hl
  simp (maxSteps := 1000000) (disch := first | omega | rfl | (simp only [zL, two63, room] <;> omega) | fail) only [↓reduceIte, ↓zP, zW, WOp, evOp, evBin, binI, binSh, binS, evNil, keyIs, keyEq, mkv, AV.cells, AV.sc, optv, bnd, env, put, Env.get, Env.set, Env.del, Env.dels, Env.init, res1, resL, resV, fillP, splice, newRow, Nat.reduceEqDiff, Nat.reduceLT, Nat.reduceLeDiff, Nat.reduceAdd, Nat.reduceMul, Nat.reduceSub, Nat.reduceBEq, reduceCtorEq, ↓zR, zQ, Tr, StA, StT]
  exact hp h' hp'
def mtL : Nat → Nat → List (List UInt8)
  | _, 0 => []
  | q, n + 1 => mtxt q :: mtL (q + 1) n
theorem mtL_len : ∀ (n q : Nat), (mtL q n).length = n
  | 0, _ => rfl
  | n + 1, q => by simp [mtL, mtL_len n]
theorem lp_markStringS {b : AH} {v : AV} {R : X → Env → AH → Prop} : ∀ (rest pre : List (List UInt8)) (q : Nat) (h : AH), OwW 1 encS b h v (pre ++ rest) → pre.length + rest.length < 2 ^ 30 → 1 ≤ q → q + rest.length < 2 ^ 33 →
    (∀ h', OwW 1 encS b h' v (pre ++ mtL q rest.length) → PreV v h h' → R (.exit 0) [(1, .int .i64 ((q + rest.length : Nat) : Int))] h') → Cx (.loop lp50_0) [(0, v), (1, .int .i64 q), (5, .int .i64 pre.length)] h R k k
  | [], pre, q, h, ho, hb, h0, hq, hR => by
    rw [w_loopb (c := lp50_0) (d := lb50_0) rfl]; unfold lb50_0
    have hv := fun g => Slc.lenV ((ho.slc hlS)) (g := g) (ρ := fun _ => _) (x := .t 0) rfl; simp only [evOp] at hv
    simp only [List.append_nil] at hv
    simp (maxSteps := 1000000) (disch := first | omega | rfl | (simp only [zL, two63, room] <;> omega) | fail) only [↓reduceIte, ↓zP, zW, WOp, evOp, evBin, binI, binSh, binS, evNil, keyIs, keyEq, mkv, AV.cells, AV.sc, optv, bnd, env, put, Env.get, Env.set, Env.del, Env.dels, Env.init, res1, resL, resV, fillP, splice, newRow, Nat.reduceEqDiff, Nat.reduceLT, Nat.reduceLeDiff, Nat.reduceAdd, Nat.reduceMul, Nat.reduceSub, Nat.reduceBEq, reduceCtorEq, ↓zR, zQ, Tr, StA, StT, hv]
    have := hR h ho (PreV.refl _ _)
    simpa using this
  | x :: rest, pre, q, h, ho, hb, h0, hq, hR => by
    have ih := lp_markStringS (b := b) (v := v) (R := R) rest (pre ++ [mtxt q]) (q + 1)
    have hl : (pre ++ x :: rest).length = pre.length + 1 + rest.length := by simp; omega
    have hv := fun g => Slc.lenV ((ho.slc hlS)) (g := g) (ρ := fun _ => _) (x := .t 0) rfl; simp only [evOp] at hv
    obtain ⟨c, kk, off, hve, _⟩ := (ho.slc hlS).at hlS
    rw [hl] at hve hv
    subst hve
    simp only [List.length_cons] at hb hq
    have hlt : (pre.length : Int) < ((pre.length + 1 + rest.length : Nat) : Int) := by omega
    have hw1 : (pre.length : Int) + 1 = ((pre ++ [mtxt q]).length : Int) := by simp
    have hw2 : (q : Int) + 1 = ((q + 1 : Nat) : Int) := by omega
    rw [w_loopb (c := lp50_0) (d := lb50_0) rfl]; unfold lb50_0
    simp (maxSteps := 1000000) (disch := first | omega | rfl | (simp only [zL, two63, room] <;> omega) | fail) only [↓reduceIte, ↓zP, zW, WOp, evOp, evBin, binI, binSh, binS, evNil, keyIs, keyEq, mkv, AV.cells, AV.sc, optv, bnd, env, put, Env.get, Env.set, Env.del, Env.dels, Env.init, res1, resL, resV, fillP, splice, newRow, Nat.reduceEqDiff, Nat.reduceLT, Nat.reduceLeDiff, Nat.reduceAdd, Nat.reduceMul, Nat.reduceSub, Nat.reduceBEq, reduceCtorEq, ↓zR, zQ, Tr, StA, StT, hv, hlt]
    refine c_markText q ⟨h0, by omega⟩ ?_
    intro h1 hp1
    obtain ⟨c', kk', off', h', hve, hw, ho', hpv⟩ := (ho.pre hp1).store hlS (mtxt q) 0 [.str (mtxt q)] (by simp) rfl rfl
    simp only [AV.slice.injEq] at hve
    obtain ⟨rfl, rfl, rfl, -⟩ := hve
    rw [Nat.add_zero] at hw
    simp (maxSteps := 1000000) (disch := first | omega | rfl | (simp only [zL, two63, room] <;> omega) | fail) only [↓reduceIte, ↓zP, zW, WOp, evOp, evBin, binI, binSh, binS, evNil, keyIs, keyEq, mkv, AV.cells, AV.sc, optv, bnd, env, put, Env.get, Env.set, Env.del, Env.dels, Env.init, res1, resL, resV, fillP, splice, newRow, Nat.reduceEqDiff, Nat.reduceLT, Nat.reduceLeDiff, Nat.reduceAdd, Nat.reduceMul, Nat.reduceSub, Nat.reduceBEq, reduceCtorEq, ↓zR, zQ, Tr, StA, StT, hw, hlt]
    simp (maxSteps := 1000000) (disch := first | omega | rfl | (simp only [zL, two63, room] <;> omega) | fail) only [↓reduceIte, ↓zP, zW, WOp, evOp, evBin, binI, binSh, binS, evNil, keyIs, keyEq, mkv, AV.cells, AV.sc, optv, bnd, env, put, Env.get, Env.set, Env.del, Env.dels, Env.init, res1, resL, resV, fillP, splice, newRow, Nat.reduceEqDiff, Nat.reduceLT, Nat.reduceLeDiff, Nat.reduceAdd, Nat.reduceMul, Nat.reduceSub, Nat.reduceBEq, reduceCtorEq, ↓zR, zQ, Tr, StA, StT, hw1, hw2]
    rw [w_loopn (c := lp50_0) rfl]
    simp (maxSteps := 1000000) (disch := first | omega | rfl | (simp only [zL, two63, room] <;> omega) | fail) only [↓reduceIte, ↓zP, zW, WOp, evOp, evBin, binI, binSh, binS, evNil, keyIs, keyEq, mkv, AV.cells, AV.sc, optv, bnd, env, put, Env.get, Env.set, Env.del, Env.dels, Env.init, res1, resL, resV, fillP, splice, newRow, Nat.reduceEqDiff, Nat.reduceLT, Nat.reduceLeDiff, Nat.reduceAdd, Nat.reduceMul, Nat.reduceSub, Nat.reduceBEq, reduceCtorEq, ↓zR, zQ, Tr, StA, StT]
    refine ih h' (by simpa using ho') (by simp; omega) (by omega) (by omega) ?_
    intro h2 ho2 hpv2
    have := hR h2 (by simpa [mtL] using ho2) (((hp1.v _).trans hpv).trans hpv2)
    rw [show q + (x :: rest).length = q + 1 + rest.length by simp; omega] at this
    exact this
theorem c_markStringS {b h : AH} {v : AV} {L : List (List UInt8)} (ho : OwW 1 encS b h v L) (q : Nat) (hL : L.length < 2 ^ 30) (hq : 1 ≤ q ∧ q < 2 ^ 30) {post : AV → AH → Prop} (hp : ∀ h', OwW 1 encS b h' v (mtL q L.length) → PreV v h h' → post (.int .i64 ((q + L.length : Nat) : Int)) h') : S 50 [v, .int .i64 q] h post k := by
  refine S_of rfl T50 ?_; unfold fi50
  simp (maxSteps := 1000000) (disch := first | omega | rfl | (simp only [zL, two63, room] <;> omega) | fail) only [↓reduceIte, ↓zP, zW, WOp, evOp, evBin, binI, binSh, binS, evNil, keyIs, keyEq, mkv, AV.cells, AV.sc, optv, bnd, env, put, Env.get, Env.set, Env.del, Env.dels, Env.init, res1, resL, resV, fillP, splice, newRow, Nat.reduceEqDiff, Nat.reduceLT, Nat.reduceLeDiff, Nat.reduceAdd, Nat.reduceMul, Nat.reduceSub, Nat.reduceBEq, reduceCtorEq, ↓zR, zQ, Tr, StA, StT]
  refine lp_markStringS (b := b) L [] q h ho (by simpa using hL) hq.1 (by omega) ?_
  intro h' ho' hpv
  simp (maxSteps := 1000000) (disch := first | omega | rfl | (simp only [zL, two63, room] <;> omega) | fail) only [↓reduceIte, ↓zP, zW, WOp, evOp, evBin, binI, binSh, binS, evNil, keyIs, keyEq, mkv, AV.cells, AV.sc, optv, bnd, env, put, Env.get, Env.set, Env.del, Env.dels, Env.init, res1, resL, resV, fillP, splice, newRow, Nat.reduceEqDiff, Nat.reduceLT, Nat.reduceLeDiff, Nat.reduceAdd, Nat.reduceMul, Nat.reduceSub, Nat.reduceBEq, reduceCtorEq, ↓zR, zQ, Tr, StA, StT]
  exact hp h' ho' hpv
theorem lp_heldStringS {v : AV} {b : AH} {n : Nat} (hn : n < 2 ^ 30) {R : X → Env → AH → Prop} : ∀ (d : Nat) (pre : List (List UInt8)) (q : Nat) (h : AH), Slc 1 encS h v (pre ++ mtL q d) → pre.length + d = n → 1 ≤ q → q + d < 2 ^ 33 → Pre b h →
    (∀ h', Pre b h' → R (.exit 0) [(1, .int .i64 ((q + d : Nat) : Int))] h') → Cx (.loop lp47_0) [(0, v), (1, .int .i64 q), (5, .int .i64 pre.length)] h R k k
  | 0, pre, q, h, hs, hd, h0, hq, hp, hR => by
    rw [w_loopb (c := lp47_0) (d := lb47_0) rfl]; unfold lb47_0
    have hv := fun g => Slc.lenV (hs) (g := g) (ρ := fun _ => _) (x := .t 0) rfl; simp only [evOp] at hv
    simp only [mtL, List.append_nil] at hv
    simp (maxSteps := 1000000) (disch := first | omega | rfl | (simp only [zL, two63, room] <;> omega) | fail) only [↓reduceIte, ↓zP, zW, WOp, evOp, evBin, binI, binSh, binS, evNil, keyIs, keyEq, mkv, AV.cells, AV.sc, optv, bnd, env, put, Env.get, Env.set, Env.del, Env.dels, Env.init, res1, resL, resV, fillP, splice, newRow, Nat.reduceEqDiff, Nat.reduceLT, Nat.reduceLeDiff, Nat.reduceAdd, Nat.reduceMul, Nat.reduceSub, Nat.reduceBEq, reduceCtorEq, ↓zR, zQ, Tr, StA, StT, hv]
    simpa using hR h hp
  | d + 1, pre, q, h, hs, hd, h0, hq, hp, hR => by
    have ih := lp_heldStringS (v := v) (b := b) hn (R := R) d (pre ++ [mtxt q]) (q + 1)
    have hv := fun g => Slc.lenV (hs) (g := g) (ρ := fun _ => _) (x := .t 0) rfl; simp only [evOp] at hv
    simp only [mtL] at hs hv
    have hl : (pre ++ mtxt q :: mtL (q + 1) d).length = pre.length + 1 + d := by simp [mtL_len]; omega
    obtain ⟨c, kk, off, hve, hr⟩ := hs.at hlS
    rw [hl] at hve hv
    subst hve
    have hlt : (pre.length : Int) < ((pre.length + 1 + d : Nat) : Int) := by omega
    have hw1 : (pre.length : Int) + 1 = ((pre ++ [mtxt q]).length : Int) := by simp
    have hw2 : (q : Int) + 1 = ((q + 1 : Nat) : Int) := by omega
    rw [w_loopb (c := lp47_0) (d := lb47_0) rfl]; unfold lb47_0
    simp (maxSteps := 1000000) (disch := first | omega | rfl | (simp only [zL, two63, room] <;> omega) | fail) only [↓reduceIte, ↓zP, zW, WOp, evOp, evBin, binI, binSh, binS, evNil, keyIs, keyEq, mkv, AV.cells, AV.sc, optv, bnd, env, put, Env.get, Env.set, Env.del, Env.dels, Env.init, res1, resL, resV, fillP, splice, newRow, Nat.reduceEqDiff, Nat.reduceLT, Nat.reduceLeDiff, Nat.reduceAdd, Nat.reduceMul, Nat.reduceSub, Nat.reduceBEq, reduceCtorEq, ↓zR, zQ, Tr, StA, StT, hv, hlt]
    refine w_drw ?_
    simp (maxSteps := 1000000) (disch := first | omega | rfl | (simp only [zL, two63, room] <;> omega) | fail) only [↓reduceIte, ↓zP, zW, WOp, evOp, evBin, binI, binSh, binS, evNil, keyIs, keyEq, mkv, AV.cells, AV.sc, optv, bnd, env, put, Env.get, Env.set, Env.del, Env.dels, Env.init, res1, resL, resV, fillP, splice, newRow, Nat.reduceEqDiff, Nat.reduceLT, Nat.reduceLeDiff, Nat.reduceAdd, Nat.reduceMul, Nat.reduceSub, Nat.reduceBEq, reduceCtorEq, ↓zR, zQ, Tr, StA, StT, hr, hlt]
    refine c_markText q ⟨h0, by omega⟩ ?_
    intro h1 hp1
    have hr1 := rdRow_pre hp1 hr
    simp (maxSteps := 1000000) (disch := first | omega | rfl | (simp only [zL, two63, room] <;> omega) | fail) only [↓reduceIte, ↓zP, zW, WOp, evOp, evBin, binI, binSh, binS, evNil, keyIs, keyEq, mkv, AV.cells, AV.sc, optv, bnd, env, put, Env.get, Env.set, Env.del, Env.dels, Env.init, res1, resL, resV, fillP, splice, newRow, Nat.reduceEqDiff, Nat.reduceLT, Nat.reduceLeDiff, Nat.reduceAdd, Nat.reduceMul, Nat.reduceSub, Nat.reduceBEq, reduceCtorEq, ↓zR, zQ, Tr, StA, StT, hr, hr1, hlt, bne_self_eq_false]
    simp (maxSteps := 1000000) (disch := first | omega | rfl | (simp only [zL, two63, room] <;> omega) | fail) only [↓reduceIte, ↓zP, zW, WOp, evOp, evBin, binI, binSh, binS, evNil, keyIs, keyEq, mkv, AV.cells, AV.sc, optv, bnd, env, put, Env.get, Env.set, Env.del, Env.dels, Env.init, res1, resL, resV, fillP, splice, newRow, Nat.reduceEqDiff, Nat.reduceLT, Nat.reduceLeDiff, Nat.reduceAdd, Nat.reduceMul, Nat.reduceSub, Nat.reduceBEq, reduceCtorEq, ↓zR, zQ, Tr, StA, StT, hw1, hw2]
    rw [w_loopn (c := lp47_0) rfl]
    simp (maxSteps := 1000000) (disch := first | omega | rfl | (simp only [zL, two63, room] <;> omega) | fail) only [↓reduceIte, ↓zP, zW, WOp, evOp, evBin, binI, binSh, binS, evNil, keyIs, keyEq, mkv, AV.cells, AV.sc, optv, bnd, env, put, Env.get, Env.set, Env.del, Env.dels, Env.init, res1, resL, resV, fillP, splice, newRow, Nat.reduceEqDiff, Nat.reduceLT, Nat.reduceLeDiff, Nat.reduceAdd, Nat.reduceMul, Nat.reduceSub, Nat.reduceBEq, reduceCtorEq, ↓zR, zQ, Tr, StA, StT]
    refine ih h1 (by simpa using hs.pre hp1) (by simp; omega) (by omega) (by omega) (hp.trans hp1) ?_
    rw [show q + 1 + d = q + (d + 1) by omega]
    exact hR
theorem c_heldStringS {h : AH} {v : AV} (q : Nat) (n : Nat) (hn : n < 2 ^ 30) (hq : 1 ≤ q ∧ q < 2 ^ 30) (hs : Slc 1 encS h v (mtL q n)) {post : AV → AH → Prop} (hp : ∀ h', Pre h h' → post (.int .i64 ((q + n : Nat) : Int)) h') : S 47 [v, .int .i64 q] h post k := by
  refine S_of rfl T47 ?_; unfold fi47
  simp (maxSteps := 1000000) (disch := first | omega | rfl | (simp only [zL, two63, room] <;> omega) | fail) only [↓reduceIte, ↓zP, zW, WOp, evOp, evBin, binI, binSh, binS, evNil, keyIs, keyEq, mkv, AV.cells, AV.sc, optv, bnd, env, put, Env.get, Env.set, Env.del, Env.dels, Env.init, res1, resL, resV, fillP, splice, newRow, Nat.reduceEqDiff, Nat.reduceLT, Nat.reduceLeDiff, Nat.reduceAdd, Nat.reduceMul, Nat.reduceSub, Nat.reduceBEq, reduceCtorEq, ↓zR, zQ, Tr, StA, StT]
  refine lp_heldStringS (b := h) hn n [] q h hs (by simp) hq.1 (by omega) (Pre.refl _) ?_
  intro h' hp'
  simp (maxSteps := 1000000) (disch := first | omega | rfl | (simp only [zL, two63, room] <;> omega) | fail) only [↓reduceIte, ↓zP, zW, WOp, evOp, evBin, binI, binSh, binS, evNil, keyIs, keyEq, mkv, AV.cells, AV.sc, optv, bnd, env, put, Env.get, Env.set, Env.del, Env.dels, Env.init, res1, resL, resV, fillP, splice, newRow, Nat.reduceEqDiff, Nat.reduceLT, Nat.reduceLeDiff, Nat.reduceAdd, Nat.reduceMul, Nat.reduceSub, Nat.reduceBEq, reduceCtorEq, ↓zR, zQ, Tr, StA, StT]
  exact hp h' hp'

theorem solP_len (n : Int) (cs : List Clu) : (solP n cs).length ≤ 243 := by
  unfold solP
  cases e : goodP n cs
  · simp
  · obtain ⟨m, rfl, m1, m5, _⟩ := goodP_iff e
    have h1 := List.length_filter_le (fun w => cs.all fun c => fitB c w) (allL m)
    have h2 := allL_length m
    have h3 : 3 ^ m ≤ 3 ^ 5 := Nat.pow_le_pow_right (by omega) m5
    have h4 : (solN (m : Int) cs).length ≤ (allL m).length := h1
    simp only [if_true]
    omega
end Go.Proofs.YthiafpdackiglaaDoor.Ab

/- REACHING: all lines that are reached, dead ends, lines after so many moves: both sides and the laws. -/
namespace Go.Proofs.YthiafpdackiglaaDoor.Ab
open Go
set_option maxRecDepth 100000
set_option maxHeartbeats 4000000

def reachL (w : Ln) : List Ln := allS (lays w (mu w + 1)) []
theorem reach_mem (w v : Ln) : v ∈ reachL w ↔ ∃ d, v ∈ lay w d := by
  unfold reachL
  rw [allS_mem]
  constructor
  · rintro (⟨l, hl, hv⟩ | h)
    · unfold lays at hl
      obtain ⟨d, _, rfl⟩ := List.mem_map.1 hl
      exact ⟨d, hv⟩
    · simp at h
  · rintro ⟨d, hd⟩
    have := lay_mu w d v hd
    exact .inl ⟨lay w d, List.mem_map.2 ⟨d, List.mem_range.2 (by omega), rfl⟩, hd⟩
theorem reach_srt (w : Ln) : Srt (reachL w) := allS_srt _ List.Pairwise.nil
theorem reach_eq {w : Ln} {N : Nat} (h : lay w (N + 1) = []) : allS (lays w (N + 1)) [] = reachL w := by
  refine Srt.ext (allS_srt _ List.Pairwise.nil) (reach_srt w) fun v => ?_
  rw [reach_mem, allS_mem]
  constructor
  · rintro (⟨l, hl, hv⟩ | h)
    · unfold lays at hl
      obtain ⟨d, _, rfl⟩ := List.mem_map.1 hl
      exact ⟨d, hv⟩
    · simp at h
  · rintro ⟨d, hd⟩
    have hlt : d < N + 1 := by
      apply Classical.byContradiction
      intro hn
      have := lay_empty w h (d - (N + 1))
      rw [show N + 1 + (d - (N + 1)) = d by omega] at this
      rw [this] at hd; simp at hd
    exact .inl ⟨lay w d, List.mem_map.2 ⟨d, List.mem_range.2 hlt, rfl⟩, hd⟩
theorem reach_good {w : Ln} (hg : w.all isSign = true) : GoodL w.length (reachL w) := ⟨reach_srt w, fun x hx => by
  obtain ⟨d, hd⟩ := (reach_mem w x).1 hx
  exact (lay_good hg d).2 x hd⟩
theorem lp_reAll1 {n : Nat} (hn : n ≤ 10) {vl t9 t10 t11 : AV} {l : List Ln} (hl : GoodL n l) {h0 : AH} (hsl : Slc 1 encS h0 vl l) {R : X → Env → AH → Prop} :
    ∀ (rest pre : List Ln) (A : List Ln) (v : AV) (h : AH), l = pre ++ rest → GoodL n A → Slc 1 encS h v A → Pre h0 h →
    (∀ v' h', Slc 1 encS h' v' (addS rest A) → Pre h0 h' → R (.exit 2) [(3, v'), (9, t9), (10, t10), (11, t11)] h') →
    Cx (.loop lp268_1) [(3, v), (9, t9), (10, t10), (11, t11), (15, vl), (16, .int .i64 l.length), (17, .int .i64 pre.length)] h R k k
  | [], pre, A, v, h, hpre, hA, hs, hp, hR => by
    have hll : l.length = pre.length := by rw [hpre]; simp
    rw [w_loopb (c := lp268_1) (d := lb268_1) rfl]; unfold lb268_1
    rw [hll]
    simp (maxSteps := 1000000) (disch := first | omega | rfl | (simp only [zL, two63, room] <;> omega) | fail) only [↓reduceIte, ↓zP, zW, WOp, evOp, evBin, binI, binSh, binS, evNil, keyIs, keyEq, mkv, AV.cells, AV.sc, optv, bnd, env, put, Env.get, Env.set, Env.del, Env.dels, Env.init, res1, resL, resV, fillP, splice, newRow, Nat.reduceEqDiff, Nat.reduceLT, Nat.reduceLeDiff, Nat.reduceAdd, Nat.reduceMul, Nat.reduceSub, Nat.reduceBEq, reduceCtorEq, ↓zR, zQ, Tr, StA, StT]
    exact hR v h hs hp
  | x :: rest, pre, A, v, h, hpre, hA, hs, hp, hR => by
    have ih := lp_reAll1 hn hl hsl (t9 := t9) (t10 := t10) (t11 := t11) (R := R) rest (pre ++ [x])
    have hml : l.length = pre.length + 1 + rest.length := by rw [hpre]; simp; omega
    have hbd := hl.len hn
    have hsl' := hsl.pre hp
    rw [hpre] at hsl'
    obtain ⟨r1, k1, o1, hv1, hr⟩ := hsl'.at hlS
    rw [← hpre, hml] at hv1
    subst hv1
    rw [hml] at ih ⊢
    have hlt : (pre.length : Int) < ((pre.length + 1 + rest.length : Nat) : Int) := by omega
    have hw1 : (pre.length : Int) + 1 = ((pre ++ [x]).length : Int) := by simp
    rw [w_loopb (c := lp268_1) (d := lb268_1) rfl]; unfold lb268_1
    simp (maxSteps := 1000000) (disch := first | omega | rfl | (simp only [zL, two63, room] <;> omega) | fail) only [↓reduceIte, ↓zP, zW, WOp, evOp, evBin, binI, binSh, binS, evNil, keyIs, keyEq, mkv, AV.cells, AV.sc, optv, bnd, env, put, Env.get, Env.set, Env.del, Env.dels, Env.init, res1, resL, resV, fillP, splice, newRow, Nat.reduceEqDiff, Nat.reduceLT, Nat.reduceLeDiff, Nat.reduceAdd, Nat.reduceMul, Nat.reduceSub, Nat.reduceBEq, reduceCtorEq, ↓zR, zQ, Tr, StA, StT, hlt, hr]
    refine c_reAdd x hs hA.1 (by have := hA.len hn; omega) ?_
    intro v2 h2 hs2 _ hp2
    simp (maxSteps := 1000000) (disch := first | omega | rfl | (simp only [zL, two63, room] <;> omega) | fail) only [↓reduceIte, ↓zP, zW, WOp, evOp, evBin, binI, binSh, binS, evNil, keyIs, keyEq, mkv, AV.cells, AV.sc, optv, bnd, env, put, Env.get, Env.set, Env.del, Env.dels, Env.init, res1, resL, resV, fillP, splice, newRow, Nat.reduceEqDiff, Nat.reduceLT, Nat.reduceLeDiff, Nat.reduceAdd, Nat.reduceMul, Nat.reduceSub, Nat.reduceBEq, reduceCtorEq, ↓zR, zQ, Tr, StA, StT, hw1]
    rw [w_loopn (c := lp268_1) rfl]
    simp (maxSteps := 1000000) (disch := first | omega | rfl | (simp only [zL, two63, room] <;> omega) | fail) only [↓reduceIte, ↓zP, zW, WOp, evOp, evBin, binI, binSh, binS, evNil, keyIs, keyEq, mkv, AV.cells, AV.sc, optv, bnd, env, put, Env.get, Env.set, Env.del, Env.dels, Env.init, res1, resL, resV, fillP, splice, newRow, Nat.reduceEqDiff, Nat.reduceLT, Nat.reduceLeDiff, Nat.reduceAdd, Nat.reduceMul, Nat.reduceSub, Nat.reduceBEq, reduceCtorEq, ↓zR, zQ, Tr, StA, StT]
    exact ih (insS x A) v2 h2 (by rw [hpre]; simp) (hA.ins (hl.2 x (by rw [hpre]; simp))) hs2 (hp.trans hp2) hR
theorem lp_reAll0 {w : Ln} (hg : w.all isSign = true) (hw : w.length ≤ 10) {N : Nat} (hN : N ≤ 100) {h0 : AH} {o : AV} {vs : List SV} (ho : Slc 1 encV h0 o vs) (hll : LL h0 o vs (lays w (N + 1))) {R : X → Env → AH → Prop} :
    ∀ (d j : Nat) (A : List Ln) (v : AV) (h : AH), j + d = N + 1 → GoodL w.length A → Slc 1 encS h v A → Pre h0 h →
    (∀ v' h', Slc 1 encS h' v' (allS ((List.range' j d).map (lay w)) A) → Pre h0 h' → R (.exit 0) [(3, v')] h') →
    Cx (.loop lp268_0) [(3, v), (9, o), (10, .int .i64 ((N + 1 : Nat) : Int)), (11, .int .i64 j)] h R k k
  | 0, j, A, v, h, hj, hA, hs, hp, hR => by
    obtain rfl : j = N + 1 := by omega
    rw [w_loopb (c := lp268_0) (d := lb268_0) rfl]; unfold lb268_0
    simp (maxSteps := 1000000) (disch := first | omega | rfl | (simp only [zL, two63, room] <;> omega) | fail) only [↓reduceIte, ↓zP, zW, WOp, evOp, evBin, binI, binSh, binS, evNil, keyIs, keyEq, mkv, AV.cells, AV.sc, optv, bnd, env, put, Env.get, Env.set, Env.del, Env.dels, Env.init, res1, resL, resV, fillP, splice, newRow, Nat.reduceEqDiff, Nat.reduceLT, Nat.reduceLeDiff, Nat.reduceAdd, Nat.reduceMul, Nat.reduceSub, Nat.reduceBEq, reduceCtorEq, ↓zR, zQ, Tr, StA, StT]
    exact hR v h hs hp
  | d + 1, j, A, v, h, hj, hA, hs, hp, hR => by
    have ih := lp_reAll0 hg hw hN ho hll (R := R) d (j + 1)
    have hvl : vs.length = N + 1 := by have := hll.1; simpa [lays] using this
    obtain ⟨c, kk, off, hov, hr1⟩ := (ho.pre hp).get hlV (i := j) (by omega)
    have hr1' : rdRow h c kk (off + j * 1) 1 = some [vs[j].1] := hr1
    have hs1 := ((hll.2 j (vs[j]) (lay w j) (by simp) (lays_get (by omega))).1).pre hp
    have hgl := lay_good hg j
    have hlt : (j : Int) < ((N + 1 : Nat) : Int) := by omega
    have hw1 : (j : Int) + 1 = ((j + 1 : Nat) : Int) := by omega
    have hlo : (j : Int) < (vs.length : Int) := by omega
    have hv1 := fun g => Slc.lenV (hs1) (g := g) (ρ := fun _ => _) (x := .t 0) rfl; simp only [evOp] at hv1
    subst hov
    rw [hvl] at *
    rw [w_loopb (c := lp268_0) (d := lb268_0) rfl]; unfold lb268_0
    simp (maxSteps := 1000000) (disch := first | omega | rfl | (simp only [zL, two63, room] <;> omega) | fail) only [↓reduceIte, ↓zP, zW, WOp, evOp, evBin, binI, binSh, binS, evNil, keyIs, keyEq, mkv, AV.cells, AV.sc, optv, bnd, env, put, Env.get, Env.set, Env.del, Env.dels, Env.init, res1, resL, resV, fillP, splice, newRow, Nat.reduceEqDiff, Nat.reduceLT, Nat.reduceLeDiff, Nat.reduceAdd, Nat.reduceMul, Nat.reduceSub, Nat.reduceBEq, reduceCtorEq, ↓zR, zQ, Tr, StA, StT, hlt, hr1', hv1]
    refine lp_reAll1 hw hgl hs1 (lay w j) [] A v h rfl hA hs (Pre.refl _) ?_
    intro v2 h2 hs2 hp2
    simp (maxSteps := 1000000) (disch := first | omega | rfl | (simp only [zL, two63, room] <;> omega) | fail) only [↓reduceIte, ↓zP, zW, WOp, evOp, evBin, binI, binSh, binS, evNil, keyIs, keyEq, mkv, AV.cells, AV.sc, optv, bnd, env, put, Env.get, Env.set, Env.del, Env.dels, Env.init, res1, resL, resV, fillP, splice, newRow, Nat.reduceEqDiff, Nat.reduceLT, Nat.reduceLeDiff, Nat.reduceAdd, Nat.reduceMul, Nat.reduceSub, Nat.reduceBEq, reduceCtorEq, ↓zR, zQ, Tr, StA, StT, hw1]
    rw [w_loopn (c := lp268_0) rfl]
    simp (maxSteps := 1000000) (disch := first | omega | rfl | (simp only [zL, two63, room] <;> omega) | fail) only [↓reduceIte, ↓zP, zW, WOp, evOp, evBin, binI, binSh, binS, evNil, keyIs, keyEq, mkv, AV.cells, AV.sc, optv, bnd, env, put, Env.get, Env.set, Env.del, Env.dels, Env.init, res1, resL, resV, fillP, splice, newRow, Nat.reduceEqDiff, Nat.reduceLT, Nat.reduceLeDiff, Nat.reduceAdd, Nat.reduceMul, Nat.reduceSub, Nat.reduceBEq, reduceCtorEq, ↓zR, zQ, Tr, StA, StT]
    refine ih (addS (lay w j) A) v2 h2 (by omega) (hA.add fun x hx => hgl.2 x hx) hs2 (hp.trans hp2) ?_
    intro v' h' hs' hp'
    refine hR v' h' ?_ hp'
    rw [List.range'_succ, List.map_cons]
    exact hs'
theorem c_reAll (w : Ln) (hg : w.all isSign = true) (hw : w.length ≤ 10) {h : AH} {post : AV → AH → Prop} (hp : ∀ v' h', Slc 1 encS h' v' (reachL w) → Pre h h' → post v' h') : S 268 [.str w] h post k := by
  refine S_of rfl T268 ?_; unfold fi268
  simp (maxSteps := 1000000) (disch := first | omega | rfl | (simp only [zL, two63, room] <;> omega) | fail) only [↓reduceIte, ↓zP, zW, WOp, evOp, evBin, binI, binSh, binS, evNil, keyIs, keyEq, mkv, AV.cells, AV.sc, optv, bnd, env, put, Env.get, Env.set, Env.del, Env.dels, Env.init, res1, resL, resV, fillP, splice, newRow, Nat.reduceEqDiff, Nat.reduceLT, Nat.reduceLeDiff, Nat.reduceAdd, Nat.reduceMul, Nat.reduceSub, Nat.reduceBEq, reduceCtorEq, ↓zR, zQ, Tr, StA, StT]
  refine c_reLayers w hg hw ?_
  intro o h2 vs N hend hN ho hll hp2
  have hvl : vs.length = N + 1 := by have := hll.1; simpa [lays] using this
  have hv := fun g => Slc.lenV (ho.slc) (g := g) (ρ := fun _ => _) (x := .t 0) rfl; simp only [evOp] at hv
  rw [hvl] at hv
  simp (maxSteps := 1000000) (disch := first | omega | rfl | (simp only [zL, two63, room] <;> omega) | fail) only [↓reduceIte, ↓zP, zW, WOp, evOp, evBin, binI, binSh, binS, evNil, keyIs, keyEq, mkv, AV.cells, AV.sc, optv, bnd, env, put, Env.get, Env.set, Env.del, Env.dels, Env.init, res1, resL, resV, fillP, splice, newRow, Nat.reduceEqDiff, Nat.reduceLT, Nat.reduceLeDiff, Nat.reduceAdd, Nat.reduceMul, Nat.reduceSub, Nat.reduceBEq, reduceCtorEq, ↓zR, zQ, Tr, StA, StT, hv]
  refine lp_reAll0 hg hw hN ho.slc hll (N + 1) 0 [] .nilS h2 (by omega) GoodL.nil (OwL.nil (h0 := h2)).slc (Pre.refl _) ?_
  intro v' h' hs' hp'
  rw [← List.range_eq_range', show (List.range (N + 1)).map (lay w) = lays w (N + 1) from rfl, reach_eq hend] at hs'
  simp (maxSteps := 1000000) (disch := first | omega | rfl | (simp only [zL, two63, room] <;> omega) | fail) only [↓reduceIte, ↓zP, zW, WOp, evOp, evBin, binI, binSh, binS, evNil, keyIs, keyEq, mkv, AV.cells, AV.sc, optv, bnd, env, put, Env.get, Env.set, Env.del, Env.dels, Env.init, res1, resL, resV, fillP, splice, newRow, Nat.reduceEqDiff, Nat.reduceLT, Nat.reduceLeDiff, Nat.reduceAdd, Nat.reduceMul, Nat.reduceSub, Nat.reduceBEq, reduceCtorEq, ↓zR, zQ, Tr, StA, StT]
  exact hp v' h' hs' (hp2.trans hp')
def rfL (w : Ln) : List Ln := if fewB w then reachL w else []
theorem rf_len (w : Ln) : (rfL w).length ≤ 59049 := by
  unfold rfL
  split
  · rename_i h
    obtain ⟨h1, _, h3⟩ := fewB_iff h
    exact (reach_good h1).len h3
  · simp
theorem c_sReachedFrom (w : Ln) (hs : w.length < 2 ^ 60) {h : AH} {post : AV → AH → Prop} (hp : ∀ v' h', Slc 1 encS h' v' (rfL w) → Pre h h' → post (.tup [v', .bool (fewB w)]) h') : S 263 [.str w] h post k := by
  unfold rfL at hp
  refine S_of rfl T263 ?_; unfold fi263
  simp (maxSteps := 1000000) (disch := first | omega | rfl | (simp only [zL, two63, room] <;> omega) | fail) only [↓reduceIte, ↓zP, zW, WOp, evOp, evBin, binI, binSh, binS, evNil, keyIs, keyEq, mkv, AV.cells, AV.sc, optv, bnd, env, put, Env.get, Env.set, Env.del, Env.dels, Env.init, res1, resL, resV, fillP, splice, newRow, Nat.reduceEqDiff, Nat.reduceLT, Nat.reduceLeDiff, Nat.reduceAdd, Nat.reduceMul, Nat.reduceSub, Nat.reduceBEq, reduceCtorEq, ↓zR, zQ, Tr, StA, StT, e_reFew w hs]
  cases e : fewB w
  · rw [e] at hp
    simp (maxSteps := 1000000) (disch := first | omega | rfl | (simp only [zL, two63, room] <;> omega) | fail) only [↓reduceIte, ↓zP, zW, WOp, evOp, evBin, binI, binSh, binS, evNil, keyIs, keyEq, mkv, AV.cells, AV.sc, optv, bnd, env, put, Env.get, Env.set, Env.del, Env.dels, Env.init, res1, resL, resV, fillP, splice, newRow, Nat.reduceEqDiff, Nat.reduceLT, Nat.reduceLeDiff, Nat.reduceAdd, Nat.reduceMul, Nat.reduceSub, Nat.reduceBEq, reduceCtorEq, ↓zR, zQ, Tr, StA, StT]
    exact hp .nilS h (OwL.nil (h0 := h)).slc (Pre.refl _)
  · rw [e] at hp
    obtain ⟨h1, _, h3⟩ := fewB_iff e
    simp (maxSteps := 1000000) (disch := first | omega | rfl | (simp only [zL, two63, room] <;> omega) | fail) only [↓reduceIte, ↓zP, zW, WOp, evOp, evBin, binI, binSh, binS, evNil, keyIs, keyEq, mkv, AV.cells, AV.sc, optv, bnd, env, put, Env.get, Env.set, Env.del, Env.dels, Env.init, res1, resL, resV, fillP, splice, newRow, Nat.reduceEqDiff, Nat.reduceLT, Nat.reduceLeDiff, Nat.reduceAdd, Nat.reduceMul, Nat.reduceSub, Nat.reduceBEq, reduceCtorEq, ↓zR, zQ, Tr, StA, StT]
    refine c_reAll w h1 h3 ?_
    intro v' h' hs' hp'
    simp (maxSteps := 1000000) (disch := first | omega | rfl | (simp only [zL, two63, room] <;> omega) | fail) only [↓reduceIte, ↓zP, zW, WOp, evOp, evBin, binI, binSh, binS, evNil, keyIs, keyEq, mkv, AV.cells, AV.sc, optv, bnd, env, put, Env.get, Env.set, Env.del, Env.dels, Env.init, res1, resL, resV, fillP, splice, newRow, Nat.reduceEqDiff, Nat.reduceLT, Nat.reduceLeDiff, Nat.reduceAdd, Nat.reduceMul, Nat.reduceSub, Nat.reduceBEq, reduceCtorEq, ↓zR, zQ, Tr, StA, StT]
    exact hp v' h' hs' hp'
theorem c_ReachedFrom (w : Ln) (hs : w.length < 2 ^ 60) {h : AH} {post : AV → AH → Prop} (hp : ∀ v' h', OwL 1 encS h h' v' (rfL w) → Pre h h' → post (.tup [v', .bool (fewB w)]) h') : S 264 [.str w] h post k := by
  unfold rfL at hp
  refine S_of rfl T264 ?_; unfold fi264
  simp (maxSteps := 1000000) (disch := first | omega | rfl | (simp only [zL, two63, room] <;> omega) | fail) only [↓reduceIte, ↓zP, zW, WOp, evOp, evBin, binI, binSh, binS, evNil, keyIs, keyEq, mkv, AV.cells, AV.sc, optv, bnd, env, put, Env.get, Env.set, Env.del, Env.dels, Env.init, res1, resL, resV, fillP, splice, newRow, Nat.reduceEqDiff, Nat.reduceLT, Nat.reduceLeDiff, Nat.reduceAdd, Nat.reduceMul, Nat.reduceSub, Nat.reduceBEq, reduceCtorEq, ↓zR, zQ, Tr, StA, StT]
  refine c_someReached w hs 271 [] (fun _ _ => true) (reachL w) (fun e => ⟨reach_srt w, fun v => by rw [reach_mem]; simp⟩) (fun e v d h' _ _ po hpo => ?_) (fun e => ?_) fun e v' h' ho hp' => ?_
  · refine S_of rfl T271 ?_; unfold fi271
    simp (maxSteps := 1000000) (disch := first | omega | rfl | (simp only [zL, two63, room] <;> omega) | fail) only [↓reduceIte, ↓zP, zW, WOp, evOp, evBin, binI, binSh, binS, evNil, keyIs, keyEq, mkv, AV.cells, AV.sc, optv, bnd, env, put, Env.get, Env.set, Env.del, Env.dels, Env.init, res1, resL, resV, fillP, splice, newRow, Nat.reduceEqDiff, Nat.reduceLT, Nat.reduceLeDiff, Nat.reduceAdd, Nat.reduceMul, Nat.reduceSub, Nat.reduceBEq, reduceCtorEq, ↓zR, zQ, Tr, StA, StT]
    exact hpo h' (Pre.refl _)
  · rw [e] at hp
    simp (maxSteps := 1000000) (disch := first | omega | rfl | (simp only [zL, two63, room] <;> omega) | fail) only [↓reduceIte, ↓zP, zW, WOp, evOp, evBin, binI, binSh, binS, evNil, keyIs, keyEq, mkv, AV.cells, AV.sc, optv, bnd, env, put, Env.get, Env.set, Env.del, Env.dels, Env.init, res1, resL, resV, fillP, splice, newRow, Nat.reduceEqDiff, Nat.reduceLT, Nat.reduceLeDiff, Nat.reduceAdd, Nat.reduceMul, Nat.reduceSub, Nat.reduceBEq, reduceCtorEq, ↓zR, zQ, Tr, StA, StT]
    exact hp .nilS h OwL.nil (Pre.refl _)
  · rw [e] at hp
    simp (maxSteps := 1000000) (disch := first | omega | rfl | (simp only [zL, two63, room] <;> omega) | fail) only [↓reduceIte, ↓zP, zW, WOp, evOp, evBin, binI, binSh, binS, evNil, keyIs, keyEq, mkv, AV.cells, AV.sc, optv, bnd, env, put, Env.get, Env.set, Env.del, Env.dels, Env.init, res1, resL, resV, fillP, splice, newRow, Nat.reduceEqDiff, Nat.reduceLT, Nat.reduceLeDiff, Nat.reduceAdd, Nat.reduceMul, Nat.reduceSub, Nat.reduceBEq, reduceCtorEq, ↓zR, zQ, Tr, StA, StT]
    exact hp v' h' ho hp'
theorem c_sCountReached (w : Ln) (hs : w.length < 2 ^ 60) {h : AH} {post : AV → AH → Prop} (hp : ∀ h', Pre h h' → post (.tup [.int .i64 ((rfL w).length : Int), .bool (fewB w)]) h') : S 257 [.str w] h post k := by
  unfold rfL at hp
  refine S_of rfl T257 ?_; unfold fi257
  simp (maxSteps := 1000000) (disch := first | omega | rfl | (simp only [zL, two63, room] <;> omega) | fail) only [↓reduceIte, ↓zP, zW, WOp, evOp, evBin, binI, binSh, binS, evNil, keyIs, keyEq, mkv, AV.cells, AV.sc, optv, bnd, env, put, Env.get, Env.set, Env.del, Env.dels, Env.init, res1, resL, resV, fillP, splice, newRow, Nat.reduceEqDiff, Nat.reduceLT, Nat.reduceLeDiff, Nat.reduceAdd, Nat.reduceMul, Nat.reduceSub, Nat.reduceBEq, reduceCtorEq, ↓zR, zQ, Tr, StA, StT, e_reFew w hs]
  cases e : fewB w
  · rw [e] at hp
    simp (maxSteps := 1000000) (disch := first | omega | rfl | (simp only [zL, two63, room] <;> omega) | fail) only [↓reduceIte, ↓zP, zW, WOp, evOp, evBin, binI, binSh, binS, evNil, keyIs, keyEq, mkv, AV.cells, AV.sc, optv, bnd, env, put, Env.get, Env.set, Env.del, Env.dels, Env.init, res1, resL, resV, fillP, splice, newRow, Nat.reduceEqDiff, Nat.reduceLT, Nat.reduceLeDiff, Nat.reduceAdd, Nat.reduceMul, Nat.reduceSub, Nat.reduceBEq, reduceCtorEq, ↓zR, zQ, Tr, StA, StT]
    exact hp h (Pre.refl _)
  · rw [e] at hp
    obtain ⟨h1, _, h3⟩ := fewB_iff e
    simp (maxSteps := 1000000) (disch := first | omega | rfl | (simp only [zL, two63, room] <;> omega) | fail) only [↓reduceIte, ↓zP, zW, WOp, evOp, evBin, binI, binSh, binS, evNil, keyIs, keyEq, mkv, AV.cells, AV.sc, optv, bnd, env, put, Env.get, Env.set, Env.del, Env.dels, Env.init, res1, resL, resV, fillP, splice, newRow, Nat.reduceEqDiff, Nat.reduceLT, Nat.reduceLeDiff, Nat.reduceAdd, Nat.reduceMul, Nat.reduceSub, Nat.reduceBEq, reduceCtorEq, ↓zR, zQ, Tr, StA, StT]
    refine c_reAll w h1 h3 ?_
    intro v' h' hs' hp'
    have hv := fun g => Slc.lenV (hs') (g := g) (ρ := fun _ => _) (x := .t 0) rfl; simp only [evOp] at hv
    simp (maxSteps := 1000000) (disch := first | omega | rfl | (simp only [zL, two63, room] <;> omega) | fail) only [↓reduceIte, ↓zP, zW, WOp, evOp, evBin, binI, binSh, binS, evNil, keyIs, keyEq, mkv, AV.cells, AV.sc, optv, bnd, env, put, Env.get, Env.set, Env.del, Env.dels, Env.init, res1, resL, resV, fillP, splice, newRow, Nat.reduceEqDiff, Nat.reduceLT, Nat.reduceLeDiff, Nat.reduceAdd, Nat.reduceMul, Nat.reduceSub, Nat.reduceBEq, reduceCtorEq, ↓zR, zQ, Tr, StA, StT, hv]
    exact hp h' hp'
theorem c_CountReached (w : Ln) (hs : w.length < 2 ^ 60) {h : AH} {post : AV → AH → Prop} (hp : ∀ h', Pre h h' → post (.tup [.int .i64 ((rfL w).length : Int), .bool (fewB w)]) h') : S 258 [.str w] h post k := by
  refine S_of rfl T258 ?_; unfold fi258
  simp (maxSteps := 1000000) (disch := first | omega | rfl | (simp only [zL, two63, room] <;> omega) | fail) only [↓reduceIte, ↓zP, zW, WOp, evOp, evBin, binI, binSh, binS, evNil, keyIs, keyEq, mkv, AV.cells, AV.sc, optv, bnd, env, put, Env.get, Env.set, Env.del, Env.dels, Env.init, res1, resL, resV, fillP, splice, newRow, Nat.reduceEqDiff, Nat.reduceLT, Nat.reduceLeDiff, Nat.reduceAdd, Nat.reduceMul, Nat.reduceSub, Nat.reduceBEq, reduceCtorEq, ↓zR, zQ, Tr, StA, StT]
  refine c_ReachedFrom w hs ?_
  intro v' h' ho hp'
  have hv := fun g => Slc.lenV (ho.slc) (g := g) (ρ := fun _ => _) (x := .t 0) rfl; simp only [evOp] at hv
  simp (maxSteps := 1000000) (disch := first | omega | rfl | (simp only [zL, two63, room] <;> omega) | fail) only [↓reduceIte, ↓zP, zW, WOp, evOp, evBin, binI, binSh, binS, evNil, keyIs, keyEq, mkv, AV.cells, AV.sc, optv, bnd, env, put, Env.get, Env.set, Env.del, Env.dels, Env.init, res1, resL, resV, fillP, splice, newRow, Nat.reduceEqDiff, Nat.reduceLT, Nat.reduceLeDiff, Nat.reduceAdd, Nat.reduceMul, Nat.reduceSub, Nat.reduceBEq, reduceCtorEq, ↓zR, zQ, Tr, StA, StT, hv]
  exact hp h' hp'
theorem law_CountReached (w : Ln) (hl63 : w.length < 2 ^ 63) {h : AH} : S 256 [.str w] h (fun r _ => r = .bool true) k := by
  refine S_of rfl T256 ?_; unfold fi256
  by_cases hl : (1048576 : Int) < (w.length : Int)
  · simp (maxSteps := 1000000) (disch := first | omega | rfl | (simp only [zL, two63, room] <;> omega) | fail) only [↓reduceIte, ↓zP, zW, WOp, evOp, evBin, binI, binSh, binS, evNil, keyIs, keyEq, mkv, AV.cells, AV.sc, optv, bnd, env, put, Env.get, Env.set, Env.del, Env.dels, Env.init, res1, resL, resV, fillP, splice, newRow, Nat.reduceEqDiff, Nat.reduceLT, Nat.reduceLeDiff, Nat.reduceAdd, Nat.reduceMul, Nat.reduceSub, Nat.reduceBEq, reduceCtorEq, ↓zR, zQ, Tr, StA, StT, hl]
  have hlen : w.length < 2 ^ 60 := by omega
  simp (maxSteps := 1000000) (disch := first | omega | rfl | (simp only [zL, two63, room] <;> omega) | fail) only [↓reduceIte, ↓zP, zW, WOp, evOp, evBin, binI, binSh, binS, evNil, keyIs, keyEq, mkv, AV.cells, AV.sc, optv, bnd, env, put, Env.get, Env.set, Env.del, Env.dels, Env.init, res1, resL, resV, fillP, splice, newRow, Nat.reduceEqDiff, Nat.reduceLT, Nat.reduceLeDiff, Nat.reduceAdd, Nat.reduceMul, Nat.reduceSub, Nat.reduceBEq, reduceCtorEq, ↓zR, zQ, Tr, StA, StT, hl]
  refine c_sCountReached w hlen ?_
  intro h1 p1
  simp (maxSteps := 1000000) (disch := first | omega | rfl | (simp only [zL, two63, room] <;> omega) | fail) only [↓reduceIte, ↓zP, zW, WOp, evOp, evBin, binI, binSh, binS, evNil, keyIs, keyEq, mkv, AV.cells, AV.sc, optv, bnd, env, put, Env.get, Env.set, Env.del, Env.dels, Env.init, res1, resL, resV, fillP, splice, newRow, Nat.reduceEqDiff, Nat.reduceLT, Nat.reduceLeDiff, Nat.reduceAdd, Nat.reduceMul, Nat.reduceSub, Nat.reduceBEq, reduceCtorEq, ↓zR, zQ, Tr, StA, StT]
  refine c_CountReached w hlen ?_
  intro h2 p2
  simp (maxSteps := 1000000) (disch := first | omega | rfl | (simp only [zL, two63, room] <;> omega) | fail) only [↓reduceIte, ↓zP, zW, WOp, evOp, evBin, binI, binSh, binS, evNil, keyIs, keyEq, mkv, AV.cells, AV.sc, optv, bnd, env, put, Env.get, Env.set, Env.del, Env.dels, Env.init, res1, resL, resV, fillP, splice, newRow, Nat.reduceEqDiff, Nat.reduceLT, Nat.reduceLeDiff, Nat.reduceAdd, Nat.reduceMul, Nat.reduceSub, Nat.reduceBEq, reduceCtorEq, ↓zR, zQ, Tr, StA, StT, bne_self_eq_false, beq_self_eq_true]
end Go.Proofs.YthiafpdackiglaaDoor.Ab

/- REACHING: the laws on lists of lines. -/
namespace Go.Proofs.YthiafpdackiglaaDoor.Ab
open Go
set_option maxRecDepth 100000
set_option maxHeartbeats 4000000

/-! ### Dead ends -/
def deadB (v : Ln) : Bool := ((movesB v [84, 70]).length : Int) == 0
def deL (w : Ln) : List Ln := if fewB w then (reachL w).filter deadB else []
theorem de_len (w : Ln) : (deL w).length ≤ 59049 := by
  unfold deL
  split
  · rename_i h
    obtain ⟨h1, _, h3⟩ := fewB_iff h
    exact Nat.le_trans (List.length_filter_le _ _) ((reach_good h1).len h3)
  · simp
theorem lp_sDeadEnds {w : Ln} (hg : w.all isSign = true) (hw : w.length ≤ 10) {vl : AV} {h0 : AH} (hsl : Slc 1 encS h0 vl (reachL w)) {R : X → Env → AH → Prop} :
    ∀ (rest pre : List Ln) (o : AV) (h : AH), reachL w = pre ++ rest → OwL 1 encS h0 h o (pre.filter deadB) → Pre h0 h →
    (∀ o' h', OwL 1 encS h0 h' o' ((reachL w).filter deadB) → Pre h0 h' → R (.exit 0) [(4, o')] h') →
    Cx (.loop lp266_0) [(4, o), (11, vl), (12, .int .i64 (reachL w).length), (13, .int .i64 pre.length)] h R k k
  | [], pre, o, h, hpre, ho, hp, hR => by
    have hll : (reachL w).length = pre.length := by rw [hpre]; simp
    have hpe : reachL w = pre := by rw [hpre]; simp
    rw [hpe] at hR
    rw [w_loopb (c := lp266_0) (d := lb266_0) rfl]; unfold lb266_0
    rw [hll]
    simp (maxSteps := 1000000) (disch := first | omega | rfl | (simp only [zL, two63, room] <;> omega) | fail) only [↓reduceIte, ↓zP, zW, WOp, evOp, evBin, binI, binSh, binS, evNil, keyIs, keyEq, mkv, AV.cells, AV.sc, optv, bnd, env, put, Env.get, Env.set, Env.del, Env.dels, Env.init, res1, resL, resV, fillP, splice, newRow, Nat.reduceEqDiff, Nat.reduceLT, Nat.reduceLeDiff, Nat.reduceAdd, Nat.reduceMul, Nat.reduceSub, Nat.reduceBEq, reduceCtorEq, ↓zR, zQ, Tr, StA, StT]
    exact hR o h ho hp
  | x :: rest, pre, o, h, hpre, ho, hp, hR => by
    have ih := lp_sDeadEnds hg hw hsl (R := R) rest (pre ++ [x])
    have hml : (reachL w).length = pre.length + 1 + rest.length := by rw [hpre]; simp; omega
    have hrl := (reach_good hg).len hw
    obtain ⟨hxl, hxg⟩ := (reach_good hg).2 x (by rw [hpre]; simp)
    have hsl' := hsl.pre hp
    rw [hpre] at hsl'
    obtain ⟨r1, k1, o1, hv1, hr⟩ := hsl'.at hlS
    rw [← hpre, hml] at hv1
    subst hv1
    rw [hml] at ih ⊢
    have hlt : (pre.length : Int) < ((pre.length + 1 + rest.length : Nat) : Int) := by omega
    have hw1 : (pre.length : Int) + 1 = ((pre ++ [x]).length : Int) := by simp
    have hfl := List.length_filter_le deadB pre
    rw [w_loopb (c := lp266_0) (d := lb266_0) rfl]; unfold lb266_0
    simp (maxSteps := 1000000) (disch := first | omega | rfl | (simp only [zL, two63, room] <;> omega) | fail) only [↓reduceIte, ↓zP, zW, WOp, evOp, evBin, binI, binSh, binS, evNil, keyIs, keyEq, mkv, AV.cells, AV.sc, optv, bnd, env, put, Env.get, Env.set, Env.del, Env.dels, Env.init, res1, resL, resV, fillP, splice, newRow, Nat.reduceEqDiff, Nat.reduceLT, Nat.reduceLeDiff, Nat.reduceAdd, Nat.reduceMul, Nat.reduceSub, Nat.reduceBEq, reduceCtorEq, ↓zR, zQ, Tr, StA, StT, hlt, hr]
    refine c_liMoves x hxg (by omega) true true ?_
    intro vm h2 hom hp2
    rw [liM_eq] at hom
    have hvm := fun g => Slc.lenV (hom.slc) (g := g) (ρ := fun _ => _) (x := .t 0) rfl; simp only [evOp] at hvm
    have hde : (((movesB x [84, 70]).length : Int) == 0) = deadB x := rfl
    cases e : deadB x
    · rw [e] at hde
      simp (maxSteps := 1000000) (disch := first | omega | rfl | (simp only [zL, two63, room] <;> omega) | fail) only [↓reduceIte, ↓zP, zW, WOp, evOp, evBin, binI, binSh, binS, evNil, keyIs, keyEq, mkv, AV.cells, AV.sc, optv, bnd, env, put, Env.get, Env.set, Env.del, Env.dels, Env.init, res1, resL, resV, fillP, splice, newRow, Nat.reduceEqDiff, Nat.reduceLT, Nat.reduceLeDiff, Nat.reduceAdd, Nat.reduceMul, Nat.reduceSub, Nat.reduceBEq, reduceCtorEq, ↓zR, zQ, Tr, StA, StT, hvm, hde, hw1]
      rw [w_loopn (c := lp266_0) rfl]
      simp (maxSteps := 1000000) (disch := first | omega | rfl | (simp only [zL, two63, room] <;> omega) | fail) only [↓reduceIte, ↓zP, zW, WOp, evOp, evBin, binI, binSh, binS, evNil, keyIs, keyEq, mkv, AV.cells, AV.sc, optv, bnd, env, put, Env.get, Env.set, Env.del, Env.dels, Env.init, res1, resL, resV, fillP, splice, newRow, Nat.reduceEqDiff, Nat.reduceLT, Nat.reduceLeDiff, Nat.reduceAdd, Nat.reduceMul, Nat.reduceSub, Nat.reduceBEq, reduceCtorEq, ↓zR, zQ, Tr, StA, StT]
      exact ih o h2 (by rw [hpre]; simp) (by rw [List.filter_append, List.filter_cons_of_neg (by rw [e]; simp)]; simpa using ho.pre hp2) (hp.trans hp2) hR
    · rw [e] at hde
      have hpx := Pre.push h2 (AO.row [.str x] 0 0 false)
      obtain ⟨o3, h3, ha, ho3, hp3⟩ := apL hlS scS ((ho.pre hp2).pre hpx) ((hp.trans hp2).trans hpx) x (by omega)
      simp (maxSteps := 1000000) (disch := first | omega | rfl | (simp only [zL, two63, room] <;> omega) | fail) only [↓reduceIte, ↓zP, zW, WOp, evOp, evBin, binI, binSh, binS, evNil, keyIs, keyEq, mkv, AV.cells, AV.sc, optv, bnd, env, put, Env.get, Env.set, Env.del, Env.dels, Env.init, res1, resL, resV, fillP, splice, newRow, Nat.reduceEqDiff, Nat.reduceLT, Nat.reduceLeDiff, Nat.reduceAdd, Nat.reduceMul, Nat.reduceSub, Nat.reduceBEq, reduceCtorEq, ↓zR, zQ, Tr, StA, StT, hvm, hde, ha]
      simp (maxSteps := 1000000) (disch := first | omega | rfl | (simp only [zL, two63, room] <;> omega) | fail) only [↓reduceIte, ↓zP, zW, WOp, evOp, evBin, binI, binSh, binS, evNil, keyIs, keyEq, mkv, AV.cells, AV.sc, optv, bnd, env, put, Env.get, Env.set, Env.del, Env.dels, Env.init, res1, resL, resV, fillP, splice, newRow, Nat.reduceEqDiff, Nat.reduceLT, Nat.reduceLeDiff, Nat.reduceAdd, Nat.reduceMul, Nat.reduceSub, Nat.reduceBEq, reduceCtorEq, ↓zR, zQ, Tr, StA, StT, hw1]
      rw [w_loopn (c := lp266_0) rfl]
      simp (maxSteps := 1000000) (disch := first | omega | rfl | (simp only [zL, two63, room] <;> omega) | fail) only [↓reduceIte, ↓zP, zW, WOp, evOp, evBin, binI, binSh, binS, evNil, keyIs, keyEq, mkv, AV.cells, AV.sc, optv, bnd, env, put, Env.get, Env.set, Env.del, Env.dels, Env.init, res1, resL, resV, fillP, splice, newRow, Nat.reduceEqDiff, Nat.reduceLT, Nat.reduceLeDiff, Nat.reduceAdd, Nat.reduceMul, Nat.reduceSub, Nat.reduceBEq, reduceCtorEq, ↓zR, zQ, Tr, StA, StT]
      exact ih o3 h3 (by rw [hpre]; simp) (by rw [List.filter_append, List.filter_cons_of_pos (by rw [e])]; simpa using ho3) hp3 hR
theorem c_sDeadEnds (w : Ln) (hs : w.length < 2 ^ 60) {h : AH} {post : AV → AH → Prop} (hp : ∀ v' h', Slc 1 encS h' v' (deL w) → Pre h h' → post (.tup [v', .bool (fewB w)]) h') : S 266 [.str w] h post k := by
  unfold deL at hp
  refine S_of rfl T266 ?_; unfold fi266
  simp (maxSteps := 1000000) (disch := first | omega | rfl | (simp only [zL, two63, room] <;> omega) | fail) only [↓reduceIte, ↓zP, zW, WOp, evOp, evBin, binI, binSh, binS, evNil, keyIs, keyEq, mkv, AV.cells, AV.sc, optv, bnd, env, put, Env.get, Env.set, Env.del, Env.dels, Env.init, res1, resL, resV, fillP, splice, newRow, Nat.reduceEqDiff, Nat.reduceLT, Nat.reduceLeDiff, Nat.reduceAdd, Nat.reduceMul, Nat.reduceSub, Nat.reduceBEq, reduceCtorEq, ↓zR, zQ, Tr, StA, StT, e_reFew w hs]
  cases e : fewB w
  · rw [e] at hp
    simp (maxSteps := 1000000) (disch := first | omega | rfl | (simp only [zL, two63, room] <;> omega) | fail) only [↓reduceIte, ↓zP, zW, WOp, evOp, evBin, binI, binSh, binS, evNil, keyIs, keyEq, mkv, AV.cells, AV.sc, optv, bnd, env, put, Env.get, Env.set, Env.del, Env.dels, Env.init, res1, resL, resV, fillP, splice, newRow, Nat.reduceEqDiff, Nat.reduceLT, Nat.reduceLeDiff, Nat.reduceAdd, Nat.reduceMul, Nat.reduceSub, Nat.reduceBEq, reduceCtorEq, ↓zR, zQ, Tr, StA, StT]
    exact hp .nilS h (OwL.nil (h0 := h)).slc (Pre.refl _)
  · rw [e] at hp
    obtain ⟨h1, _, h3⟩ := fewB_iff e
    simp (maxSteps := 1000000) (disch := first | omega | rfl | (simp only [zL, two63, room] <;> omega) | fail) only [↓reduceIte, ↓zP, zW, WOp, evOp, evBin, binI, binSh, binS, evNil, keyIs, keyEq, mkv, AV.cells, AV.sc, optv, bnd, env, put, Env.get, Env.set, Env.del, Env.dels, Env.init, res1, resL, resV, fillP, splice, newRow, Nat.reduceEqDiff, Nat.reduceLT, Nat.reduceLeDiff, Nat.reduceAdd, Nat.reduceMul, Nat.reduceSub, Nat.reduceBEq, reduceCtorEq, ↓zR, zQ, Tr, StA, StT]
    refine c_reAll w h1 h3 ?_
    intro v' h' hs' hp'
    have hv := fun g => Slc.lenV (hs') (g := g) (ρ := fun _ => _) (x := .t 0) rfl; simp only [evOp] at hv
    simp (maxSteps := 1000000) (disch := first | omega | rfl | (simp only [zL, two63, room] <;> omega) | fail) only [↓reduceIte, ↓zP, zW, WOp, evOp, evBin, binI, binSh, binS, evNil, keyIs, keyEq, mkv, AV.cells, AV.sc, optv, bnd, env, put, Env.get, Env.set, Env.del, Env.dels, Env.init, res1, resL, resV, fillP, splice, newRow, Nat.reduceEqDiff, Nat.reduceLT, Nat.reduceLeDiff, Nat.reduceAdd, Nat.reduceMul, Nat.reduceSub, Nat.reduceBEq, reduceCtorEq, ↓zR, zQ, Tr, StA, StT, hv]
    refine lp_sDeadEnds h1 h3 hs' (reachL w) [] .nilS h' rfl OwL.nil (Pre.refl _) ?_
    intro o2 h2 ho2 hp2
    simp (maxSteps := 1000000) (disch := first | omega | rfl | (simp only [zL, two63, room] <;> omega) | fail) only [↓reduceIte, ↓zP, zW, WOp, evOp, evBin, binI, binSh, binS, evNil, keyIs, keyEq, mkv, AV.cells, AV.sc, optv, bnd, env, put, Env.get, Env.set, Env.del, Env.dels, Env.init, res1, resL, resV, fillP, splice, newRow, Nat.reduceEqDiff, Nat.reduceLT, Nat.reduceLeDiff, Nat.reduceAdd, Nat.reduceMul, Nat.reduceSub, Nat.reduceBEq, reduceCtorEq, ↓zR, zQ, Tr, StA, StT]
    exact hp o2 h2 ho2.slc (hp'.trans hp2)
theorem c_isBlocked (v : Ln) (hv : v.length < 2 ^ 30) {h : AH} {post : AV → AH → Prop} (hp : ∀ h', Pre h h' → post (.bool (deadB v)) h') : S 274 [.str v] h post k := by
  refine S_of rfl T274 ?_; unfold fi274
  simp (maxSteps := 1000000) (disch := first | omega | rfl | (simp only [zL, two63, room] <;> omega) | fail) only [↓reduceIte, ↓zP, zW, WOp, evOp, evBin, binI, binSh, binS, evNil, keyIs, keyEq, mkv, AV.cells, AV.sc, optv, bnd, env, put, Env.get, Env.set, Env.del, Env.dels, Env.init, res1, resL, resV, fillP, splice, newRow, Nat.reduceEqDiff, Nat.reduceLT, Nat.reduceLeDiff, Nat.reduceAdd, Nat.reduceMul, Nat.reduceSub, Nat.reduceBEq, reduceCtorEq, ↓zR, zQ, Tr, StA, StT]
  refine c_moves v [84, 70] hv ?_
  intro vm h2 hom hp2
  have hom' : OwL 2 encM h h2 vm (movesB v [84, 70]) := hom
  have hvm := fun g => Slc.lenV (hom'.slc) (g := g) (ρ := fun _ => _) (x := .t 0) rfl; simp only [evOp] at hvm
  simp (maxSteps := 1000000) (disch := first | omega | rfl | (simp only [zL, two63, room] <;> omega) | fail) only [↓reduceIte, ↓zP, zW, WOp, evOp, evBin, binI, binSh, binS, evNil, keyIs, keyEq, mkv, AV.cells, AV.sc, optv, bnd, env, put, Env.get, Env.set, Env.del, Env.dels, Env.init, res1, resL, resV, fillP, splice, newRow, Nat.reduceEqDiff, Nat.reduceLT, Nat.reduceLeDiff, Nat.reduceAdd, Nat.reduceMul, Nat.reduceSub, Nat.reduceBEq, reduceCtorEq, ↓zR, zQ, Tr, StA, StT, hvm]
  exact hp h2 hp2
theorem c_DeadEnds (w : Ln) (hs : w.length < 2 ^ 60) {h : AH} {post : AV → AH → Prop} (hp : ∀ v' h', OwL 1 encS h h' v' (deL w) → Pre h h' → post (.tup [v', .bool (fewB w)]) h') : S 267 [.str w] h post k := by
  unfold deL at hp
  refine S_of rfl T267 ?_; unfold fi267
  simp (maxSteps := 1000000) (disch := first | omega | rfl | (simp only [zL, two63, room] <;> omega) | fail) only [↓reduceIte, ↓zP, zW, WOp, evOp, evBin, binI, binSh, binS, evNil, keyIs, keyEq, mkv, AV.cells, AV.sc, optv, bnd, env, put, Env.get, Env.set, Env.del, Env.dels, Env.init, res1, resL, resV, fillP, splice, newRow, Nat.reduceEqDiff, Nat.reduceLT, Nat.reduceLeDiff, Nat.reduceAdd, Nat.reduceMul, Nat.reduceSub, Nat.reduceBEq, reduceCtorEq, ↓zR, zQ, Tr, StA, StT]
  refine c_someReached w hs 272 [] (fun v _ => deadB v) ((reachL w).filter deadB) (fun e => ⟨(reach_srt w).filter _, fun v => ?_⟩) (fun e v d h' hv _ po hpo => ?_) (fun e => ?_) fun e v' h' ho hp' => ?_
  · rw [List.mem_filter, reach_mem]
    constructor
    · rintro ⟨⟨d, hd⟩, h2⟩; exact ⟨d, hd, h2⟩
    · rintro ⟨d, hd, h2⟩; exact ⟨⟨d, hd⟩, h2⟩
  · obtain ⟨h1, _, h3⟩ := fewB_iff e
    have hvl := (lay_good h1 d).2 v hv
    refine S_of rfl T272 ?_; unfold fi272
    simp (maxSteps := 1000000) (disch := first | omega | rfl | (simp only [zL, two63, room] <;> omega) | fail) only [↓reduceIte, ↓zP, zW, WOp, evOp, evBin, binI, binSh, binS, evNil, keyIs, keyEq, mkv, AV.cells, AV.sc, optv, bnd, env, put, Env.get, Env.set, Env.del, Env.dels, Env.init, res1, resL, resV, fillP, splice, newRow, Nat.reduceEqDiff, Nat.reduceLT, Nat.reduceLeDiff, Nat.reduceAdd, Nat.reduceMul, Nat.reduceSub, Nat.reduceBEq, reduceCtorEq, ↓zR, zQ, Tr, StA, StT]
    refine c_isBlocked v (by omega) ?_
    intro h2 hp2
    simp (maxSteps := 1000000) (disch := first | omega | rfl | (simp only [zL, two63, room] <;> omega) | fail) only [↓reduceIte, ↓zP, zW, WOp, evOp, evBin, binI, binSh, binS, evNil, keyIs, keyEq, mkv, AV.cells, AV.sc, optv, bnd, env, put, Env.get, Env.set, Env.del, Env.dels, Env.init, res1, resL, resV, fillP, splice, newRow, Nat.reduceEqDiff, Nat.reduceLT, Nat.reduceLeDiff, Nat.reduceAdd, Nat.reduceMul, Nat.reduceSub, Nat.reduceBEq, reduceCtorEq, ↓zR, zQ, Tr, StA, StT]
    exact hpo h2 hp2
  · rw [e] at hp
    simp (maxSteps := 1000000) (disch := first | omega | rfl | (simp only [zL, two63, room] <;> omega) | fail) only [↓reduceIte, ↓zP, zW, WOp, evOp, evBin, binI, binSh, binS, evNil, keyIs, keyEq, mkv, AV.cells, AV.sc, optv, bnd, env, put, Env.get, Env.set, Env.del, Env.dels, Env.init, res1, resL, resV, fillP, splice, newRow, Nat.reduceEqDiff, Nat.reduceLT, Nat.reduceLeDiff, Nat.reduceAdd, Nat.reduceMul, Nat.reduceSub, Nat.reduceBEq, reduceCtorEq, ↓zR, zQ, Tr, StA, StT]
    exact hp .nilS h OwL.nil (Pre.refl _)
  · rw [e] at hp
    simp (maxSteps := 1000000) (disch := first | omega | rfl | (simp only [zL, two63, room] <;> omega) | fail) only [↓reduceIte, ↓zP, zW, WOp, evOp, evBin, binI, binSh, binS, evNil, keyIs, keyEq, mkv, AV.cells, AV.sc, optv, bnd, env, put, Env.get, Env.set, Env.del, Env.dels, Env.init, res1, resL, resV, fillP, splice, newRow, Nat.reduceEqDiff, Nat.reduceLT, Nat.reduceLeDiff, Nat.reduceAdd, Nat.reduceMul, Nat.reduceSub, Nat.reduceBEq, reduceCtorEq, ↓zR, zQ, Tr, StA, StT]
    exact hp v' h' ho hp'

/-! ### Lines after so many moves -/
def afB (w : Ln) (mv : Int) : Bool := fewB w && decide (0 ≤ mv ∧ mv ≤ 60)
def afL (w : Ln) (mv : Int) : List Ln := if afB w mv then lay w mv.toNat else []
theorem af_len (w : Ln) (mv : Int) : (afL w mv).length ≤ 59049 := by
  unfold afL
  split
  · rename_i h
    unfold afB at h
    rw [Bool.and_eq_true] at h
    obtain ⟨h1, _, h3⟩ := fewB_iff h.1
    exact (lay_good h1 _).len h3
  · simp
theorem c_sReachedAfter (w : Ln) (mv : Int) (hs : w.length < 2 ^ 60) {h : AH} {post : AV → AH → Prop} (hp : ∀ v' h', Slc 1 encS h' v' (afL w mv) → Pre h h' → post (.tup [v', .bool (afB w mv)]) h') : S 260 [.str w, .int .i64 mv] h post k := by
  unfold afL afB at hp
  refine S_of rfl T260 ?_; unfold fi260
  simp (maxSteps := 1000000) (disch := first | omega | rfl | (simp only [zL, two63, room] <;> omega) | fail) only [↓reduceIte, ↓zP, zW, WOp, evOp, evBin, binI, binSh, binS, evNil, keyIs, keyEq, mkv, AV.cells, AV.sc, optv, bnd, env, put, Env.get, Env.set, Env.del, Env.dels, Env.init, res1, resL, resV, fillP, splice, newRow, Nat.reduceEqDiff, Nat.reduceLT, Nat.reduceLeDiff, Nat.reduceAdd, Nat.reduceMul, Nat.reduceSub, Nat.reduceBEq, reduceCtorEq, ↓zR, zQ, Tr, StA, StT, e_reFew w hs]
  cases e : fewB w
  · rw [e] at hp
    simp (maxSteps := 1000000) (disch := first | omega | rfl | (simp only [zL, two63, room] <;> omega) | fail) only [↓reduceIte, ↓zP, zW, WOp, evOp, evBin, binI, binSh, binS, evNil, keyIs, keyEq, mkv, AV.cells, AV.sc, optv, bnd, env, put, Env.get, Env.set, Env.del, Env.dels, Env.init, res1, resL, resV, fillP, splice, newRow, Nat.reduceEqDiff, Nat.reduceLT, Nat.reduceLeDiff, Nat.reduceAdd, Nat.reduceMul, Nat.reduceSub, Nat.reduceBEq, reduceCtorEq, ↓zR, zQ, Tr, StA, StT]
    exact hp .nilS h (OwL.nil (h0 := h)).slc (Pre.refl _)
  obtain ⟨hg, _, hw⟩ := fewB_iff e
  by_cases hmv : 0 ≤ mv ∧ mv ≤ 60
  case neg =>
    simp only [e, hmv, decide_false, Bool.and_false, Bool.false_eq_true, if_false] at hp
    simp (maxSteps := 1000000) (disch := first | omega | rfl | (simp only [zL, two63, room] <;> omega) | fail) only [↓reduceIte, ↓zP, zW, WOp, evOp, evBin, binI, binSh, binS, evNil, keyIs, keyEq, mkv, AV.cells, AV.sc, optv, bnd, env, put, Env.get, Env.set, Env.del, Env.dels, Env.init, res1, resL, resV, fillP, splice, newRow, Nat.reduceEqDiff, Nat.reduceLT, Nat.reduceLeDiff, Nat.reduceAdd, Nat.reduceMul, Nat.reduceSub, Nat.reduceBEq, reduceCtorEq, ↓zR, zQ, Tr, StA, StT, e_l1In, hmv]
    exact hp .nilS h (OwL.nil (h0 := h)).slc (Pre.refl _)
  obtain ⟨M, rfl⟩ : ∃ M : Nat, mv = M := ⟨mv.toNat, by omega⟩
  simp only [e, hmv, decide_true, Bool.and_true, Int.toNat_natCast, if_true] at hp
  simp (maxSteps := 1000000) (disch := first | omega | rfl | (simp only [zL, two63, room] <;> omega) | fail) only [↓reduceIte, ↓zP, zW, WOp, evOp, evBin, binI, binSh, binS, evNil, keyIs, keyEq, mkv, AV.cells, AV.sc, optv, bnd, env, put, Env.get, Env.set, Env.del, Env.dels, Env.init, res1, resL, resV, fillP, splice, newRow, Nat.reduceEqDiff, Nat.reduceLT, Nat.reduceLeDiff, Nat.reduceAdd, Nat.reduceMul, Nat.reduceSub, Nat.reduceBEq, reduceCtorEq, ↓zR, zQ, Tr, StA, StT, e_l1In, hmv]
  refine c_reLayers w hg hw ?_
  intro o h2 vs N hend hN ho hll hp2
  have hvl : vs.length = N + 1 := by have := hll.1; simpa [lays] using this
  have hv := fun g => Slc.lenV (ho.slc) (g := g) (ρ := fun _ => _) (x := .t 0) rfl; simp only [evOp] at hv
  by_cases hge : N + 1 ≤ M
  · have hge' : (vs.length : Int) ≤ (M : Int) := by omega
    have hnil : lay w M = [] := by rw [show M = N + 1 + (M - (N + 1)) by omega, lay_empty w hend]
    rw [hnil] at hp
    simp (maxSteps := 1000000) (disch := first | omega | rfl | (simp only [zL, two63, room] <;> omega) | fail) only [↓reduceIte, ↓zP, zW, WOp, evOp, evBin, binI, binSh, binS, evNil, keyIs, keyEq, mkv, AV.cells, AV.sc, optv, bnd, env, put, Env.get, Env.set, Env.del, Env.dels, Env.init, res1, resL, resV, fillP, splice, newRow, Nat.reduceEqDiff, Nat.reduceLT, Nat.reduceLeDiff, Nat.reduceAdd, Nat.reduceMul, Nat.reduceSub, Nat.reduceBEq, reduceCtorEq, ↓zR, zQ, Tr, StA, StT, hv, hge']
    exact hp .nilS h2 (OwL.nil (h0 := h)).slc hp2
  · have hge' : ¬ (vs.length : Int) ≤ (M : Int) := by omega
    have hlt : (M : Int) < (vs.length : Int) := by omega
    obtain ⟨c, kk, off, hov, hr1⟩ := ho.slc.get hlV (i := M) (by omega)
    have hr1' : rdRow h2 c kk (off + M * 1) 1 = some [vs[M].1] := hr1
    have hs1 := (hll.2 M (vs[M]) (lay w M) (by simp) (lays_get (by omega))).1
    have hgl := (lay_good hg M).len hw
    obtain ⟨v4, h4, ha4, ho4, p4⟩ := apM hlS scS (OwL.emp (h0 := h2) (h := h2)) (Pre.refl h2) (lay w M) (by simp; omega)
    rw [List.nil_append] at ho4
    subst hov
    generalize vs[M].1 = u at *
    rcases hs1.cases with ⟨rfl, hL0⟩ | ⟨rfl, hL0⟩ | ⟨c2, kk2, off2, rfl⟩
    · rw [hL0] at hp
      have ha : apRow h2 1 .empS 0 [] = some (.empS, h2) := rfl
      simp (maxSteps := 1000000) (disch := first | omega | rfl | (simp only [zL, two63, room] <;> omega) | fail) only [↓reduceIte, ↓zP, zW, WOp, evOp, evBin, binI, binSh, binS, evNil, keyIs, keyEq, mkv, AV.cells, AV.sc, optv, bnd, env, put, Env.get, Env.set, Env.del, Env.dels, Env.init, res1, resL, resV, fillP, splice, newRow, Nat.reduceEqDiff, Nat.reduceLT, Nat.reduceLeDiff, Nat.reduceAdd, Nat.reduceMul, Nat.reduceSub, Nat.reduceBEq, reduceCtorEq, ↓zR, zQ, Tr, StA, StT, hv, hge', hlt, hr1', ha]
      exact hp .empS h2 (OwL.emp (h0 := h)).slc hp2
    · rw [hL0] at hp
      have ha : apRow h2 1 .empS 0 [] = some (.empS, h2) := rfl
      simp (maxSteps := 1000000) (disch := first | omega | rfl | (simp only [zL, two63, room] <;> omega) | fail) only [↓reduceIte, ↓zP, zW, WOp, evOp, evBin, binI, binSh, binS, evNil, keyIs, keyEq, mkv, AV.cells, AV.sc, optv, bnd, env, put, Env.get, Env.set, Env.del, Env.dels, Env.init, res1, resL, resV, fillP, splice, newRow, Nat.reduceEqDiff, Nat.reduceLT, Nat.reduceLeDiff, Nat.reduceAdd, Nat.reduceMul, Nat.reduceSub, Nat.reduceBEq, reduceCtorEq, ↓zR, zQ, Tr, StA, StT, hv, hge', hlt, hr1', ha]
      exact hp .empS h2 (OwL.emp (h0 := h)).slc hp2
    · have hrd := hs1.all.2.2
      simp (maxSteps := 1000000) (disch := first | omega | rfl | (simp only [zL, two63, room] <;> omega) | fail) only [↓reduceIte, ↓zP, zW, WOp, evOp, evBin, binI, binSh, binS, evNil, keyIs, keyEq, mkv, AV.cells, AV.sc, optv, bnd, env, put, Env.get, Env.set, Env.del, Env.dels, Env.init, res1, resL, resV, fillP, splice, newRow, Nat.reduceEqDiff, Nat.reduceLT, Nat.reduceLeDiff, Nat.reduceAdd, Nat.reduceMul, Nat.reduceSub, Nat.reduceBEq, reduceCtorEq, ↓zR, zQ, Tr, StA, StT, hv, hge', hlt, hr1', hrd, ha4]
      exact hp v4 h4 ho4.slc (hp2.trans p4)
theorem c_ReachedAfter (w : Ln) (mv : Int) (hs : w.length < 2 ^ 60) {h : AH} {post : AV → AH → Prop} (hp : ∀ v' h', OwL 1 encS h h' v' (afL w mv) → Pre h h' → post (.tup [v', .bool (afB w mv)]) h') : S 261 [.str w, .int .i64 mv] h post k := by
  unfold afL afB at hp
  have p0 := Pre.push h (AO.row [.int .i64 mv] 0 0 false)
  have r0 : rdRow (h ++ [AO.row [.int .i64 mv] 0 0 false]) h.length 0 0 1 = some [.int .i64 mv] := by rw [rd_last, if_pos (by simp)]; simp
  refine S_of rfl T261 ?_; unfold fi261
  by_cases hmv : 0 ≤ mv ∧ mv ≤ 60
  case neg =>
    simp only [hmv, decide_false, Bool.and_false, Bool.false_eq_true, if_false] at hp
    simp (maxSteps := 1000000) (disch := first | omega | rfl | (simp only [zL, two63, room] <;> omega) | fail) only [↓reduceIte, ↓zP, zW, WOp, evOp, evBin, binI, binSh, binS, evNil, keyIs, keyEq, mkv, AV.cells, AV.sc, optv, bnd, env, put, Env.get, Env.set, Env.del, Env.dels, Env.init, res1, resL, resV, fillP, splice, newRow, Nat.reduceEqDiff, Nat.reduceLT, Nat.reduceLeDiff, Nat.reduceAdd, Nat.reduceMul, Nat.reduceSub, Nat.reduceBEq, reduceCtorEq, ↓zR, zQ, Tr, StA, StT, e_within, hmv]
    exact hp .nilS _ OwL.nil p0
  obtain ⟨M, rfl⟩ : ∃ M : Nat, mv = M := ⟨mv.toNat, by omega⟩
  simp only [hmv, decide_true, Bool.and_true, Int.toNat_natCast] at hp
  simp (maxSteps := 1000000) (disch := first | omega | rfl | (simp only [zL, two63, room] <;> omega) | fail) only [↓reduceIte, ↓zP, zW, WOp, evOp, evBin, binI, binSh, binS, evNil, keyIs, keyEq, mkv, AV.cells, AV.sc, optv, bnd, env, put, Env.get, Env.set, Env.del, Env.dels, Env.init, res1, resL, resV, fillP, splice, newRow, Nat.reduceEqDiff, Nat.reduceLT, Nat.reduceLeDiff, Nat.reduceAdd, Nat.reduceMul, Nat.reduceSub, Nat.reduceBEq, reduceCtorEq, ↓zR, zQ, Tr, StA, StT, e_within, hmv]
  refine c_someReached w hs 269 [.ptr h.length 0 0 1] (fun _ d => (d : Int) == (M : Int)) (lay w M) (fun e => ⟨lay_srt w M, fun v => ?_⟩) (fun e v d h' hv hp' po hpo => ?_) (fun e => ?_) fun e v' h' ho hp' => ?_
  · constructor
    · intro hv; exact ⟨M, hv, by simp⟩
    · rintro ⟨d, hd, h2⟩
      have : d = M := by rw [beq_iff_eq] at h2; omega
      subst this; exact hd
  · have r1 := rdRow_pre hp' r0
    refine S_of rfl T269 ?_; unfold fi269
    simp (maxSteps := 1000000) (disch := first | omega | rfl | (simp only [zL, two63, room] <;> omega) | fail) only [↓reduceIte, ↓zP, zW, WOp, evOp, evBin, binI, binSh, binS, evNil, keyIs, keyEq, mkv, AV.cells, AV.sc, optv, bnd, env, put, Env.get, Env.set, Env.del, Env.dels, Env.init, res1, resL, resV, fillP, splice, newRow, Nat.reduceEqDiff, Nat.reduceLT, Nat.reduceLeDiff, Nat.reduceAdd, Nat.reduceMul, Nat.reduceSub, Nat.reduceBEq, reduceCtorEq, ↓zR, zQ, Tr, StA, StT, r1]
    exact hpo h' (Pre.refl _)
  · simp only [e, and_self, decide_true, Bool.and_true, Bool.false_eq_true, if_false, if_true] at hp
    simp (maxSteps := 1000000) (disch := first | omega | rfl | (simp only [zL, two63, room] <;> omega) | fail) only [↓reduceIte, ↓zP, zW, WOp, evOp, evBin, binI, binSh, binS, evNil, keyIs, keyEq, mkv, AV.cells, AV.sc, optv, bnd, env, put, Env.get, Env.set, Env.del, Env.dels, Env.init, res1, resL, resV, fillP, splice, newRow, Nat.reduceEqDiff, Nat.reduceLT, Nat.reduceLeDiff, Nat.reduceAdd, Nat.reduceMul, Nat.reduceSub, Nat.reduceBEq, reduceCtorEq, ↓zR, zQ, Tr, StA, StT]
    exact hp .nilS _ OwL.nil p0
  · simp only [e, and_self, decide_true, Bool.and_true, Bool.false_eq_true, if_false, if_true] at hp
    simp (maxSteps := 1000000) (disch := first | omega | rfl | (simp only [zL, two63, room] <;> omega) | fail) only [↓reduceIte, ↓zP, zW, WOp, evOp, evBin, binI, binSh, binS, evNil, keyIs, keyEq, mkv, AV.cells, AV.sc, optv, bnd, env, put, Env.get, Env.set, Env.del, Env.dels, Env.init, res1, resL, resV, fillP, splice, newRow, Nat.reduceEqDiff, Nat.reduceLT, Nat.reduceLeDiff, Nat.reduceAdd, Nat.reduceMul, Nat.reduceSub, Nat.reduceBEq, reduceCtorEq, ↓zR, zQ, Tr, StA, StT]
    exact hp v' h' (ho.old p0.1) (p0.trans hp')

/-! ### The laws -/
theorem law_ReachedFrom (w : Ln)  (hl63 : w.length < 2 ^ 63) {h : AH} : S 262 [.str w] h (fun r _ => r = .bool true) k := by
  refine S_of rfl T262 ?_; unfold fi262
  by_cases hl : (1048576 : Int) < (w.length : Int)
  · simp (maxSteps := 1000000) (disch := first | omega | rfl | (simp only [zL, two63, room] <;> omega) | fail) only [↓reduceIte, ↓zP, zW, WOp, evOp, evBin, binI, binSh, binS, evNil, keyIs, keyEq, mkv, AV.cells, AV.sc, optv, bnd, env, put, Env.get, Env.set, Env.del, Env.dels, Env.init, res1, resL, resV, fillP, splice, newRow, Nat.reduceEqDiff, Nat.reduceLT, Nat.reduceLeDiff, Nat.reduceAdd, Nat.reduceMul, Nat.reduceSub, Nat.reduceBEq, reduceCtorEq, ↓zR, zQ, Tr, StA, StT, hl]
  have hlen : w.length < 2 ^ 60 := by omega
  simp (maxSteps := 1000000) (disch := first | omega | rfl | (simp only [zL, two63, room] <;> omega) | fail) only [↓reduceIte, ↓zP, zW, WOp, evOp, evBin, binI, binSh, binS, evNil, keyIs, keyEq, mkv, AV.cells, AV.sc, optv, bnd, env, put, Env.get, Env.set, Env.del, Env.dels, Env.init, res1, resL, resV, fillP, splice, newRow, Nat.reduceEqDiff, Nat.reduceLT, Nat.reduceLeDiff, Nat.reduceAdd, Nat.reduceMul, Nat.reduceSub, Nat.reduceBEq, reduceCtorEq, ↓zR, zQ, Tr, StA, StT, hl]
  refine c_sReachedFrom w  hlen ?_
  intro w0 h1 hw0 p1
  simp (maxSteps := 1000000) (disch := first | omega | rfl | (simp only [zL, two63, room] <;> omega) | fail) only [↓reduceIte, ↓zP, zW, WOp, evOp, evBin, binI, binSh, binS, evNil, keyIs, keyEq, mkv, AV.cells, AV.sc, optv, bnd, env, put, Env.get, Env.set, Env.del, Env.dels, Env.init, res1, resL, resV, fillP, splice, newRow, Nat.reduceEqDiff, Nat.reduceLT, Nat.reduceLeDiff, Nat.reduceAdd, Nat.reduceMul, Nat.reduceSub, Nat.reduceBEq, reduceCtorEq, ↓zR, zQ, Tr, StA, StT]
  refine c_ReachedFrom w  hlen ?_
  intro g0 h2 hg0 p2
  have hLn := rf_len w
  generalize hL : rfL w = L at *
  generalize hB : fewB w = B at *
  simp (maxSteps := 1000000) (disch := first | omega | rfl | (simp only [zL, two63, room] <;> omega) | fail) only [↓reduceIte, ↓zP, zW, WOp, evOp, evBin, binI, binSh, binS, evNil, keyIs, keyEq, mkv, AV.cells, AV.sc, optv, bnd, env, put, Env.get, Env.set, Env.del, Env.dels, Env.init, res1, resL, resV, fillP, splice, newRow, Nat.reduceEqDiff, Nat.reduceLT, Nat.reduceLeDiff, Nat.reduceAdd, Nat.reduceMul, Nat.reduceSub, Nat.reduceBEq, reduceCtorEq, ↓zR, zQ, Tr, StA, StT]
  refine c_eqSS (L := L) (M := L) (by omega) hg0.slc (hw0.pre p2) ?_
  simp (maxSteps := 1000000) (disch := first | omega | rfl | (simp only [zL, two63, room] <;> omega) | fail) only [↓reduceIte, ↓zP, zW, WOp, evOp, evBin, binI, binSh, binS, evNil, keyIs, keyEq, mkv, AV.cells, AV.sc, optv, bnd, env, put, Env.get, Env.set, Env.del, Env.dels, Env.init, res1, resL, resV, fillP, splice, newRow, Nat.reduceEqDiff, Nat.reduceLT, Nat.reduceLeDiff, Nat.reduceAdd, Nat.reduceMul, Nat.reduceSub, Nat.reduceBEq, reduceCtorEq, ↓zR, zQ, Tr, StA, StT, bne_self_eq_false, beq_self_eq_true]
  refine c_markStringS hg0.w 1 (by omega) (by omega) ?_
  intro h3 hm3 v3
  have B3 := v3.keep hg0.w p2 (Nat.le_refl _)
  have hneg : ¬ (((1 + L.length : Nat) : Int) < 0) := by omega
  simp (maxSteps := 1000000) (disch := first | omega | rfl | (simp only [zL, two63, room] <;> omega) | fail) only [↓reduceIte, ↓zP, zW, WOp, evOp, evBin, binI, binSh, binS, evNil, keyIs, keyEq, mkv, AV.cells, AV.sc, optv, bnd, env, put, Env.get, Env.set, Env.del, Env.dels, Env.init, res1, resL, resV, fillP, splice, newRow, Nat.reduceEqDiff, Nat.reduceLT, Nat.reduceLeDiff, Nat.reduceAdd, Nat.reduceMul, Nat.reduceSub, Nat.reduceBEq, reduceCtorEq, ↓zR, zQ, Tr, StA, StT]
  refine c_heldStringS 1 L.length (by omega) (by omega) (hm3.slc hlS) ?_
  intro h4 p4
  have B4 := B3.trans p4
  simp (maxSteps := 1000000) (disch := first | omega | rfl | (simp only [zL, two63, room] <;> omega) | fail) only [↓reduceIte, ↓zP, zW, WOp, evOp, evBin, binI, binSh, binS, evNil, keyIs, keyEq, mkv, AV.cells, AV.sc, optv, bnd, env, put, Env.get, Env.set, Env.del, Env.dels, Env.init, res1, resL, resV, fillP, splice, newRow, Nat.reduceEqDiff, Nat.reduceLT, Nat.reduceLeDiff, Nat.reduceAdd, Nat.reduceMul, Nat.reduceSub, Nat.reduceBEq, reduceCtorEq, ↓zR, zQ, Tr, StA, StT, hneg, bne_self_eq_false]
  refine c_ReachedFrom w  hlen ?_
  intro u0 h5 hu0 p5
  rw [hL] at hu0
  rw [hB]
  simp (maxSteps := 1000000) (disch := first | omega | rfl | (simp only [zL, two63, room] <;> omega) | fail) only [↓reduceIte, ↓zP, zW, WOp, evOp, evBin, binI, binSh, binS, evNil, keyIs, keyEq, mkv, AV.cells, AV.sc, optv, bnd, env, put, Env.get, Env.set, Env.del, Env.dels, Env.init, res1, resL, resV, fillP, splice, newRow, Nat.reduceEqDiff, Nat.reduceLT, Nat.reduceLeDiff, Nat.reduceAdd, Nat.reduceMul, Nat.reduceSub, Nat.reduceBEq, reduceCtorEq, ↓zR, zQ, Tr, StA, StT]
  refine c_eqSS (L := L) (M := L) (by omega) hu0.slc (hw0.pre (B4.trans p5)) ?_
  simp (maxSteps := 1000000) (disch := first | omega | rfl | (simp only [zL, two63, room] <;> omega) | fail) only [↓reduceIte, ↓zP, zW, WOp, evOp, evBin, binI, binSh, binS, evNil, keyIs, keyEq, mkv, AV.cells, AV.sc, optv, bnd, env, put, Env.get, Env.set, Env.del, Env.dels, Env.init, res1, resL, resV, fillP, splice, newRow, Nat.reduceEqDiff, Nat.reduceLT, Nat.reduceLeDiff, Nat.reduceAdd, Nat.reduceMul, Nat.reduceSub, Nat.reduceBEq, reduceCtorEq, ↓zR, zQ, Tr, StA, StT, bne_self_eq_false, beq_self_eq_true]
  refine c_heldStringS 1 L.length (by omega) (by omega) ((hm3.pre (p4.trans p5)).slc hlS) ?_
  intro h6 p6
  simp (maxSteps := 1000000) (disch := first | omega | rfl | (simp only [zL, two63, room] <;> omega) | fail) only [↓reduceIte, ↓zP, zW, WOp, evOp, evBin, binI, binSh, binS, evNil, keyIs, keyEq, mkv, AV.cells, AV.sc, optv, bnd, env, put, Env.get, Env.set, Env.del, Env.dels, Env.init, res1, resL, resV, fillP, splice, newRow, Nat.reduceEqDiff, Nat.reduceLT, Nat.reduceLeDiff, Nat.reduceAdd, Nat.reduceMul, Nat.reduceSub, Nat.reduceBEq, reduceCtorEq, ↓zR, zQ, Tr, StA, StT, hneg, bne_self_eq_false]
theorem law_DeadEnds (w : Ln)  (hl63 : w.length < 2 ^ 63) {h : AH} : S 265 [.str w] h (fun r _ => r = .bool true) k := by
  refine S_of rfl T265 ?_; unfold fi265
  by_cases hl : (1048576 : Int) < (w.length : Int)
  · simp (maxSteps := 1000000) (disch := first | omega | rfl | (simp only [zL, two63, room] <;> omega) | fail) only [↓reduceIte, ↓zP, zW, WOp, evOp, evBin, binI, binSh, binS, evNil, keyIs, keyEq, mkv, AV.cells, AV.sc, optv, bnd, env, put, Env.get, Env.set, Env.del, Env.dels, Env.init, res1, resL, resV, fillP, splice, newRow, Nat.reduceEqDiff, Nat.reduceLT, Nat.reduceLeDiff, Nat.reduceAdd, Nat.reduceMul, Nat.reduceSub, Nat.reduceBEq, reduceCtorEq, ↓zR, zQ, Tr, StA, StT, hl]
  have hlen : w.length < 2 ^ 60 := by omega
  simp (maxSteps := 1000000) (disch := first | omega | rfl | (simp only [zL, two63, room] <;> omega) | fail) only [↓reduceIte, ↓zP, zW, WOp, evOp, evBin, binI, binSh, binS, evNil, keyIs, keyEq, mkv, AV.cells, AV.sc, optv, bnd, env, put, Env.get, Env.set, Env.del, Env.dels, Env.init, res1, resL, resV, fillP, splice, newRow, Nat.reduceEqDiff, Nat.reduceLT, Nat.reduceLeDiff, Nat.reduceAdd, Nat.reduceMul, Nat.reduceSub, Nat.reduceBEq, reduceCtorEq, ↓zR, zQ, Tr, StA, StT, hl]
  refine c_sDeadEnds w  hlen ?_
  intro w0 h1 hw0 p1
  simp (maxSteps := 1000000) (disch := first | omega | rfl | (simp only [zL, two63, room] <;> omega) | fail) only [↓reduceIte, ↓zP, zW, WOp, evOp, evBin, binI, binSh, binS, evNil, keyIs, keyEq, mkv, AV.cells, AV.sc, optv, bnd, env, put, Env.get, Env.set, Env.del, Env.dels, Env.init, res1, resL, resV, fillP, splice, newRow, Nat.reduceEqDiff, Nat.reduceLT, Nat.reduceLeDiff, Nat.reduceAdd, Nat.reduceMul, Nat.reduceSub, Nat.reduceBEq, reduceCtorEq, ↓zR, zQ, Tr, StA, StT]
  refine c_DeadEnds w  hlen ?_
  intro g0 h2 hg0 p2
  have hLn := de_len w
  generalize hL : deL w = L at *
  generalize hB : fewB w = B at *
  simp (maxSteps := 1000000) (disch := first | omega | rfl | (simp only [zL, two63, room] <;> omega) | fail) only [↓reduceIte, ↓zP, zW, WOp, evOp, evBin, binI, binSh, binS, evNil, keyIs, keyEq, mkv, AV.cells, AV.sc, optv, bnd, env, put, Env.get, Env.set, Env.del, Env.dels, Env.init, res1, resL, resV, fillP, splice, newRow, Nat.reduceEqDiff, Nat.reduceLT, Nat.reduceLeDiff, Nat.reduceAdd, Nat.reduceMul, Nat.reduceSub, Nat.reduceBEq, reduceCtorEq, ↓zR, zQ, Tr, StA, StT]
  refine c_eqSS (L := L) (M := L) (by omega) hg0.slc (hw0.pre p2) ?_
  simp (maxSteps := 1000000) (disch := first | omega | rfl | (simp only [zL, two63, room] <;> omega) | fail) only [↓reduceIte, ↓zP, zW, WOp, evOp, evBin, binI, binSh, binS, evNil, keyIs, keyEq, mkv, AV.cells, AV.sc, optv, bnd, env, put, Env.get, Env.set, Env.del, Env.dels, Env.init, res1, resL, resV, fillP, splice, newRow, Nat.reduceEqDiff, Nat.reduceLT, Nat.reduceLeDiff, Nat.reduceAdd, Nat.reduceMul, Nat.reduceSub, Nat.reduceBEq, reduceCtorEq, ↓zR, zQ, Tr, StA, StT, bne_self_eq_false, beq_self_eq_true]
  refine c_markStringS hg0.w 1 (by omega) (by omega) ?_
  intro h3 hm3 v3
  have B3 := v3.keep hg0.w p2 (Nat.le_refl _)
  have hneg : ¬ (((1 + L.length : Nat) : Int) < 0) := by omega
  simp (maxSteps := 1000000) (disch := first | omega | rfl | (simp only [zL, two63, room] <;> omega) | fail) only [↓reduceIte, ↓zP, zW, WOp, evOp, evBin, binI, binSh, binS, evNil, keyIs, keyEq, mkv, AV.cells, AV.sc, optv, bnd, env, put, Env.get, Env.set, Env.del, Env.dels, Env.init, res1, resL, resV, fillP, splice, newRow, Nat.reduceEqDiff, Nat.reduceLT, Nat.reduceLeDiff, Nat.reduceAdd, Nat.reduceMul, Nat.reduceSub, Nat.reduceBEq, reduceCtorEq, ↓zR, zQ, Tr, StA, StT]
  refine c_heldStringS 1 L.length (by omega) (by omega) (hm3.slc hlS) ?_
  intro h4 p4
  have B4 := B3.trans p4
  simp (maxSteps := 1000000) (disch := first | omega | rfl | (simp only [zL, two63, room] <;> omega) | fail) only [↓reduceIte, ↓zP, zW, WOp, evOp, evBin, binI, binSh, binS, evNil, keyIs, keyEq, mkv, AV.cells, AV.sc, optv, bnd, env, put, Env.get, Env.set, Env.del, Env.dels, Env.init, res1, resL, resV, fillP, splice, newRow, Nat.reduceEqDiff, Nat.reduceLT, Nat.reduceLeDiff, Nat.reduceAdd, Nat.reduceMul, Nat.reduceSub, Nat.reduceBEq, reduceCtorEq, ↓zR, zQ, Tr, StA, StT, hneg, bne_self_eq_false]
  refine c_DeadEnds w  hlen ?_
  intro u0 h5 hu0 p5
  rw [hL] at hu0
  rw [hB]
  simp (maxSteps := 1000000) (disch := first | omega | rfl | (simp only [zL, two63, room] <;> omega) | fail) only [↓reduceIte, ↓zP, zW, WOp, evOp, evBin, binI, binSh, binS, evNil, keyIs, keyEq, mkv, AV.cells, AV.sc, optv, bnd, env, put, Env.get, Env.set, Env.del, Env.dels, Env.init, res1, resL, resV, fillP, splice, newRow, Nat.reduceEqDiff, Nat.reduceLT, Nat.reduceLeDiff, Nat.reduceAdd, Nat.reduceMul, Nat.reduceSub, Nat.reduceBEq, reduceCtorEq, ↓zR, zQ, Tr, StA, StT]
  refine c_eqSS (L := L) (M := L) (by omega) hu0.slc (hw0.pre (B4.trans p5)) ?_
  simp (maxSteps := 1000000) (disch := first | omega | rfl | (simp only [zL, two63, room] <;> omega) | fail) only [↓reduceIte, ↓zP, zW, WOp, evOp, evBin, binI, binSh, binS, evNil, keyIs, keyEq, mkv, AV.cells, AV.sc, optv, bnd, env, put, Env.get, Env.set, Env.del, Env.dels, Env.init, res1, resL, resV, fillP, splice, newRow, Nat.reduceEqDiff, Nat.reduceLT, Nat.reduceLeDiff, Nat.reduceAdd, Nat.reduceMul, Nat.reduceSub, Nat.reduceBEq, reduceCtorEq, ↓zR, zQ, Tr, StA, StT, bne_self_eq_false, beq_self_eq_true]
  refine c_heldStringS 1 L.length (by omega) (by omega) ((hm3.pre (p4.trans p5)).slc hlS) ?_
  intro h6 p6
  simp (maxSteps := 1000000) (disch := first | omega | rfl | (simp only [zL, two63, room] <;> omega) | fail) only [↓reduceIte, ↓zP, zW, WOp, evOp, evBin, binI, binSh, binS, evNil, keyIs, keyEq, mkv, AV.cells, AV.sc, optv, bnd, env, put, Env.get, Env.set, Env.del, Env.dels, Env.init, res1, resL, resV, fillP, splice, newRow, Nat.reduceEqDiff, Nat.reduceLT, Nat.reduceLeDiff, Nat.reduceAdd, Nat.reduceMul, Nat.reduceSub, Nat.reduceBEq, reduceCtorEq, ↓zR, zQ, Tr, StA, StT, hneg, bne_self_eq_false]
theorem law_ReachedAfter (w : Ln) (mv : Int) (hl63 : w.length < 2 ^ 63) {h : AH} : S 259 [.str w, .int .i64 mv] h (fun r _ => r = .bool true) k := by
  refine S_of rfl T259 ?_; unfold fi259
  by_cases hl : (1048576 : Int) < (w.length : Int)
  · simp (maxSteps := 1000000) (disch := first | omega | rfl | (simp only [zL, two63, room] <;> omega) | fail) only [↓reduceIte, ↓zP, zW, WOp, evOp, evBin, binI, binSh, binS, evNil, keyIs, keyEq, mkv, AV.cells, AV.sc, optv, bnd, env, put, Env.get, Env.set, Env.del, Env.dels, Env.init, res1, resL, resV, fillP, splice, newRow, Nat.reduceEqDiff, Nat.reduceLT, Nat.reduceLeDiff, Nat.reduceAdd, Nat.reduceMul, Nat.reduceSub, Nat.reduceBEq, reduceCtorEq, ↓zR, zQ, Tr, StA, StT, hl]
  have hlen : w.length < 2 ^ 60 := by omega
  simp (maxSteps := 1000000) (disch := first | omega | rfl | (simp only [zL, two63, room] <;> omega) | fail) only [↓reduceIte, ↓zP, zW, WOp, evOp, evBin, binI, binSh, binS, evNil, keyIs, keyEq, mkv, AV.cells, AV.sc, optv, bnd, env, put, Env.get, Env.set, Env.del, Env.dels, Env.init, res1, resL, resV, fillP, splice, newRow, Nat.reduceEqDiff, Nat.reduceLT, Nat.reduceLeDiff, Nat.reduceAdd, Nat.reduceMul, Nat.reduceSub, Nat.reduceBEq, reduceCtorEq, ↓zR, zQ, Tr, StA, StT, hl]
  refine c_sReachedAfter w mv hlen ?_
  intro w0 h1 hw0 p1
  simp (maxSteps := 1000000) (disch := first | omega | rfl | (simp only [zL, two63, room] <;> omega) | fail) only [↓reduceIte, ↓zP, zW, WOp, evOp, evBin, binI, binSh, binS, evNil, keyIs, keyEq, mkv, AV.cells, AV.sc, optv, bnd, env, put, Env.get, Env.set, Env.del, Env.dels, Env.init, res1, resL, resV, fillP, splice, newRow, Nat.reduceEqDiff, Nat.reduceLT, Nat.reduceLeDiff, Nat.reduceAdd, Nat.reduceMul, Nat.reduceSub, Nat.reduceBEq, reduceCtorEq, ↓zR, zQ, Tr, StA, StT]
  refine c_ReachedAfter w mv hlen ?_
  intro g0 h2 hg0 p2
  have hLn := af_len w mv
  generalize hL : afL w mv = L at *
  generalize hB : afB w mv = B at *
  simp (maxSteps := 1000000) (disch := first | omega | rfl | (simp only [zL, two63, room] <;> omega) | fail) only [↓reduceIte, ↓zP, zW, WOp, evOp, evBin, binI, binSh, binS, evNil, keyIs, keyEq, mkv, AV.cells, AV.sc, optv, bnd, env, put, Env.get, Env.set, Env.del, Env.dels, Env.init, res1, resL, resV, fillP, splice, newRow, Nat.reduceEqDiff, Nat.reduceLT, Nat.reduceLeDiff, Nat.reduceAdd, Nat.reduceMul, Nat.reduceSub, Nat.reduceBEq, reduceCtorEq, ↓zR, zQ, Tr, StA, StT]
  refine c_eqSS (L := L) (M := L) (by omega) hg0.slc (hw0.pre p2) ?_
  simp (maxSteps := 1000000) (disch := first | omega | rfl | (simp only [zL, two63, room] <;> omega) | fail) only [↓reduceIte, ↓zP, zW, WOp, evOp, evBin, binI, binSh, binS, evNil, keyIs, keyEq, mkv, AV.cells, AV.sc, optv, bnd, env, put, Env.get, Env.set, Env.del, Env.dels, Env.init, res1, resL, resV, fillP, splice, newRow, Nat.reduceEqDiff, Nat.reduceLT, Nat.reduceLeDiff, Nat.reduceAdd, Nat.reduceMul, Nat.reduceSub, Nat.reduceBEq, reduceCtorEq, ↓zR, zQ, Tr, StA, StT, bne_self_eq_false, beq_self_eq_true]
  refine c_markStringS hg0.w 1 (by omega) (by omega) ?_
  intro h3 hm3 v3
  have B3 := v3.keep hg0.w p2 (Nat.le_refl _)
  have hneg : ¬ (((1 + L.length : Nat) : Int) < 0) := by omega
  simp (maxSteps := 1000000) (disch := first | omega | rfl | (simp only [zL, two63, room] <;> omega) | fail) only [↓reduceIte, ↓zP, zW, WOp, evOp, evBin, binI, binSh, binS, evNil, keyIs, keyEq, mkv, AV.cells, AV.sc, optv, bnd, env, put, Env.get, Env.set, Env.del, Env.dels, Env.init, res1, resL, resV, fillP, splice, newRow, Nat.reduceEqDiff, Nat.reduceLT, Nat.reduceLeDiff, Nat.reduceAdd, Nat.reduceMul, Nat.reduceSub, Nat.reduceBEq, reduceCtorEq, ↓zR, zQ, Tr, StA, StT]
  refine c_heldStringS 1 L.length (by omega) (by omega) (hm3.slc hlS) ?_
  intro h4 p4
  have B4 := B3.trans p4
  simp (maxSteps := 1000000) (disch := first | omega | rfl | (simp only [zL, two63, room] <;> omega) | fail) only [↓reduceIte, ↓zP, zW, WOp, evOp, evBin, binI, binSh, binS, evNil, keyIs, keyEq, mkv, AV.cells, AV.sc, optv, bnd, env, put, Env.get, Env.set, Env.del, Env.dels, Env.init, res1, resL, resV, fillP, splice, newRow, Nat.reduceEqDiff, Nat.reduceLT, Nat.reduceLeDiff, Nat.reduceAdd, Nat.reduceMul, Nat.reduceSub, Nat.reduceBEq, reduceCtorEq, ↓zR, zQ, Tr, StA, StT, hneg, bne_self_eq_false]
  refine c_ReachedAfter w mv hlen ?_
  intro u0 h5 hu0 p5
  rw [hL] at hu0
  rw [hB]
  simp (maxSteps := 1000000) (disch := first | omega | rfl | (simp only [zL, two63, room] <;> omega) | fail) only [↓reduceIte, ↓zP, zW, WOp, evOp, evBin, binI, binSh, binS, evNil, keyIs, keyEq, mkv, AV.cells, AV.sc, optv, bnd, env, put, Env.get, Env.set, Env.del, Env.dels, Env.init, res1, resL, resV, fillP, splice, newRow, Nat.reduceEqDiff, Nat.reduceLT, Nat.reduceLeDiff, Nat.reduceAdd, Nat.reduceMul, Nat.reduceSub, Nat.reduceBEq, reduceCtorEq, ↓zR, zQ, Tr, StA, StT]
  refine c_eqSS (L := L) (M := L) (by omega) hu0.slc (hw0.pre (B4.trans p5)) ?_
  simp (maxSteps := 1000000) (disch := first | omega | rfl | (simp only [zL, two63, room] <;> omega) | fail) only [↓reduceIte, ↓zP, zW, WOp, evOp, evBin, binI, binSh, binS, evNil, keyIs, keyEq, mkv, AV.cells, AV.sc, optv, bnd, env, put, Env.get, Env.set, Env.del, Env.dels, Env.init, res1, resL, resV, fillP, splice, newRow, Nat.reduceEqDiff, Nat.reduceLT, Nat.reduceLeDiff, Nat.reduceAdd, Nat.reduceMul, Nat.reduceSub, Nat.reduceBEq, reduceCtorEq, ↓zR, zQ, Tr, StA, StT, bne_self_eq_false, beq_self_eq_true]
  refine c_heldStringS 1 L.length (by omega) (by omega) ((hm3.pre (p4.trans p5)).slc hlS) ?_
  intro h6 p6
  simp (maxSteps := 1000000) (disch := first | omega | rfl | (simp only [zL, two63, room] <;> omega) | fail) only [↓reduceIte, ↓zP, zW, WOp, evOp, evBin, binI, binSh, binS, evNil, keyIs, keyEq, mkv, AV.cells, AV.sc, optv, bnd, env, put, Env.get, Env.set, Env.del, Env.dels, Env.init, res1, resL, resV, fillP, splice, newRow, Nat.reduceEqDiff, Nat.reduceLT, Nat.reduceLeDiff, Nat.reduceAdd, Nat.reduceMul, Nat.reduceSub, Nat.reduceBEq, reduceCtorEq, ↓zR, zQ, Tr, StA, StT, hneg, bne_self_eq_false]
end Go.Proofs.YthiafpdackiglaaDoor.Ab

/- The law FnExactReachedAfter of the given program returns true, whatever the input: its tied card. Condition: what the row lists of package-level tables is laid as the program's text lays it. -/
namespace Go.Proofs.YthiafpdackiglaaDoor.fnExactReachedAfter
open Go Go.ChangeShapes Go.WideShapes Go.ChangeAt Go.RowKit
set_option maxRecDepth 1000000

theorem own : ownKnob Tryd.prog.godebug = none := by kernel_rfl
theorem laidOut : laidOutB Tryd.prog = true := by kernel_rfl
theorem readable : ∀ t ∈ Tryd.f4.params.toList, Tryd.prog.readableRec t = true ∧ t < Tryd.prog.types.size := by
  rw [Tryd.params4]
  intro t ht
  simp only [List.mem_cons, List.not_mem_nil, or_false] at ht
  rcases ht with rfl | rfl
  · exact ⟨by kernel_rfl, of_decide_eq_true (by kernel_rfl)⟩
  · exact ⟨by kernel_rfl, of_decide_eq_true (by kernel_rfl)⟩
theorem contract (H : Type) (enc : TypeId × Value → H) (W : World) (base : Nat) (args : Array Value) (ds gs : List (DataW H)) (before : List MemPlace)
    (hval : ∀ (j : Nat) t v, Tryd.f4.params[j]? = some t → args[j]? = some v → Value.okWide Tryd.prog W .any base t v)
    (hW : DataW.Whole enc Tryd.prog Tryd.f4.params.toList Rows.fnExactReachedAfterSpec.vars false W args.toList ds gs before) :
    Calls Tryd.prog 4 args W fun e W' => ∃ v, e = .returned v ∧ Rows.fnExactReachedAfterSpec.post enc Tryd.prog Tryd.f4 false true false false W args v W' := by
  have hW' := hW
  obtain ⟨p, q, hA0, hV, rfl, hfz, hnd⟩ := hW
  obtain ⟨rfl, rfl⟩ := trodVars_none hV
  have hA : DataW.TrodAll enc Tryd.prog W 0 (fun _ => true) true Tryd.f4.params.toList args.toList ds p := hA0
  rw [Tryd.params4] at hA hval
  obtain ⟨v0, vs0, d0, ds0, p0, q0, hargs0, rfl, rfl, h0, r0⟩ := trodAll_cons hA
  obtain ⟨v1, vs1, d1, ds1, p1, q1, hargs1, rfl, rfl, h1, r1⟩ := trodAll_cons r0
  obtain ⟨rfl, rfl, rfl⟩ := trodAll_nil r1
  obtain rfl : args = #[v0, v1] := by cases args; simp_all
  obtain ⟨s0, hv0, hlen0⟩ := Ab.open_str Tryd.underlying9 (hval 0 9 v0 rfl rfl) h0
  obtain ⟨s1, hv1⟩ := okWide_int Tryd.underlying3 (hval 1 3 v1 rfl rfl)
  have hrel := Ab.rel_nothing Ab.F W
  generalize ([] : Ab.AH) = g at hrel
  generalize (⟨fun _ _ => none, fun _ => none⟩ : Ab.Emb) = m at hrel
  have hlaw := Ab.law_ReachedAfter s0 s1 hlen0 (h := g)
  have hargs : Ab.RelL Ab.F m [.str s0, .int .i64 s1] (#[v0, v1] : Array Value).toList := by
    simp only [Ab.RelL]
    exact ⟨v0, [v1], rfl, by simpa only [Ab.RelV] using hv0, v1, [], rfl, by simpa only [Ab.RelV] using hv1, rfl⟩
  have hres : (Rows.fnExactReachedAfterSpec.fn H ([d0, d1] ++ [])).results = [.lit (.bool true)] := rfl
  have hback : (Rows.fnExactReachedAfterSpec.fn H ([d0, d1] ++ [])).args = [d0, d1] := rfl
  refine (Ab.law_calls (P := Tryd.prog) (F := Ab.F) Ab.all_sound (f := 259) (h := g) hlaw hrel hargs).mono ?_
  rintro e W' ⟨rfl, hb⟩
  refine ⟨_, rfl, Ab.post_below (pa := p0 ++ (p1 ++ [])) (pv := []) hW' (fun _ _ _ => ?_) (fun sp hsp => ?_) (fun _ _ => rfl) (by simp) hb (ok_one (by kernel_rfl) rfl (okWide_bool_mk Tryd.underlying4 _))⟩
  · rw [hres]
    exact trodAll_cons_mk (shut_bool Tryd.underlying4 _) trodAll_mk0
  · rw [hback]
    exact Ab.trodAll_stays laidOut hb readable hA0 (fun x hx => hW'.lt x (by simpa using hx)) (fun x hx => hsp x (by simpa using hx))

/-- A WORLD FOR THE WITNESS: the settled one, the tables holding what is laid. -/
def lits : List (DataW Unit) → List Value
  | [] => []
  | .lit (.int kd n) :: l => .int kd n :: lits l
  | _ :: l => lits l
def cellsT : DataW Unit → List Value
  | .agg l => l.flatMap fun
    | .lit (.int kd n) => [.int kd n]
    | .agg l' => lits l'
    | _ => []
  | _ => []
def setCells (cs : List Value) : Obj → Obj
  | .cells _ t frozen => .cells cs.toArray t frozen
  | o => o
noncomputable def laidWorld (os : Os) : World :=
  { World.holding Tryd.prog os ⟨#[], #[], []⟩ with heap := ((World.holding Tryd.prog os ⟨#[], #[], []⟩).heap.modify 1 (setCells (cellsT Rows.laid_unicode_utf8_first))).modify 2 (setCells (cellsT Rows.laid_unicode_utf8_acceptRanges)) }
theorem laid_met (os : Os) : laidMet Tryd.prog Rows.fnExactReachedAfterRow.laid ((laidWorld os).forCall (fun _ _ => 0) ⟨#[], #[.string ⟨#[]⟩, .int .i64 0], []⟩).memory :=
  laidMet_of_run' 8 (by kernel_rfl) (by kernel_rfl)
theorem reads (os : Os) {H : Type} (enc : TypeId × Value → H) : ∃ places, DataW.whole enc Tryd.prog ((laidWorld os).forCall (fun _ _ => 0) ⟨#[], #[.string ⟨#[]⟩, .int .i64 0], []⟩).memory Tryd.f4.params.toList Rows.fnExactReachedAfterSpec.vars false (#[.string ⟨#[]⟩, .int .i64 0] : Array Value).toList 8 = some ([.lit (.string []), .lit (.int .i64 0)], [], places) :=
  ⟨[], by kernel_rfl⟩

theorem lifted (os : Os) (started : os.Started) (H : Type) (enc : TypeId × Value → H) (F : Stop.Interp) :
    ReturnsInHanded {} Tryd.checked os 4 .any ((OpenSpec.ofChange Rows.fnExactReachedAfterSpec).preRow enc Tryd.prog Tryd.f4 Rows.fnExactReachedAfterRow.domain false Rows.fnExactReachedAfterRow.laid) (((OpenSpec.ofChange Rows.fnExactReachedAfterSpec).at F).post enc Tryd.prog Tryd.f4 false true false false) := by
  obtain ⟨places, hx⟩ := reads os enc
  refine returnsInHanded_of_row (C := Tryd.checked) (s := OpenSpec.ofChange Rows.fnExactReachedAfterSpec) own started (by kernel_rfl) Tryd.func4
    (witness_row_at (enc := enc) (C := Tryd.checked) false (laidWorld os) #[.string ⟨#[]⟩, .int .i64 0] rfl (by kernel_rfl) (by kernel_rfl) (by kernel_rfl)
      (OpenSpec.preRow_of_cond 8 hx (by kernel_rfl) (fun k hk => by cases hk) (by kernel_rfl) (laid_met os))) ?_
  intro W base args ds gs before hval hW _ _ _ _ _ _
  exact contract H enc W base args ds gs before hval hW

theorem said : Rows.FnExactReachedAfterSaid :=
  OpenClaim.holds_of_cond 4 Tryd.f4 rfl rfl rfl rfl rfl rfl rfl ⟨rfl, rfl, rfl, rfl, rfl⟩ rfl rfl rfl rfl rfl (by kernel_rfl) Tryd.func4 (by kernel_rfl)
    (of_decide_eq_true (by kernel_rfl)) (by unfold Func.isWrapper; first | (rw [if_pos (by decide +kernel)]; kernel_rfl) | (rw [if_neg (by decide +kernel)]; exact ⟨rfl, rfl⟩))
    (fun os started H enc _ F => by rw [OpenClaim.pre_eq_preRow]; exact lifted os started H enc F)

/-- No parameter wants a stand-in; the program's own looks are off: what the card asks. -/
theorem plain (f : FuncId) (fn : Func) (hf : Tryd.pinned.checked.prog.funcNamed "loop.example/g01271/laws.FnExactReachedAfter" = some f) (hfn : Tryd.pinned.checked.prog.funcs[f]? = some fn) :
    false = Tryd.pinned.checked.prog.looks [] ∧ ∀ (j : Nat) t, fn.params[j]? = some t → Tryd.pinned.checked.prog.wantsStandIn t = false := by
  obtain rfl : f = 4 := Option.some.inj ((show Tryd.prog.funcNamed "loop.example/g01271/laws.FnExactReachedAfter" = some 4 by kernel_rfl).symm.trans hf) |>.symm
  obtain rfl : fn = Tryd.f4 := (Option.some.inj (Tryd.func4.symm.trans hfn)).symm
  refine ⟨by kernel_rfl, fun j t ht => ?_⟩
  rw [Tryd.params4] at ht
  have hm : t ∈ ([9, 3] : List Nat) := by
    have := Array.mem_of_getElem? ht
    simpa using this
  simp only [List.mem_cons, List.not_mem_nil, or_false] at hm
  rcases hm with rfl | rfl
  · exact (show Tryd.prog.wantsStandIn 9 = false by kernel_rfl)
  · exact (show Tryd.prog.wantsStandIn 3 = false by kernel_rfl)
theorem card : Rows.FnExactReachedAfterCardSaid :=
  Claim7.holds_tied_plain_at .later [] _ _ _ _ said (fun _ h => by cases h) (by kernel_rfl) (fun _ h => by cases h) fnExactReachedAfter_row_tie rfl ⟨rfl, rfl⟩ (by kernel_rfl) rfl plain (by kernel_rfl)
end Go.Proofs.YthiafpdackiglaaDoor.fnExactReachedAfter
