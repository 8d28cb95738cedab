/- Part 4 of the proof of a law of the given program: the rules that it leans on, and what the functions that it reaches answer; the conditions stand with each theorem. -/
import Derived.Laws.RangeString
import Derived.Test.YtejhhdpfndiliaaDoorQ2
set_option linter.unusedSimpArgs false
set_option linter.unusedVariables false
/- TYPED slices: what a slice holds, element by element. -/
namespace Go.Proofs.YtejhhdpfndiliaaDoor.Ab
open Go
set_option maxRecDepth 100000
set_option maxHeartbeats 4000000

section
variable {α : Type} (esz : Nat) (enc : α → List AV)
def Slc (h : AH) (v : AV) (L : List α) : Prop := Sl h esz v L.length (L.flatMap enc)
def OwL (h0 h : AH) (v : AV) (L : List α) : Prop := Own esz h0 h v L.length (L.flatMap enc)
end
section
variable {α : Type} {esz : Nat} {enc : α → List AV}
theorem flat_len (hl : ∀ x, (enc x).length = esz) : ∀ L : List α, (L.flatMap enc).length = L.length * esz
  | [] => by simp
  | x :: L => by rw [List.flatMap_cons, List.length_append, hl, flat_len hl L, List.length_cons, Nat.succ_mul]; omega
theorem flat_at (hl : ∀ x, (enc x).length = esz) (pre : List α) (x : α) (rest : List α) : (((pre ++ x :: rest).flatMap enc).drop (pre.length * esz)).take esz = enc x := by
  rw [List.flatMap_append, List.flatMap_cons, List.drop_left' (flat_len hl pre), List.take_left' (hl x)]
theorem rd_part {h : AH} {c k off n : Nat} {cs : List AV} (hr : rdRow h c k off n = some cs) {o m : Nat} (ho : o + m ≤ n) : rdRow h c k (off + o) m = some ((cs.drop o).take m) := by
  unfold rdRow at hr ⊢
  split at hr
  · rename_i cells ver fl _ hh
    split at hr
    · rename_i hc
      cases hr
      rw [if_pos ⟨hc.1, hc.2.1, by omega⟩, List.drop_take, List.take_take, Nat.min_eq_left (by omega), List.drop_drop]
    · cases hr
  · cases hr
theorem Slc.pre {h h' : AH} (hp : Pre h h') {v : AV} {L : List α} (hs : Slc esz enc h v L) : Slc esz enc h' v L := Sl.pre hp hs
theorem OwL.slc {h0 h : AH} {v : AV} {L : List α} (ho : OwL esz enc h0 h v L) : Slc esz enc h v L := Own.sl ho
theorem OwL.pre {h0 h h' : AH} (hp : Pre h h') {v : AV} {L : List α} (ho : OwL esz enc h0 h v L) : OwL esz enc h0 h' v L := Own.pre hp ho
theorem OwL.old {h0 h1 h : AH} {v : AV} {L : List α} (ho : OwL esz enc h1 h v L) (hp : h0.length ≤ h1.length) : OwL esz enc h0 h v L := by
  unfold OwL Own at ho ⊢
  split at ho
  · exact ho
  · exact ho
  · obtain ⟨h1, h2, h3, h4, h5⟩ := ho; exact ⟨h1, h2, h3, Nat.le_trans hp h4, h5⟩
  · exact ho
theorem Slc.nil {h : AH} : Slc esz enc h .nilS ([] : List α) := ⟨rfl, rfl⟩
theorem Slc.emp {h : AH} : Slc esz enc h .empS ([] : List α) := ⟨rfl, rfl⟩
theorem OwL.nil {h0 h : AH} : OwL esz enc h0 h .nilS ([] : List α) := ⟨rfl, rfl⟩
theorem OwL.emp {h0 h : AH} : OwL esz enc h0 h .empS ([] : List α) := ⟨rfl, rfl⟩
/-- Which slice it is, and what its element is. -/
theorem Slc.at (hl : ∀ x, (enc x).length = esz) {h : AH} {v : AV} {pre : List α} {x : α} {rest : List α} (hs : Slc esz enc h v (pre ++ x :: rest)) : ∃ c kk off, v = .slice c kk off (pre ++ x :: rest).length esz ∧ rdRow h c kk (off + pre.length * esz) esz = some (enc x) := by
  unfold Slc at hs
  cases v <;> simp only [Sl] at hs <;> first
    | (exact hs.elim)
    | (have := hs.1; simp at this; done)
    | skip
  rename_i c kk off len e
  obtain ⟨rfl, rfl, h3, h4⟩ := hs
  refine ⟨c, kk, off, rfl, ?_⟩
  rw [rd_part h4 (by rw [← Nat.succ_mul]; exact Nat.mul_le_mul_right _ (by simp)), flat_at hl]
theorem Slc.rd (hl : ∀ x, (enc x).length = esz) {h : AH} {c kk off n e : Nat} {pre : List α} {x : α} {rest : List α} (hs : Slc esz enc h (.slice c kk off n e) (pre ++ x :: rest)) : rdRow h c kk (off + pre.length * esz) esz = some (enc x) := by
  obtain ⟨c', k', o', he, hr⟩ := hs.at hl
  cases he; exact hr
theorem Slc.all {h : AH} {c kk off n e : Nat} {L : List α} (hs : Slc esz enc h (.slice c kk off n e) L) : n = L.length ∧ e = esz ∧ rdRow h c kk off (n * esz) = some (L.flatMap enc) := by
  unfold Slc at hs
  simp only [Sl] at hs
  obtain ⟨h1, h2, _, h4⟩ := hs
  exact ⟨h2, h1, by rw [h2]; exact h4⟩
theorem Slc.lenV {h : AH} {v : AV} {L : List α} (hs : Slc esz enc h v L) {g : AH} {ρ : Opd → AV} {x : Opd} (hx : ρ x = v) : evOp noCall ρ g (.lenV x) = some (.int .i64 L.length, g) := by
  unfold Slc at hs
  simp only [evOp, hx]
  cases v <;> simp only [Sl] at hs <;> first
    | (exact hs.elim)
    | (have := hs.1; simp only [this]; rfl)
    | (obtain ⟨_, rfl, _⟩ := hs; rfl)
theorem Slc.cases {h : AH} {v : AV} {L : List α} (hs : Slc esz enc h v L) : (v = .nilS ∧ L = []) ∨ (v = .empS ∧ L = []) ∨ ∃ c kk off, v = .slice c kk off L.length esz := by
  unfold Slc at hs
  cases v <;> simp only [Sl] at hs <;> first
    | (exact hs.elim)
    | (obtain ⟨h1, _⟩ := hs; exact .inl ⟨rfl, List.eq_nil_of_length_eq_zero h1⟩)
    | (obtain ⟨h1, _⟩ := hs; exact .inr (.inl ⟨rfl, List.eq_nil_of_length_eq_zero h1⟩))
    | (obtain ⟨rfl, rfl, _⟩ := hs; exact .inr (.inr ⟨_, _, _, rfl⟩))
/-- append of one element. -/
theorem apL (hl : ∀ x, (enc x).length = esz) (hsc : ∀ x, (enc x).all AV.sc = true) {h0 h : AH} {v : AV} {L : List α} (ho : OwL esz enc h0 h v L) (hp : Pre h0 h) (x : α) (hr : L.length + 1 ≤ 1099511627776) :
    ∃ v' h', apRow h esz v 1 (enc x) = some (v', h') ∧ OwL esz enc h0 h' v' (L ++ [x]) ∧ Pre h0 h' := by
  obtain ⟨v', h', h1, h2, h3⟩ := ap_own ho hp (q := 1) (vs := enc x) (by rw [hl]; omega) (hsc x) hr
  refine ⟨v', h', h1, ?_, h3⟩
  unfold OwL
  rw [List.length_append, List.flatMap_append]
  simpa using h2
end
/-- Two heaps agree below n. -/
def Ag (n : Nat) (h h' : AH) : Prop := h.length ≤ h'.length ∧ ∀ i, i < n → h'[i]? = h[i]?
theorem Ag.refl (n : Nat) (h : AH) : Ag n h h := ⟨Nat.le_refl _, fun _ _ => rfl⟩
theorem Ag.trans {n : Nat} {a b c : AH} (x : Ag n a b) (y : Ag n b c) : Ag n a c := ⟨Nat.le_trans x.1 y.1, fun i hi => by rw [y.2 i hi, x.2 i hi]⟩
theorem Pre.ag {h h' : AH} (hp : Pre h h') {n : Nat} (hn : n ≤ h.length) : Ag n h h' := ⟨hp.1, fun i hi => hp.2 i (Nat.lt_of_lt_of_le hi hn)⟩
theorem Ag.pre {h h' : AH} {n : Nat} (ha : Ag n h h') (hn : h.length ≤ n) : Pre h h' := ⟨ha.1, fun i hi => ha.2 i (Nat.lt_of_lt_of_le hi hn)⟩
theorem Ag.mono {h h' : AH} {n m : Nat} (ha : Ag n h h') (hn : m ≤ n) : Ag m h h' := ⟨ha.1, fun i hi => ha.2 i (Nat.lt_of_lt_of_le hi hn)⟩
theorem Ag.set {h h' : AH} {n c : Nat} {o : AO} (ha : Ag n h h') (hc : n ≤ c) : Ag n h (h'.set c o) := ⟨by simpa using ha.1, fun i hi => by rw [List.getElem?_set, if_neg (by omega)]; exact ha.2 i hi⟩
theorem Pre.trans' {a b c : AH} (x : Pre a b) (y : Ag a.length b c) : Pre a c := ⟨Nat.le_trans x.1 y.1, fun i hi => by rw [y.2 i hi, x.2 i hi]⟩
/-- append to a slice of one's own: what lies below is as it was. -/
theorem ap_ag {esz : Nat} {b h : AH} {v : AV} {n : Nat} {cs : List AV} (ho : Own esz b h v n cs) (hb : b.length ≤ h.length) {q : Nat} {vs : List AV} (hq : q * esz = vs.length) (hsc : vs.all AV.sc = true) (hroom : n + q ≤ room) :
    ∃ v' h', apRow h esz v q vs = some (v', h') ∧ Own esz b h' v' (n + q) (cs ++ vs) ∧ Ag b.length h h' := by
  have ho' : Own esz (h.take b.length) h v n cs := by
    unfold Own at ho ⊢
    cases v <;> simp only at ho ⊢ <;> first
      | exact ho
      | (obtain ⟨h1, h2, h3, h4, h5⟩ := ho; exact ⟨h1, h2, h3, by simp; omega, h5⟩)
  have hp : Pre (h.take b.length) h := ⟨by simp; omega, fun i hi => by simp at hi; rw [List.getElem?_take, if_pos (by omega)]⟩
  obtain ⟨v', h', h1, h2, h3⟩ := ap_own ho' hp hq hsc hroom
  refine ⟨v', h', h1, ?_, ?_, ?_⟩
  · unfold Own at h2 ⊢
    cases v' <;> simp only at h2 ⊢ <;> first
      | exact h2
      | (obtain ⟨k1, k2, k3, k4, k5⟩ := h2; exact ⟨k1, k2, k3, by simp at k4; omega, k5⟩)
  · unfold apRow at h1
    cases v <;> simp only [apRow1] at h1 <;> first
      | (cases h1; done)
      | (split at h1
         · cases h1; exact Nat.le_refl _
         · split at h1
           · simp only [newRow, hsc, if_true, Option.map_some, Option.some.injEq, Prod.mk.injEq] at h1
             obtain ⟨_, rfl⟩ := h1; simp
           · cases h1)
      | (split at h1
         · split at h1
           · cases h1; simp
           · split at h1
             · cases h1; simp
             · cases h1
         · cases h1)
  · intro i hi
    have := h3.2 i (by simp; omega)
    rw [this, List.getElem?_take, if_pos hi]
section
variable {α : Type} {esz : Nat} {enc : α → List AV}
theorem apA (hl : ∀ x, (enc x).length = esz) (hsc : ∀ x, (enc x).all AV.sc = true) {b h : AH} {v : AV} {L : List α} (ho : OwL esz enc b h v L) (hb : b.length ≤ h.length) (x : α) (hr : L.length + 1 ≤ 1099511627776) :
    ∃ v' h', apRow h esz v 1 (enc x) = some (v', h') ∧ OwL esz enc b h' v' (L ++ [x]) ∧ Ag b.length h h' := by
  obtain ⟨v', h', h1, h2, h3⟩ := ap_ag ho hb (q := 1) (vs := enc x) (by rw [hl]; omega) (hsc x) hr
  refine ⟨v', h', h1, ?_, h3⟩
  unfold OwL
  rw [List.length_append, List.flatMap_append]
  simpa using h2
end
/-- A store into a slice of one's own. -/
theorem OwL.store {α : Type} {esz : Nat} {enc : α → List AV} (hl : ∀ x, (enc x).length = esz) (hsc : ∀ x, (enc x).all AV.sc = true) {b h : AH} {v : AV} {pre : List α} {x : α} {rest : List α} (ho : OwL esz enc b h v (pre ++ x :: rest)) (y : α) :
    ∃ c kk off h', v = .slice c kk off (pre ++ x :: rest).length esz ∧ wrRow h c kk (off + pre.length * esz) (enc y) = some h' ∧ OwL esz enc b h' v (pre ++ y :: rest) ∧ b.length ≤ c ∧ h'.length = h.length ∧ ∀ i, i ≠ c → h'[i]? = h[i]? := by
  unfold OwL Own at ho
  cases v <;> simp only at ho <;> first
    | (exact ho.elim)
    | (have := ho.1; simp at this; done)
    | skip
  rename_i c kk off len e
  obtain ⟨rfl, rfl, h3, h4, cells, fl, h5, h6, h7, h8⟩ := ho
  have hlt := (List.getElem?_eq_some_iff.1 h5).1
  have hn : (pre ++ x :: rest).length * e = pre.length * e + e + rest.length * e := by
    simp only [List.length_append, List.length_cons, Nat.add_mul, Nat.one_mul]; try omega
  have hf : (pre ++ x :: rest).flatMap enc = pre.flatMap enc ++ (enc x ++ rest.flatMap enc) := by simp
  have hf2 : (pre ++ y :: rest).flatMap enc = pre.flatMap enc ++ (enc y ++ rest.flatMap enc) := by simp
  have hpl := flat_len hl pre
  refine ⟨c, kk, off, h.set c (.row (splice cells (off + pre.length * e) (enc y)) kk kk false), rfl, ?_, ?_, h4, by simp, fun i hi => by rw [List.getElem?_set, if_neg (Ne.symm hi)]⟩
  · unfold wrRow
    rw [h5]
    simp only
    rw [if_pos ⟨trivial, h6, by rw [hl]; omega, hsc y⟩]
  · unfold OwL Own
    simp only
    have hsl : (splice cells (off + pre.length * e) (enc y)).length = cells.length := by
      unfold splice
      simp only [List.length_append, List.length_take, List.length_drop, hl]
      omega
    refine ⟨trivial, by simp, by (rw [flat_len hl]; try simp), h4, _, kk, by rw [List.getElem?_set, if_pos rfl, if_pos hlt], Nat.le_refl _, by rw [hsl]; simp at h7 ⊢; omega, ?_⟩
    unfold splice
    rw [List.append_assoc, List.drop_append_of_le_length (by simp; omega), List.drop_take, h8, hf, hf2, hl]
    rw [show off + pre.length * e - off = pre.length * e by omega, List.take_left' hpl]
    congr 2
    have : cells.drop (off + pre.length * e + e) = (cells.drop off).drop (pre.length * e + e) := by rw [List.drop_drop]; congr 1; omega
    rw [this, h8, hf, ← List.drop_drop, List.drop_left' hpl, List.drop_left' (hl x)]
/-- An iterator moves on: slices stay. -/
theorem own_set {esz : Nat} {b h : AH} {v : AV} {n : Nat} {cs : List AV} (ho : Own esz b h v n cs) {c : Nat} {o : AO} (hc : c < b.length) : Own esz b (h.set c o) v n cs := by
  unfold Own at ho ⊢
  cases v <;> simp only at ho ⊢ <;> first
    | exact ho
    | (obtain ⟨h1, h2, h3, h4, cells, fl, h5, h6⟩ := ho
       exact ⟨h1, h2, h3, h4, cells, fl, by rw [List.getElem?_set, if_neg (by omega)]; exact h5, h6⟩)
theorem own_iter {esz : Nat} {b h : AH} {v : AV} {n : Nat} {cs : List AV} (ho : Own esz b h v n cs) {c : Nat} {o : AO} {s : List UInt8} {p : Nat} (hc : h[c]? = some (.iter s p)) : Own esz b (h.set c o) v n cs := by
  unfold Own at ho ⊢
  cases v <;> simp only at ho ⊢ <;> first
    | exact ho
    | (obtain ⟨h1, h2, h3, h4, cells, fl, h5, h6⟩ := ho
       refine ⟨h1, h2, h3, h4, cells, fl, ?_, h6⟩
       rw [List.getElem?_set, if_neg]
       · exact h5
       · rintro rfl
         rw [hc] at h5; cases h5)
theorem own_base {esz : Nat} {b b' h : AH} {v : AV} {n : Nat} {cs : List AV} (ho : Own esz b h v n cs) (hb : b'.length ≤ b.length) : Own esz b' h v n cs := by
  unfold Own at ho ⊢
  cases v <;> simp only at ho ⊢ <;> first
    | exact ho
    | (obtain ⟨h1, h2, h3, h4, h5⟩ := ho; exact ⟨h1, h2, h3, Nat.le_trans hb h4, h5⟩)
abbrev encS (s : List UInt8) : List AV := [.str s]
abbrev encI (n : Int) : List AV := [.int .i64 n]
abbrev encB (b : Bool) : List AV := [.bool b]
abbrev encM (m : Int × Int) : List AV := [.int .i64 m.1, .int .i64 m.2]
abbrev encC (c : Int × Int × Int) : List AV := [.int .i64 c.1, .int .i64 c.2.1, .int .i64 c.2.2]
theorem hlS (s : List UInt8) : (encS s).length = 1 := rfl
theorem hlI (s : Int) : (encI s).length = 1 := rfl
theorem hlB (s : Bool) : (encB s).length = 1 := rfl
theorem hlM (s : Int × Int) : (encM s).length = 2 := rfl
theorem hlC (s : Int × Int × Int) : (encC s).length = 3 := rfl
theorem scS (s : List UInt8) : (encS s).all AV.sc = true := rfl
theorem scI (s : Int) : (encI s).all AV.sc = true := rfl
theorem scB (s : Bool) : (encB s).all AV.sc = true := rfl
theorem scM (s : Int × Int) : (encM s).all AV.sc = true := rfl
theorem scC (s : Int × Int × Int) : (encC s).all AV.sc = true := rfl
/-- All old rows but one are as they were. -/
def PreX (c : Nat) (h h' : AH) : Prop := h.length ≤ h'.length ∧ ∀ i, i < h.length → i ≠ c → h'[i]? = h[i]?
theorem Pre.x {h h' : AH} (hp : Pre h h') (c : Nat) : PreX c h h' := ⟨hp.1, fun i hi _ => hp.2 i hi⟩
theorem PreX.trans {c : Nat} {h1 h2 h3 : AH} (x : PreX c h1 h2) (y : PreX c h2 h3) : PreX c h1 h3 := ⟨Nat.le_trans x.1 y.1, fun i hi hc => by rw [y.2 i (Nat.lt_of_lt_of_le hi x.1) hc, x.2 i hi hc]⟩
theorem PreX.refl (c : Nat) (h : AH) : PreX c h h := ⟨Nat.le_refl _, fun _ _ _ => rfl⟩
theorem PreX.pre {c : Nat} {h1 h2 : AH} (x : PreX c h1 h2) (hc : h1.length ≤ c) : Pre h1 h2 := ⟨x.1, fun i hi => x.2 i hi (by omega)⟩
theorem PreX.pre2 {c : Nat} {h h2 : AH} {o o' : AO} (x : PreX c (h ++ [o]) h2) (hc : h.length + 1 ≤ c) : Pre h (h2.set h.length o') := by
  have h1 := x.1
  simp at h1
  exact ⟨by simp; omega, fun i hi => by rw [List.getElem?_set, if_neg (by omega), x.2 i (by simp; omega) (by omega), List.getElem?_append_left hi]⟩
theorem PreX.set {c : Nat} {h0 h : AH} {o : AO} (x : PreX c h0 h) : PreX c h0 (h.set c o) := ⟨by simpa using x.1, fun i hi hc => by rw [List.getElem?_set, if_neg (by omega)]; exact x.2 i hi hc⟩
theorem rd_lt {h : AH} {c k off n : Nat} {cs : List AV} (hr : rdRow h c k off n = some cs) : c < h.length := by
  unfold rdRow at hr; split at hr
  · rename_i hh; exact (List.getElem?_eq_some_iff.1 hh).1
  · cases hr
theorem rdRow_prex {h h' : AH} {x : Nat} (hp : PreX x h h') {c k off n : Nat} {cs : List AV} (hc : c ≠ x) (hr : rdRow h c k off n = some cs) : rdRow h' c k off n = some cs := by
  have hlt : c < h.length := by
    unfold rdRow at hr; split at hr
    · rename_i hh; exact (List.getElem?_eq_some_iff.1 hh).1
    · cases hr
  unfold rdRow at hr ⊢
  rw [hp.2 c hlt hc]; exact hr
theorem OwL.slc_prex {α : Type} {esz : Nat} {enc : α → List AV} {h0 h h' : AH} {v : AV} {L : List α} {c : Nat} (ho : OwL esz enc h0 h v L) (hp : PreX c h h') (hc : c < h0.length) : Slc esz enc h' v L := by
  have hs := ho.slc
  unfold OwL Own at ho
  unfold Slc Sl at hs ⊢
  cases v <;> simp only at ho hs ⊢ <;> first
    | exact hs
    | (obtain ⟨h1, h2, h3, h4⟩ := hs
       exact ⟨h1, h2, h3, rdRow_prex hp (by have := ho.2.2.2.1; omega) h4⟩)
end Go.Proofs.YtejhhdpfndiliaaDoor.Ab

/- ARGUMENTS: slices of structs of three integers; a struct of an integer and such a slice. -/
namespace Go.Proofs.YtejhhdpfndiliaaDoor.Ab
open Go Go.RowKit Go.ChangeShapes Go.WideShapes Go.Deep Go.Joins
set_option maxRecDepth 100000

section
variable {H : Type} {enc : TypeId × Value → H} {P : Program}
theorem cell_atA {W : World} {blk off : Nat} {C : Array Value} {ee : TypeId} {fr : Nat × Nat} (h : W.heap[blk]? = some (.cells C ee fr)) (i : Nat) : W.cell? (Addr.add ⟨blk, off, none⟩ i) = C[off + i]? := by
  unfold Addr.add
  split
  · rename_i h0; simp [World.cell?, h, h0]
  · simp [World.cell?, h]
theorem open_int1 {W : World} {b0 fuel : Nat} {sp : Nat → Bool} {hd : Bool} {t : TypeId} (ht : P.underlying t = some (.int .i64)) {c : Value} {y : DataW H × List MemPlace} (h : DataW.trod enc P W b0 sp hd fuel t [c] = some y) : ∃ n, c = .int .i64 n := by
  obtain ⟨n', h1, _⟩ := DataW.trod_int ht h
  simp at h1
  exact ⟨n', h1⟩
theorem open_clue {W : World} {b0 fuel : Nat} {sp : Nat → Bool} {hd : Bool} {e : TypeId} {f0 f1 f2 : Field} (he : P.underlying e = some (.struct #[f0, f1, f2])) (hone : oneCellFields P #[f0, f1, f2] = true)
    (h0 : P.underlying f0.type = some (.int .i64)) (h1 : P.underlying f1.type = some (.int .i64)) (h2 : P.underlying f2.type = some (.int .i64)) {cs : List Value} (hl : cs.length = 3) {x : DataW H × List MemPlace} (h : DataW.trod enc P W b0 sp hd fuel e cs = some x) :
    ∃ c : Int × Int × Int, cs = [.int .i64 c.1, .int .i64 c.2.1, .int .i64 c.2.2] := by
  match cs, hl with
  | [c0, c1, c2], _ =>
    obtain ⟨y0, y1, y2, n, _, _, g0, g1, g2⟩ := trod_struct3 he h
    obtain ⟨o0, k0⟩ := hone_of hone 0 f0 rfl
    obtain ⟨o1, k1⟩ := hone_of hone 1 f1 rfl
    obtain ⟨o2, k2⟩ := hone_of hone 2 f2 rfl
    rw [o0, k0] at g0
    rw [o1, k1] at g1
    rw [o2, k2] at g2
    obtain ⟨n0, rfl⟩ := open_int1 h0 (c := c0) g0
    obtain ⟨n1, rfl⟩ := open_int1 h1 (c := c1) g1
    obtain ⟨n2, rfl⟩ := open_int1 h2 (c := c2) g2
    exact ⟨(n0, n1, n2), rfl⟩
/-- A slice of structs of three integers. -/
theorem open_clues {F : Nat → Nat} {W : World} {fuel : Nat} {t e : TypeId} {f0 f1 f2 : Field} (ht : P.underlying t = some (.slice e)) (he : P.underlying e = some (.struct #[f0, f1, f2])) (hone : oneCellFields P #[f0, f1, f2] = true) (hC : P.cellsOf e = 3)
    (h0 : P.underlying f0.type = some (.int .i64)) (h1 : P.underlying f1.type = some (.int .i64)) (h2 : P.underlying f2.type = some (.int .i64)) {v : Value} {x : DataW H × List MemPlace} (h : DataW.trod enc P W 0 (fun _ => true) true fuel t [v] = some x) :
    ∃ (cs : List (Int × Int × Int)) (m : Emb) (g : AH) (a : AV), Slc 3 encC g a cs ∧ RelV F m a v ∧ RelH F W.heap.size m g W ∧ cs.length < 2 ^ 63 := by
  rcases open_slice ht h with ⟨hv, _⟩ | ⟨a, len, cap, m, n, D, Pl, hv, hb, hl, hmax, hm, hx, hi⟩
  · simp at hv
    subst hv
    exact ⟨[], _, [], .nilS, Slc.nil, by simp only [RelV], rel_nothing F W, by simp⟩
  · simp at hv
    subst hv
    simp only [if_true] at hm
    subst hm
    rw [hC] at hi
    have hcell : ∀ i, i < m → ∃ c : Int × Int × Int, W.cell? (a.add (i * 3)) = some (.int .i64 c.1) ∧ W.cell? ((a.add (i * 3)).add 1) = some (.int .i64 c.2.1) ∧ W.cell? ((a.add (i * 3)).add 2) = some (.int .i64 c.2.2) := by
      intro i him
      obtain ⟨cs', hc, ht'⟩ := hi i him
      obtain ⟨_, hcl, hat⟩ := World.cells?_some hc
      obtain ⟨c, rfl⟩ := open_clue he hone h0 h1 h2 hcl ht'
      refine ⟨c, ?_, ?_, ?_⟩
      · simpa [Addr.add] using hat 0 (by omega)
      · simpa [Addr.add] using hat 1 (by omega)
      · simpa [Addr.add] using hat 2 (by omega)
    by_cases hz : m = 0
    · subst hz
      obtain rfl : len = 0 := by omega
      exact ⟨[], _, [], .empS, Slc.emp, by simp only [RelV]; exact ⟨a, rfl⟩, rel_nothing F W, by simp⟩
    · obtain ⟨c0, q0, _⟩ := hcell 0 (by omega)
      have hspot : a.spot = none := by
        unfold World.cell? at q0
        split at q0
        · split at q0
          · cases q0
          · rename_i hs; simpa [Addr.add] using hs
        · cases q0
      obtain ⟨blk, off, spot⟩ := a
      simp only at hspot
      subst hspot
      obtain ⟨C, ee, fr, hblk⟩ : ∃ C ee fr, W.heap[blk]? = some (.cells C ee fr) := by
        unfold World.cell? at q0
        split at q0
        · rename_i C ee fr hh; exact ⟨C, ee, fr, hh⟩
        · cases q0
      have hC' : ∀ i, i < m → ∃ c : Int × Int × Int, C[off + i * 3]? = some (.int .i64 c.1) ∧ C[off + i * 3 + 1]? = some (.int .i64 c.2.1) ∧ C[off + i * 3 + 2]? = some (.int .i64 c.2.2) := by
        intro i him
        obtain ⟨c, e1, e2, e3⟩ := hcell i him
        rw [Go.Deep.add_add] at e2 e3
        rw [cell_atA hblk] at e1 e2 e3
        exact ⟨c, e1, e2, e3⟩
      have hsize : off + m * 3 ≤ C.size := by
        obtain ⟨c, _, _, e3⟩ := hC' (m - 1) (by omega)
        have := (Array.getElem?_eq_some_iff.1 e3).1
        omega
      -- the elements
      have hel : ∀ l, l ≤ m → ∃ cs : List (Int × Int × Int), cs.length = l ∧ ∀ j x, (cs.flatMap encC)[j]? = some x → ∃ v, C[off + j]? = some v ∧ ∀ F m', RelV F m' x v := by
        intro l
        induction l with
        | zero => intro _; exact ⟨[], rfl, fun j x hx => by simp at hx⟩
        | succ l ih =>
          intro hlm
          obtain ⟨cs, hcs, hh⟩ := ih (by omega)
          obtain ⟨c, e1, e2, e3⟩ := hC' l (by omega)
          refine ⟨cs ++ [c], by simp [hcs], ?_⟩
          intro j x hx
          have hfl : (cs.flatMap encC).length = l * 3 := by rw [flat_len hlC, hcs]
          rw [List.flatMap_append] at hx
          by_cases hj : j < l * 3
          · rw [List.getElem?_append_left (by omega)] at hx
            exact hh j x hx
          · rw [List.getElem?_append_right (by omega), hfl] at hx
            simp only [List.flatMap_cons, List.flatMap_nil, List.append_nil, encC] at hx
            have hj3 : j - l * 3 = 0 ∨ j - l * 3 = 1 ∨ j - l * 3 = 2 := by
              have := (List.getElem?_eq_some_iff.1 hx).1
              simp at this
              omega
            rcases hj3 with e | e | e <;> rw [e] at hx <;> simp at hx <;> subst hx
            · exact ⟨_, (by rw [show off + j = off + l * 3 by omega]; exact e1), fun F m' => by simp only [RelV]⟩
            · exact ⟨_, (by rw [show off + j = off + l * 3 + 1 by omega]; exact e2), fun F m' => by simp only [RelV]⟩
            · exact ⟨_, (by rw [show off + j = off + l * 3 + 2 by omega]; exact e3), fun F m' => by simp only [RelV]⟩
      obtain ⟨cs, hcs, hh⟩ := hel len hl
      have hfl : (cs.flatMap encC).length = len * 3 := by rw [flat_len hlC, hcs]
      have hmx : maxLen < 2 ^ 63 := by decide
      refine ⟨cs, emb1 ⟨blk, off, 0, len * 3, C.size⟩, [.row (cs.flatMap encC) 0 0 true], .slice 0 0 0 len 3, ?_, ?_, ?_, by omega⟩
      · unfold Slc Sl
        refine ⟨rfl, hcs.symm, by rw [hfl, hcs], ?_⟩
        unfold rdRow
        simp only [List.getElem?_cons_zero]
        rw [if_pos (by rw [hfl, hcs]; omega), List.drop_zero, List.take_of_length_le (by rw [hfl, hcs]; exact Nat.le_refl _)]
      · simp only [RelV]
        exact ⟨⟨blk, off, 0, len * 3, C.size⟩, off, m, by simp [emb1], rfl, hl, .inr ⟨Nat.le_refl _, by simp, by simp, by simpa using hsize⟩⟩
      · refine rel_row (C := C) hblk rfl rfl hfl.symm (by simp only; omega) ?_
        intro j x hx
        obtain ⟨v, h3, h4⟩ := hh j x hx
        exact ⟨v, h3, h4 _ _⟩
/-- A struct of an integer and a slice of structs of three integers. -/
theorem open_puzzle {F : Nat → Nat} {W : World} {base : Nat} {t e : TypeId} {g0 g1 f0 f1 f2 : Field} (hp : P.underlying t = some (.struct #[g0, g1])) (honeP : oneCellFields P #[g0, g1] = true) (hCP : P.cellsOf t = 2) (hg0 : P.underlying g0.type = some (.int .i64)) (ht : P.underlying g1.type = some (.slice e))
    (he : P.underlying e = some (.struct #[f0, f1, f2])) (hone : oneCellFields P #[f0, f1, f2] = true) (hC : P.cellsOf e = 3)
    (h0 : P.underlying f0.type = some (.int .i64)) (h1 : P.underlying f1.type = some (.int .i64)) (h2 : P.underlying f2.type = some (.int .i64)) {v : Value} {d : DataW H} {p : List MemPlace} (hval : Value.okWide P W .any base t v) (h : DataW.Trod enc P W 0 (fun _ => true) true t v d p) :
    ∃ (n : Int) (cs : List (Int × Int × Int)) (m : Emb) (g : AH) (a : AV), Slc 3 encC g a cs ∧ RelV F m (.agg [.int .i64 n, a]) v ∧ RelH F W.heap.size m g W ∧ cs.length < 2 ^ 63 := by
  obtain ⟨v0, v1, y0, y1, n, rfl, _, _, q0, q1⟩ := open_agg2 hp honeP hCP hval h
  obtain ⟨n0, rfl⟩ := open_int1 hg0 q0
  obtain ⟨cs, m, g, a, k1, k2, k3, k4⟩ := open_clues (F := F) ht he hone hC h0 h1 h2 q1
  refine ⟨n0, cs, m, g, a, k1, ?_, k3, k4⟩
  simp only [RelV, RelL]
  exact ⟨_, rfl, _, _, rfl, rfl, _, _, rfl, k2, rfl⟩
theorem open_str {W : World} {base : Nat} {t : TypeId} (ht : P.underlying t = some .string) {v : Value} {d : DataW H} {p : List MemPlace} (hval : Value.okWide P W .any base t v) (h : DataW.Trod enc P W 0 (fun _ => true) true t v d p) : ∃ s : List UInt8, v = .string ⟨s.toArray⟩ ∧ s.length < 2 ^ 63 := by
  obtain ⟨s, rfl⟩ := okWide_string ht hval
  obtain ⟨fuel, h⟩ := h
  obtain ⟨s', h1, _, h3⟩ := DataW.trod_string ht h
  simp only [Value.cells, List.cons.injEq, and_true, Value.string.injEq] at h1
  subst h1
  refine ⟨s.data.toList, rfl, ?_⟩
  have : s.size = s.data.toList.length := rfl
  unfold maxLen at h3
  omega
end
end Go.Proofs.YtejhhdpfndiliaaDoor.Ab

/- ARGUMENTS: structs of two integers, slices of them. -/
namespace Go.Proofs.YtejhhdpfndiliaaDoor.Ab
open Go Go.RowKit Go.ChangeShapes Go.WideShapes Go.Deep Go.Joins
set_option maxRecDepth 100000

section
variable {H : Type} {enc : TypeId × Value → H} {P : Program}
theorem open_mv {W : World} {b0 fuel : Nat} {sp : Nat → Bool} {hd : Bool} {e : TypeId} {f0 f1 : Field} (he : P.underlying e = some (.struct #[f0, f1])) (hone : oneCellFields P #[f0, f1] = true)
    (h0 : P.underlying f0.type = some (.int .i64)) (h1 : P.underlying f1.type = some (.int .i64)) {cs : List Value} (hl : cs.length = 2) {x : DataW H × List MemPlace} (h : DataW.trod enc P W b0 sp hd fuel e cs = some x) :
    ∃ c : Int × Int, cs = [.int .i64 c.1, .int .i64 c.2] := by
  match cs, hl with
  | [c0, c1], _ =>
    obtain ⟨y0, y1, n, _, _, g0, g1⟩ := trod_struct2 he h
    obtain ⟨o0, k0⟩ := hone_of hone 0 f0 rfl
    obtain ⟨o1, k1⟩ := hone_of hone 1 f1 rfl
    rw [o0, k0] at g0
    rw [o1, k1] at g1
    obtain ⟨n0, rfl⟩ := open_int1 h0 (c := c0) g0
    obtain ⟨n1, rfl⟩ := open_int1 h1 (c := c1) g1
    exact ⟨(n0, n1), rfl⟩
/-- A slice of structs of two integers. -/
theorem open_moves {F : Nat → Nat} {W : World} {fuel : Nat} {t e : TypeId} {f0 f1 : Field} (ht : P.underlying t = some (.slice e)) (he : P.underlying e = some (.struct #[f0, f1])) (hone : oneCellFields P #[f0, f1] = true) (hC : P.cellsOf e = 2)
    (h0 : P.underlying f0.type = some (.int .i64)) (h1 : P.underlying f1.type = some (.int .i64)) {v : Value} {x : DataW H × List MemPlace} (h : DataW.trod enc P W 0 (fun _ => true) true fuel t [v] = some x) :
    ∃ (cs : List (Int × Int)) (m : Emb) (g : AH) (a : AV), Slc 2 encM g a cs ∧ RelV F m a v ∧ RelH F W.heap.size m g W ∧ cs.length < 2 ^ 63 := by
  rcases open_slice ht h with ⟨hv, _⟩ | ⟨a, len, cap, m, n, D, Pl, hv, hb, hl, hmax, hm, hx, hi⟩
  · simp at hv
    subst hv
    exact ⟨[], _, [], .nilS, Slc.nil, by simp only [RelV], rel_nothing F W, by simp⟩
  · simp at hv
    subst hv
    simp only [if_true] at hm
    subst hm
    rw [hC] at hi
    have hcell : ∀ i, i < m → ∃ c : Int × Int, W.cell? (a.add (i * 2)) = some (.int .i64 c.1) ∧ W.cell? ((a.add (i * 2)).add 1) = some (.int .i64 c.2) := by
      intro i him
      obtain ⟨cs', hc, ht'⟩ := hi i him
      obtain ⟨_, hcl, hat⟩ := World.cells?_some hc
      obtain ⟨c, rfl⟩ := open_mv he hone h0 h1 hcl ht'
      refine ⟨c, ?_, ?_⟩
      · simpa [Addr.add] using hat 0 (by omega)
      · simpa [Addr.add] using hat 1 (by omega)
    by_cases hz : m = 0
    · subst hz
      obtain rfl : len = 0 := by omega
      exact ⟨[], _, [], .empS, Slc.emp, by simp only [RelV]; exact ⟨a, rfl⟩, rel_nothing F W, by simp⟩
    · obtain ⟨c0, q0, _⟩ := hcell 0 (by omega)
      have hspot : a.spot = none := by
        unfold World.cell? at q0
        split at q0
        · split at q0
          · cases q0
          · rename_i hs; simpa [Addr.add] using hs
        · cases q0
      obtain ⟨blk, off, spot⟩ := a
      simp only at hspot
      subst hspot
      obtain ⟨C, ee, fr, hblk⟩ : ∃ C ee fr, W.heap[blk]? = some (.cells C ee fr) := by
        unfold World.cell? at q0
        split at q0
        · rename_i C ee fr hh; exact ⟨C, ee, fr, hh⟩
        · cases q0
      have hC' : ∀ i, i < m → ∃ c : Int × Int, C[off + i * 2]? = some (.int .i64 c.1) ∧ C[off + i * 2 + 1]? = some (.int .i64 c.2) := by
        intro i him
        obtain ⟨c, e1, e2⟩ := hcell i him
        rw [Go.Deep.add_add] at e2
        rw [cell_atA hblk] at e1 e2
        exact ⟨c, e1, e2⟩
      have hsize : off + m * 2 ≤ C.size := by
        obtain ⟨c, _, e3⟩ := hC' (m - 1) (by omega)
        have := (Array.getElem?_eq_some_iff.1 e3).1
        omega
      -- the elements
      have hel : ∀ l, l ≤ m → ∃ cs : List (Int × Int), cs.length = l ∧ ∀ j x, (cs.flatMap encM)[j]? = some x → ∃ v, C[off + j]? = some v ∧ ∀ F m', RelV F m' x v := by
        intro l
        induction l with
        | zero => intro _; exact ⟨[], rfl, fun j x hx => by simp at hx⟩
        | succ l ih =>
          intro hlm
          obtain ⟨cs, hcs, hh⟩ := ih (by omega)
          obtain ⟨c, e1, e2⟩ := hC' l (by omega)
          refine ⟨cs ++ [c], by simp [hcs], ?_⟩
          intro j x hx
          have hfl : (cs.flatMap encM).length = l * 2 := by rw [flat_len hlM, hcs]
          rw [List.flatMap_append] at hx
          by_cases hj : j < l * 2
          · rw [List.getElem?_append_left (by omega)] at hx
            exact hh j x hx
          · rw [List.getElem?_append_right (by omega), hfl] at hx
            simp only [List.flatMap_cons, List.flatMap_nil, List.append_nil, encM] at hx
            have hj3 : j - l * 2 = 0 ∨ j - l * 2 = 1 := by
              have := (List.getElem?_eq_some_iff.1 hx).1
              simp at this
              omega
            rcases hj3 with e | e <;> rw [e] at hx <;> simp at hx <;> subst hx
            · exact ⟨_, (by rw [show off + j = off + l * 2 by omega]; exact e1), fun F m' => by simp only [RelV]⟩
            · exact ⟨_, (by rw [show off + j = off + l * 2 + 1 by omega]; exact e2), fun F m' => by simp only [RelV]⟩
      obtain ⟨cs, hcs, hh⟩ := hel len hl
      have hfl : (cs.flatMap encM).length = len * 2 := by rw [flat_len hlM, hcs]
      have hmx : maxLen < 2 ^ 63 := by decide
      refine ⟨cs, emb1 ⟨blk, off, 0, len * 2, C.size⟩, [.row (cs.flatMap encM) 0 0 true], .slice 0 0 0 len 2, ?_, ?_, ?_, by omega⟩
      · unfold Slc Sl
        refine ⟨rfl, hcs.symm, by rw [hfl, hcs], ?_⟩
        unfold rdRow
        simp only [List.getElem?_cons_zero]
        rw [if_pos (by rw [hfl, hcs]; omega), List.drop_zero, List.take_of_length_le (by rw [hfl, hcs]; exact Nat.le_refl _)]
      · simp only [RelV]
        exact ⟨⟨blk, off, 0, len * 2, C.size⟩, off, m, by simp [emb1], rfl, hl, .inr ⟨Nat.le_refl _, by simp, by simp, by simpa using hsize⟩⟩
      · refine rel_row (C := C) hblk rfl rfl hfl.symm (by simp only; omega) ?_
        intro j x hx
        obtain ⟨v, h3, h4⟩ := hh j x hx
        exact ⟨v, h3, h4 _ _⟩
/-- A struct of two integers. -/
theorem open_move {W : World} {base : Nat} {t : TypeId} {g0 g1 : Field} (hp : P.underlying t = some (.struct #[g0, g1])) (honeP : oneCellFields P #[g0, g1] = true) (hCP : P.cellsOf t = 2) (hg0 : P.underlying g0.type = some (.int .i64)) (hg1 : P.underlying g1.type = some (.int .i64))
    {v : Value} {d : DataW H} {p : List MemPlace} (hval : Value.okWide P W .any base t v) (h : DataW.Trod enc P W 0 (fun _ => true) true t v d p) :
    ∃ c : Int × Int, ∀ (F : Nat → Nat) (m : Emb), RelV F m (.agg (encM c)) v := by
  obtain ⟨v0, v1, y0, y1, n, rfl, _, _, q0, q1⟩ := open_agg2 hp honeP hCP hval h
  obtain ⟨n0, rfl⟩ := open_int1 hg0 q0
  obtain ⟨n1, rfl⟩ := open_int1 hg1 q1
  refine ⟨(n0, n1), fun F m => ?_⟩
  simp only [RelV, RelL]
  exact ⟨_, rfl, _, _, rfl, rfl, _, _, rfl, rfl, rfl⟩
/-- A slice of structs of two integers, as an argument. -/
theorem open_movesA {F : Nat → Nat} {W : World} {base : Nat} {t e : TypeId} {f0 f1 : Field} (ht : P.underlying t = some (.slice e)) (he : P.underlying e = some (.struct #[f0, f1])) (hone : oneCellFields P #[f0, f1] = true) (hC : P.cellsOf e = 2)
    (h0 : P.underlying f0.type = some (.int .i64)) (h1 : P.underlying f1.type = some (.int .i64)) {v : Value} {d : DataW H} {p : List MemPlace} (hval : Value.okWide P W .any base t v) (h : DataW.Trod enc P W 0 (fun _ => true) true t v d p) :
    ∃ (cs : List (Int × Int)) (m : Emb) (g : AH) (a : AV), Slc 2 encM g a cs ∧ RelV F m a v ∧ RelH F W.heap.size m g W ∧ cs.length < 2 ^ 63 := by
  obtain ⟨fuel, h⟩ := h
  obtain ⟨a, len, cap, rfl⟩ := okWide_slice ht hval
  exact open_moves ht he hone hC h0 h1 h
end
end Go.Proofs.YtejhhdpfndiliaaDoor.Ab

/- slices.IndexFunc, ContainsFunc and DeleteFunc, by what the function handed on answers. -/
namespace Go.Proofs.YtejhhdpfndiliaaDoor.Ab
open Go
set_option maxRecDepth 100000
set_option maxHeartbeats 4000000

def idxOf {α : Type} (P : α → Bool) (L : List α) : Int := match L.findIdx? P with
  | some i => i
  | none => -1
theorem idxOf_ge {α : Type} (P : α → Bool) (L : List α) : (idxOf P L ≥ 0) = (L.any P = true) := by
  unfold idxOf
  cases h : L.findIdx? P with
  | none => rw [List.findIdx?_eq_none_iff] at h; simp; exact fun x hx => by simpa using h x hx
  | some i =>
    rw [List.findIdx?_eq_some_iff_getElem] at h
    obtain ⟨hi, hp, _⟩ := h
    simp only [ge_iff_le, Int.natCast_nonneg, eq_iff_iff, true_iff, List.any_eq_true]
    exact ⟨_, List.getElem_mem hi, hp⟩
end Go.Proofs.YtejhhdpfndiliaaDoor.Ab

/- slices.DeleteFunc on texts. -/
namespace Go.Proofs.YtejhhdpfndiliaaDoor.Ab
open Go
set_option maxRecDepth 100000
set_option maxHeartbeats 4000000

/-- A slice of one's own that may be written, perhaps with more behind it in its row. -/
def OwW {α : Type} (esz : Nat) (enc : α → List AV) (b h : AH) (v : AV) (L : List α) : Prop := match v with
  | .nilS | .empS => L = []
  | .slice c kk off len e => e = esz ∧ len = L.length ∧ b.length ≤ c ∧ ∃ A Z fl, h[c]? = some (.row (A ++ L.flatMap enc ++ Z) kk fl false) ∧ fl ≤ kk ∧ A.length = off
  | _ => False
section
variable {α : Type} {esz : Nat} {enc : α → List AV}
theorem OwL.w {b h : AH} {v : AV} {L : List α} (ho : OwL esz enc b h v L) : OwW esz enc b h v L := by
  unfold OwL Own at ho
  unfold OwW
  cases v <;> simp only at ho ⊢ <;> first
    | exact ho
    | exact List.eq_nil_of_length_eq_zero ho.1
    | skip
  rename_i c kk off len e
  obtain ⟨h1, h2, h3, h4, cells, fl, h5, h6, h7, h8⟩ := ho
  refine ⟨h1, h2, h4, cells.take off, [], fl, ?_, h6, by simp; omega⟩
  rw [← h8, List.append_nil, List.take_append_drop]
  exact h5
theorem OwW.slc (hl : ∀ x, (enc x).length = esz) {b h : AH} {v : AV} {L : List α} (ho : OwW esz enc b h v L) : Slc esz enc h v L := by
  unfold OwW at ho
  unfold Slc Sl
  cases v <;> simp only at ho ⊢ <;> first
    | exact ho
    | (subst ho; exact ⟨rfl, rfl⟩)
    | skip
  rename_i c kk off len e
  obtain ⟨h1, h2, h3, A, Z, fl, h4, h5, h6⟩ := ho
  refine ⟨h1, h2, (flat_len hl L).symm, ?_⟩
  have hf := flat_len hl L
  rw [rd_of h4 ⟨h5, Nat.le_refl _, by simp only [List.length_append, hf]; omega⟩]
  rw [List.append_assoc, List.drop_left' h6, List.take_left' hf]
theorem OwW.pre {b h h' : AH} (hp : Pre h h') {v : AV} {L : List α} (ho : OwW esz enc b h v L) : OwW esz enc b h' v L := by
  unfold OwW at ho ⊢
  cases v <;> simp only at ho ⊢ <;> first
    | exact ho
    | (obtain ⟨h1, h2, h3, A, Z, fl, h4, h5⟩ := ho
       exact ⟨h1, h2, h3, A, Z, fl, by rw [hp.2 _ (List.getElem?_eq_some_iff.1 h4).1]; exact h4, h5⟩)
theorem OwW.base {b b' h : AH} {v : AV} {L : List α} (ho : OwW esz enc b h v L) (hb : b'.length ≤ b.length) : OwW esz enc b' h v L := by
  unfold OwW at ho ⊢
  cases v <;> simp only at ho ⊢ <;> first
    | exact ho
    | (obtain ⟨h1, h2, h3, h4⟩ := ho; exact ⟨h1, h2, Nat.le_trans hb h3, h4⟩)
end
theorem drop_mid {α : Type} (A w : List α) (x : α) (Z : List α) {n : Nat} (hn : n = A.length + w.length) : ((A ++ (w ++ x :: Z)).drop n).take 1 = [x] := by
  subst hn
  rw [← List.append_assoc, List.drop_left' (by simp)]
  rfl
theorem splice_mid {α : Type} (A w : List α) (y x : α) (Z : List α) {n : Nat} (hn : n = A.length + w.length) : splice (A ++ (w ++ y :: Z)) n [x] = A ++ (w ++ x :: Z) := by
  subst hn
  unfold splice
  rw [← List.append_assoc, List.take_left' (by simp), List.append_assoc, ← List.drop_drop, List.drop_left' (by simp)]
  simp
theorem splice_all {α : Type} (A w m Z m' : List α) {n : Nat} (hn : n = A.length + w.length) (hm : m'.length = m.length) : splice (A ++ (w ++ (m ++ Z))) n m' = A ++ (w ++ (m' ++ Z)) := by
  subst hn
  unfold splice
  rw [← List.append_assoc, List.take_left' (by simp), ← List.drop_drop, List.drop_left' (by simp), hm, List.drop_left' rfl]
  simp

theorem take_slice {α : Type} {P : α → Bool} {L : List α} {i : Nat} (h : L.findIdx? P = some i) : ∃ x rest, L = L.take i ++ x :: rest ∧ P x = true ∧ L.filter (fun x => !P x) = L.take i ++ rest.filter (fun x => !P x) ∧ i < L.length := by
  rw [List.findIdx?_eq_some_iff_getElem] at h
  obtain ⟨hi, hp, hn⟩ := h
  have e : L = L.take i ++ L[i] :: L.drop (i + 1) := by rw [← List.drop_eq_getElem_cons, List.take_append_drop]
  refine ⟨L[i], L.drop (i + 1), e, hp, ?_, hi⟩
  rw [e, List.filter_append, List.filter_cons, hp, ← e]
  simp only [Bool.not_true, Bool.false_eq_true, if_false]
  congr 1
  rw [List.filter_eq_self]
  intro x hx
  obtain ⟨j, hj, rfl⟩ := List.getElem_of_mem hx
  simp at hj
  have := hn j (by omega)
  simp at this ⊢
  exact this
/-- All old rows but the slice's own are as they were. -/
def PreV (v : AV) (h h' : AH) : Prop := h.length ≤ h'.length ∧ ∀ i, i < h.length → (∀ c kk off n e, v = .slice c kk off n e → i ≠ c) → h'[i]? = h[i]?
theorem Pre.v {h h' : AH} (hp : Pre h h') (v : AV) : PreV v h h' := ⟨hp.1, fun i hi _ => hp.2 i hi⟩
theorem PreX.v {h h' : AH} {c kk off n e : Nat} (hp : PreX c h h') : PreV (.slice c kk off n e) h h' := ⟨hp.1, fun i hi hc => hp.2 i hi (hc c kk off n e rfl)⟩
theorem flatS (L : List (List UInt8)) : L.flatMap encS = L.map AV.str := by
  induction L with
  | nil => rfl
  | cons a L ih => rw [List.flatMap_cons, ih]; rfl
end Go.Proofs.YtejhhdpfndiliaaDoor.Ab

/- LINES: what the reference's small functions answer. -/
namespace Go.Proofs.YtejhhdpfndiliaaDoor.Ab
open Go
set_option maxRecDepth 100000
set_option maxHeartbeats 4000000

theorem c_l1In (n lo hi : Int) {h : AH} {post : AV → AH → Prop} (hp : post (.bool (decide (lo ≤ n ∧ n ≤ hi))) h) : S 77 [.int .i64 n, .int .i64 lo, .int .i64 hi] h post k := by
  refine S_of rfl T77 ?_
  unfold fi77
  simp only [↓reduceIte, ↓zP, zW, WOp, evOp, evBin, binI, binSh, binS, evNil, keyIs, keyEq, mkv, AV.cells, AV.sc, optv, bnd, env, put, Env.get, Env.set, Env.del, Env.dels, Env.init, res1, resL, resV, fillP, splice, newRow, Nat.reduceEqDiff, Nat.reduceLT, Nat.reduceLeDiff, Nat.reduceAdd, Nat.reduceMul, Nat.reduceSub, Nat.reduceBEq, reduceCtorEq]
  apply WB_dec
  · intro h1
    simp only [↓reduceIte, ↓zP, zW, WOp, evOp, evBin, binI, binSh, binS, evNil, keyIs, keyEq, mkv, AV.cells, AV.sc, optv, bnd, env, put, Env.get, Env.set, Env.del, Env.dels, Env.init, res1, resL, resV, fillP, splice, newRow, Nat.reduceEqDiff, Nat.reduceLT, Nat.reduceLeDiff, Nat.reduceAdd, Nat.reduceMul, Nat.reduceSub, Nat.reduceBEq, reduceCtorEq, h1]
    simpa [h1] using hp
  · intro h1
    simp only [↓reduceIte, ↓zP, zW, WOp, evOp, evBin, binI, binSh, binS, evNil, keyIs, keyEq, mkv, AV.cells, AV.sc, optv, bnd, env, put, Env.get, Env.set, Env.del, Env.dels, Env.init, res1, resL, resV, fillP, splice, newRow, Nat.reduceEqDiff, Nat.reduceLT, Nat.reduceLeDiff, Nat.reduceAdd, Nat.reduceMul, Nat.reduceSub, Nat.reduceBEq, reduceCtorEq, h1]
    simpa [h1] using hp

def isSign (b : UInt8) : Bool := b == 84 || b == 70 || b == 46
def goodLine (s : List UInt8) : Bool := decide (1 ≤ s.length ∧ s.length ≤ 12) && s.all isSign

theorem u8_eq (b c : UInt8) {n : Int} (hc : (c.toNat : Int) = n) : (((b.toNat : Nat) : Int) == n) = (b == c) := by
  subst hc
  by_cases h : b = c
  · subst h; simp
  · have : ¬ ((b.toNat : Int) = (c.toNat : Int)) := fun hh => h (UInt8.toNat_inj.1 (by omega))
    rw [beq_eq_false_iff_ne.2 h, beq_eq_false_iff_ne.2 this]
theorem u8_ne (b c : UInt8) {n : Int} (hc : (c.toNat : Int) = n) : (((b.toNat : Nat) : Int) != n) = !(b == c) := by
  show (!(((b.toNat : Nat) : Int) == n)) = _
  rw [u8_eq b c hc]

theorem lp_liGood (s : List UInt8) (hs : s.length < 2 ^ 60) {h : AH} {R : X → Env → AH → Prop} : ∀ d i : Nat, i + d = s.length →
    ((s.drop i).all isSign = true → R (.exit 0) [] h) → ((s.drop i).all isSign = false → R .ret [(2, .bool false)] h) →
    Cx (.loop lp104_0) [(0, .str s), (3, .int .i64 i)] h R k k := by
  intro d
  induction d with
  | zero =>
    intro i hi h1 h2
    rw [w_loopb (c := lp104_0) (d := lb104_0) rfl]
    unfold lb104_0
    obtain rfl : i = s.length := by omega
    simp only [↓reduceIte, ↓zP, zW, WOp, evOp, evBin, binI, binSh, binS, evNil, keyIs, keyEq, mkv, AV.cells, AV.sc, optv, bnd, env, put, Env.get, Env.set, Env.del, Env.dels, Env.init, res1, resL, resV, fillP, splice, newRow, Nat.reduceEqDiff, Nat.reduceLT, Nat.reduceLeDiff, Nat.reduceAdd, Nat.reduceMul, Nat.reduceSub, Nat.reduceBEq, reduceCtorEq]
    exact h1 (by simp)
  | succ d ih =>
    intro i hi h1 h2
    rw [w_loopb (c := lp104_0) (d := lb104_0) rfl]
    unfold lb104_0
    have hlt : i < s.length := by omega
    have hlt' : (i : Int) < (s.length : Int) := by omega
    have hdrop : s.drop i = s.getD i 0 :: s.drop (i + 1) := by
      rw [List.drop_eq_getElem_cons hlt]; simp [List.getD_eq_getElem?_getD, hlt]
    generalize hb : s.getD i 0 = b at *
    have u1 := u8_ne b 84 (n := 84) rfl
    have u2 := u8_ne b 70 (n := 70) rfl
    have u3 := u8_ne b 46 (n := 46) rfl
    have hw : IntKind.i64.wrap ((i : Int) + 1) = ((i + 1 : Nat) : Int) := by rw [IntKind.wrap_i64]; omega
    cases e1 : (b == 84) <;> cases e2 : (b == 70) <;> cases e3 : (b == 46) <;>
      simp only [↓reduceIte, ↓zP, zW, WOp, evOp, evBin, binI, binSh, binS, evNil, keyIs, keyEq, mkv, AV.cells, AV.sc, optv, bnd, env, put, Env.get, Env.set, Env.del, Env.dels, Env.init, res1, resL, resV, fillP, splice, newRow, Nat.reduceEqDiff, Nat.reduceLT, Nat.reduceLeDiff, Nat.reduceAdd, Nat.reduceMul, Nat.reduceSub, Nat.reduceBEq, reduceCtorEq, hlt', hb, u1, u2, u3, e1, e2, e3, hw] <;> first
      | (rw [w_loopn (c := lp104_0) rfl]
         simp only [↓reduceIte, ↓zP, zW, WOp, evOp, evBin, binI, binSh, binS, evNil, keyIs, keyEq, mkv, AV.cells, AV.sc, optv, bnd, env, put, Env.get, Env.set, Env.del, Env.dels, Env.init, res1, resL, resV, fillP, splice, newRow, Nat.reduceEqDiff, Nat.reduceLT, Nat.reduceLeDiff, Nat.reduceAdd, Nat.reduceMul, Nat.reduceSub, Nat.reduceBEq, reduceCtorEq]
         exact ih (i + 1) (by omega) (fun hh => h1 (by rw [hdrop, List.all_cons, hh]; simp [isSign, e1, e2, e3])) (fun hh => h2 (by rw [hdrop, List.all_cons, hh]; simp)))
      | exact h2 (by rw [hdrop, List.all_cons]; simp [isSign, e1, e2, e3])

theorem c_liGood (s : List UInt8) {h : AH} {post : AV → AH → Prop} (hs : s.length < 2 ^ 60) (hp : post (.bool (goodLine s)) h) : S 104 [.str s] h post k := by
  refine S_of rfl T104 ?_
  unfold fi104
  simp only [↓reduceIte, ↓zP, zW, WOp, evOp, evBin, binI, binSh, binS, evNil, keyIs, keyEq, mkv, AV.cells, AV.sc, optv, bnd, env, put, Env.get, Env.set, Env.del, Env.dels, Env.init, res1, resL, resV, fillP, splice, newRow, Nat.reduceEqDiff, Nat.reduceLT, Nat.reduceLeDiff, Nat.reduceAdd, Nat.reduceMul, Nat.reduceSub, Nat.reduceBEq, reduceCtorEq]
  refine c_l1In _ _ _ ?_
  simp only [↓reduceIte, ↓zP, zW, WOp, evOp, evBin, binI, binSh, binS, evNil, keyIs, keyEq, mkv, AV.cells, AV.sc, optv, bnd, env, put, Env.get, Env.set, Env.del, Env.dels, Env.init, res1, resL, resV, fillP, splice, newRow, Nat.reduceEqDiff, Nat.reduceLT, Nat.reduceLeDiff, Nat.reduceAdd, Nat.reduceMul, Nat.reduceSub, Nat.reduceBEq, reduceCtorEq]
  refine WB_cases ?_ ?_
  · intro e
    simp only [↓reduceIte, ↓zP, zW, WOp, evOp, evBin, binI, binSh, binS, evNil, keyIs, keyEq, mkv, AV.cells, AV.sc, optv, bnd, env, put, Env.get, Env.set, Env.del, Env.dels, Env.init, res1, resL, resV, fillP, splice, newRow, Nat.reduceEqDiff, Nat.reduceLT, Nat.reduceLeDiff, Nat.reduceAdd, Nat.reduceMul, Nat.reduceSub, Nat.reduceBEq, reduceCtorEq, e]
    have : goodLine s = false := by
      simp only [goodLine]
      simp at e ⊢
      omega
    rw [this] at hp
    exact hp
  · intro e
    simp only [↓reduceIte, ↓zP, zW, WOp, evOp, evBin, binI, binSh, binS, evNil, keyIs, keyEq, mkv, AV.cells, AV.sc, optv, bnd, env, put, Env.get, Env.set, Env.del, Env.dels, Env.init, res1, resL, resV, fillP, splice, newRow, Nat.reduceEqDiff, Nat.reduceLT, Nat.reduceLeDiff, Nat.reduceAdd, Nat.reduceMul, Nat.reduceSub, Nat.reduceBEq, reduceCtorEq, e]
    have hlen : 1 ≤ s.length ∧ s.length ≤ 12 := by
      simp at e
      omega
    refine lp_liGood s hs s.length 0 (by omega) ?_ ?_
    · intro hall
      simp only [↓reduceIte, ↓zP, zW, WOp, evOp, evBin, binI, binSh, binS, evNil, keyIs, keyEq, mkv, AV.cells, AV.sc, optv, bnd, env, put, Env.get, Env.set, Env.del, Env.dels, Env.init, res1, resL, resV, fillP, splice, newRow, Nat.reduceEqDiff, Nat.reduceLT, Nat.reduceLeDiff, Nat.reduceAdd, Nat.reduceMul, Nat.reduceSub, Nat.reduceBEq, reduceCtorEq]
      have : goodLine s = true := by simp only [goodLine]; rw [List.drop_zero] at hall; rw [hall]; simp [hlen]
      rw [this] at hp
      exact hp
    · intro hall
      simp only [↓reduceIte, ↓zP, zW, WOp, evOp, evBin, binI, binSh, binS, evNil, keyIs, keyEq, mkv, AV.cells, AV.sc, optv, bnd, env, put, Env.get, Env.set, Env.del, Env.dels, Env.init, res1, resL, resV, fillP, splice, newRow, Nat.reduceEqDiff, Nat.reduceLT, Nat.reduceLeDiff, Nat.reduceAdd, Nat.reduceMul, Nat.reduceSub, Nat.reduceBEq, reduceCtorEq]
      have : goodLine s = false := by simp only [goodLine]; rw [List.drop_zero] at hall; rw [hall]; simp
      rw [this] at hp
      exact hp

end Go.Proofs.YtejhhdpfndiliaaDoor.Ab

/- LINES AND MOVES: the program's small functions. -/
namespace Go.Proofs.YtejhhdpfndiliaaDoor.Ab
open Go
set_option maxRecDepth 100000
set_option maxHeartbeats 4000000

abbrev by8 (b : UInt8) : AV := .int .u8 b.toNat
theorem c_within (n lo hi : Int) {h : AH} {post : AV → AH → Prop} (hp : post (.bool (decide (lo ≤ n ∧ n ≤ hi))) h) : S 74 [.int .i64 n, .int .i64 lo, .int .i64 hi] h post k := by
  refine S_of rfl T74 ?_
  unfold fi74
  simp only [↓reduceIte, ↓zP, zW, WOp, evOp, evBin, binI, binSh, binS, evNil, keyIs, keyEq, mkv, AV.cells, AV.sc, optv, bnd, env, put, Env.get, Env.set, Env.del, Env.dels, Env.init, res1, resL, resV, fillP, splice, newRow, Nat.reduceEqDiff, Nat.reduceLT, Nat.reduceLeDiff, Nat.reduceAdd, Nat.reduceMul, Nat.reduceSub, Nat.reduceBEq, reduceCtorEq]
  apply WB_dec
  · intro h1
    simp only [↓reduceIte, ↓zP, zW, WOp, evOp, evBin, binI, binSh, binS, evNil, keyIs, keyEq, mkv, AV.cells, AV.sc, optv, bnd, env, put, Env.get, Env.set, Env.del, Env.dels, Env.init, res1, resL, resV, fillP, splice, newRow, Nat.reduceEqDiff, Nat.reduceLT, Nat.reduceLeDiff, Nat.reduceAdd, Nat.reduceMul, Nat.reduceSub, Nat.reduceBEq, reduceCtorEq, h1]
    simpa [h1] using hp
  · intro h1
    simp only [↓reduceIte, ↓zP, zW, WOp, evOp, evBin, binI, binSh, binS, evNil, keyIs, keyEq, mkv, AV.cells, AV.sc, optv, bnd, env, put, Env.get, Env.set, Env.del, Env.dels, Env.init, res1, resL, resV, fillP, splice, newRow, Nat.reduceEqDiff, Nat.reduceLT, Nat.reduceLeDiff, Nat.reduceAdd, Nat.reduceMul, Nat.reduceSub, Nat.reduceBEq, reduceCtorEq, h1]
    simpa [h1] using hp

def stepB (b : UInt8) : Int := if b == 84 then 1 else if b == 70 then -1 else 0
def otherB (b : UInt8) : UInt8 := if b == 84 then 70 else if b == 70 then 84 else b
def atB (w : List UInt8) (i : Int) : UInt8 := if 0 ≤ i ∧ i < w.length then w.getD i.toNat 0 else 0

theorem c_stepOf (b : UInt8) {h : AH} {post : AV → AH → Prop} (hp : post (.int .i64 (stepB b)) h) : S 103 [by8 b] h post k := by
  refine S_of rfl T103 ?_
  unfold fi103
  have u1 := u8_eq b 84 (n := 84) rfl
  have u2 := u8_eq b 70 (n := 70) rfl
  cases e1 : (b == 84) <;> cases e2 : (b == 70) <;> simp only [stepB, e1, e2, if_true, if_false, Bool.false_eq_true] at hp <;> simp only [↓reduceIte, ↓zP, zW, WOp, evOp, evBin, binI, binSh, binS, evNil, keyIs, keyEq, mkv, AV.cells, AV.sc, optv, bnd, env, put, Env.get, Env.set, Env.del, Env.dels, Env.init, res1, resL, resV, fillP, splice, newRow, Nat.reduceEqDiff, Nat.reduceLT, Nat.reduceLeDiff, Nat.reduceAdd, Nat.reduceMul, Nat.reduceSub, Nat.reduceBEq, reduceCtorEq, u1, u2, e1, e2] <;> exact hp

theorem c_other (b : UInt8) {h : AH} {post : AV → AH → Prop} (hp : post (by8 (otherB b)) h) : S 109 [by8 b] h post k := by
  refine S_of rfl T109 ?_
  unfold fi109
  have u1 := u8_eq b 84 (n := 84) rfl
  have u2 := u8_eq b 70 (n := 70) rfl
  cases e1 : (b == 84) <;> cases e2 : (b == 70) <;> simp only [otherB, e1, e2, if_true, if_false, Bool.false_eq_true] at hp <;> simp only [↓reduceIte, ↓zP, zW, WOp, evOp, evBin, binI, binSh, binS, evNil, keyIs, keyEq, mkv, AV.cells, AV.sc, optv, bnd, env, put, Env.get, Env.set, Env.del, Env.dels, Env.init, res1, resL, resV, fillP, splice, newRow, Nat.reduceEqDiff, Nat.reduceLT, Nat.reduceLeDiff, Nat.reduceAdd, Nat.reduceMul, Nat.reduceSub, Nat.reduceBEq, reduceCtorEq, u1, u2, e1, e2] <;> exact hp

theorem c_at (w : List UInt8) (i : Int) {h : AH} {post : AV → AH → Prop} (hp : post (by8 (atB w i)) h) : S 125 [.str w, .int .i64 i] h post k := by
  refine S_of rfl T125 ?_
  unfold fi125
  unfold atB at hp
  by_cases h1 : i < 0
  · have h2 : ¬ (0 ≤ i ∧ i < w.length) := by omega
    rw [if_neg h2] at hp
    simp only [↓reduceIte, ↓zP, zW, WOp, evOp, evBin, binI, binSh, binS, evNil, keyIs, keyEq, mkv, AV.cells, AV.sc, optv, bnd, env, put, Env.get, Env.set, Env.del, Env.dels, Env.init, res1, resL, resV, fillP, splice, newRow, Nat.reduceEqDiff, Nat.reduceLT, Nat.reduceLeDiff, Nat.reduceAdd, Nat.reduceMul, Nat.reduceSub, Nat.reduceBEq, reduceCtorEq, h1]
    exact hp
  · by_cases h2 : i ≥ w.length
    · have h3 : ¬ (0 ≤ i ∧ i < w.length) := by omega
      rw [if_neg h3] at hp
      simp only [↓reduceIte, ↓zP, zW, WOp, evOp, evBin, binI, binSh, binS, evNil, keyIs, keyEq, mkv, AV.cells, AV.sc, optv, bnd, env, put, Env.get, Env.set, Env.del, Env.dels, Env.init, res1, resL, resV, fillP, splice, newRow, Nat.reduceEqDiff, Nat.reduceLT, Nat.reduceLeDiff, Nat.reduceAdd, Nat.reduceMul, Nat.reduceSub, Nat.reduceBEq, reduceCtorEq, h1, h2]
      exact hp
    · have h3 : (0 ≤ i ∧ i < w.length) := by omega
      rw [if_pos h3] at hp
      simp only [↓reduceIte, ↓zP, zW, WOp, evOp, evBin, binI, binSh, binS, evNil, keyIs, keyEq, mkv, AV.cells, AV.sc, optv, bnd, env, put, Env.get, Env.set, Env.del, Env.dels, Env.init, res1, resL, resV, fillP, splice, newRow, Nat.reduceEqDiff, Nat.reduceLT, Nat.reduceLeDiff, Nat.reduceAdd, Nat.reduceMul, Nat.reduceSub, Nat.reduceBEq, reduceCtorEq, h1, h2]
      exact ⟨h3, hp⟩

def goalB (w : List UInt8) (i : Nat) : Option Int :=
  if stepB (w.getD i 0) == 0 then none
  else if atB w (i + stepB (w.getD i 0)) == 46 then some (i + stepB (w.getD i 0))
  else if (atB w (i + stepB (w.getD i 0)) == otherB (w.getD i 0)) && (atB w (i + 2 * stepB (w.getD i 0)) == 46) then some (i + 2 * stepB (w.getD i 0))
  else none
def goalV (w : List UInt8) (i : Nat) : AV := match goalB w i with
  | some t => .tup [.int .i64 t, .bool true]
  | none => .tup [.int .i64 0, .bool false]

theorem stepB_range (b : UInt8) : stepB b = 0 ∨ stepB b = 1 ∨ stepB b = -1 := by
  unfold stepB; split
  · simp
  · split <;> simp
theorem wrap_id {n : Int} (h1 : -9223372036854775808 ≤ n) (h2 : n ≤ 9223372036854775807) : IntKind.i64.wrap n = n := by rw [IntKind.wrap_i64]; omega

theorem c_goal (w : List UInt8) (i : Nat) (hi : i < w.length) (hw : w.length < 2 ^ 60) {h : AH} {post : AV → AH → Prop} (hp : post (goalV w i) h) : S 127 [.str w, .int .i64 i] h post k := by
  refine S_of rfl T127 ?_
  unfold fi127
  have hi' : (i : Int) < (w.length : Int) := by omega
  simp only [↓reduceIte, ↓zP, zW, WOp, evOp, evBin, binI, binSh, binS, evNil, keyIs, keyEq, mkv, AV.cells, AV.sc, optv, bnd, env, put, Env.get, Env.set, Env.del, Env.dels, Env.init, res1, resL, resV, fillP, splice, newRow, Nat.reduceEqDiff, Nat.reduceLT, Nat.reduceLeDiff, Nat.reduceAdd, Nat.reduceMul, Nat.reduceSub, Nat.reduceBEq, reduceCtorEq, hi']
  refine c_stepOf _ ?_
  simp only [↓reduceIte, ↓zP, zW, WOp, evOp, evBin, binI, binSh, binS, evNil, keyIs, keyEq, mkv, AV.cells, AV.sc, optv, bnd, env, put, Env.get, Env.set, Env.del, Env.dels, Env.init, res1, resL, resV, fillP, splice, newRow, Nat.reduceEqDiff, Nat.reduceLT, Nat.reduceLeDiff, Nat.reduceAdd, Nat.reduceMul, Nat.reduceSub, Nat.reduceBEq, reduceCtorEq]
  have hr := stepB_range (w.getD i 0)
  generalize hd : stepB (w.getD i 0) = d at *
  have w1 : IntKind.i64.wrap ((i : Int) + d) = i + d := wrap_id (by omega) (by omega)
  have w2 : IntKind.i64.wrap (2 * d) = 2 * d := wrap_id (by omega) (by omega)
  have w3 : IntKind.i64.wrap ((i : Int) + 2 * d) = i + 2 * d := wrap_id (by omega) (by omega)
  cases e0 : (d == 0)
  · simp only [↓reduceIte, ↓zP, zW, WOp, evOp, evBin, binI, binSh, binS, evNil, keyIs, keyEq, mkv, AV.cells, AV.sc, optv, bnd, env, put, Env.get, Env.set, Env.del, Env.dels, Env.init, res1, resL, resV, fillP, splice, newRow, Nat.reduceEqDiff, Nat.reduceLT, Nat.reduceLeDiff, Nat.reduceAdd, Nat.reduceMul, Nat.reduceSub, Nat.reduceBEq, reduceCtorEq, e0, w1]
    refine c_at _ _ ?_
    have u1 := u8_eq (atB w (i + d)) 46 (n := 46) rfl
    cases e1 : (atB w (i + d) == 46)
    · simp only [↓reduceIte, ↓zP, zW, WOp, evOp, evBin, binI, binSh, binS, evNil, keyIs, keyEq, mkv, AV.cells, AV.sc, optv, bnd, env, put, Env.get, Env.set, Env.del, Env.dels, Env.init, res1, resL, resV, fillP, splice, newRow, Nat.reduceEqDiff, Nat.reduceLT, Nat.reduceLeDiff, Nat.reduceAdd, Nat.reduceMul, Nat.reduceSub, Nat.reduceBEq, reduceCtorEq, u1, e1, w1]
      refine c_at _ _ ?_
      simp only [↓reduceIte, ↓zP, zW, WOp, evOp, evBin, binI, binSh, binS, evNil, keyIs, keyEq, mkv, AV.cells, AV.sc, optv, bnd, env, put, Env.get, Env.set, Env.del, Env.dels, Env.init, res1, resL, resV, fillP, splice, newRow, Nat.reduceEqDiff, Nat.reduceLT, Nat.reduceLeDiff, Nat.reduceAdd, Nat.reduceMul, Nat.reduceSub, Nat.reduceBEq, reduceCtorEq, hi']
      refine c_other _ ?_
      have u2 := u8_eq (atB w (i + d)) (otherB (w.getD i 0)) rfl
      cases e2 : (atB w (i + d) == otherB (w.getD i 0))
      · simp only [↓reduceIte, ↓zP, zW, WOp, evOp, evBin, binI, binSh, binS, evNil, keyIs, keyEq, mkv, AV.cells, AV.sc, optv, bnd, env, put, Env.get, Env.set, Env.del, Env.dels, Env.init, res1, resL, resV, fillP, splice, newRow, Nat.reduceEqDiff, Nat.reduceLT, Nat.reduceLeDiff, Nat.reduceAdd, Nat.reduceMul, Nat.reduceSub, Nat.reduceBEq, reduceCtorEq, u2, e2]
        simp only [goalV, goalB, hd, e0, e1, e2, if_true, if_false, Bool.false_eq_true, Bool.false_and] at hp
        exact hp
      · simp only [↓reduceIte, ↓zP, zW, WOp, evOp, evBin, binI, binSh, binS, evNil, keyIs, keyEq, mkv, AV.cells, AV.sc, optv, bnd, env, put, Env.get, Env.set, Env.del, Env.dels, Env.init, res1, resL, resV, fillP, splice, newRow, Nat.reduceEqDiff, Nat.reduceLT, Nat.reduceLeDiff, Nat.reduceAdd, Nat.reduceMul, Nat.reduceSub, Nat.reduceBEq, reduceCtorEq, u2, e2, w2, w3]
        refine c_at _ _ ?_
        have u3 := u8_eq (atB w (i + 2 * d)) 46 (n := 46) rfl
        cases e3 : (atB w (i + 2 * d) == 46)
        · simp only [↓reduceIte, ↓zP, zW, WOp, evOp, evBin, binI, binSh, binS, evNil, keyIs, keyEq, mkv, AV.cells, AV.sc, optv, bnd, env, put, Env.get, Env.set, Env.del, Env.dels, Env.init, res1, resL, resV, fillP, splice, newRow, Nat.reduceEqDiff, Nat.reduceLT, Nat.reduceLeDiff, Nat.reduceAdd, Nat.reduceMul, Nat.reduceSub, Nat.reduceBEq, reduceCtorEq, u3, e3]
          simp only [goalV, goalB, hd, e0, e1, e2, e3, if_true, if_false, Bool.false_eq_true, Bool.and_false] at hp
          exact hp
        · simp only [↓reduceIte, ↓zP, zW, WOp, evOp, evBin, binI, binSh, binS, evNil, keyIs, keyEq, mkv, AV.cells, AV.sc, optv, bnd, env, put, Env.get, Env.set, Env.del, Env.dels, Env.init, res1, resL, resV, fillP, splice, newRow, Nat.reduceEqDiff, Nat.reduceLT, Nat.reduceLeDiff, Nat.reduceAdd, Nat.reduceMul, Nat.reduceSub, Nat.reduceBEq, reduceCtorEq, u3, e3, w2, w3]
          simp only [goalV, goalB, hd, e0, e1, e2, e3, if_true, if_false, Bool.false_eq_true, Bool.and_true] at hp
          exact hp
    · simp only [↓reduceIte, ↓zP, zW, WOp, evOp, evBin, binI, binSh, binS, evNil, keyIs, keyEq, mkv, AV.cells, AV.sc, optv, bnd, env, put, Env.get, Env.set, Env.del, Env.dels, Env.init, res1, resL, resV, fillP, splice, newRow, Nat.reduceEqDiff, Nat.reduceLT, Nat.reduceLeDiff, Nat.reduceAdd, Nat.reduceMul, Nat.reduceSub, Nat.reduceBEq, reduceCtorEq, u1, e1, w1]
      simp only [goalV, goalB, hd, e0, e1, if_true, if_false, Bool.false_eq_true] at hp
      exact hp
  · simp only [↓reduceIte, ↓zP, zW, WOp, evOp, evBin, binI, binSh, binS, evNil, keyIs, keyEq, mkv, AV.cells, AV.sc, optv, bnd, env, put, Env.get, Env.set, Env.del, Env.dels, Env.init, res1, resL, resV, fillP, splice, newRow, Nat.reduceEqDiff, Nat.reduceLT, Nat.reduceLeDiff, Nat.reduceAdd, Nat.reduceMul, Nat.reduceSub, Nat.reduceBEq, reduceCtorEq, e0]
    simp only [goalV, goalB, hd, e0, if_true] at hp
    exact hp

end Go.Proofs.YtejhhdpfndiliaaDoor.Ab

/- MOVES of a line: what the program lists. -/
namespace Go.Proofs.YtejhhdpfndiliaaDoor.Ab
open Go
set_option maxRecDepth 100000
set_option maxHeartbeats 4000000

def mcells (l : List (Int × Int)) : List AV := l.flatMap fun m => [.int .i64 m.1, .int .i64 m.2]
theorem mcells_app (a b : List (Int × Int)) : mcells (a ++ b) = mcells a ++ mcells b := by simp [mcells]
def hasB (s : List UInt8) (c : UInt8) : Bool := decide (0 ≤ Go.Lib.indexByte s c)
def moveB (w kinds : List UInt8) (i : Nat) : List (Int × Int) := match goalB w i with
  | some t => if hasB kinds (w.getD i 0) then [((i : Int), t)] else []
  | none => []
def movesB (w kinds : List UInt8) : List (Int × Int) := (List.range w.length).flatMap (moveB w kinds)

theorem sub_one (w : List UInt8) (i : Nat) (hi : i < w.length) : (w.drop i).take (i + 1 - i) = [w.getD i 0] := by
  have h1 : w.drop i = w.getD i 0 :: w.drop (i + 1) := by
    rw [List.drop_eq_getElem_cons hi]; simp [List.getD_eq_getElem?_getD, hi]
  rw [show i + 1 - i = 1 by omega, h1]; rfl

theorem lp_moves (w kinds : List UInt8) (hw : w.length < 2 ^ 30) (h0 : AH) {R : X → Env → AH → Prop} : ∀ (d i : Nat) (o : AV) (l : List (Int × Int)) (h : AH), i + d = w.length → Own 2 h0 h o l.length (mcells l) → Pre h0 h → l.length ≤ i →
    (∀ o' h', Own 2 h0 h' o' (l ++ (List.range' i d).flatMap (moveB w kinds)).length (mcells (l ++ (List.range' i d).flatMap (moveB w kinds))) → Pre h0 h' → R (.exit 0) [(5, o')] h') →
    Cx (.loop lp105_0) [(0, .str w), (1, .str kinds), (5, o), (11, .int .i64 w.length), (12, .int .i64 i)] h R k k := by
  intro d
  induction d with
  | zero =>
    intro i o l h hi ho hp hl hR
    rw [w_loopb (c := lp105_0) (d := lb105_0) rfl]
    unfold lb105_0
    obtain rfl : i = w.length := by omega
    simp only [↓reduceIte, ↓zP, zW, WOp, evOp, evBin, binI, binSh, binS, evNil, keyIs, keyEq, mkv, AV.cells, AV.sc, optv, bnd, env, put, Env.get, Env.set, Env.del, Env.dels, Env.init, res1, resL, resV, fillP, splice, newRow, Nat.reduceEqDiff, Nat.reduceLT, Nat.reduceLeDiff, Nat.reduceAdd, Nat.reduceMul, Nat.reduceSub, Nat.reduceBEq, reduceCtorEq]
    exact hR o h (by simpa using ho) hp
  | succ d ih =>
    intro i o l h hi ho hp hl hR
    rw [w_loopb (c := lp105_0) (d := lb105_0) rfl]
    unfold lb105_0
    have hlt : (i : Int) < (w.length : Int) := by omega
    have hw1 : IntKind.i64.wrap ((i : Int) + 1) = ((i + 1 : Nat) : Int) := by rw [IntKind.wrap_i64]; omega
    have hb1 : ((i + 1 : Nat) : Int) ≤ (w.length : Int) := by omega
    have hb2 : (i : Int) ≤ ((i + 1 : Nat) : Int) := by omega
    simp only [↓reduceIte, ↓zP, zW, WOp, evOp, evBin, binI, binSh, binS, evNil, keyIs, keyEq, mkv, AV.cells, AV.sc, optv, bnd, env, put, Env.get, Env.set, Env.del, Env.dels, Env.init, res1, resL, resV, fillP, splice, newRow, Nat.reduceEqDiff, Nat.reduceLT, Nat.reduceLeDiff, Nat.reduceAdd, Nat.reduceMul, Nat.reduceSub, Nat.reduceBEq, reduceCtorEq, hlt]
    refine c_goal w i (by omega) (by omega) ?_
    have hm : moveB w kinds i = match goalB w i with
      | some t => if hasB kinds (w.getD i 0) then [((i : Int), t)] else []
      | none => [] := rfl
    unfold goalV
    have go : ∀ (o' : AV) (h' : AH) (l' : List (Int × Int)), l' = l ++ moveB w kinds i → l'.length ≤ i + 1 → Own 2 h0 h' o' l'.length (mcells l') → Pre h0 h' →
        Cx (.loop lp105_0) [(0, .str w), (1, .str kinds), (5, o'), (11, .int .i64 w.length), (12, .int .i64 ((i + 1 : Nat) : Int))] h' R k k := by
      rintro o' h' l' rfl hl' ho' hp'
      refine ih (i + 1) o' _ h' (by omega) ho' hp' hl' ?_
      intro o2 h2 ho2 hp2
      refine hR o2 h2 ?_ hp2
      rw [List.range'_succ, List.flatMap_cons, ← List.append_assoc]
      exact ho2
    cases hg : goalB w i with
    | none =>
      rw [hg] at hm
      simp only [↓reduceIte, ↓zP, zW, WOp, evOp, evBin, binI, binSh, binS, evNil, keyIs, keyEq, mkv, AV.cells, AV.sc, optv, bnd, env, put, Env.get, Env.set, Env.del, Env.dels, Env.init, res1, resL, resV, fillP, splice, newRow, Nat.reduceEqDiff, Nat.reduceLT, Nat.reduceLeDiff, Nat.reduceAdd, Nat.reduceMul, Nat.reduceSub, Nat.reduceBEq, reduceCtorEq, hw1]
      rw [w_loopn (c := lp105_0) rfl]
      simp only [↓reduceIte, ↓zP, zW, WOp, evOp, evBin, binI, binSh, binS, evNil, keyIs, keyEq, mkv, AV.cells, AV.sc, optv, bnd, env, put, Env.get, Env.set, Env.del, Env.dels, Env.init, res1, resL, resV, fillP, splice, newRow, Nat.reduceEqDiff, Nat.reduceLT, Nat.reduceLeDiff, Nat.reduceAdd, Nat.reduceMul, Nat.reduceSub, Nat.reduceBEq, reduceCtorEq]
      exact go o h l (by rw [hm]; simp) (by omega) ho hp
    | some t =>
      rw [hg] at hm
      simp only [↓reduceIte, ↓zP, zW, WOp, evOp, evBin, binI, binSh, binS, evNil, keyIs, keyEq, mkv, AV.cells, AV.sc, optv, bnd, env, put, Env.get, Env.set, Env.del, Env.dels, Env.init, res1, resL, resV, fillP, splice, newRow, Nat.reduceEqDiff, Nat.reduceLT, Nat.reduceLeDiff, Nat.reduceAdd, Nat.reduceMul, Nat.reduceSub, Nat.reduceBEq, reduceCtorEq, hw1, hb1, hb2, Int.natCast_nonneg, sub_one w i (by omega)]
      refine S_ext rfl rfl ?_
      cases hk : hasB kinds (w.getD i 0)
      · have hk' := hk
        unfold hasB at hk'
        simp only [↓reduceIte, ↓zP, zW, WOp, evOp, evBin, binI, binSh, binS, evNil, keyIs, keyEq, mkv, AV.cells, AV.sc, optv, bnd, env, put, Env.get, Env.set, Env.del, Env.dels, Env.init, res1, resL, resV, fillP, splice, newRow, Nat.reduceEqDiff, Nat.reduceLT, Nat.reduceLeDiff, Nat.reduceAdd, Nat.reduceMul, Nat.reduceSub, Nat.reduceBEq, reduceCtorEq, hk', hw1]
        rw [w_loopn (c := lp105_0) rfl]
        simp only [↓reduceIte, ↓zP, zW, WOp, evOp, evBin, binI, binSh, binS, evNil, keyIs, keyEq, mkv, AV.cells, AV.sc, optv, bnd, env, put, Env.get, Env.set, Env.del, Env.dels, Env.init, res1, resL, resV, fillP, splice, newRow, Nat.reduceEqDiff, Nat.reduceLT, Nat.reduceLeDiff, Nat.reduceAdd, Nat.reduceMul, Nat.reduceSub, Nat.reduceBEq, reduceCtorEq]
        exact go o h l (by rw [hm]; simp only [hk, Bool.false_eq_true, if_false, List.append_nil]) (by omega) ho hp
      · have hk' := hk
        unfold hasB at hk'
        simp only [↓reduceIte, ↓zP, zW, WOp, evOp, evBin, binI, binSh, binS, evNil, keyIs, keyEq, mkv, AV.cells, AV.sc, optv, bnd, env, put, Env.get, Env.set, Env.del, Env.dels, Env.init, res1, resL, resV, fillP, splice, newRow, Nat.reduceEqDiff, Nat.reduceLT, Nat.reduceLeDiff, Nat.reduceAdd, Nat.reduceMul, Nat.reduceSub, Nat.reduceBEq, reduceCtorEq, hk', hw1]
        obtain ⟨o', h', ha, hown, hpre⟩ := ap_own (ho.pre (Pre.push h (.row [.int .i64 i, .int .i64 t] 0 0 false))) (hp.trans (Pre.push _ _)) (q := 1) (vs := [.int .i64 i, .int .i64 t]) rfl rfl (by unfold room; omega)
        simp only [rdRow_push _ _ _ (show 2 = [AV.int .i64 (i : Int), AV.int .i64 t].length from rfl), ha, ↓reduceIte, ↓zP, zW, WOp, evOp, evBin, binI, binSh, binS, evNil, keyIs, keyEq, mkv, AV.cells, AV.sc, optv, bnd, env, put, Env.get, Env.set, Env.del, Env.dels, Env.init, res1, resL, resV, fillP, splice, newRow, Nat.reduceEqDiff, Nat.reduceLT, Nat.reduceLeDiff, Nat.reduceAdd, Nat.reduceMul, Nat.reduceSub, Nat.reduceBEq, reduceCtorEq, hw1]
        rw [w_loopn (c := lp105_0) rfl]
        simp only [↓reduceIte, ↓zP, zW, WOp, evOp, evBin, binI, binSh, binS, evNil, keyIs, keyEq, mkv, AV.cells, AV.sc, optv, bnd, env, put, Env.get, Env.set, Env.del, Env.dels, Env.init, res1, resL, resV, fillP, splice, newRow, Nat.reduceEqDiff, Nat.reduceLT, Nat.reduceLeDiff, Nat.reduceAdd, Nat.reduceMul, Nat.reduceSub, Nat.reduceBEq, reduceCtorEq]
        refine go o' h' (l ++ [((i : Int), t)]) (by rw [hm]; simp only [hk, if_true]) (by simp; omega) ?_ hpre
        rw [mcells_app, List.length_append]
        exact hown

theorem c_moves (w kinds : List UInt8) (hw : w.length < 2 ^ 30) {h : AH} {post : AV → AH → Prop} (hp : ∀ v h', Own 2 h h' v (movesB w kinds).length (mcells (movesB w kinds)) → Pre h h' → post v h') : S 105 [.str w, .str kinds] h post k := by
  refine S_of rfl T105 ?_
  unfold fi105
  simp only [↓reduceIte, ↓zP, zW, WOp, evOp, evBin, binI, binSh, binS, evNil, keyIs, keyEq, mkv, AV.cells, AV.sc, optv, bnd, env, put, Env.get, Env.set, Env.del, Env.dels, Env.init, res1, resL, resV, fillP, splice, newRow, Nat.reduceEqDiff, Nat.reduceLT, Nat.reduceLeDiff, Nat.reduceAdd, Nat.reduceMul, Nat.reduceSub, Nat.reduceBEq, reduceCtorEq]
  refine lp_moves w kinds hw h w.length 0 .empS [] h (by omega) (by simp [Own, mcells]) (Pre.refl h) (by simp) ?_
  intro o' h' ho hpre
  simp only [↓reduceIte, ↓zP, zW, WOp, evOp, evBin, binI, binSh, binS, evNil, keyIs, keyEq, mkv, AV.cells, AV.sc, optv, bnd, env, put, Env.get, Env.set, Env.del, Env.dels, Env.init, res1, resL, resV, fillP, splice, newRow, Nat.reduceEqDiff, Nat.reduceLT, Nat.reduceLeDiff, Nat.reduceAdd, Nat.reduceMul, Nat.reduceSub, Nat.reduceBEq, reduceCtorEq]
  refine hp o' h' ?_ hpre
  rw [List.nil_append, ← List.range_eq_range'] at ho
  exact ho
end Go.Proofs.YtejhhdpfndiliaaDoor.Ab

/- LINES: counts, line tests. -/
namespace Go.Proofs.YtejhhdpfndiliaaDoor.Ab
open Go
set_option maxRecDepth 100000
set_option maxHeartbeats 4000000

theorem dw_nil {p : UInt8 → Bool} : ∀ l : List UInt8, l.dropWhile p = [] ↔ ∀ x ∈ l, p x = true
  | [] => by simp
  | a :: l => by
    rw [List.dropWhile_cons]
    cases h : p a
    · simp [h]
    · simp only [if_true, dw_nil l, List.mem_cons, forall_eq_or_imp, h, true_and]
theorem tw_mem {p : UInt8 → Bool} : ∀ (l : List UInt8) (x : UInt8), x ∈ l.takeWhile p → p x = true
  | [], x, h => by simp at h
  | a :: l, x, h => by
    rw [List.takeWhile_cons] at h
    cases ha : p a
    · simp [ha] at h
    · simp only [ha, if_true, List.mem_cons] at h
      rcases h with rfl | h
      · exact ha
      · exact tw_mem l x h
theorem trim_nil (s : List UInt8) : (Go.Lib.trimS s [46, 70, 84] == []) = s.all isSign := by
  have hp : ∀ b, ([46, 70, 84] : List UInt8).contains b = isSign b := by
    intro b
    simp only [List.contains_cons, List.contains_nil, Bool.or_false, isSign]
    cases b == 46 <;> cases b == 70 <;> cases b == 84 <;> rfl
  apply Bool.eq_iff_iff.2
  simp only [beq_iff_eq, List.all_eq_true, Go.Lib.trimS, Go.Lib.trimLeftS, Go.Lib.trimRightS, hp]
  constructor
  · intro h x hx
    rw [dw_nil] at h
    by_cases hs : isSign x = true
    · exact hs
    · have : x ∈ (List.dropWhile isSign s.reverse).reverse := by
        rw [List.mem_reverse]
        have := List.takeWhile_append_dropWhile (p := isSign) (l := s.reverse)
        have hx' : x ∈ s.reverse := by simpa using hx
        rw [← this, List.mem_append] at hx'
        rcases hx' with h1 | h1
        · exact absurd (tw_mem _ _ h1) hs
        · exact h1
      exact h x this
  · intro h
    have : List.dropWhile isSign s.reverse = [] := by
      rw [dw_nil]; intro x hx; exact h x (by simpa using hx)
    rw [this]; rfl

theorem c_isLineOf (s : List UInt8) (most : Int) (hm : most ≤ 1000) (hs : s.length < 2 ^ 60) {h : AH} {post : AV → AH → Prop} (hp : post (.bool (decide (1 ≤ (s.length : Int) ∧ (s.length : Int) ≤ most) && s.all isSign)) h) : S 82 [.str s, .int .i64 most] h post k := by
  refine S_of rfl T82 ?_
  unfold fi82
  simp only [↓reduceIte, ↓zP, zW, WOp, evOp, evBin, binI, binSh, binS, evNil, keyIs, keyEq, mkv, AV.cells, AV.sc, optv, bnd, env, put, Env.get, Env.set, Env.del, Env.dels, Env.init, res1, resL, resV, fillP, splice, newRow, Nat.reduceEqDiff, Nat.reduceLT, Nat.reduceLeDiff, Nat.reduceAdd, Nat.reduceMul, Nat.reduceSub, Nat.reduceBEq, reduceCtorEq]
  refine c_within _ _ _ ?_
  by_cases hl : 1 ≤ (s.length : Int) ∧ (s.length : Int) ≤ most
  · simp only [↓reduceIte, ↓zP, zW, WOp, evOp, evBin, binI, binSh, binS, evNil, keyIs, keyEq, mkv, AV.cells, AV.sc, optv, bnd, env, put, Env.get, Env.set, Env.del, Env.dels, Env.init, res1, resL, resV, fillP, splice, newRow, Nat.reduceEqDiff, Nat.reduceLT, Nat.reduceLeDiff, Nat.reduceAdd, Nat.reduceMul, Nat.reduceSub, Nat.reduceBEq, reduceCtorEq, hl]
    refine S_ext (r := .str (Go.Lib.trimS s [46, 70, 84])) rfl ?_ ?_
    · simp only [xTrim]; rw [if_pos ⟨by omega, by simp, by decide⟩]
    · simp only [↓reduceIte, ↓zP, zW, WOp, evOp, evBin, binI, binSh, binS, evNil, keyIs, keyEq, mkv, AV.cells, AV.sc, optv, bnd, env, put, Env.get, Env.set, Env.del, Env.dels, Env.init, res1, resL, resV, fillP, splice, newRow, Nat.reduceEqDiff, Nat.reduceLT, Nat.reduceLeDiff, Nat.reduceAdd, Nat.reduceMul, Nat.reduceSub, Nat.reduceBEq, reduceCtorEq, trim_nil]
      simpa [hl] using hp
  · simp only [↓reduceIte, ↓zP, zW, WOp, evOp, evBin, binI, binSh, binS, evNil, keyIs, keyEq, mkv, AV.cells, AV.sc, optv, bnd, env, put, Env.get, Env.set, Env.del, Env.dels, Env.init, res1, resL, resV, fillP, splice, newRow, Nat.reduceEqDiff, Nat.reduceLT, Nat.reduceLeDiff, Nat.reduceAdd, Nat.reduceMul, Nat.reduceSub, Nat.reduceBEq, reduceCtorEq, hl]
    simpa [hl] using hp

def pairsL : List UInt8 → Nat → Nat → Nat
  | [], _, sum => sum
  | b :: l, t, sum => if b == 84 then pairsL l (t + 1) sum else if b == 70 then pairsL l t (sum + t) else pairsL l t sum
def pairsB (w : List UInt8) : Nat := pairsL w 0 0

end Go.Proofs.YtejhhdpfndiliaaDoor.Ab

/- PLAIN: recursion along a relation that falls, by fuel and without. -/
namespace Go.Proofs.YtejhhdpfndiliaaDoor.Ab

section
variable {σ α : Type} (next : σ → List σ) (step : σ → List α → α)
/-- By fuel. -/
def rcN : Nat → σ → α
  | 0, s => step s []
  | n + 1, s => step s ((next s).map (rcN n))
/-- By a measure. -/
def rc (mu : σ → Nat) (s : σ) : α := rcN next step (mu s) s
theorem rcN_stable {mu : σ → Nat} (hm : ∀ s, ∀ s' ∈ next s, mu s' < mu s) : ∀ (n m : Nat) (s : σ), mu s ≤ n → mu s ≤ m → rcN next step n s = rcN next step m s
  | 0, 0, _, _, _ => rfl
  | 0, m + 1, s, h, _ => by
    have : next s = [] := List.eq_nil_iff_forall_not_mem.2 fun s' hs => by have := hm s s' hs; omega
    simp [rcN, this]
  | n + 1, 0, s, _, h => by
    have : next s = [] := List.eq_nil_iff_forall_not_mem.2 fun s' hs => by have := hm s s' hs; omega
    simp [rcN, this]
  | n + 1, m + 1, s, h1, h2 => by
    simp only [rcN]
    congr 1
    apply List.map_congr_left
    intro s' hs
    have := hm s s' hs
    exact rcN_stable hm n m s' (by omega) (by omega)
theorem rc_eq {mu : σ → Nat} (hm : ∀ s, ∀ s' ∈ next s, mu s' < mu s) (s : σ) : rc next step mu s = step s ((next s).map (rc next step mu)) := by
  unfold rc
  rw [rcN_stable next step hm (mu s) (mu s + 1) s (Nat.le_refl _) (by omega)]
  simp only [rcN]
  congr 1
  apply List.map_congr_left
  intro s' hs
  have := hm s s' hs
  exact rcN_stable next step hm _ _ s' (by omega) (by omega)
end
end Go.Proofs.YtejhhdpfndiliaaDoor.Ab

/- PLAIN LAWS of lines and moves: no program in sight. -/
namespace Go.Proofs.YtejhhdpfndiliaaDoor.Ab

/-- What is still before an animal. -/
def fmu (n i : Nat) (b : UInt8) : Nat := if b == 84 then n - i else if b == 70 then i + 1 else 0
def muF (n : Nat) : Nat → List UInt8 → Nat
  | _, [] => 0
  | i, b :: l => fmu n i b + muF n (i + 1) l
def mu (w : List UInt8) : Nat := muF w.length 0 w
theorem muF_set (n : Nat) : ∀ (l : List UInt8) (i j : Nat) (b : UInt8), j < l.length → muF n i (l.set j b) + fmu n (i + j) (l.getD j 0) = muF n i l + fmu n (i + j) b
  | [], _, _, _, h => by simp at h
  | a :: l, i, 0, b, _ => by simp [muF]; omega
  | a :: l, i, j + 1, b, h => by
    have := muF_set n l (i + 1) j b (by simpa using h)
    simp only [List.set_cons_succ, muF, List.getD_cons_succ]
    rw [show i + (j + 1) = i + 1 + j by omega]
    omega
/-- The line behind a move. -/
def madeB (w : List UInt8) (i t : Nat) : List UInt8 := (w.set t (w.getD i 0)).set i 46
theorem madeB_length (w : List UInt8) (i t : Nat) : (madeB w i t).length = w.length := by simp [madeB]

theorem atB_in {w : List UInt8} {i : Nat} (h : i < w.length) : atB w (i : Int) = w.getD i 0 := by
  unfold atB; rw [if_pos (by omega)]; simp
theorem atB_ne {w : List UInt8} {i : Int} (h : atB w i ≠ 0) : 0 ≤ i ∧ i < w.length := by
  unfold atB at h; split at h
  · assumption
  · exact absurd rfl h
theorem atB_eq {w : List UInt8} {i : Int} {b : UInt8} (h : atB w i = b) (hb : b ≠ 0) : ∃ t : Nat, i = t ∧ t < w.length ∧ w.getD t 0 = b := by
  obtain ⟨h1, h2⟩ := atB_ne (w := w) (i := i) (by rw [h]; exact hb)
  refine ⟨i.toNat, by omega, by omega, ?_⟩
  unfold atB at h; rw [if_pos ⟨h1, h2⟩] at h; exact h

/-- A move: which animal, where to. -/
def Mv (w : List UInt8) (i t : Nat) : Prop := i < w.length ∧ t < w.length ∧ w.getD t 0 = 46 ∧
  ((w.getD i 0 = 84 ∧ (t = i + 1 ∨ (t = i + 2 ∧ w.getD (i + 1) 0 = 70))) ∨ (w.getD i 0 = 70 ∧ (t + 1 = i ∨ (t + 2 = i ∧ w.getD (i - 1) 0 = 84))))
theorem goalB_mv {w : List UInt8} {i : Nat} {t : Int} (hi : i < w.length) (h : goalB w i = some t) : ∃ t' : Nat, t = t' ∧ Mv w i t' := by
  have hs : w.getD i 0 = 84 ∨ w.getD i 0 = 70 ∨ stepB (w.getD i 0) = 0 := by
    unfold stepB
    by_cases h1 : w.getD i 0 = 84
    · exact .inl h1
    · by_cases h2 : w.getD i 0 = 70
      · exact .inr (.inl h2)
      · right; right; rw [if_neg (by simpa using h1), if_neg (by simpa using h2)]
  unfold goalB at h
  rcases hs with h0 | h0 | h0
  · rw [h0] at h
    simp only [show stepB 84 = 1 from rfl, show otherB 84 = 70 from rfl] at h
    split at h
    · rename_i hh; cases hh
    · split at h
      · rename_i h1
        obtain ⟨t', ht, h2, h3⟩ := atB_eq (beq_iff_eq.1 h1) (by decide)
        cases h
        exact ⟨t', ht, hi, h2, h3, .inl ⟨h0, .inl (by omega)⟩⟩
      · split at h
        · rename_i h1
          simp only [Bool.and_eq_true, beq_iff_eq] at h1
          obtain ⟨u, hu, h4, h5⟩ := atB_eq h1.1 (by decide)
          obtain ⟨t', ht, h2, h3⟩ := atB_eq h1.2 (by decide)
          cases h
          refine ⟨t', ht, hi, h2, h3, .inl ⟨h0, .inr ⟨by omega, ?_⟩⟩⟩
          rw [show i + 1 = u by omega]; exact h5
        · cases h
  · rw [h0] at h
    simp only [show stepB 70 = -1 from rfl, show otherB 70 = 84 from rfl] at h
    split at h
    · rename_i hh; cases hh
    · split at h
      · rename_i h1
        obtain ⟨t', ht, h2, h3⟩ := atB_eq (beq_iff_eq.1 h1) (by decide)
        cases h
        exact ⟨t', ht, hi, h2, h3, .inr ⟨h0, .inl (by omega)⟩⟩
      · split at h
        · rename_i h1
          simp only [Bool.and_eq_true, beq_iff_eq] at h1
          obtain ⟨u, hu, h4, h5⟩ := atB_eq h1.1 (by decide)
          obtain ⟨t', ht, h2, h3⟩ := atB_eq h1.2 (by decide)
          cases h
          refine ⟨t', ht, hi, h2, h3, .inr ⟨h0, .inr ⟨by omega, ?_⟩⟩⟩
          rw [show i - 1 = u by omega]; exact h5
        · cases h
  · rw [h0] at h
    simp at h

theorem Mv.fst {w : List UInt8} {i t : Nat} (h : Mv w i t) : i < w.length := h.1
theorem Mv.snd {w : List UInt8} {i t : Nat} (h : Mv w i t) : t < w.length := h.2.1
theorem mu_made {w : List UInt8} {i t : Nat} (h : Mv w i t) : mu (madeB w i t) < mu w := by
  obtain ⟨h1, h2, h3, h4⟩ := h
  have hne : t ≠ i := by
    rcases h4 with ⟨h5, _⟩ | ⟨h5, _⟩ <;> (rintro rfl; rw [h3] at h5; revert h5; decide)
  have e1 := muF_set w.length w 0 t (w.getD i 0) h2
  have e2 := muF_set w.length (w.set t (w.getD i 0)) 0 i 46 (by simpa using h1)
  have e3 : (w.set t (w.getD i 0)).getD i 0 = w.getD i 0 := by
    simp [List.getD_eq_getElem?_getD, List.getElem?_set, hne]
  rw [e3] at e2
  rw [h3] at e1
  unfold mu
  rw [madeB_length]
  unfold madeB
  simp only [Nat.zero_add] at e1 e2
  rcases h4 with ⟨h5, h6⟩ | ⟨h5, h6⟩
  · rw [h5] at e1 e2 ⊢
    simp only [fmu, show ((46 : UInt8) == 84) = false from rfl, show ((46 : UInt8) == 70) = false from rfl, show ((84 : UInt8) == 84) = true from rfl, if_true, Bool.false_eq_true, if_false] at e1 e2
    omega
  · rw [h5] at e1 e2 ⊢
    simp only [fmu, show ((46 : UInt8) == 84) = false from rfl, show ((46 : UInt8) == 70) = false from rfl, show ((70 : UInt8) == 84) = false from rfl, show ((70 : UInt8) == 70) = true from rfl, if_true, Bool.false_eq_true, if_false] at e1 e2
    omega

theorem movesB_mv {w kinds : List UInt8} {m : Int × Int} (h : m ∈ movesB w kinds) : ∃ i t : Nat, m = ((i : Int), (t : Int)) ∧ Mv w i t := by
  simp only [movesB, List.mem_flatMap, List.mem_range] at h
  obtain ⟨i, hi, h⟩ := h
  unfold moveB at h
  split at h
  · rename_i t hg
    split at h
    · obtain ⟨t', rfl, hm⟩ := goalB_mv hi hg
      simp at h
      exact ⟨i, t', h, hm⟩
    · simp at h
  · simp at h
theorem moveB_len (w kinds : List UInt8) (i : Nat) : (moveB w kinds i).length ≤ 1 := by
  unfold moveB
  split
  · split <;> simp
  · simp
theorem movesB_len (w kinds : List UInt8) : (movesB w kinds).length ≤ w.length := by
  have key : ∀ l : List Nat, (l.flatMap (moveB w kinds)).length ≤ l.length := by
    intro l
    induction l with
    | nil => simp
    | cons a l ih =>
      have := moveB_len w kinds a
      simp only [List.flatMap_cons, List.length_append, List.length_cons]
      omega
  have := key (List.range w.length)
  simpa [movesB] using this
/-- All lines behind a move. -/
def nextB (w kinds : List UInt8) : List (List UInt8) := (movesB w kinds).map fun m => madeB w m.1.toNat m.2.toNat
theorem nextB_mu {w kinds v : List UInt8} (h : v ∈ nextB w kinds) : mu v < mu w := by
  simp only [nextB, List.mem_map] at h
  obtain ⟨m, hm, rfl⟩ := h
  obtain ⟨i, t, rfl, hmv⟩ := movesB_mv hm
  exact mu_made hmv
theorem nextB_length {w kinds v : List UInt8} (h : v ∈ nextB w kinds) : v.length = w.length := by
  simp only [nextB, List.mem_map] at h
  obtain ⟨m, hm, rfl⟩ := h
  rw [madeB_length]

/-! ### Who wins -/
def kindS (t : Bool) : List UInt8 := if t then [84] else [70]
def winNx (s : List UInt8 × Bool) : List (List UInt8 × Bool) := (nextB s.1 (kindS s.2)).map fun v => (v, !s.2)
def winSt (_ : List UInt8 × Bool) (l : List Bool) : Bool := l.any fun b => !b
def winB (w : List UInt8) (t : Bool) : Bool := rc winNx winSt (fun s => mu s.1) (w, t)
theorem winB_eq (w : List UInt8) (t : Bool) : winB w t = (movesB w (kindS t)).any fun m => !winB (madeB w m.1.toNat m.2.toNat) (!t) := by
  unfold winB
  have hm : ∀ s : List UInt8 × Bool, ∀ s' ∈ winNx s, mu s'.1 < mu s.1 := by
    intro s s' hs
    simp only [winNx, List.mem_map] at hs
    obtain ⟨v, hv, rfl⟩ := hs
    exact nextB_mu hv
  rw [rc_eq winNx winSt (mu := fun s => mu s.1) hm (w, t)]
  simp only [winSt, winNx, nextB, List.map_map, List.any_map, Function.comp_def]
end Go.Proofs.YtejhhdpfndiliaaDoor.Ab

/- PLAIN LAWS of moves: what the reference lists is what the program lists. -/
namespace Go.Proofs.YtejhhdpfndiliaaDoor.Ab

instance (w : List UInt8) (i t : Nat) : Decidable (Mv w i t) := by unfold Mv; infer_instance
/-- A move can be made. -/
def canB (w : List UInt8) (m : Int × Int) : Bool := decide (0 ≤ m.1 ∧ 0 ≤ m.2 ∧ Mv w m.1.toNat m.2.toNat)

theorem mv_goalB {w : List UInt8} {i t : Nat} (h : Mv w i t) : goalB w i = some (t : Int) := by
  obtain ⟨h1, h2, h3, h4⟩ := h
  unfold goalB
  rcases h4 with ⟨h5, h6⟩ | ⟨h5, h6⟩
  · rw [h5]
    simp only [show stepB 84 = 1 from rfl, show otherB 84 = 70 from rfl]
    rw [if_neg (by decide)]
    rcases h6 with rfl | ⟨rfl, h7⟩
    · rw [if_pos (by rw [show ((i : Int) + 1) = ((i + 1 : Nat) : Int) by omega, atB_in h2, h3]; rfl)]
      congr 1
    · rw [if_neg (by rw [show ((i : Int) + 1) = ((i + 1 : Nat) : Int) by omega, atB_in (by omega), h7]; decide)]
      rw [if_pos (by rw [show ((i : Int) + 1) = ((i + 1 : Nat) : Int) by omega, show ((i : Int) + 2 * 1) = ((i + 2 : Nat) : Int) by omega, atB_in (by omega), atB_in h2, h7, h3]; rfl)]
      congr 1
  · rw [h5]
    simp only [show stepB 70 = -1 from rfl, show otherB 70 = 84 from rfl]
    rw [if_neg (by decide)]
    rcases h6 with h6 | ⟨h6, h7⟩
    · rw [if_pos (by rw [show ((i : Int) + -1) = ((t : Nat) : Int) by omega, atB_in h2, h3]; rfl)]
      congr 1; omega
    · rw [if_neg (by rw [show ((i : Int) + -1) = ((i - 1 : Nat) : Int) by omega, atB_in (by omega), h7]; decide)]
      rw [if_pos (by rw [show ((i : Int) + -1) = ((i - 1 : Nat) : Int) by omega, show ((i : Int) + 2 * -1) = ((t : Nat) : Int) by omega, atB_in (by omega), atB_in h2, h7, h3]; rfl)]
      congr 1; omega
theorem canB_goal {w : List UInt8} {i : Nat} {t : Int} (hi : i < w.length) : canB w ((i : Int), t) = (goalB w i == some t) := by
  apply Bool.eq_iff_iff.2
  simp only [canB, decide_eq_true_eq, beq_iff_eq]
  constructor
  · rintro ⟨_, h2, h3⟩
    rw [mv_goalB (by simpa using h3)]
    congr 1; omega
  · intro h
    obtain ⟨t', rfl, hm⟩ := goalB_mv hi h
    exact ⟨by omega, by omega, by simpa using hm⟩
theorem goalB_near {w : List UInt8} {i : Nat} {t : Int} (hi : i < w.length) (h : goalB w i = some t) : t = i - 2 ∨ t = i - 1 ∨ t = i + 1 ∨ t = i + 2 := by
  obtain ⟨t', rfl, _, _, _, h4⟩ := goalB_mv hi h
  rcases h4 with ⟨_, h6⟩ | ⟨_, h6⟩ <;> omega

/-- What the reference lists from a cell. -/
def liMoveB (w : List UInt8) (toads frogs : Bool) (i : Nat) : List (Int × Int) :=
  if ((w.getD i 0 == 84) && !toads) || ((w.getD i 0 == 70) && !frogs) then [] else
  ([(i : Int) - 2, i - 1, i, i + 1, i + 2].filter fun t => canB w ((i : Int), t)).map fun t => ((i : Int), t)
def kindsS (toads frogs : Bool) : List UInt8 := (if toads then [84] else []) ++ (if frogs then [70] else [])
theorem hasB_kinds (t f : Bool) (b : UInt8) : hasB (kindsS t f) b = ((t && b == 84) || (f && b == 70)) := by
  have e1 : ((84 : UInt8) == b) = (b == 84) := by rw [Bool.eq_iff_iff]; simp only [beq_iff_eq]; exact eq_comm
  have e2 : ((70 : UInt8) == b) = (b == 70) := by rw [Bool.eq_iff_iff]; simp only [beq_iff_eq]; exact eq_comm
  unfold hasB kindsS
  cases t <;> cases f <;> cases h1 : (b == 84) <;> cases h2 : (b == 70) <;> simp [Go.Lib.indexByte, e1, e2, h1, h2]
theorem liMoveB_eq (w : List UInt8) (toads frogs : Bool) (i : Nat) (hi : i < w.length) : liMoveB w toads frogs i = moveB w (kindsS toads frogs) i := by
  unfold liMoveB moveB
  simp only [canB_goal hi, hasB_kinds]
  cases hg : goalB w i with
  | none => simp
  | some t =>
    have hn := goalB_near hi hg
    obtain ⟨t', ht, _, _, _, h4⟩ := goalB_mv hi hg
    have hk : w.getD i 0 = 84 ∨ w.getD i 0 = 70 := h4.imp And.left And.left
    have hf : ([(i : Int) - 2, i - 1, i, i + 1, i + 2].filter fun u => (some t == some u)) = [t] := by
      have e : ∀ u : Int, (some t == some u) = decide (t = u) := fun u => by
        apply Bool.eq_iff_iff.2; simp
      simp only [e]
      rcases hn with h | h | h | h
      · simp only [List.filter_cons, List.filter_nil, show (t = (i : Int) - 2) = True from eq_true h, show (t = (i : Int) - 1) = False from eq_false (by omega), show (t = (i : Int)) = False from eq_false (by omega), show (t = (i : Int) + 1) = False from eq_false (by omega), show (t = (i : Int) + 2) = False from eq_false (by omega)]
        simp [h]
      · simp only [List.filter_cons, List.filter_nil, show (t = (i : Int) - 2) = False from eq_false (by omega), show (t = (i : Int) - 1) = True from eq_true h, show (t = (i : Int)) = False from eq_false (by omega), show (t = (i : Int) + 1) = False from eq_false (by omega), show (t = (i : Int) + 2) = False from eq_false (by omega)]
        simp [h]
      · simp only [List.filter_cons, List.filter_nil, show (t = (i : Int) - 2) = False from eq_false (by omega), show (t = (i : Int) - 1) = False from eq_false (by omega), show (t = (i : Int)) = False from eq_false (by omega), show (t = (i : Int) + 1) = True from eq_true h, show (t = (i : Int) + 2) = False from eq_false (by omega)]
        simp [h]
      · simp only [List.filter_cons, List.filter_nil, show (t = (i : Int) - 2) = False from eq_false (by omega), show (t = (i : Int) - 1) = False from eq_false (by omega), show (t = (i : Int)) = False from eq_false (by omega), show (t = (i : Int) + 1) = False from eq_false (by omega), show (t = (i : Int) + 2) = True from eq_true h]
        simp [h]
    rw [hf]
    rcases hk with h | h <;> rw [h] <;> cases toads <;> cases frogs <;> simp
def liMovesB (w : List UInt8) (toads frogs : Bool) : List (Int × Int) := (List.range w.length).flatMap (liMoveB w toads frogs)
theorem flatMap_congr' {α β : Type} {f g : α → List β} : ∀ {l : List α}, (∀ x ∈ l, f x = g x) → l.flatMap f = l.flatMap g
  | [], _ => rfl
  | a :: l, h => by rw [List.flatMap_cons, List.flatMap_cons, h a (by simp), flatMap_congr' fun x hx => h x (by simp [hx])]
theorem liMovesB_eq (w : List UInt8) (toads frogs : Bool) : liMovesB w toads frogs = movesB w (kindsS toads frogs) :=
  flatMap_congr' fun i hi => liMoveB_eq w toads frogs i (List.mem_range.1 hi)
end Go.Proofs.YtejhhdpfndiliaaDoor.Ab

/- MOVES made: the program's and the reference's. -/
namespace Go.Proofs.YtejhhdpfndiliaaDoor.Ab
open Go
set_option maxRecDepth 100000
set_option maxHeartbeats 4000000

abbrev mvV (i t : Int) : AV := .agg [.int .i64 i, .int .i64 t]

theorem c_liPut (w : List UInt8) (i : Nat) (s : List UInt8) (hi : i < w.length) (hw : w.length < 2 ^ 30) (hs : s.length < 2 ^ 30) {h : AH} {post : AV → AH → Prop} (hp : post (.str (w.take i ++ s ++ w.drop (i + 1))) h) : S 108 [.str w, .int .i64 i, .str s] h post k := by
  refine S_of rfl T108 ?_; unfold fi108
  have e1 : ((i : Int) + 1).toNat = i + 1 := by omega
  simp (maxSteps := 1000000) (disch := first | omega | rfl | (simp only [zL, two63, room] <;> omega) | fail) only [↓reduceIte, ↓zP, zW, WOp, evOp, evBin, binI, binSh, binS, evNil, keyIs, keyEq, mkv, AV.cells, AV.sc, optv, bnd, env, put, Env.get, Env.set, Env.del, Env.dels, Env.init, res1, resL, resV, fillP, splice, newRow, Nat.reduceEqDiff, Nat.reduceLT, Nat.reduceLeDiff, Nat.reduceAdd, Nat.reduceMul, Nat.reduceSub, Nat.reduceBEq, reduceCtorEq, ↓zR, zQ, Tr, StA, StT, e1]
  exact hp
theorem c_made (w : List UInt8) (i t : Nat) (hi : i < w.length) (ht : t < w.length) (hw : w.length < 2 ^ 30) {h : AH} {post : AV → AH → Prop} (hp : ∀ h', Pre h h' → post (.str (madeB w i t)) h') : S 61 [.str w, mvV i t] h post k := by
  refine S_of rfl T61 ?_; unfold fi61
  have hr : w.length ≤ room := by unfold room; omega
  simp (maxSteps := 1000000) (disch := first | omega | rfl | (simp only [zL, two63, room] <;> omega) | fail) only [↓reduceIte, ↓zP, zW, WOp, evOp, evBin, binI, binSh, binS, evNil, keyIs, keyEq, mkv, AV.cells, AV.sc, optv, bnd, env, put, Env.get, Env.set, Env.del, Env.dels, Env.init, res1, resL, resV, fillP, splice, newRow, Nat.reduceEqDiff, Nat.reduceLT, Nat.reduceLeDiff, Nat.reduceAdd, Nat.reduceMul, Nat.reduceSub, Nat.reduceBEq, reduceCtorEq, ↓zR, zQ, Tr, StA, StT, sc_bytes, List.length_map, hr]
  refine w_drw ?_
  simp (maxSteps := 1000000) (disch := first | omega | rfl | (simp only [zL, two63, room] <;> omega) | fail) only [↓reduceIte, ↓zP, zW, WOp, evOp, evBin, binI, binSh, binS, evNil, keyIs, keyEq, mkv, AV.cells, AV.sc, optv, bnd, env, put, Env.get, Env.set, Env.del, Env.dels, Env.init, res1, resL, resV, fillP, splice, newRow, Nat.reduceEqDiff, Nat.reduceLT, Nat.reduceLeDiff, Nat.reduceAdd, Nat.reduceMul, Nat.reduceSub, Nat.reduceBEq, reduceCtorEq, ↓zR, zQ, Tr, StA, StT, List.length_map, hr]
  exact hp _ ((Pre.push _ _).trans (Pre.push _ _))

theorem e_l1In (n lo hi : Int) {h : AH} {post : AV → AH → Prop} : S 77 [.int .i64 n, .int .i64 lo, .int .i64 hi] h post k = post (.bool (decide (lo ≤ n ∧ n ≤ hi))) h := S_eq fun _ => c_l1In n lo hi
theorem e_within (n lo hi : Int) {h : AH} {post : AV → AH → Prop} : S 74 [.int .i64 n, .int .i64 lo, .int .i64 hi] h post k = post (.bool (decide (lo ≤ n ∧ n ≤ hi))) h := S_eq fun _ => c_within n lo hi

end Go.Proofs.YtejhhdpfndiliaaDoor.Ab

/- MOVES of a line: what the reference lists. -/
namespace Go.Proofs.YtejhhdpfndiliaaDoor.Ab
open Go
set_option maxRecDepth 100000
set_option maxHeartbeats 4000000

theorem dec_low {s : List UInt8} {pos : Nat} (h : pos < s.length) (ha : (s.getD pos 0).toNat < 128) : dec s pos = (((s.getD pos 0).toNat : Int), 1) := by
  have e : s.getD pos 0 = s[pos] := by simp [List.getD_eq_getElem?_getD, h]
  rw [e] at ha ⊢
  unfold dec
  have hg : (⟨s.toArray⟩ : ByteArray)[pos]'h = s[pos] := rfl
  have := decode_ascii ⟨s.toArray⟩ pos h (by rw [hg]; exact ha)
  rw [this, hg]
theorem sign_low {b : UInt8} (h : isSign b = true) : b.toNat < 128 := by
  simp only [isSign, Bool.or_eq_true, beq_iff_eq] at h
  rcases h with (rfl | rfl) | rfl <;> decide
theorem sign_at {w : List UInt8} (h : w.all isSign = true) {i : Nat} (hi : i < w.length) : isSign (w.getD i 0) = true := by
  have e : w.getD i 0 = w[i] := by simp [List.getD_eq_getElem?_getD, hi]
  rw [e]; exact List.all_eq_true.1 h _ (List.getElem_mem hi)

def innerB (w : List UInt8) (i : Nat) : Int → Nat → List (Int × Int)
  | _, 0 => []
  | tq, d + 1 => (if canB w ((i : Int), tq) then [((i : Int), tq)] else []) ++ innerB w i (tq + 1) d
theorem innerB_eq (w : List UInt8) (i : Nat) : innerB w i ((i : Int) - 2) 5 = ([(i : Int) - 2, i - 1, i, i + 1, i + 2].filter fun t => canB w ((i : Int), t)).map fun t => ((i : Int), t) := by
  simp only [innerB]
  rw [show (i : Int) - 2 + 1 = i - 1 by omega, show (i : Int) - 1 + 1 = i by omega, show (i : Int) + 1 + 1 = i + 2 by omega]
  simp only [List.filter_cons, List.filter_nil]
  cases canB w ((i : Int), (i : Int) - 2) <;> cases canB w ((i : Int), (i : Int) - 1) <;> cases canB w ((i : Int), (i : Int)) <;> cases canB w ((i : Int), (i : Int) + 1) <;> cases canB w ((i : Int), (i : Int) + 2) <;> rfl

end Go.Proofs.YtejhhdpfndiliaaDoor.Ab

/- PLAIN: sums of lines, who wins them. -/
namespace Go.Proofs.YtejhhdpfndiliaaDoor.Ab

/-- All sums behind a move in one of the lines of rest. -/
def nextZ (kd : List UInt8) : List (List UInt8) → List (List UInt8) → List (List (List UInt8))
  | _, [] => []
  | pre, w :: rest => (nextB w kd).map (fun v => pre ++ v :: rest) ++ nextZ kd (pre ++ [w]) rest
def muL (ls : List (List UInt8)) : Nat := (ls.map mu).sum
theorem nextZ_mu {kd : List UInt8} : ∀ {rest pre x : List (List UInt8)}, x ∈ nextZ kd pre rest → muL x < muL (pre ++ rest)
  | [], _, _, h => by simp [nextZ] at h
  | w :: rest, pre, x, h => by
    simp only [nextZ, List.mem_append, List.mem_map] at h
    rcases h with ⟨v, hv, rfl⟩ | h
    · have := nextB_mu hv
      simp only [muL, List.map_append, List.map_cons, List.sum_append, List.sum_cons]
      omega
    · have := nextZ_mu h
      simpa using this
def lsNx (s : List (List UInt8) × Bool) : List (List (List UInt8) × Bool) := (nextZ (kindS s.2) [] s.1).map fun ls => (ls, !s.2)
def lsSt (_ : List (List UInt8) × Bool) (l : List Bool) : Bool := l.any fun b => !b
def winL (ls : List (List UInt8)) (t : Bool) : Bool := rc lsNx lsSt (fun s => muL s.1) (ls, t)
theorem winL_eq (ls : List (List UInt8)) (t : Bool) : winL ls t = (nextZ (kindS t) [] ls).any fun x => !winL x (!t) := by
  unfold winL
  have hm : ∀ s : List (List UInt8) × Bool, ∀ s' ∈ lsNx s, muL s'.1 < muL s.1 := by
    intro s s' hs
    simp only [lsNx, List.mem_map] at hs
    obtain ⟨v, hv, rfl⟩ := hs
    simpa using nextZ_mu hv
  rw [rc_eq lsNx lsSt (mu := fun s => muL s.1) hm (ls, t)]
  simp only [lsSt, lsNx, List.map_map, List.any_map, Function.comp_def]
theorem muL_one (w : List UInt8) : muL [w] = mu w := by simp [muL]
theorem any_congr' {α : Type} {p q : α → Bool} {l : List α} (h : ∀ x ∈ l, p x = q x) : l.any p = l.any q := by
  induction l with
  | nil => rfl
  | cons a l ih => rw [List.any_cons, List.any_cons, h a (by simp), ih fun x hx => h x (by simp [hx])]
theorem winL_one : ∀ (n : Nat) (w : List UInt8) (t : Bool), mu w < n → winL [w] t = winB w t
  | 0, _, _, h => by omega
  | n + 1, w, t, h => by
    rw [winL_eq, winB_eq]
    simp only [nextZ, List.append_nil, List.nil_append, List.any_map, nextB, Function.comp_def]
    apply any_congr'
    intro m hm
    obtain ⟨i, t', rfl, hmv⟩ := movesB_mv hm
    have := mu_made hmv
    rw [winL_one n _ _ (by simp; omega)]

/-! ### Keys of sums -/
def gaTail (ls : List (List UInt8)) : List UInt8 := ls.flatMap fun w => 47 :: w
def gaK (s : List (List UInt8) × Bool) : List UInt8 := (if s.2 then 116 else 102) :: gaTail s.1
def signs (w : List UInt8) : Prop := w.all isSign = true
theorem sign_ne {b : UInt8} (h : isSign b = true) : b ≠ 47 := by rintro rfl; cases h
theorem split_eq : ∀ {w w' r r' : List UInt8}, signs w → signs w' → (r = [] ∨ ∃ x, r = 47 :: x) → (r' = [] ∨ ∃ x, r' = 47 :: x) → w ++ r = w' ++ r' → w = w' ∧ r = r'
  | [], [], _, _, _, _, _, _, h => ⟨rfl, h⟩
  | [], b :: w', r, r', _, h2, h3, _, h => by
    simp only [signs, List.all_cons, Bool.and_eq_true] at h2
    rcases h3 with rfl | ⟨x, rfl⟩
    · simp at h
    · simp at h; exact absurd h.1.symm (sign_ne h2.1)
  | b :: w, [], r, r', h1, _, _, h4, h => by
    simp only [signs, List.all_cons, Bool.and_eq_true] at h1
    rcases h4 with rfl | ⟨x, rfl⟩
    · simp at h
    · simp at h; exact absurd h.1 (sign_ne h1.1)
  | b :: w, b' :: w', r, r', h1, h2, h3, h4, h => by
    simp only [signs, List.all_cons, Bool.and_eq_true] at h1 h2
    simp only [List.cons_append, List.cons.injEq] at h
    obtain ⟨h5, h6⟩ := split_eq (w := w) (w' := w') h1.2 h2.2 h3 h4 h.2
    exact ⟨by rw [h.1, h5], h6⟩
theorem gaTail_hd : ∀ ls : List (List UInt8), gaTail ls = [] ∨ ∃ x, gaTail ls = 47 :: x
  | [] => .inl rfl
  | w :: ls => .inr ⟨w ++ gaTail ls, by simp [gaTail]⟩
theorem gaTail_inj : ∀ {a b : List (List UInt8)}, (∀ w ∈ a, signs w) → (∀ w ∈ b, signs w) → gaTail a = gaTail b → a = b
  | [], [], _, _, _ => rfl
  | [], w :: b, _, _, h => by simp [gaTail] at h
  | w :: a, [], _, _, h => by simp [gaTail] at h
  | w :: a, w' :: b, h1, h2, h => by
    have e : ∀ (w : List UInt8) (l : List (List UInt8)), gaTail (w :: l) = 47 :: (w ++ gaTail l) := fun w l => by simp [gaTail]
    rw [e, e, List.cons.injEq] at h
    obtain ⟨h3, h4⟩ := split_eq (h1 w (by simp)) (h2 w' (by simp)) (gaTail_hd a) (gaTail_hd b) h.2
    rw [h3, gaTail_inj (fun x hx => h1 x (by simp [hx])) (fun x hx => h2 x (by simp [hx])) h4]
theorem gaK_inj {s s' : List (List UInt8) × Bool} (h1 : ∀ w ∈ s.1, signs w) (h2 : ∀ w ∈ s'.1, signs w) (h : gaK s = gaK s') : s = s' := by
  obtain ⟨a, t⟩ := s
  obtain ⟨b, u⟩ := s'
  simp only [gaK, List.cons.injEq] at h
  have := gaTail_inj h1 h2 h.2
  subst this
  cases t <;> cases u <;> simp at h ⊢

/-! ### How many texts there are -/
def allStr (A : List UInt8) : Nat → List (List UInt8)
  | 0 => [[]]
  | n + 1 => A.flatMap fun b => (allStr A n).map (b :: ·)
theorem allStr_length (A : List UInt8) : ∀ n, (allStr A n).length = A.length ^ n
  | 0 => rfl
  | n + 1 => by
    simp only [allStr]
    rw [List.length_flatMap]
    simp only [List.length_map, allStr_length A n]
    rw [List.map_const', List.sum_replicate_nat, Nat.pow_succ, Nat.mul_comm]
theorem allStr_mem {A : List UInt8} : ∀ {x : List UInt8}, (∀ b ∈ x, b ∈ A) → x ∈ allStr A x.length
  | [], _ => by simp [allStr]
  | b :: x, h => by
    simp only [allStr, List.length_cons, List.mem_flatMap, List.mem_map]
    exact ⟨b, h b (by simp), x, allStr_mem fun c hc => h c (by simp [hc]), rfl⟩
theorem nodup_bound {A : List UInt8} {n : Nat} {K : List (List UInt8)} (hn : K.Nodup) (h : ∀ x ∈ K, x.length = n ∧ ∀ b ∈ x, b ∈ A) : K.length ≤ A.length ^ n := by
  rw [← allStr_length A n]
  apply List.Nodup.length_le_of_subset hn
  intro x hx
  obtain ⟨h1, h2⟩ := h x hx
  rw [← h1]
  exact allStr_mem h2
end Go.Proofs.YtejhhdpfndiliaaDoor.Ab

/- GAMES of the reference: small functions. -/
namespace Go.Proofs.YtejhhdpfndiliaaDoor.Ab
open Go
set_option maxRecDepth 100000
set_option maxHeartbeats 4000000

theorem put_put (w : List UInt8) (i t : Nat) (hi : i < w.length) (ht : t < w.length) (hne : i ≠ t) : (w.take i ++ [46] ++ w.drop (i + 1)).take t ++ [w.getD i 0] ++ (w.take i ++ [46] ++ w.drop (i + 1)).drop (t + 1) = madeB w i t := by
  have e1 : w.take i ++ [46] ++ w.drop (i + 1) = w.set i 46 := by
    rw [List.set_eq_take_append_cons_drop, if_pos hi]; simp
  rw [e1]
  have e2 : ∀ (l : List UInt8) (x : UInt8), t < l.length → l.take t ++ [x] ++ l.drop (t + 1) = l.set t x := by
    intro l x hl
    rw [List.set_eq_take_append_cons_drop, if_pos hl]; simp
  rw [e2 _ _ (by simpa using ht)]
  unfold madeB
  exact List.set_comm _ _ hne
theorem c_liMake (w : List UInt8) (i t : Nat) (hi : i < w.length) (ht : t < w.length) (hne : i ≠ t) (hw : w.length < 2 ^ 30) {h : AH} {post : AV → AH → Prop} (hp : ∀ h', Pre h h' → post (.str (madeB w i t)) h') : S 66 [.str w, mvV i t] h post k := by
  refine S_of rfl T66 ?_; unfold fi66
  have e1 : ((i : Int) + 1).toNat = i + 1 := by omega
  have e2 : (w.drop i).take (i + 1 - i) = [w.getD i 0] := sub_one w i hi
  simp (maxSteps := 1000000) (disch := first | omega | rfl | (simp only [zL, two63, room] <;> omega) | fail) only [↓reduceIte, ↓zP, zW, WOp, evOp, evBin, binI, binSh, binS, evNil, keyIs, keyEq, mkv, AV.cells, AV.sc, optv, bnd, env, put, Env.get, Env.set, Env.del, Env.dels, Env.init, res1, resL, resV, fillP, splice, newRow, Nat.reduceEqDiff, Nat.reduceLT, Nat.reduceLeDiff, Nat.reduceAdd, Nat.reduceMul, Nat.reduceSub, Nat.reduceBEq, reduceCtorEq, ↓zR, zQ, Tr, StA, StT, e1, e2]
  refine w_drw ?_
  have l1 : (w.take i ++ [46] ++ w.drop (i + 1)).length = w.length := by simp; omega
  simp (maxSteps := 1000000) (disch := first | omega | rfl | (simp only [zL, two63, room] <;> omega) | fail) only [↓reduceIte, ↓zP, zW, WOp, evOp, evBin, binI, binSh, binS, evNil, keyIs, keyEq, mkv, AV.cells, AV.sc, optv, bnd, env, put, Env.get, Env.set, Env.del, Env.dels, Env.init, res1, resL, resV, fillP, splice, newRow, Nat.reduceEqDiff, Nat.reduceLT, Nat.reduceLeDiff, Nat.reduceAdd, Nat.reduceMul, Nat.reduceSub, Nat.reduceBEq, reduceCtorEq, ↓zR, zQ, Tr, StA, StT, e1, e2]
  refine c_liPut w i [46] hi hw (by simp) ?_
  simp (maxSteps := 1000000) (disch := first | omega | rfl | (simp only [zL, two63, room] <;> omega) | fail) only [↓reduceIte, ↓zP, zW, WOp, evOp, evBin, binI, binSh, binS, evNil, keyIs, keyEq, mkv, AV.cells, AV.sc, optv, bnd, env, put, Env.get, Env.set, Env.del, Env.dels, Env.init, res1, resL, resV, fillP, splice, newRow, Nat.reduceEqDiff, Nat.reduceLT, Nat.reduceLeDiff, Nat.reduceAdd, Nat.reduceMul, Nat.reduceSub, Nat.reduceBEq, reduceCtorEq, ↓zR, zQ, Tr, StA, StT]
  refine c_liPut _ t _ (by rw [l1]; exact ht) (by rw [l1]; exact hw) (by simp) ?_
  rw [put_put w i t hi ht hne]
  simp (maxSteps := 1000000) (disch := first | omega | rfl | (simp only [zL, two63, room] <;> omega) | fail) only [↓reduceIte, ↓zP, zW, WOp, evOp, evBin, binI, binSh, binS, evNil, keyIs, keyEq, mkv, AV.cells, AV.sc, optv, bnd, env, put, Env.get, Env.set, Env.del, Env.dels, Env.init, res1, resL, resV, fillP, splice, newRow, Nat.reduceEqDiff, Nat.reduceLT, Nat.reduceLeDiff, Nat.reduceAdd, Nat.reduceMul, Nat.reduceSub, Nat.reduceBEq, reduceCtorEq, ↓zR, zQ, Tr, StA, StT]
  exact hp _ (Pre.push _ _)

end Go.Proofs.YtejhhdpfndiliaaDoor.Ab

/- GAMES of the reference: who wins a sum, by what is known already. -/
namespace Go.Proofs.YtejhhdpfndiliaaDoor.Ab
open Go
set_option maxRecDepth 100000
set_option maxHeartbeats 4000000

def rowOf : AV → Option Nat
  | .slice c _ _ _ _ => some c
  | _ => none
/-- Rows that belong to what is known. -/
def gr (c : Nat) (h : AH) (i : Nat) : Prop := i = c ∨ ∃ v1 v2, h[c]? = some (.row [v1, v2] 0 0 false) ∧ (rowOf v1 = some i ∨ rowOf v2 = some i)
def FrG (c : Nat) (h h' : AH) : Prop := h.length ≤ h'.length ∧ ∀ i, i < h.length → ¬ gr c h i → h'[i]? = h[i]? ∧ ¬ gr c h' i
theorem FrG.refl (c : Nat) (h : AH) : FrG c h h := ⟨Nat.le_refl _, fun _ _ hg => ⟨rfl, hg⟩⟩
theorem FrG.trans {c : Nat} {x y z : AH} (p : FrG c x y) (q : FrG c y z) : FrG c x z := ⟨Nat.le_trans p.1 q.1, fun i hi hg => by
  obtain ⟨h1, h2⟩ := p.2 i hi hg
  obtain ⟨h3, h4⟩ := q.2 i (Nat.lt_of_lt_of_le hi p.1) h2
  exact ⟨by rw [h3, h1], h4⟩⟩
theorem gr_pre {c : Nat} {h h' : AH} (hp : Pre h h') (hc : c < h.length) (i : Nat) : gr c h' i ↔ gr c h i := by
  unfold gr; rw [hp.2 c hc]
theorem Pre.frg {c : Nat} {h h' : AH} (hp : Pre h h') (hc : c < h.length) : FrG c h h' := ⟨hp.1, fun i hi hg => ⟨hp.2 i hi, by rw [gr_pre hp hc]; exact hg⟩⟩
def alph : List UInt8 := [116, 102, 47, 46, 70, 84]
def OkS (N : Nat) (s : List (List UInt8) × Bool) : Prop := (∀ w ∈ s.1, signs w) ∧ (gaK s).length = N
def KN (N c : Nat) (h : AH) (K : List (List UInt8)) : Prop := ∃ v1 v2 W, h[c]? = some (.row [v1, v2] 0 0 false) ∧ OwL 1 encS [] h v1 K ∧ OwL 1 encB [] h v2 W ∧ rowOf v1 ≠ some c ∧ rowOf v2 ≠ some c ∧ (∀ r, rowOf v1 = some r → rowOf v2 ≠ some r) ∧
  K.length = W.length ∧ K.Nodup ∧ (∀ x ∈ K, x.length = N ∧ ∀ b ∈ x, b ∈ alph) ∧ ∀ (i : Nat) x b, K[i]? = some x → W[i]? = some b → ∀ s, OkS N s → x = gaK s → b = winL s.1 s.2
theorem KN.lt {N c : Nat} {h : AH} {K : List (List UInt8)} (hk : KN N c h K) : c < h.length := by
  obtain ⟨_, _, _, h1, _⟩ := hk
  exact (List.getElem?_eq_some_iff.1 h1).1
theorem own_lt {esz : Nat} {b h : AH} {v : AV} {n : Nat} {cs : List AV} (ho : Own esz b h v n cs) {r : Nat} (hr : rowOf v = some r) : r < h.length := by
  unfold Own at ho
  cases v <;> simp only [rowOf] at hr ho <;> first
    | (cases hr; done)
    | (cases hr; obtain ⟨_, _, _, _, cells, fl, h5, _⟩ := ho; exact (List.getElem?_eq_some_iff.1 h5).1)
theorem own_ge {esz : Nat} {b h : AH} {v : AV} {n : Nat} {cs : List AV} (ho : Own esz b h v n cs) {r : Nat} (hr : rowOf v = some r) : b.length ≤ r := by
  unfold Own at ho
  cases v <;> simp only [rowOf] at hr ho <;> first
    | (cases hr; done)
    | (cases hr; exact ho.2.2.2.1)
theorem KN.gr_lt {N c : Nat} {h : AH} {K : List (List UInt8)} (hk : KN N c h K) {i : Nat} (hg : gr c h i) : i < h.length := by
  have hlt := hk.lt
  obtain ⟨v1, v2, W, h1, h2, h3, _⟩ := hk
  rcases hg with rfl | ⟨u1, u2, h4, h5⟩
  · exact hlt
  · rw [h1] at h4
    simp only [Option.some.injEq, AO.row.injEq, List.cons.injEq, and_true, true_and] at h4
    obtain ⟨rfl, rfl⟩ := h4
    rcases h5 with h5 | h5
    · exact own_lt h2 h5
    · exact own_lt h3 h5
theorem KN.pre {N c : Nat} {h h' : AH} {K : List (List UInt8)} (hk : KN N c h K) (hp : Pre h h') : KN N c h' K := by
  have hlt := hk.lt
  obtain ⟨v1, v2, W, h1, h2, h3, h4⟩ := hk
  exact ⟨v1, v2, W, by rw [hp.2 c hlt]; exact h1, h2.pre hp, h3.pre hp, h4⟩
theorem KN.fresh {N c : Nat} {h h' : AH} {K : List (List UInt8)} (hk : KN N c h K) (hp : Pre h h') {r : Nat} (hr : h.length ≤ r) : ¬ gr c h' r := by
  rw [gr_pre hp hk.lt]
  intro hg
  have := hk.gr_lt hg
  omega
/-- A slice that is read, and does not belong to what is known. -/
def SlcG {α : Type} (esz : Nat) (enc : α → List AV) (c : Nat) (h : AH) (v : AV) (L : List α) : Prop := Slc esz enc h v L ∧ ∀ r, rowOf v = some r → ¬ gr c h r
theorem rd_fr {c : Nat} {h h' : AH} (hf : FrG c h h') {r k o n : Nat} {cs : List AV} (hg : ¬ gr c h r) (hr : rdRow h r k o n = some cs) : rdRow h' r k o n = some cs := by
  have := rd_lt hr
  unfold rdRow at hr ⊢
  rw [(hf.2 r this hg).1]; exact hr
theorem SlcG.fr {α : Type} {esz : Nat} {enc : α → List AV} {c : Nat} {h h' : AH} {v : AV} {L : List α} (hs : SlcG esz enc c h v L) (hf : FrG c h h') : SlcG esz enc c h' v L := by
  obtain ⟨h1, h2⟩ := hs
  unfold SlcG Slc Sl at *
  cases v <;> simp only [rowOf] at * <;> first
    | (exact ⟨h1, fun r hr => by cases hr⟩)
    | (obtain ⟨k1, k2, k3, k4⟩ := h1
       exact ⟨⟨k1, k2, k3, rd_fr hf (h2 _ rfl) k4⟩, fun r hr => by cases hr; exact (hf.2 _ (rd_lt k4) (h2 _ rfl)).2⟩)
theorem OwL.slcG {α : Type} {esz : Nat} {enc : α → List AV} {N c : Nat} {h h' : AH} {v : AV} {L : List α} {K : List (List UInt8)} (ho : OwL esz enc h h' v L) (hk : KN N c h K) (hp : Pre h h') : SlcG esz enc c h' v L :=
  ⟨ho.slc, fun _ hr => hk.fresh hp (own_ge ho hr)⟩

theorem kindsS_not (t : Bool) : kindsS t (!t) = kindS t := by cases t <;> rfl
theorem gaTail_len (ls : List (List UInt8)) : (gaTail ls).length = (ls.map fun w => w.length + 1).sum := by
  induction ls with
  | nil => rfl
  | cons w ls ih => simp only [gaTail, List.flatMap_cons, List.length_append, List.length_cons, List.map_cons, List.sum_cons] at ih ⊢; rw [ih]
theorem OkS.step {N : Nat} {pre : List (List UInt8)} {w : List UInt8} {rest : List (List UInt8)} {t : Bool} (ho : OkS N (pre ++ w :: rest, t)) (i t' : Nat) (hi : i < w.length) : OkS N (pre ++ madeB w i t' :: rest, !t) := by
  obtain ⟨h1, h2⟩ := ho
  refine ⟨?_, ?_⟩
  · intro x hx
    simp only [List.mem_append, List.mem_cons] at hx
    rcases hx with hx | rfl | hx
    · exact h1 x (by simp [hx])
    · have hw := h1 w (by simp)
      have hb := sign_at hw hi
      unfold signs madeB
      rw [List.all_eq_true] at *
      intro b hb'
      rcases List.mem_or_eq_of_mem_set hb' with h3 | rfl
      · rcases List.mem_or_eq_of_mem_set h3 with h4 | rfl
        · exact (List.all_eq_true.1 hw) b h4
        · exact hb
      · rfl
    · exact h1 x (by simp [hx])
  · rw [← h2]
    simp only [gaK, List.length_cons, gaTail_len, List.map_append, List.map_cons, List.sum_append, List.sum_cons, madeB_length]
theorem OkS.bounds {N : Nat} {ls : List (List UInt8)} {t : Bool} (ho : OkS N (ls, t)) : ls.length ≤ N ∧ (gaTail ls).length < N ∧ ∀ w ∈ ls, w.length < N := by
  obtain ⟨_, h2⟩ := ho
  have h3 : (gaTail ls).length + 1 = N := by rw [← h2]; simp [gaK]
  have key : ∀ l : List (List UInt8), l.length ≤ (gaTail l).length ∧ ∀ w ∈ l, w.length < (gaTail l).length := by
    intro l
    induction l with
    | nil => simp
    | cons a l ih =>
      rw [gaTail_len] at ih ⊢
      simp only [List.map_cons, List.sum_cons, List.length_cons]
      refine ⟨by omega, ?_⟩
      intro w hw
      rcases List.mem_cons.1 hw with rfl | hw
      · omega
      · have := ih.2 w hw; omega
  have := key ls
  exact ⟨by omega, by omega, fun w hw => by have := this.2 w hw; omega⟩
theorem OkS.alph {N : Nat} {s : List (List UInt8) × Bool} (ho : OkS N s) : ∀ b ∈ gaK s, b ∈ Ab.alph := by
  obtain ⟨ls, t⟩ := s
  intro b hb
  simp only [gaK, List.mem_cons] at hb
  rcases hb with rfl | hb
  · cases t
    · exact (by decide : (102 : UInt8) ∈ Ab.alph)
    · exact (by decide : (116 : UInt8) ∈ Ab.alph)
  · simp only [gaTail, List.mem_flatMap, List.mem_cons] at hb
    obtain ⟨w, hw, hb⟩ := hb
    rcases hb with rfl | hb
    · decide
    · have := List.all_eq_true.1 (ho.1 w hw) b hb
      simp only [isSign, Bool.or_eq_true, beq_iff_eq] at this
      rcases this with (rfl | rfl) | rfl <;> decide
theorem own_row {esz : Nat} {b h h' : AH} {v : AV} {n : Nat} {cs : List AV} (ho : Own esz b h v n cs) (hh : ∀ r, rowOf v = some r → h'[r]? = h[r]?) : Own esz b h' v n cs := by
  unfold Own at ho ⊢
  cases v <;> simp only [rowOf] at ho hh ⊢ <;> first
    | exact ho
    | (obtain ⟨h1, h2, h3, h4, cells, fl, h5, h6⟩ := ho
       exact ⟨h1, h2, h3, h4, cells, fl, by rw [hh _ rfl]; exact h5, h6⟩)
theorem OwL.sc1 {α : Type} {esz : Nat} {enc : α → List AV} {b h : AH} {v : AV} {L : List α} (ho : OwL esz enc b h v L) : v.sc = true := by
  unfold OwL Own at ho
  cases v <;> simp only at ho <;> first
    | rfl
    | (exact ho.elim)
theorem OwL.cells {α : Type} {esz : Nat} {enc : α → List AV} {b h : AH} {v : AV} {L : List α} (ho : OwL esz enc b h v L) : v.cells = [v] := by
  unfold OwL Own at ho
  cases v <;> simp only at ho <;> first
    | rfl
    | (exact ho.elim)
theorem apRow_fr {h h' : AH} {esz q : Nat} {v v' : AV} {vs : List AV} (ha : apRow h esz v q vs = some (v', h')) : (∀ i, i < h.length → rowOf v ≠ some i → h'[i]? = h[i]?) ∧ h.length ≤ h'.length ∧ ∀ r, rowOf v' = some r → (rowOf v = some r ∨ r = h.length) := by
  have fresh : ∀ u, (if q = 0 then some (u, h) else if q ≤ room then (newRow h vs).map fun (c, h') => (AV.slice c 0 0 q esz, h') else none) = some (v', h') → rowOf u = none → (∀ i, i < h.length → h'[i]? = h[i]?) ∧ h.length ≤ h'.length ∧ ∀ r, rowOf v' = some r → r = h.length := by
    intro u ha hu
    split at ha
    · cases ha
      exact ⟨fun _ _ => rfl, Nat.le_refl _, fun r hr => by rw [hu] at hr; cases hr⟩
    · split at ha
      · unfold newRow at ha
        split at ha
        · simp only [Option.map_some, Option.some.injEq, Prod.mk.injEq] at ha
          obtain ⟨rfl, rfl⟩ := ha
          exact ⟨fun i hi => List.getElem?_append_left hi, by simp, fun r hr => by simp only [rowOf, Option.some.injEq] at hr; exact hr.symm⟩
        · cases ha
      · cases ha
  unfold apRow at ha
  cases v <;> simp only [apRow1] at ha <;> first
    | (cases ha; done)
    | (obtain ⟨h1, h2, h3⟩ := fresh _ ha rfl
       exact ⟨fun i hi _ => h1 i hi, h2, fun r hr => .inr (h3 r hr)⟩)
    | (split at ha
       · split at ha
         · cases ha
           refine ⟨fun i _ hr => ?_, by simp, fun r hr => .inl hr⟩
           rw [List.getElem?_set, if_neg (fun e => hr (by simp [rowOf, e]))]
         · split at ha
           · cases ha
             refine ⟨fun i _ hr => ?_, by simp, fun r hr => .inl hr⟩
             rw [List.getElem?_set, if_neg (fun e => hr (by simp [rowOf, e]))]
           · cases ha
       · cases ha)
/-- Keys that came by a call. -/
def Came (N n : Nat) (K K' : List (List UInt8)) : Prop := ∀ x ∈ K', x ∈ K ∨ ∃ s, OkS N s ∧ muL s.1 < n ∧ x = gaK s
theorem Came.refl (N n : Nat) (K : List (List UInt8)) : Came N n K K := fun _ h => .inl h
theorem Came.trans {N n : Nat} {a b c : List (List UInt8)} (x : Came N n a b) (y : Came N n b c) : Came N n a c := fun k hk => by
  rcases y k hk with h | h
  · exact x k h
  · exact .inr h
theorem Came.mono {N n m : Nat} {a b : List (List UInt8)} (x : Came N n a b) (hm : n ≤ m) : Came N m a b := fun k hk => by
  rcases x k hk with h | ⟨s, h1, h2, h3⟩
  · exact .inl h
  · exact .inr ⟨s, h1, by omega, h3⟩
def outcS (a b : Bool) : List UInt8 := if a && b then [49] else if a then [84] else if b then [70] else [50]
theorem KN.new {N : Nat} {h : AH} : KN N h.length (h ++ [.row [.nilS, .nilS] 0 0 false]) [] :=
  ⟨.nilS, .nilS, [], by simp, OwL.nil, OwL.nil, by simp [rowOf], by simp [rowOf], by simp [rowOf], rfl, List.nodup_nil, fun x hx => (List.not_mem_nil hx).elim, fun i x b hx => by simp at hx⟩
end Go.Proofs.YtejhhdpfndiliaaDoor.Ab

/- MAPS that know what a function answers. -/
namespace Go.Proofs.YtejhhdpfndiliaaDoor.Ab
open Go
set_option maxRecDepth 100000
set_option maxHeartbeats 4000000

/-- All keys are texts. -/
def StrK (es : List (AV × AV)) : Prop := ∀ kv ∈ es, ∃ s, kv.1 = .str s
theorem StrK.nil : StrK [] := fun _ h => by cases h
theorem mfind_some {es : List (AV × AV)} (hk : StrK es) (x : List UInt8) : ∃ o, mfind (.str x) es = some o := by
  induction es with
  | nil => exact ⟨none, rfl⟩
  | cons kv es ih =>
    obtain ⟨a, v⟩ := kv
    obtain ⟨s, hs⟩ := hk (a, v) (by simp)
    simp only at hs
    subst hs
    obtain ⟨o, ho⟩ := ih fun kv h => hk kv (by simp [h])
    simp only [mfind, keyEq]
    cases x == s
    · exact ⟨o, ho⟩
    · exact ⟨some v, rfl⟩
theorem mfind_mput {es : List (AV × AV)} (hk : StrK es) (x y : List UInt8) (v : AV) : mfind (.str y) (mput (.str x) v es) = if y == x then some (some v) else mfind (.str y) es := by
  induction es with
  | nil =>
    simp only [mput, mfind, keyEq]
    cases y == x <;> rfl
  | cons kv es ih =>
    obtain ⟨a, u⟩ := kv
    obtain ⟨s, hs⟩ := hk (a, u) (by simp)
    simp only at hs
    subst hs
    have ih := ih fun kv h => hk kv (by simp [h])
    cases e : x == s
    · have e1 : mput (.str x) v ((.str s, u) :: es) = (.str s, u) :: mput (.str x) v es := by simp only [mput, keyEq, e]
      rw [e1]
      simp only [mfind, keyEq, ih]
      cases e2 : y == s
      · rfl
      · have : (y == x) = false := by
          rw [beq_eq_false_iff_ne] at e ⊢
          rw [beq_iff_eq] at e2
          subst e2; exact fun h => e h.symm
        simp [this]
    · have e1 : mput (.str x) v ((.str s, u) :: es) = (.str x, v) :: es := by simp only [mput, keyEq, e]
      rw [e1]
      rw [beq_iff_eq] at e
      subst e
      simp only [mfind, keyEq]
      cases y == x <;> rfl
theorem StrK.mput {es : List (AV × AV)} (hk : StrK es) (x : List UInt8) (v : AV) : StrK (mput (.str x) v es) := by
  induction es with
  | nil => intro kv h; simp only [Ab.mput, List.mem_singleton] at h; subst h; exact ⟨x, rfl⟩
  | cons kv es ih =>
    obtain ⟨a, u⟩ := kv
    have ih := ih fun kv h => hk kv (by simp [h])
    have ha := hk (a, u) (by simp)
    intro kv h
    simp only [Ab.mput] at h
    split at h
    · rcases List.mem_cons.1 h with rfl | h
      · exact ⟨x, rfl⟩
      · exact hk kv (by simp [h])
    · rcases List.mem_cons.1 h with rfl | h
      · exact ha
      · exact ih kv h

/-- The map at c knows right answers. -/
def Mh {σ : Type} (key : σ → List UInt8) (val : σ → AV) (c : Nat) (h : AH) : Prop := ∃ es, h[c]? = some (.map es) ∧ StrK es ∧ ∀ s v, mfind (.str (key s)) es = some (some v) → v = val s
section
variable {σ : Type} {key : σ → List UInt8} {val : σ → AV} {c : Nat} {h : AH}
theorem Mh.lt (hm : Mh key val c h) : c < h.length := by
  obtain ⟨es, h1, _⟩ := hm
  exact (List.getElem?_eq_some_iff.1 h1).1
theorem Mh.pre {h' : AH} (hm : Mh key val c h) (hp : Pre h h') : Mh key val c h' := by
  have := hm.lt
  obtain ⟨es, h1, h2⟩ := hm
  exact ⟨es, by rw [hp.2 c this]; exact h1, h2⟩
theorem Mh.new : Mh key val h.length (h ++ [.map []]) := ⟨[], by simp, StrK.nil, fun s v hv => by simp [mfind] at hv⟩
theorem Mh.new' {n : Nat} (hn : n = h.length) : Mh key val n (h ++ [.map []]) := hn ▸ Mh.new
/-- A new answer. -/
theorem Mh.put (hm : Mh key val c h) (hk : ∀ s s', key s = key s' → val s = val s') (s : σ) : ∃ es, h[c]? = some (.map es) ∧ (∃ o, mfind (.str (key s)) es = some o) ∧ Mh key val c (h.set c (.map (mput (.str (key s)) (val s) es))) := by
  have hlt := hm.lt
  obtain ⟨es, h1, h2, h3⟩ := hm
  refine ⟨es, h1, mfind_some h2 _, _, by rw [List.getElem?_set, if_pos rfl, if_pos hlt], h2.mput _ _, ?_⟩
  intro s' v hv
  rw [mfind_mput h2] at hv
  split at hv
  · rename_i he
    cases hv
    exact hk s s' (beq_iff_eq.1 he).symm
  · exact h3 s' v hv
end
end Go.Proofs.YtejhhdpfndiliaaDoor.Ab

/- GAMES of the program: who wins a sum. -/
namespace Go.Proofs.YtejhhdpfndiliaaDoor.Ab
open Go
set_option maxRecDepth 100000
set_option maxHeartbeats 4000000

theorem kindS_len (t : Bool) : (kindS t).length = 1 := by cases t <;> rfl
def winK (s : List UInt8 × Bool) : List UInt8 := kindS s.2 ++ s.1
def winV (s : List UInt8 × Bool) : AV := .bool (winB s.1 s.2)
theorem winK_inj (s s' : List UInt8 × Bool) (h : winK s = winK s') : winV s = winV s' := by
  obtain ⟨w, t⟩ := s
  obtain ⟨w', t'⟩ := s'
  cases t <;> cases t' <;> simp [winK, kindS] at h ⊢ <;> subst h <;> rfl

end Go.Proofs.YtejhhdpfndiliaaDoor.Ab

/- PUZZLES: clues. -/
namespace Go.Proofs.YtejhhdpfndiliaaDoor.Ab
open Go
set_option maxRecDepth 100000
set_option maxHeartbeats 4000000

theorem lp_liCount (w : List UInt8) (b : UInt8) (hw : w.length < 2 ^ 30) {h : AH} {R : X → Env → AH → Prop} : ∀ (rest pre : List UInt8) (n : Nat), w = pre ++ rest → n ≤ pre.length → R (.exit 0) [(5, .int .i64 ((n + rest.count b : Nat) : Int))] h →
    Cx (.loop lp116_0) [(0, .str w), (1, by8 b), (5, .int .i64 n), (6, .int .i64 pre.length)] h R k k
  | [], pre, n, hpre, hn, hR => by
    rw [w_loopb (c := lp116_0) (d := lb116_0) rfl]; unfold lb116_0
    have hl : w.length = pre.length := by rw [hpre]; simp
    simp (maxSteps := 1000000) (disch := first | omega | rfl | (simp only [zL, two63, room] <;> omega) | fail) only [↓reduceIte, ↓zP, zW, WOp, evOp, evBin, binI, binSh, binS, evNil, keyIs, keyEq, mkv, AV.cells, AV.sc, optv, bnd, env, put, Env.get, Env.set, Env.del, Env.dels, Env.init, res1, resL, resV, fillP, splice, newRow, Nat.reduceEqDiff, Nat.reduceLT, Nat.reduceLeDiff, Nat.reduceAdd, Nat.reduceMul, Nat.reduceSub, Nat.reduceBEq, reduceCtorEq, ↓zR, zQ, Tr, StA, StT, hl]
    simpa using hR
  | x :: rest, pre, n, hpre, hn, hR => by
    have ih := lp_liCount w b hw (h := h) (R := R) rest (pre ++ [x])
    have hl : w.length = pre.length + 1 + rest.length := by rw [hpre]; simp; omega
    have hx : w.getD pre.length 0 = x := by rw [hpre]; simp [List.getD_eq_getElem?_getD]
    rw [w_loopb (c := lp116_0) (d := lb116_0) rfl]; unfold lb116_0
    have w1 : (pre.length : Int) + 1 = ((pre ++ [x]).length : Int) := by simp
    have w2 : (n : Int) + 1 = ((n + 1 : Nat) : Int) := by omega
    cases e : (x == b)
    · simp (maxSteps := 1000000) (disch := first | omega | rfl | (simp only [zL, two63, room] <;> omega) | fail) only [↓reduceIte, ↓zP, zW, WOp, evOp, evBin, binI, binSh, binS, evNil, keyIs, keyEq, mkv, AV.cells, AV.sc, optv, bnd, env, put, Env.get, Env.set, Env.del, Env.dels, Env.init, res1, resL, resV, fillP, splice, newRow, Nat.reduceEqDiff, Nat.reduceLT, Nat.reduceLeDiff, Nat.reduceAdd, Nat.reduceMul, Nat.reduceSub, Nat.reduceBEq, reduceCtorEq, ↓zR, zQ, Tr, StA, StT, hx, e, w1]
      rw [w_loopn (c := lp116_0) rfl]
      simp (maxSteps := 1000000) (disch := first | omega | rfl | (simp only [zL, two63, room] <;> omega) | fail) only [↓reduceIte, ↓zP, zW, WOp, evOp, evBin, binI, binSh, binS, evNil, keyIs, keyEq, mkv, AV.cells, AV.sc, optv, bnd, env, put, Env.get, Env.set, Env.del, Env.dels, Env.init, res1, resL, resV, fillP, splice, newRow, Nat.reduceEqDiff, Nat.reduceLT, Nat.reduceLeDiff, Nat.reduceAdd, Nat.reduceMul, Nat.reduceSub, Nat.reduceBEq, reduceCtorEq, ↓zR, zQ, Tr, StA, StT]
      exact ih n (by rw [hpre]; simp) (by simp; omega) (by rw [List.count_cons, e] at hR; simpa using hR)
    · simp (maxSteps := 1000000) (disch := first | omega | rfl | (simp only [zL, two63, room] <;> omega) | fail) only [↓reduceIte, ↓zP, zW, WOp, evOp, evBin, binI, binSh, binS, evNil, keyIs, keyEq, mkv, AV.cells, AV.sc, optv, bnd, env, put, Env.get, Env.set, Env.del, Env.dels, Env.init, res1, resL, resV, fillP, splice, newRow, Nat.reduceEqDiff, Nat.reduceLT, Nat.reduceLeDiff, Nat.reduceAdd, Nat.reduceMul, Nat.reduceSub, Nat.reduceBEq, reduceCtorEq, ↓zR, zQ, Tr, StA, StT, hx, e, w1, w2]
      rw [w_loopn (c := lp116_0) rfl]
      simp (maxSteps := 1000000) (disch := first | omega | rfl | (simp only [zL, two63, room] <;> omega) | fail) only [↓reduceIte, ↓zP, zW, WOp, evOp, evBin, binI, binSh, binS, evNil, keyIs, keyEq, mkv, AV.cells, AV.sc, optv, bnd, env, put, Env.get, Env.set, Env.del, Env.dels, Env.init, res1, resL, resV, fillP, splice, newRow, Nat.reduceEqDiff, Nat.reduceLT, Nat.reduceLeDiff, Nat.reduceAdd, Nat.reduceMul, Nat.reduceSub, Nat.reduceBEq, reduceCtorEq, ↓zR, zQ, Tr, StA, StT]
      exact ih (n + 1) (by rw [hpre]; simp) (by simp; omega) (by rw [List.count_cons, e] at hR; simpa [Nat.add_assoc, Nat.add_comm 1] using hR)
theorem e_liCount (w : List UInt8) (b : UInt8) (hw : w.length < 1073741824) {h : AH} {post : AV → AH → Prop} : S 116 [.str w, by8 b] h post k = post (.int .i64 (w.count b : Nat)) h := by
  refine S_eq fun post hp => ?_
  refine S_of rfl T116 ?_; unfold fi116
  simp (maxSteps := 1000000) (disch := first | omega | rfl | (simp only [zL, two63, room] <;> omega) | fail) only [↓reduceIte, ↓zP, zW, WOp, evOp, evBin, binI, binSh, binS, evNil, keyIs, keyEq, mkv, AV.cells, AV.sc, optv, bnd, env, put, Env.get, Env.set, Env.del, Env.dels, Env.init, res1, resL, resV, fillP, splice, newRow, Nat.reduceEqDiff, Nat.reduceLT, Nat.reduceLeDiff, Nat.reduceAdd, Nat.reduceMul, Nat.reduceSub, Nat.reduceBEq, reduceCtorEq, ↓zR, zQ, Tr, StA, StT]
  refine lp_liCount w b hw w [] 0 rfl (by simp) ?_
  simp (maxSteps := 1000000) (disch := first | omega | rfl | (simp only [zL, two63, room] <;> omega) | fail) only [↓reduceIte, ↓zP, zW, WOp, evOp, evBin, binI, binSh, binS, evNil, keyIs, keyEq, mkv, AV.cells, AV.sc, optv, bnd, env, put, Env.get, Env.set, Env.del, Env.dels, Env.init, res1, resL, resV, fillP, splice, newRow, Nat.reduceEqDiff, Nat.reduceLT, Nat.reduceLeDiff, Nat.reduceAdd, Nat.reduceMul, Nat.reduceSub, Nat.reduceBEq, reduceCtorEq, ↓zR, zQ, Tr, StA, StT]
  simpa using hp
theorem e_liCountT (w : List UInt8) (hw : w.length < 1073741824) {h : AH} {post : AV → AH → Prop} : S 116 [.str w, .int .u8 84] h post k = post (.int .i64 (w.count 84 : Nat)) h := e_liCount w 84 hw
theorem e_liCountF (w : List UInt8) (hw : w.length < 1073741824) {h : AH} {post : AV → AH → Prop} : S 116 [.str w, .int .u8 70] h post k = post (.int .i64 (w.count 70 : Nat)) h := e_liCount w 70 hw
theorem e_liCountD (w : List UInt8) (hw : w.length < 1073741824) {h : AH} {post : AV → AH → Prop} : S 116 [.str w, .int .u8 46] h post k = post (.int .i64 (w.count 46 : Nat)) h := e_liCount w 46 hw
def clueOk (n : Int) (c : Int × Int × Int) : Bool :=
  if c.1 = 0 then decide (0 ≤ c.2.1 ∧ c.2.1 ≤ n - 1) && decide (0 ≤ c.2.2 ∧ c.2.2 ≤ 2) else
  decide (c.2.2 = 0) && (if c.1 = 1 ∨ c.1 = 2 then decide (0 ≤ c.2.1 ∧ c.2.1 ≤ n) else if c.1 = 3 then decide (0 ≤ c.2.1 ∧ c.2.1 ≤ 2 * n) else if c.1 = 4 then decide (0 ≤ c.2.1 ∧ c.2.1 ≤ 10) else if c.1 = 5 then decide (0 ≤ c.2.1 ∧ c.2.1 ≤ 3) else false)
def clueB (kd cell : Int) (w : List UInt8) : Int × Int × Int :=
  if kd = 0 then (0, cell, Go.Lib.indexByte [46, 70, 84] (w.getD cell.toNat 0)) else if kd = 1 then (1, w.count 84, 0) else if kd = 2 then (2, w.count 70, 0) else if kd = 3 then (3, (movesB w [84, 70]).length, 0) else if kd = 4 then (4, pairsB w, 0) else
  (5, Go.Lib.indexByte [49, 50, 70, 84] ((outcS (winB w true) (winB w false)).getD 0 0), 0)
theorem outcS_one (a b : Bool) : outcS a b = [(outcS a b).getD 0 0] := by cases a <;> cases b <;> rfl
end Go.Proofs.YtejhhdpfndiliaaDoor.Ab

/- PUZZLES: which lines fit a clue. -/
namespace Go.Proofs.YtejhhdpfndiliaaDoor.Ab
open Go
set_option maxRecDepth 100000
set_option maxHeartbeats 4000000

theorem idx_cons (x : UInt8) (l : List UInt8) (b : UInt8) : Go.Lib.indexByte (x :: l) b = if x == b then 0 else if Go.Lib.indexByte l b == -1 then -1 else Go.Lib.indexByte l b + 1 := rfl
def pzI (s : List UInt8) (b : UInt8) : Int := if Go.Lib.indexByte s b = -1 then 0 else Go.Lib.indexByte s b
def valB (kd at' : Int) (w : List UInt8) : Int :=
  if kd = 0 then pzI [46, 70, 84] (w.getD at'.toNat 0) else if kd = 1 then w.count 84 else if kd = 2 then w.count 70 else if kd = 3 then (movesB w [84, 70]).length else if kd = 4 then pairsB w else
  pzI [49, 50, 70, 84] ((outcS (winB w true) (winB w false)).getD 0 0)
def fitB (c : Int × Int × Int) (w : List UInt8) : Bool := if c.1 = 0 then valB 0 c.2.1 w == c.2.2 else valB c.1 0 w == c.2.1
theorem pzI_sign {b : UInt8} (hb : isSign b = true) : pzI [46, 70, 84] b = Go.Lib.indexByte [46, 70, 84] b := by
  simp only [isSign, Bool.or_eq_true, beq_iff_eq] at hb
  rcases hb with (rfl | rfl) | rfl <;> decide
theorem pzI_out (a b : Bool) : pzI [49, 50, 70, 84] ((outcS a b).getD 0 0) = Go.Lib.indexByte [49, 50, 70, 84] ((outcS a b).getD 0 0) := by cases a <;> cases b <;> decide
theorem fit_eq {n : Int} {kd a b cell : Int} {w : List UInt8} (hs : w.all isSign = true) (hn : n = w.length) (hc : clueOk n (kd, a, b) = true) (hcell : kd = 0 → cell = a) : seqL [0, 0, 0] (encC (clueB kd cell w)) (encC (kd, a, b)) = some (fitB (kd, a, b) w) := by
  have key : ∀ x y z : Int, seqL [0, 0, 0] (encC (x, y, z)) (encC (kd, a, b)) = some ((x == kd) && ((y == a) && (z == b))) := by
    intro x y z
    simp [seqL, keyIs, keyEq]
  unfold fitB clueB valB
  by_cases k0 : kd = 0
  · subst k0
    have := hcell rfl
    subst this
    simp only [if_true]
    simp only [clueOk, if_true, Bool.and_eq_true, decide_eq_true_eq] at hc
    rw [key, pzI_sign (sign_at hs (by omega))]
    simp
  have hb : b = 0 := by
    simp only [clueOk, if_neg k0, Bool.and_eq_true, decide_eq_true_eq] at hc
    exact hc.1
  subst hb
  simp only [if_neg k0]
  by_cases k1 : kd = 1
  · subst k1; rw [if_pos rfl, if_pos rfl, key]; simp
  rw [if_neg k1, if_neg k1]
  by_cases k2 : kd = 2
  · subst k2; rw [if_pos rfl, if_pos rfl, key]; simp
  rw [if_neg k2, if_neg k2]
  by_cases k3 : kd = 3
  · subst k3; rw [if_pos rfl, if_pos rfl, key]; simp
  rw [if_neg k3, if_neg k3]
  by_cases k4 : kd = 4
  · subst k4; rw [if_pos rfl, if_pos rfl, key]; simp
  rw [if_neg k4, if_neg k4]
  have k5 : kd = 5 := by
    simp [clueOk, k0, k1, k2, k3, k4] at hc
    exact hc.1
  subst k5
  rw [key, pzI_out]
  simp
end Go.Proofs.YtejhhdpfndiliaaDoor.Ab

/- PLAIN: all lines of so many cells, in order. -/
namespace Go.Proofs.YtejhhdpfndiliaaDoor.Ab

def ext3 (w : List UInt8) : List (List UInt8) := [w ++ [46], w ++ [70], w ++ [84]]
def allL : Nat → List (List UInt8)
  | 0 => [[]]
  | n + 1 => (allL n).flatMap ext3
/-- All that go on so many cells. -/
def goOn : Nat → List UInt8 → List (List UInt8)
  | 0, w => [w]
  | n + 1, w => goOn n (w ++ [46]) ++ goOn n (w ++ [70]) ++ goOn n (w ++ [84])
theorem goOn_succ : ∀ (n : Nat) (w : List UInt8), goOn (n + 1) w = (goOn n w).flatMap ext3
  | 0, w => by simp [goOn, ext3]
  | n + 1, w => by
    rw [goOn, goOn_succ n, goOn_succ n, goOn_succ n]
    conv => rhs; rw [goOn]
    simp only [List.flatMap_append]
theorem goOn_all : ∀ n : Nat, goOn n [] = allL n
  | 0 => rfl
  | n + 1 => by rw [goOn_succ, goOn_all n]; rfl
theorem allL_good : ∀ (n : Nat) (w : List UInt8), w ∈ allL n → w.length = n ∧ w.all isSign = true
  | 0, w, h => by simp [allL] at h; subst h; exact ⟨rfl, rfl⟩
  | n + 1, w, h => by
    simp only [allL, List.mem_flatMap] at h
    obtain ⟨v, hv, h⟩ := h
    obtain ⟨h1, h2⟩ := allL_good n v hv
    simp only [ext3, List.mem_cons, List.not_mem_nil, or_false] at h
    rcases h with rfl | rfl | rfl <;> simp [h1, h2, isSign, List.all_append]
theorem allL_length : ∀ n : Nat, (allL n).length = 3 ^ n
  | 0 => rfl
  | n + 1 => by
    have key : ∀ l : List (List UInt8), (l.flatMap ext3).length = l.length * 3 := by
      intro l
      induction l with
      | nil => rfl
      | cons a l ih => rw [List.flatMap_cons, List.length_append, ih]; simp [ext3]; omega
    rw [allL, key, allL_length n, Nat.pow_succ]
end Go.Proofs.YtejhhdpfndiliaaDoor.Ab

/- A CELL that holds a slice of one's own, to which is appended through a pointer. -/
namespace Go.Proofs.YtejhhdpfndiliaaDoor.Ab
open Go
set_option maxRecDepth 100000
set_option maxHeartbeats 4000000

/-- Rows that belong to a cell: its own, and those of the slices that it holds. -/
def grc (c : Nat) (h : AH) (i : Nat) : Prop := i = c ∨ ∃ cs ver fl ro, h[c]? = some (.row cs ver fl ro) ∧ ∃ v ∈ cs, rowOf v = some i
def FrC (c : Nat) (h h' : AH) : Prop := h.length ≤ h'.length ∧ ∀ i, i < h.length → ¬ grc c h i → h'[i]? = h[i]? ∧ ¬ grc c h' i
theorem FrC.refl (c : Nat) (h : AH) : FrC c h h := ⟨Nat.le_refl _, fun _ _ hg => ⟨rfl, hg⟩⟩
theorem FrC.trans {c : Nat} {x y z : AH} (p : FrC c x y) (q : FrC c y z) : FrC c x z := ⟨Nat.le_trans p.1 q.1, fun i hi hg => by
  obtain ⟨h1, h2⟩ := p.2 i hi hg
  obtain ⟨h3, h4⟩ := q.2 i (Nat.lt_of_lt_of_le hi p.1) h2
  exact ⟨by rw [h3, h1], h4⟩⟩
theorem grc_pre {c : Nat} {h h' : AH} (hp : Pre h h') (hc : c < h.length) (i : Nat) : grc c h' i ↔ grc c h i := by
  unfold grc; rw [hp.2 c hc]
theorem Pre.frc {c : Nat} {h h' : AH} (hp : Pre h h') (hc : c < h.length) : FrC c h h' := ⟨hp.1, fun i hi hg => ⟨hp.2 i hi, by rw [grc_pre hp hc]; exact hg⟩⟩
theorem rd_frc {c : Nat} {h h' : AH} (hf : FrC c h h') {r k o n : Nat} {cs : List AV} (hg : ¬ grc c h r) (hr : rdRow h r k o n = some cs) : rdRow h' r k o n = some cs := by
  have := rd_lt hr
  unfold rdRow at hr ⊢
  rw [(hf.2 r this hg).1]; exact hr
/-- A slice that is read, and does not belong to the cell. -/
def SlcC {α : Type} (esz : Nat) (enc : α → List AV) (c : Nat) (h : AH) (v : AV) (L : List α) : Prop := Slc esz enc h v L ∧ ∀ r, rowOf v = some r → ¬ grc c h r
theorem SlcC.fr {α : Type} {esz : Nat} {enc : α → List AV} {c : Nat} {h h' : AH} {v : AV} {L : List α} (hs : SlcC esz enc c h v L) (hf : FrC c h h') : SlcC esz enc c h' v L := by
  obtain ⟨h1, h2⟩ := hs
  unfold SlcC Slc Sl at *
  cases v <;> simp only [rowOf] at * <;> first
    | (exact ⟨h1, fun r hr => by cases hr⟩)
    | (obtain ⟨k1, k2, k3, k4⟩ := h1
       exact ⟨⟨k1, k2, k3, rd_frc hf (h2 _ rfl) k4⟩, fun r hr => by cases hr; exact (hf.2 _ (rd_lt k4) (h2 _ rfl)).2⟩)
section
variable {α : Type} {esz : Nat} {enc : α → List AV}
/-- The cell r holds a slice of one's own. -/
def OutP (esz : Nat) (enc : α → List AV) (r : Nat) (b h : AH) (l : List α) : Prop := ∃ vo, h[r]? = some (.row [vo] 0 0 false) ∧ OwL esz enc b h vo l ∧ rowOf vo ≠ some r
theorem OutP.lt {r : Nat} {b h : AH} {l : List α} (ho : OutP esz enc r b h l) : r < h.length := by
  obtain ⟨vo, h1, _⟩ := ho
  exact (List.getElem?_eq_some_iff.1 h1).1
theorem OutP.pre {r : Nat} {b h h' : AH} {l : List α} (ho : OutP esz enc r b h l) (hp : Pre h h') : OutP esz enc r b h' l := by
  have := ho.lt
  obtain ⟨vo, h1, h2, h3⟩ := ho
  exact ⟨vo, by rw [hp.2 r this]; exact h1, h2.pre hp, h3⟩
theorem OutP.grc_lt {r : Nat} {b h : AH} {l : List α} (ho : OutP esz enc r b h l) {i : Nat} (hg : grc r h i) : i < h.length := by
  have hlt := ho.lt
  obtain ⟨vo, h1, h2, h3⟩ := ho
  rcases hg with rfl | ⟨cs, ver, fl, ro, h4, v, hv, h5⟩
  · exact hlt
  · rw [h1] at h4
    simp only [Option.some.injEq, AO.row.injEq] at h4
    obtain ⟨rfl, _⟩ := h4
    simp at hv
    subst hv
    exact own_lt h2 h5
theorem OutP.fresh {r : Nat} {b h h' : AH} {l : List α} (ho : OutP esz enc r b h l) (hp : Pre h h') {i : Nat} (hi : h.length ≤ i) : ¬ grc r h' i := by
  rw [grc_pre hp ho.lt]
  intro hg
  have := ho.grc_lt hg
  omega
theorem OutP.rd {r : Nat} {b h : AH} {l : List α} (ho : OutP esz enc r b h l) : ∃ vo, rdRow h r 0 0 1 = some [vo] ∧ OwL esz enc b h vo l := by
  obtain ⟨vo, h1, h2, _⟩ := ho
  exact ⟨vo, by simp [rdRow, h1], h2⟩
theorem OutP.push (hl : ∀ x, (enc x).length = esz) (hsc : ∀ x, (enc x).all AV.sc = true) {r : Nat} {b h : AH} {l : List α} (ho : OutP esz enc r b h l) (hb : b.length ≤ h.length) (x : α) (hr : l.length + 1 ≤ 1099511627776) :
    ∃ vo v' h3, rdRow h r 0 0 1 = some [vo] ∧ rdRow (h ++ [AO.row (enc x) 0 0 false]) h.length 0 0 esz = some (enc x) ∧ apRow (h ++ [AO.row (enc x) 0 0 false]) esz vo 1 (enc x) = some (v', h3) ∧ v'.cells = [v'] ∧ v'.sc = true ∧
      wrRow h3 r 0 0 [v'] = some (h3.set r (.row [v'] 0 0 false)) ∧ OutP esz enc r b (h3.set r (.row [v'] 0 0 false)) (l ++ [x]) ∧ FrC r h (h3.set r (.row [v'] 0 0 false)) := by
  have hlt := ho.lt
  obtain ⟨vo, h1, h2, h3⟩ := ho
  have hpush := Pre.push h (AO.row (enc x) 0 0 false)
  obtain ⟨v', g, ha, ho', hag⟩ := apA hl hsc (h2.pre hpush) (by simp; omega) x hr
  obtain ⟨f1, f2, f3⟩ := apRow_fr ha
  have hll : (h ++ [AO.row (enc x) 0 0 false]).length = h.length + 1 := by simp
  have hrg : g[r]? = some (.row [vo] 0 0 false) := by rw [f1 r (by omega) h3, hpush.2 r hlt, h1]
  have hlg : r < g.length := by omega
  have n1 : rowOf v' ≠ some r := fun e => by
    rcases f3 r e with h4 | h4
    · exact h3 h4
    · omega
  have hrx : rdRow (h ++ [AO.row (enc x) 0 0 false]) h.length 0 0 esz = some (enc x) := by
    rw [rd_last, if_pos (by rw [hl]; omega), List.drop_zero, List.take_of_length_le (by rw [hl]; exact Nat.le_refl _)]
  refine ⟨vo, v', g, by simp [rdRow, h1], hrx, ha, ho'.cells, ho'.sc1, ?_, ?_, ?_⟩
  · simp [wrRow, hrg, splice, ho'.sc1]
  · refine ⟨v', by rw [List.getElem?_set, if_pos rfl, if_pos hlg], own_row ho' fun i hi => ?_, n1⟩
    rw [List.getElem?_set, if_neg (by rintro rfl; exact n1 hi)]
  · refine ⟨by simp; omega, fun i hi hg => ?_⟩
    have g1 : i ≠ r := fun e => hg (.inl e)
    have g2 : rowOf vo ≠ some i := fun e => hg (.inr ⟨_, _, _, _, h1, vo, by simp, e⟩)
    refine ⟨by rw [List.getElem?_set, if_neg (Ne.symm g1), f1 i (by omega) g2, hpush.2 i hi], ?_⟩
    rintro (e | ⟨cs, ver, fl, ro, e1, v, hv, e2⟩)
    · exact g1 e
    · rw [List.getElem?_set, if_pos rfl, if_pos hlg] at e1
      simp only [Option.some.injEq, AO.row.injEq] at e1
      obtain ⟨rfl, _⟩ := e1
      simp at hv
      subst hv
      rcases f3 i e2 with h4 | h4
      · exact g2 h4
      · omega
theorem OwL.slcC {esz' : Nat} {β : Type} {enc' : β → List AV} {r : Nat} {b h h' : AH} {l : List α} {v : AV} {L : List β} (ho : OwL esz' enc' h h' v L) (hk : OutP esz enc r b h l) (hp : Pre h h') : SlcC esz' enc' r h' v L :=
  ⟨ho.slc, fun _ hr => hk.fresh hp (own_ge ho hr)⟩
end
end Go.Proofs.YtejhhdpfndiliaaDoor.Ab

/- PUZZLES: all lines, and those that fit. -/
namespace Go.Proofs.YtejhhdpfndiliaaDoor.Ab
open Go
set_option maxRecDepth 100000
set_option maxHeartbeats 4000000

theorem dec3 (i : Nat) (h : i < 3) : dec [46, 70, 84] i = (((([46, 70, 84] : List UInt8).getD i 0).toNat : Int), 1) := dec_low h (by
  have : ∀ i, i < 3 → (([46, 70, 84] : List UInt8).getD i 0).toNat < 128 := by decide
  exact this i h)
theorem enc3 : ∀ b : UInt8, b = 46 ∨ b = 70 ∨ b = 84 → (Utf8.encode (b.toNat : Int)).data.toList = [b] := by
  rintro b (rfl | rfl | rfl) <;> decide +kernel
theorem own_ne_iter {esz : Nat} {b h : AH} {v : AV} {n : Nat} {cs : List AV} (ho : Own esz b h v n cs) {c : Nat} {s : List UInt8} {p : Nat} (hc : h[c]? = some (.iter s p)) : rowOf v ≠ some c := by
  unfold Own at ho
  intro hr
  cases v <;> simp only [rowOf] at ho hr <;> first
    | (cases hr; done)
    | (cases hr
       obtain ⟨_, _, _, _, cells, fl, h5, _⟩ := ho
       rw [hc] at h5; cases h5)
abbrev Clu := Int × Int × Int
/-- All lines that fit. -/
def fitL (n : Nat) (cs : List Clu) : List (List UInt8) := (allL n).filter fun w => cs.all fun c => fitB c w
theorem goOn_length : ∀ (d : Nat) (w : List UInt8), (goOn d w).length = 3 ^ d
  | 0, _ => rfl
  | d + 1, w => by simp only [goOn, List.length_append, goOn_length d]; rw [Nat.pow_succ]; omega
abbrev S3 : List (List UInt8) := [[46], [70], [84]]
end Go.Proofs.YtejhhdpfndiliaaDoor.Ab

/- PUZZLES: which there are, their solutions; the law's helpers. -/
namespace Go.Proofs.YtejhhdpfndiliaaDoor.Ab
open Go
set_option maxRecDepth 100000
set_option maxHeartbeats 4000000

def goodP (n : Int) (cs : List Clu) : Bool := decide (1 ≤ n ∧ n ≤ 5) && (decide (cs.length ≤ 6) && cs.all fun c => clueOk n c)
theorem goodP_iff {n : Int} {cs : List Clu} (h : goodP n cs = true) : ∃ m : Nat, n = m ∧ 1 ≤ m ∧ m ≤ 5 ∧ cs.length ≤ 6 ∧ ∀ c ∈ cs, clueOk n c = true := by
  simp only [goodP, Bool.and_eq_true, decide_eq_true_eq, List.all_eq_true] at h
  obtain ⟨⟨h1, h2⟩, h3, h4⟩ := h
  exact ⟨n.toNat, by omega, by omega, by omega, h3, h4⟩
abbrev pzV (n : Int) (v : AV) : AV := .agg [.int .i64 n, v]
theorem sl_cells {α : Type} {esz : Nat} {enc : α → List AV} {h : AH} {v : AV} {L : List α} (hs : Slc esz enc h v L) : v.cells = [v] ∧ v.sc = true := by
  unfold Slc Sl at hs
  cases v <;> simp only at hs <;> first
    | exact ⟨rfl, rfl⟩
    | (exact hs.elim)
def solN (n : Int) (cs : List Clu) : List (List UInt8) := fitL n.toNat cs
def countP (n : Int) (cs : List Clu) : Int := if goodP n cs then (solN n cs).length else 0
theorem rep_flat (n : Nat) : (List.replicate n [AV.int .i64 0, AV.int .i64 0, AV.int .i64 0]).flatten = (List.replicate n ((0, 0, 0) : Clu)).flatMap encC := by
  induction n with
  | zero => rfl
  | succ n ih => rw [List.replicate_succ, List.replicate_succ, List.flatten_cons, List.flatMap_cons, ih]
theorem beq_cc {α : Type} [BEq α] (x y : α) (l l' : List α) : (x :: l == y :: l') = (x == y && l == l') := rfl
end Go.Proofs.YtejhhdpfndiliaaDoor.Ab

/- PUZZLES: the first solution, whether one alone is left; their laws. -/
namespace Go.Proofs.YtejhhdpfndiliaaDoor.Ab
open Go
set_option maxRecDepth 100000
set_option maxHeartbeats 4000000

def solP (n : Int) (cs : List Clu) : List (List UInt8) := if goodP n cs then solN n cs else []

end Go.Proofs.YtejhhdpfndiliaaDoor.Ab

/- MARKS: what the laws' helpers write into a slice and find there again; slices of numbers compared. -/
namespace Go.Proofs.YtejhhdpfndiliaaDoor.Ab
open Go
set_option maxRecDepth 100000
set_option maxHeartbeats 4000000

theorem splice_in {X vs : List AV} {o : Nat} (h : o + vs.length ≤ X.length) (A Z : List AV) {n : Nat} (hn : n = A.length + o) : splice (A ++ (X ++ Z)) n vs = A ++ (splice X o vs ++ Z) := by
  subst hn
  unfold splice
  rw [List.take_append, List.take_of_length_le (by omega), show A.length + o - A.length = o by omega, List.take_append_of_le_length (by omega),
    List.drop_append, List.drop_of_length_le (by omega), show A.length + o + vs.length - A.length = o + vs.length by omega, List.drop_append_of_le_length (by omega)]
  simp
theorem OwW.store {α : Type} {esz : Nat} {enc : α → List AV} (hl : ∀ x, (enc x).length = esz) {b h : AH} {v : AV} {pre : List α} {x : α} {rest : List α} (ho : OwW esz enc b h v (pre ++ x :: rest)) (y : α) (o : Nat) (vs : List AV) (hvs : o + vs.length ≤ esz) (hsc : vs.all AV.sc = true) (hy : splice (enc x) o vs = enc y) :
    ∃ c kk off h', v = .slice c kk off (pre ++ x :: rest).length esz ∧ wrRow h c kk (off + pre.length * esz + o) vs = some h' ∧ OwW esz enc b h' v (pre ++ y :: rest) ∧ PreV v h h' := by
  unfold OwW at ho
  cases v <;> simp only at ho <;> first
    | (exact ho.elim)
    | (simp at ho; done)
    | skip
  rename_i c kk off len e
  obtain ⟨rfl, rfl, h3, A, Z, fl, h4, h5, h6⟩ := ho
  have hlt := (List.getElem?_eq_some_iff.1 h4).1
  have hpl := flat_len hl pre
  have hrow : A ++ (pre ++ x :: rest).flatMap enc ++ Z = (A ++ pre.flatMap enc) ++ (enc x ++ (rest.flatMap enc ++ Z)) := by simp
  have hsp := splice_in (X := enc x) (vs := vs) (o := o) (by rw [hl]; exact hvs) (A ++ pre.flatMap enc) (rest.flatMap enc ++ Z) (n := off + pre.length * e + o) (by rw [List.length_append, hpl, h6])
  rw [hrow] at h4
  refine ⟨c, kk, off, h.set c (.row (splice ((A ++ pre.flatMap enc) ++ (enc x ++ (rest.flatMap enc ++ Z))) (off + pre.length * e + o) vs) kk kk false), rfl, ?_, ?_, ?_⟩
  · unfold wrRow
    rw [h4]
    simp only
    rw [if_pos ⟨trivial, h5, by simp only [List.length_append, hpl, hl, h6]; omega, hsc⟩]
  · unfold OwW
    simp only
    refine ⟨trivial, by simp, h3, A, Z, kk, ?_, Nat.le_refl _, h6⟩
    rw [List.getElem?_set, if_pos rfl, if_pos hlt, hsp, hy]
    simp
  · exact ⟨by simp, fun i _ hc => by rw [List.getElem?_set, if_neg (hc c kk off _ e rfl ·.symm)]⟩
theorem PreV.trans {v : AV} {a b c : AH} (x : PreV v a b) (y : PreV v b c) : PreV v a c := ⟨Nat.le_trans x.1 y.1, fun i hi hc => by rw [y.2 i (Nat.lt_of_lt_of_le hi x.1) hc, x.2 i hi hc]⟩
theorem PreV.refl (v : AV) (a : AH) : PreV v a a := ⟨Nat.le_refl _, fun _ _ _ => rfl⟩

def cntL : Int → Nat → List Int
  | _, 0 => []
  | q, n + 1 => q :: cntL (q + 1) n
theorem cntL_len : ∀ (n : Nat) (q : Int), (cntL q n).length = n
  | 0, _ => rfl
  | n + 1, q => by simp [cntL, cntL_len n]
def cntC : Int → Nat → List Clu
  | _, 0 => []
  | q, n + 1 => (q, q + 1, q + 2) :: cntC (q + 3) n
theorem cntC_len : ∀ (n : Nat) (q : Int), (cntC q n).length = n
  | 0, _ => rfl
  | n + 1, q => by simp [cntC, cntC_len n]
theorem PreV.keep {α : Type} {esz : Nat} {enc : α → List AV} {a b h h' : AH} {v : AV} {L : List α} (hp : PreV v h h') (ho : OwW esz enc b h v L) (ha : Pre a h) (hab : a.length ≤ b.length) : Pre a h' :=
  ⟨Nat.le_trans ha.1 hp.1, fun i hi => by
    rw [hp.2 i (Nat.lt_of_lt_of_le hi ha.1) (fun c kk off n e hv => by
      subst hv
      unfold OwW at ho
      have := ho.2.2.1
      omega), ha.2 i hi]⟩
theorem Slc.row_lt {α : Type} {esz : Nat} {enc : α → List AV} {h : AH} {v : AV} {L : List α} (hs : Slc esz enc h v L) : ∀ c kk off n e, v = .slice c kk off n e → c < h.length := by
  rintro c kk off n e rfl
  exact rd_lt hs.all.2.2
theorem OwW.keep {α : Type} {esz : Nat} {enc : α → List AV} {b h h' : AH} {v u : AV} {L : List α} (ho : OwW esz enc b h v L) (hp : PreV u h h') (hu : ∀ c kk off n e, u = .slice c kk off n e → c < b.length) : OwW esz enc b h' v L := by
  unfold OwW at ho ⊢
  cases v <;> simp only at ho ⊢ <;> first
    | exact ho
    | (obtain ⟨h1, h2, h3, A, Z, fl, h4, h5⟩ := ho
       exact ⟨h1, h2, h3, A, Z, fl, by rw [hp.2 _ (List.getElem?_eq_some_iff.1 h4).1 (fun c kk off n e hv => by have := hu c kk off n e hv; omega)]; exact h4, h5⟩)
end Go.Proofs.YtejhhdpfndiliaaDoor.Ab

/- PUZZLES: the cells that all solutions share; the law of SureCells. -/
namespace Go.Proofs.YtejhhdpfndiliaaDoor.Ab
open Go
set_option maxRecDepth 100000
set_option maxHeartbeats 4000000

abbrev encU (b : UInt8) : List AV := [.int .u8 b.toNat]
theorem hlU (s : UInt8) : (encU s).length = 1 := rfl
theorem flatU : ∀ s : List UInt8, s.flatMap encU = s.map fun b => AV.int .u8 b.toNat
  | [] => rfl
  | b :: s => by rw [List.flatMap_cons, flatU s]; rfl
def mg (c x : UInt8) : UInt8 := if x == c then c else 63
def mgL (cur w : List UInt8) : List UInt8 := List.zipWith mg cur w
theorem mgL_len (cur w : List UInt8) (h : w.length = cur.length) : (mgL cur w).length = cur.length := by unfold mgL; rw [List.length_zipWith, h]; omega
def sg (L : List (List UInt8)) (hd : List UInt8) (i : Nat) : List UInt8 := if L.all (fun w => (w.drop i).take 1 == (hd.drop i).take 1) then (hd.drop i).take 1 else [63]
def acc (L : List (List UInt8)) (hd : List UInt8) (i : Nat) : List UInt8 := (List.range i).flatMap (sg L hd)
theorem sg_len (L : List (List UInt8)) (hd : List UInt8) (i : Nat) : (sg L hd i).length ≤ 1 := by unfold sg; split <;> simp; omega
theorem acc_succ (L : List (List UInt8)) (hd : List UInt8) (i : Nat) : acc L hd (i + 1) = acc L hd i ++ sg L hd i := by unfold acc; rw [List.range_succ, List.flatMap_append]; simp
theorem acc_len (L : List (List UInt8)) (hd : List UInt8) : ∀ i, (acc L hd i).length ≤ i
  | 0 => by simp [acc]
  | i + 1 => by have := acc_len L hd i; have := sg_len L hd i; rw [acc_succ, List.length_append]; omega
theorem tk1 (w : List UInt8) (i : Nat) (h : i < w.length) : (w.drop i).take 1 = [w.getD i 0] := by
  rw [List.drop_eq_getElem_cons h, List.take_succ_cons, List.take_zero]
  simp [List.getD, h]
theorem mgL_at (cur w : List UInt8) (i : Nat) (h : i < cur.length) (hw : w.length = cur.length) : (mgL cur w).getD i 0 = mg (cur.getD i 0) (w.getD i 0) := by
  have h2 : i < w.length := by omega
  have h3 : i < (List.zipWith mg cur w).length := by simp; omega
  unfold mgL
  simp only [List.getD, List.getElem?_eq_getElem h, List.getElem?_eq_getElem h2, List.getElem?_eq_getElem h3, Option.getD_some, List.getElem_zipWith]
theorem fold_at (n : Nat) : ∀ (L : List (List UInt8)) (cur : List UInt8), cur.length = n → (∀ w ∈ L, w.length = n) →
    L.foldl mgL cur = (List.range n).map fun i => if L.all (fun w => w.getD i 0 == cur.getD i 0) then cur.getD i 0 else 63
  | [], cur, hc, _ => by
    simp only [List.foldl_nil, List.all_nil, if_true]
    apply List.ext_getElem
    · simp [hc]
    · intro i h1 h2
      simp [List.getD, h1]
  | w :: L, cur, hc, hw => by
    have hwl := hw w (by simp)
    rw [List.foldl_cons, fold_at n L (mgL cur w) (by rw [mgL_len _ _ (by omega), hc]) (fun x hx => hw x (by simp [hx]))]
    apply List.map_congr_left
    intro i hi
    have hi := List.mem_range.1 hi
    rw [mgL_at cur w i (by omega) (by omega)]
    simp only [List.all_cons]
    unfold mg
    by_cases e : (w.getD i 0 == cur.getD i 0) = true
    · simp only [e, if_true, Bool.true_and]
    · rw [Bool.not_eq_true] at e
      simp only [e, Bool.false_and, Bool.false_eq_true, if_false]
      split <;> rfl
theorem acc_eq (n : Nat) (L : List (List UInt8)) (hd : List UInt8) (hn : hd.length = n) (hw : ∀ w ∈ L, w.length = n) : acc L hd n = L.foldl mgL hd := by
  rw [fold_at n L hd hn hw]
  unfold acc
  rw [List.map_eq_flatMap]
  have : ∀ (R : List Nat), (∀ i ∈ R, i < n) → R.flatMap (sg L hd) = R.flatMap fun i => [if L.all (fun w => w.getD i 0 == hd.getD i 0) then hd.getD i 0 else 63] := by
    intro R hR
    induction R with
    | nil => rfl
    | cons i R ih =>
      rw [List.flatMap_cons, List.flatMap_cons, ih fun j hj => hR j (by simp [hj])]
      congr 1
      have hi := hR i (by simp)
      unfold sg
      rw [tk1 hd i (by omega)]
      have hall : (L.all fun w => (w.drop i).take 1 == [hd.getD i 0]) = L.all fun w => w.getD i 0 == hd.getD i 0 := by
        rw [Bool.eq_iff_iff, List.all_eq_true, List.all_eq_true]
        constructor
        · intro h x hx
          have := h x hx
          rw [tk1 x i (by rw [hw x hx]; exact hi)] at this
          simpa using this
        · intro h x hx
          have := h x hx
          rw [tk1 x i (by rw [hw x hx]; exact hi)]
          simpa using this
      rw [hall]
      split <;> rfl
  exact this _ fun i hi => List.mem_range.1 hi

/-! ### The program's -/
def sureP (n : Int) (cs : List Clu) : List UInt8 := (solP n cs).foldl mgL ((solP n cs).headD [])
theorem solP_word (n : Int) (cs : List Clu) : ∀ w ∈ solP n cs, w.length = n.toNat ∧ n.toNat ≤ 5 := by
  unfold solP
  intro w hw
  cases e : goodP n cs
  · rw [e] at hw; simp at hw
  · obtain ⟨m, rfl, m1, m5, _⟩ := goodP_iff e
    rw [e] at hw
    exact ⟨(allL_good m w (List.mem_filter.1 hw).1).1, m5⟩
theorem solP_len (n : Int) (cs : List Clu) : (solP n cs).length ≤ 243 := by
  unfold solP
  cases e : goodP n cs
  · simp
  · obtain ⟨m, rfl, m1, m5, _⟩ := goodP_iff e
    have h1 := List.length_filter_le (fun w => cs.all fun c => fitB c w) (allL m)
    have h2 := allL_length m
    have h3 : 3 ^ m ≤ 3 ^ 5 := Nat.pow_le_pow_right (by omega) m5
    have h4 : (solN (m : Int) cs).length ≤ (allL m).length := h1
    simp only [if_true]
    omega
theorem ownU {h : AH} (s : List UInt8) : OwW 1 encU h (h ++ [AO.row (s.map fun b => AV.int .u8 b.toNat) 0 0 false]) (.slice h.length 0 0 s.length 1) s := by
  unfold OwW
  simp only
  refine ⟨trivial, trivial, Nat.le_refl _, [], [], 0, ?_, Nat.le_refl _, rfl⟩
  rw [List.getElem?_append_right (Nat.le_refl _), flatU]
  simp
end Go.Proofs.YtejhhdpfndiliaaDoor.Ab

/- ARGUMENTS: slices of bytes, one behind the other; they may share a row. -/
namespace Go.Proofs.YtejhhdpfndiliaaDoor.Ab
open Go Go.RowKit Go.ChangeShapes Go.WideShapes Go.Deep Go.Joins
set_option maxRecDepth 100000

/-- One more row that is read alone. -/
theorem rel_more {F : Nat → Nat} {W : World} {m : Emb} {h : AH} (hr : RelH F W.heap.size m h W) {p : Place} {cs : List AV} {C : Array Value} {e : TypeId} {fr : Nat × Nat} (hb : W.heap[p.blk]? = some (.cells C e fr)) (hs : C.size = p.siz) (hlo : p.lo = 0) (hext : p.ext = cs.length) (hle : p.base + p.ext ≤ p.siz)
    (hv : ∀ j x, cs[j]? = some x → ∃ v, C[p.base + j]? = some v ∧ RelV F m x v) : m.le (m.addRow h.length 0 p) ∧ RelH F W.heap.size (m.addRow h.length 0 p) (h ++ [.row cs 0 0 true]) W := by
  have hlt : p.blk < W.heap.size := (Array.getElem?_eq_some_iff.1 hb).1
  have hnone : ∀ k, m.row h.length k = none := by
    intro k
    cases hk : m.row h.length k with
    | none => rfl
    | some p => obtain ⟨o, ho, _⟩ := hr.rowc _ _ _ hk; simp at ho
  have hm : m.le (m.addRow h.length 0 p) := Emb.le_addRow (hnone 0)
  have hobj : ∀ c b, m.obj c = some b → W.heap.size ≤ b := by
    intro c b hb
    obtain ⟨o, ho, hi⟩ := hr.objc c b hb
    have := hr.ob c o ho
    cases o with
    | row cs ver fl ro => cases hi
    | map es => exact (this b hb).1
    | iter s pos => exact (this b hb).1
    | mit cm since seen => exact (this b hb).1
  refine ⟨hm, ?_, ?_, ?_, ?_, hr.injo, ?_, ?_, hr.lto, ?_, Nat.le_refl _⟩
  · intro c k q hq
    rcases Emb.addRow_inv hq with ⟨rfl, _, _⟩ | hq
    · exact ⟨.row cs 0 0 true, by simp, rfl⟩
    · obtain ⟨o, ho, hi⟩ := hr.rowc c k q hq
      exact ⟨o, by rw [List.getElem?_append_left (by have := List.getElem?_eq_some_iff.1 ho; exact this.1)]; exact ho, hi⟩
  · intro c b hb
    obtain ⟨o, ho, hi⟩ := hr.objc c b hb
    exact ⟨o, by rw [List.getElem?_append_left (by have := List.getElem?_eq_some_iff.1 ho; exact this.1)]; exact ho, hi⟩
  · intro c o hc
    by_cases hlt' : c < h.length
    · rw [List.getElem?_append_left hlt'] at hc
      refine ObjRel.keep (hr.ob c o hc) hm ?_ (fun b hb => hb) (fun _ _ _ => rfl) (fun _ _ => rfl)
      intro k q hq
      rcases Emb.addRow_inv hq with ⟨rfl, _, _⟩ | hq
      · omega
      · exact hq
    · rw [List.getElem?_append_right (by omega)] at hc
      have hce : c = h.length := by
        by_cases he : c = h.length
        · exact he
        · rw [List.getElem?_eq_none (by simp; omega)] at hc; cases hc
      subst hce
      simp only [Nat.sub_self, List.getElem?_cons_zero, Option.some.injEq] at hc
      subst hc
      intro k q hq hk
      rcases Emb.addRow_inv hq with ⟨_, rfl, rfl⟩ | hq
      · refine ⟨Nat.le_refl _, by omega, fun _ => hext, (fun h => by cases h), C, e, fr, hb, hs, by omega, (fun h => by cases h), ?_⟩
        intro j h1 h2
        have hj : j < cs.length := by omega
        obtain ⟨v, h3, h4⟩ := hv j cs[j] (by simp)
        exact ⟨cs[j], v, by simp, by rw [hlo]; simpa using h3, RelV.mono hm _ _ h4⟩
      · rw [hnone k] at hq; cases hq
  · intro c k q c' k' q' hq hq' hb he
    rcases Emb.addRow_inv hq with ⟨rfl, rfl, rfl⟩ | hq
    · omega
    · rcases Emb.addRow_inv hq' with ⟨rfl, rfl, rfl⟩ | hq'
      · omega
      · exact hr.inj c k q c' k' q' hq hq' hb he
  · intro c k q c' b hq hb' e
    rcases Emb.addRow_inv hq with ⟨rfl, rfl, rfl⟩ | hq
    · have := hobj c' b hb'; omega
    · exact hr.injr c k q c' b hq hb' e
  · intro c k q hq
    rcases Emb.addRow_inv hq with ⟨rfl, rfl, rfl⟩ | hq
    · exact hlt
    · exact hr.ltr c k q hq
  · intro c cs' ver fl ro k q hc hq
    rcases Emb.addRow_inv hq with ⟨_, rfl, _⟩ | hq
    · omega
    · obtain ⟨o, ho, _⟩ := hr.rowc c k q hq
      have hlt' := (List.getElem?_eq_some_iff.1 ho).1
      rw [List.getElem?_append_left hlt'] at hc
      exact hr.vers c cs' ver fl ro k q hc hq

section
variable {H : Type} {enc : TypeId × Value → H} {P : Program}
theorem open_u8 {W : World} {b0 fuel : Nat} {sp : Nat → Bool} {hd : Bool} {t : TypeId} (ht : P.underlying t = some (.int .u8)) {cs : List Value} {y : DataW H × List MemPlace} (h : DataW.trod enc P W b0 sp hd fuel t cs = some y) : ∃ b : UInt8, cs = [.int .u8 b.toNat] := by
  obtain ⟨n, h1, _, hw⟩ := DataW.trod_int ht h
  have hr : 0 ≤ n ∧ n < 256 := by
    have h2 : IntKind.u8.min ≤ n ∧ n ≤ IntKind.u8.max := by simpa [Lit.wf] using hw
    have h3 : IntKind.u8.min = 0 := rfl
    have h4 : IntKind.u8.max = 255 := rfl
    omega
  refine ⟨UInt8.ofNat n.toNat, ?_⟩
  rw [h1]
  have : (UInt8.ofNat n.toNat).toNat = n.toNat := by
    rw [UInt8.toNat_ofNat']; omega
  rw [this, Int.toNat_of_nonneg hr.1]
/-- A slice of bytes, behind what has been opened. -/
theorem open_bytes0 {F : Nat → Nat} {W : World} {m0 : Emb} {g0 : AH} (hrel : RelH F W.heap.size m0 g0 W) {fuel : Nat} {t e : TypeId} (ht : P.underlying t = some (.slice e)) (he : P.underlying e = some (.int .u8)) (hC : P.cellsOf e = 1)
    {v : Value} {x : DataW H × List MemPlace} (h : DataW.trod enc P W 0 (fun _ => true) true fuel t [v] = some x) :
    ∃ (cs : List UInt8) (m : Emb) (g : AH) (a : AV), m0.le m ∧ Pre g0 g ∧ Slc 1 encU g a cs ∧ RelV F m a v ∧ RelH F W.heap.size m g W := by
  rcases open_slice ht h with ⟨hv, _⟩ | ⟨a, len, cap, m, n, D, Pl, hv, hb, hl, hmax, hm, hx, hi⟩
  · simp at hv
    subst hv
    exact ⟨[], m0, g0, .nilS, Emb.le_refl _, Pre.refl _, Slc.nil, by simp only [RelV], hrel⟩
  · simp at hv
    subst hv
    simp only [if_true] at hm
    subst hm
    rw [hC] at hi
    have hcell : ∀ i, i < m → ∃ b : UInt8, W.cell? (a.add (i * 1)) = some (.int .u8 b.toNat) := by
      intro i him
      obtain ⟨cs', hc, ht'⟩ := hi i him
      obtain ⟨_, hcl, hat⟩ := World.cells?_some hc
      obtain ⟨b, rfl⟩ := open_u8 he ht'
      exact ⟨b, by simpa [Addr.add] using hat 0 (by omega)⟩
    by_cases hz : m = 0
    · subst hz
      obtain rfl : len = 0 := by omega
      exact ⟨[], m0, g0, .empS, Emb.le_refl _, Pre.refl _, Slc.emp, by simp only [RelV]; exact ⟨a, rfl⟩, hrel⟩
    · obtain ⟨c0, q0⟩ := hcell 0 (by omega)
      have hspot : a.spot = none := by
        unfold World.cell? at q0
        split at q0
        · split at q0
          · cases q0
          · rename_i hs; simpa [Addr.add] using hs
        · cases q0
      obtain ⟨blk, off, spot⟩ := a
      simp only at hspot
      subst hspot
      obtain ⟨C, ee, fr, hblk⟩ : ∃ C ee fr, W.heap[blk]? = some (.cells C ee fr) := by
        unfold World.cell? at q0
        split at q0
        · rename_i C ee fr hh; exact ⟨C, ee, fr, hh⟩
        · cases q0
      have hC' : ∀ i, i < m → ∃ b : UInt8, C[off + i]? = some (.int .u8 b.toNat) := by
        intro i him
        obtain ⟨b, e1⟩ := hcell i him
        rw [cell_atA hblk, Nat.mul_one] at e1
        exact ⟨b, e1⟩
      have hsize : off + m ≤ C.size := by
        obtain ⟨c, e3⟩ := hC' (m - 1) (by omega)
        have := (Array.getElem?_eq_some_iff.1 e3).1
        omega
      have hel : ∀ l, l ≤ m → ∃ cs : List UInt8, cs.length = l ∧ ∀ j x, (cs.flatMap encU)[j]? = some x → ∃ v, C[off + j]? = some v ∧ ∀ F m', RelV F m' x v := by
        intro l
        induction l with
        | zero => intro _; exact ⟨[], rfl, fun j x hx => by simp at hx⟩
        | succ l ih =>
          intro hlm
          obtain ⟨cs, hcs, hh⟩ := ih (by omega)
          obtain ⟨c, e1⟩ := hC' l (by omega)
          refine ⟨cs ++ [c], by simp [hcs], ?_⟩
          intro j x hx
          have hfl : (cs.flatMap encU).length = l * 1 := by rw [flat_len hlU, hcs]
          rw [List.flatMap_append] at hx
          by_cases hj : j < l
          · rw [List.getElem?_append_left (by omega)] at hx
            exact hh j x hx
          · rw [List.getElem?_append_right (by omega), hfl] at hx
            simp only [List.flatMap_cons, List.flatMap_nil, List.append_nil, encU] at hx
            have hj3 : j - l * 1 = 0 := by
              have := (List.getElem?_eq_some_iff.1 hx).1
              simp at this
              omega
            rw [hj3] at hx
            simp at hx
            subst hx
            exact ⟨_, (by rw [show off + j = off + l by omega]; exact e1), fun F m' => by simp only [RelV]⟩
      obtain ⟨cs, hcs, hh⟩ := hel len hl
      have hfl : (cs.flatMap encU).length = len * 1 := by rw [flat_len hlU, hcs]
      obtain ⟨hle, hr'⟩ := rel_more hrel (p := ⟨blk, off, 0, len * 1, C.size⟩) (cs := cs.flatMap encU) (C := C) hblk rfl rfl hfl.symm (by simp only; omega) (fun j x hx => by
        obtain ⟨v, h3, h4⟩ := hh j x hx
        exact ⟨v, h3, h4 _ _⟩)
      refine ⟨cs, _, g0 ++ [.row (cs.flatMap encU) 0 0 true], .slice g0.length 0 0 len 1, hle, Pre.push _ _, ?_, ?_, hr'⟩
      · unfold Slc Sl
        refine ⟨rfl, hcs.symm, by rw [hfl, hcs], ?_⟩
        exact rdRow_push g0 _ true (by rw [hfl, hcs])
      · simp only [RelV]
        exact ⟨⟨blk, off, 0, len * 1, C.size⟩, off, m, Emb.addRow_at _ _ _ _, rfl, hl, .inr ⟨Nat.le_refl _, by simp, by simp, by simp; omega⟩⟩
theorem open_bytes {F : Nat → Nat} {W : World} {m0 : Emb} {g0 : AH} (hrel : RelH F W.heap.size m0 g0 W) {base : Nat} {t e : TypeId} (ht : P.underlying t = some (.slice e)) (he : P.underlying e = some (.int .u8)) (hC : P.cellsOf e = 1)
    {v : Value} {d : DataW H} {p : List MemPlace} (hval : Value.okWide P W .any base t v) (h : DataW.Trod enc P W 0 (fun _ => true) true t v d p) :
    ∃ (cs : List UInt8) (m : Emb) (g : AH) (a : AV), m0.le m ∧ Pre g0 g ∧ Slc 1 encU g a cs ∧ RelV F m a v ∧ RelH F W.heap.size m g W := by
  obtain ⟨fuel, h⟩ := h
  obtain ⟨a, len, cap, rfl⟩ := okWide_slice ht hval
  exact open_bytes0 hrel ht he hC h
end
end Go.Proofs.YtejhhdpfndiliaaDoor.Ab

/- PLAIN: a sum of two lines as one text with a blank between them: who wins is the same. -/
namespace Go.Proofs.YtejhhdpfndiliaaDoor.Ab
set_option maxHeartbeats 1000000

theorem gJ1 {w v : List UInt8} {x : Nat} (h : x < w.length) : (w ++ 32 :: v).getD x 0 = w.getD x 0 := by
  simp [List.getD, List.getElem?_append_left h]
theorem gJ2 {w v : List UInt8} : (w ++ 32 :: v).getD w.length 0 = 32 := by simp [List.getD]
theorem gJ3 {w v : List UInt8} (j : Nat) : (w ++ 32 :: v).getD (w.length + 1 + j) 0 = v.getD j 0 := by
  simp only [List.getD]
  rw [List.getElem?_append_right (by omega), show w.length + 1 + j - w.length = j + 1 by omega, List.getElem?_cons_succ]
theorem jL (w v : List UInt8) : (w ++ 32 :: v).length = w.length + 1 + v.length := by simp; omega
theorem mv_l {w v : List UInt8} {i t : Nat} (h : Mv w i t) : Mv (w ++ 32 :: v) i t := by
  obtain ⟨h1, h2, h3, h4⟩ := h
  refine ⟨by rw [jL]; omega, by rw [jL]; omega, by rw [gJ1 h2]; exact h3, ?_⟩
  rw [gJ1 h1]
  rcases h4 with ⟨e, h4 | ⟨h4, h5⟩⟩ | ⟨e, h4 | ⟨h4, h5⟩⟩
  · exact .inl ⟨e, .inl h4⟩
  · exact .inl ⟨e, .inr ⟨h4, by rw [gJ1 (by omega)]; exact h5⟩⟩
  · exact .inr ⟨e, .inl h4⟩
  · exact .inr ⟨e, .inr ⟨h4, by rw [gJ1 (by omega)]; exact h5⟩⟩
theorem mv_r {w v : List UInt8} {i t : Nat} (h : Mv v i t) : Mv (w ++ 32 :: v) (w.length + 1 + i) (w.length + 1 + t) := by
  obtain ⟨h1, h2, h3, h4⟩ := h
  refine ⟨by rw [jL]; omega, by rw [jL]; omega, by rw [gJ3]; exact h3, ?_⟩
  rw [gJ3]
  rcases h4 with ⟨e, h4 | ⟨h4, h5⟩⟩ | ⟨e, h4 | ⟨h4, h5⟩⟩
  · exact .inl ⟨e, .inl (by omega)⟩
  · exact .inl ⟨e, .inr ⟨by omega, by rw [show w.length + 1 + i + 1 = w.length + 1 + (i + 1) by omega, gJ3]; exact h5⟩⟩
  · exact .inr ⟨e, .inl (by omega)⟩
  · exact .inr ⟨e, .inr ⟨by omega, by rw [show w.length + 1 + i - 1 = w.length + 1 + (i - 1) by omega, gJ3]; exact h5⟩⟩
theorem mv_inv {w v : List UInt8} {i t : Nat} (h : Mv (w ++ 32 :: v) i t) : Mv w i t ∨ ∃ i' t', i = w.length + 1 + i' ∧ t = w.length + 1 + t' ∧ Mv v i' t' := by
  obtain ⟨h1, h2, h3, h4⟩ := h
  rw [jL] at h1 h2
  have ht : t ≠ w.length := by rintro rfl; rw [gJ2] at h3; cases h3
  have hi : i ≠ w.length := by
    rintro rfl
    rw [gJ2] at h4
    rcases h4 with ⟨e, _⟩ | ⟨e, _⟩ <;> cases e
  by_cases hil : i < w.length
  · left
    rw [gJ1 hil] at h4
    have htl : t < w.length := by
      rcases h4 with ⟨e, h4 | ⟨h4, h5⟩⟩ | ⟨e, h4 | ⟨h4, h5⟩⟩
      · omega
      · by_cases hx : i + 1 = w.length
        · rw [hx, gJ2] at h5; cases h5
        · omega
      · omega
      · omega
    rw [gJ1 htl] at h3
    refine ⟨hil, htl, h3, ?_⟩
    rcases h4 with ⟨e, h4 | ⟨h4, h5⟩⟩ | ⟨e, h4 | ⟨h4, h5⟩⟩
    · exact .inl ⟨e, .inl h4⟩
    · exact .inl ⟨e, .inr ⟨h4, by rw [gJ1 (by omega)] at h5; exact h5⟩⟩
    · exact .inr ⟨e, .inl h4⟩
    · exact .inr ⟨e, .inr ⟨h4, by rw [gJ1 (by omega)] at h5; exact h5⟩⟩
  · right
    obtain ⟨i', rfl⟩ : ∃ i', i = w.length + 1 + i' := ⟨i - w.length - 1, by omega⟩
    rw [gJ3] at h4
    have htl : w.length < t := by
      rcases h4 with ⟨e, h4 | ⟨h4, h5⟩⟩ | ⟨e, h4 | ⟨h4, h5⟩⟩
      · omega
      · omega
      · omega
      · by_cases hx : w.length + 1 + i' - 1 = w.length
        · rw [hx, gJ2] at h5; cases h5
        · omega
    obtain ⟨t', rfl⟩ : ∃ t', t = w.length + 1 + t' := ⟨t - w.length - 1, by omega⟩
    rw [gJ3] at h3
    refine ⟨i', t', rfl, rfl, by omega, by omega, h3, ?_⟩
    rcases h4 with ⟨e, h4 | ⟨h4, h5⟩⟩ | ⟨e, h4 | ⟨h4, h5⟩⟩
    · exact .inl ⟨e, .inl (by omega)⟩
    · exact .inl ⟨e, .inr ⟨by omega, by rw [show w.length + 1 + i' + 1 = w.length + 1 + (i' + 1) by omega, gJ3] at h5; exact h5⟩⟩
    · exact .inr ⟨e, .inl (by omega)⟩
    · exact .inr ⟨e, .inr ⟨by omega, by rw [show w.length + 1 + i' - 1 = w.length + 1 + (i' - 1) by omega, gJ3] at h5; exact h5⟩⟩
theorem goal_l {w v : List UInt8} {i : Nat} (hi : i < w.length) : goalB (w ++ 32 :: v) i = goalB w i := by
  cases h : goalB w i with
  | some t =>
    obtain ⟨t', rfl, hm⟩ := goalB_mv hi h
    exact mv_goalB (mv_l hm)
  | none =>
    cases h2 : goalB (w ++ 32 :: v) i with
    | none => rfl
    | some t =>
      obtain ⟨t', rfl, hm⟩ := goalB_mv (by rw [jL]; omega) h2
      rcases mv_inv hm with hm | ⟨i', _, e, _⟩
      · rw [mv_goalB hm] at h; cases h
      · omega
theorem goal_m {w v : List UInt8} : goalB (w ++ 32 :: v) w.length = none := by
  cases h2 : goalB (w ++ 32 :: v) w.length with
  | none => rfl
  | some t =>
    obtain ⟨t', rfl, hm⟩ := goalB_mv (by rw [jL]; omega) h2
    rcases mv_inv hm with hm | ⟨i', _, e, _⟩
    · exact absurd hm.1 (by omega)
    · omega
theorem goal_r {w v : List UInt8} {j : Nat} (hj : j < v.length) : goalB (w ++ 32 :: v) (w.length + 1 + j) = (goalB v j).map fun t => ((w.length + 1 : Nat) : Int) + t := by
  cases h : goalB v j with
  | some t =>
    obtain ⟨t', rfl, hm⟩ := goalB_mv hj h
    rw [mv_goalB (mv_r hm)]
    simp only [Option.map_some]
    congr 1
  | none =>
    cases h2 : goalB (w ++ 32 :: v) (w.length + 1 + j) with
    | none => rfl
    | some t =>
      obtain ⟨t', rfl, hm⟩ := goalB_mv (by rw [jL]; omega) h2
      rcases mv_inv hm with hm | ⟨i', t2, e, _, hm⟩
      · exact absurd hm.1 (by omega)
      · obtain rfl : j = i' := by omega
        rw [mv_goalB hm] at h; cases h
def shB (n : Nat) (m : Int × Int) : Int × Int := (((n : Nat) : Int) + m.1, ((n : Nat) : Int) + m.2)
theorem moves_join (w v kd : List UInt8) : movesB (w ++ 32 :: v) kd = movesB w kd ++ (movesB v kd).map (shB (w.length + 1)) := by
  unfold movesB
  rw [jL, List.range_add, List.range_succ, List.flatMap_append, List.flatMap_append, List.append_assoc]
  congr 1
  · apply flatMap_congr'
    intro i hi
    have hi := List.mem_range.1 hi
    unfold moveB
    rw [goal_l hi, gJ1 hi]
  · have hm : moveB (w ++ 32 :: v) kd w.length = [] := by unfold moveB; rw [goal_m]
    rw [List.flatMap_cons, hm, List.flatMap_nil, List.append_nil, List.nil_append, List.flatMap_map, List.map_flatMap]
    apply flatMap_congr'
    intro j hj
    have hj := List.mem_range.1 hj
    unfold moveB
    rw [goal_r hj, gJ3]
    cases goalB v j with
    | none => rfl
    | some t =>
      simp only [Option.map_some]
      split
      · simp [shB]
      · rfl
theorem next_join (w v kd : List UInt8) : nextB (w ++ 32 :: v) kd = (nextB w kd).map (fun x => x ++ 32 :: v) ++ (nextB v kd).map (fun x => w ++ 32 :: x) := by
  unfold nextB
  rw [moves_join, List.map_append, List.map_map, List.map_map, List.map_map]
  congr 1
  · apply List.map_congr_left
    intro m hm
    obtain ⟨i, t, rfl, hmv⟩ := movesB_mv hm
    simp only [Function.comp, Int.toNat_natCast, madeB]
    rw [gJ1 hmv.fst, List.set_append_left _ _ hmv.snd, List.set_append_left _ _ (by rw [List.length_set]; exact hmv.fst)]
  · apply List.map_congr_left
    intro m hm
    obtain ⟨i, t, rfl, hmv⟩ := movesB_mv hm
    have e1 : (((w.length + 1 : Nat) : Int) + (i : Int)).toNat = w.length + 1 + i := by omega
    have e2 : (((w.length + 1 : Nat) : Int) + (t : Int)).toNat = w.length + 1 + t := by omega
    simp only [Function.comp, shB, Int.toNat_natCast, madeB]
    rw [e1, e2, gJ3, List.set_append_right _ _ (by omega), show w.length + 1 + t - w.length = t + 1 by omega, List.set_cons_succ,
      List.set_append_right _ _ (by omega), show w.length + 1 + i - w.length = i + 1 by omega, List.set_cons_succ]
theorem winB_next (w : List UInt8) (t : Bool) : winB w t = (nextB w (kindS t)).any fun x => !winB x (!t) := by
  rw [winB_eq]; unfold nextB; rw [List.any_map]; rfl
theorem winL_pair : ∀ (n : Nat) (w v : List UInt8) (t : Bool), mu w + mu v < n → winL [w, v] t = winB (w ++ 32 :: v) t
  | 0, _, _, _, h => by omega
  | n + 1, w, v, t, h => by
    rw [winL_eq, winB_next, next_join]
    simp only [nextZ, List.append_nil, List.nil_append, List.any_append, List.any_map, List.cons_append]
    congr 1
    · apply any_congr'
      intro x hx
      have := nextB_mu hx
      simp only [Function.comp]
      rw [winL_pair n _ _ _ (by omega)]
    · apply any_congr'
      intro x hx
      have := nextB_mu hx
      simp only [Function.comp]
      rw [winL_pair n _ _ _ (by omega)]
end Go.Proofs.YtejhhdpfndiliaaDoor.Ab

/- LINES from the other side, sums of two lines, whole values: what both sides' functions answer. -/
namespace Go.Proofs.YtejhhdpfndiliaaDoor.Ab
open Go
set_option maxRecDepth 100000
set_option maxHeartbeats 4000000

def otherL (w : List UInt8) : List UInt8 := (w.map otherB).reverse
theorem otherL_len (w : List UInt8) : (otherL w).length = w.length := by simp [otherL]
theorem otherB_sign {b : UInt8} (h : isSign b = true) : isSign (otherB b) = true := by
  unfold isSign at h
  simp only [Bool.or_eq_true, beq_iff_eq] at h
  rcases h with (rfl | rfl) | rfl <;> rfl
theorem otherL_signs {w : List UInt8} (h : signs w) : signs (otherL w) := by
  unfold signs otherL at *
  rw [List.all_eq_true] at h ⊢
  intro x hx
  simp only [List.mem_reverse, List.mem_map] at hx
  obtain ⟨b, hb, rfl⟩ := hx
  exact otherB_sign (h b hb)
end Go.Proofs.YtejhhdpfndiliaaDoor.Ab

/- WHOLE VALUES of lines; the law of WholeValue. -/
namespace Go.Proofs.YtejhhdpfndiliaaDoor.Ab
open Go
set_option maxRecDepth 100000
set_option maxHeartbeats 4000000

def wholeL (n : Int) : List UInt8 := if n < 0 then List.replicate (-n).toNat 46 ++ [70] else 84 :: List.replicate n.toNat 46
def outP (w v : List UInt8) : List UInt8 := outcS (winB (w ++ 32 :: otherL v) true) (winB (w ++ 32 :: otherL v) false)
def cmpS (s : List UInt8) : List UInt8 := if s == [50] then [61] else if s == [84] then [62] else if s == [70] then [60] else [124]
theorem cmp_eq (s : List UInt8) : (cmpS s == [61]) = (s == [50]) := by
  unfold cmpS
  split
  · rename_i h; rw [h]; rfl
  · rename_i h
    rw [Bool.not_eq_true] at h
    rw [h]
    split
    · rfl
    · split <;> rfl
def eqW (w : List UInt8) (n : Int) : Bool := outP w (wholeL n) == [50]
def firstW (w : List UInt8) : Nat → Int → Option Int
  | 0, _ => none
  | d + 1, n => if eqW w n then some n else firstW w d (n + 1)
def okW (s : List UInt8) : Bool := decide (1 ≤ (s.length : Int) ∧ (s.length : Int) ≤ 5) && s.all isSign
theorem wholeL_ok {n : Int} (h : -4 ≤ n ∧ n ≤ 4) : signs (wholeL n) ∧ 1 ≤ (wholeL n).length ∧ (wholeL n).length ≤ 5 := by
  unfold wholeL signs
  have hr : ∀ k : Nat, (List.replicate k (46 : UInt8)).all isSign = true := fun k => by
    rw [List.all_eq_true]; intro x hx; rw [List.eq_of_mem_replicate hx]; rfl
  split
  · refine ⟨by rw [List.all_append, hr]; rfl, by simp, by simp; omega⟩
  · refine ⟨by rw [List.all_cons, hr]; rfl, by simp, by simp; omega⟩

/-! ### The reference's -/
theorem lp_liTimes {h : AH} {R : X → Env → AH → Prop} : ∀ (n : Nat) (out : List UInt8), out.length + n < 2 ^ 30 → R (.exit 0) [(5, .str (out ++ List.replicate n 46))] h →
    Cx (.loop lp124_0) [(0, .str [46]), (1, .int .i64 n), (5, .str out)] h R k k
  | 0, out, hb, hR => by
    have hn : ¬ (((0 : Nat) : Int) > 0) := by omega
    rw [w_loopb (c := lp124_0) (d := lb124_0) rfl]; unfold lb124_0
    simp (maxSteps := 1000000) (disch := first | omega | rfl | (simp only [zL, two63, room] <;> omega) | fail) only [↓reduceIte, ↓zP, zW, WOp, evOp, evBin, binI, binSh, binS, evNil, keyIs, keyEq, mkv, AV.cells, AV.sc, optv, bnd, env, put, Env.get, Env.set, Env.del, Env.dels, Env.init, res1, resL, resV, fillP, splice, newRow, Nat.reduceEqDiff, Nat.reduceLT, Nat.reduceLeDiff, Nat.reduceAdd, Nat.reduceMul, Nat.reduceSub, Nat.reduceBEq, reduceCtorEq, ↓zR, zQ, Tr, StA, StT, hn]
    simpa using hR
  | n + 1, out, hb, hR => by
    have ih := lp_liTimes (h := h) (R := R) n (out ++ [46]) (by simp; omega) (by simpa [List.replicate_succ] using hR)
    have hn : ((n + 1 : Nat) : Int) > 0 := by omega
    have hw : ((n + 1 : Nat) : Int) - 1 = (n : Int) := by omega
    have hwr : IntKind.i64.wrap (n : Int) = (n : Int) := wrap_i (by omega)
    rw [w_loopb (c := lp124_0) (d := lb124_0) rfl]; unfold lb124_0
    simp (maxSteps := 1000000) (disch := first | omega | rfl | (simp only [zL, two63, room] <;> omega) | fail) only [↓reduceIte, ↓zP, zW, WOp, evOp, evBin, binI, binSh, binS, evNil, keyIs, keyEq, mkv, AV.cells, AV.sc, optv, bnd, env, put, Env.get, Env.set, Env.del, Env.dels, Env.init, res1, resL, resV, fillP, splice, newRow, Nat.reduceEqDiff, Nat.reduceLT, Nat.reduceLeDiff, Nat.reduceAdd, Nat.reduceMul, Nat.reduceSub, Nat.reduceBEq, reduceCtorEq, ↓zR, zQ, Tr, StA, StT, hn, hw, hwr]
    rw [w_loopn (c := lp124_0) rfl]
    simp (maxSteps := 1000000) (disch := first | omega | rfl | (simp only [zL, two63, room] <;> omega) | fail) only [↓reduceIte, ↓zP, zW, WOp, evOp, evBin, binI, binSh, binS, evNil, keyIs, keyEq, mkv, AV.cells, AV.sc, optv, bnd, env, put, Env.get, Env.set, Env.del, Env.dels, Env.init, res1, resL, resV, fillP, splice, newRow, Nat.reduceEqDiff, Nat.reduceLT, Nat.reduceLeDiff, Nat.reduceAdd, Nat.reduceMul, Nat.reduceSub, Nat.reduceBEq, reduceCtorEq, ↓zR, zQ, Tr, StA, StT]
    exact ih
theorem c_liTimes (n : Nat) (hn : n < 1000) {h : AH} {post : AV → AH → Prop} (hp : post (.str (List.replicate n 46)) h) : S 124 [.str [46], .int .i64 n] h post k := by
  refine S_of rfl T124 ?_; unfold fi124
  simp (maxSteps := 1000000) (disch := first | omega | rfl | (simp only [zL, two63, room] <;> omega) | fail) only [↓reduceIte, ↓zP, zW, WOp, evOp, evBin, binI, binSh, binS, evNil, keyIs, keyEq, mkv, AV.cells, AV.sc, optv, bnd, env, put, Env.get, Env.set, Env.del, Env.dels, Env.init, res1, resL, resV, fillP, splice, newRow, Nat.reduceEqDiff, Nat.reduceLT, Nat.reduceLeDiff, Nat.reduceAdd, Nat.reduceMul, Nat.reduceSub, Nat.reduceBEq, reduceCtorEq, ↓zR, zQ, Tr, StA, StT]
  refine lp_liTimes n [] (by simp; omega) ?_
  simp (maxSteps := 1000000) (disch := first | omega | rfl | (simp only [zL, two63, room] <;> omega) | fail) only [↓reduceIte, ↓zP, zW, WOp, evOp, evBin, binI, binSh, binS, evNil, keyIs, keyEq, mkv, AV.cells, AV.sc, optv, bnd, env, put, Env.get, Env.set, Env.del, Env.dels, Env.init, res1, resL, resV, fillP, splice, newRow, Nat.reduceEqDiff, Nat.reduceLT, Nat.reduceLeDiff, Nat.reduceAdd, Nat.reduceMul, Nat.reduceSub, Nat.reduceBEq, reduceCtorEq, ↓zR, zQ, Tr, StA, StT]
  exact hp
theorem slc2 (h : AH) (x y : List UInt8) : Slc 1 encS (h ++ [AO.row [.str x, .str y] 0 0 false]) (.slice h.length 0 0 2 1) [x, y] := by
  unfold Slc Sl
  refine ⟨rfl, rfl, rfl, ?_⟩
  rw [rd_last, if_pos (by simp)]
  simp
def wvV (s : List UInt8) : AV := if okW s then (match firstW s 9 (-4) with | some n => .tup [.int .i64 n, .bool true] | none => .tup [.int .i64 0, .bool false]) else .tup [.int .i64 0, .bool false]
theorem join2 (x y : List UInt8) : Go.Lib.join [x, y] [32] = x ++ 32 :: y := by simp [Go.Lib.join, List.intercalate, List.intersperse]
end Go.Proofs.YtejhhdpfndiliaaDoor.Ab

/- MOVES in slices: compared, marked, their marks found again. -/
namespace Go.Proofs.YtejhhdpfndiliaaDoor.Ab
open Go
set_option maxRecDepth 100000
set_option maxHeartbeats 4000000

theorem beq_cm {α : Type} [BEq α] (x y : α) (l l' : List α) : (x :: l == y :: l') = (x == y && l == l') := rfl
def cntM : Int → Nat → List (Int × Int)
  | _, 0 => []
  | q, n + 1 => (q, q + 1) :: cntM (q + 2) n
theorem cntM_len : ∀ (n : Nat) (q : Int), (cntM q n).length = n
  | 0, _ => rfl
  | n + 1, q => by simp [cntM, cntM_len n]
theorem Slc.fldM0 {h : AH} {c kk off n e : Nat} {pre rest : List (Int × Int)} {x : Int × Int} (hs : Slc 2 encM h (.slice c kk off n e) (pre ++ x :: rest)) : rdRow h c kk (off + pre.length * 2 + 0) 1 = some [.int .i64 x.1] ∧ rdRow h c kk (off + pre.length * 2 + 1) 1 = some [.int .i64 x.2] := by
  have hr := hs.rd hlM
  exact ⟨rd_part hr (o := 0) (m := 1) (by omega), rd_part hr (o := 1) (m := 1) (by omega)⟩
end Go.Proofs.YtejhhdpfndiliaaDoor.Ab

/- FRAMES: a map and a cell with its slices may turn, all else stays. -/
namespace Go.Proofs.YtejhhdpfndiliaaDoor.Ab
open Go
set_option maxRecDepth 100000
set_option maxHeartbeats 4000000

def FrW (c r : Nat) (h h' : AH) : Prop := h.length ≤ h'.length ∧ ∀ i, i < h.length → i ≠ c → ¬ grc r h i → h'[i]? = h[i]? ∧ ¬ grc r h' i
section
variable {c r : Nat} {h h' : AH}
theorem FrW.refl : FrW c r h h := ⟨Nat.le_refl _, fun _ _ _ hg => ⟨rfl, hg⟩⟩
theorem FrW.trans {x y z : AH} (p : FrW c r x y) (q : FrW c r y z) : FrW c r x z := ⟨Nat.le_trans p.1 q.1, fun i hi hc hg => by
  obtain ⟨h1, h2⟩ := p.2 i hi hc hg
  obtain ⟨h3, h4⟩ := q.2 i (Nat.lt_of_lt_of_le hi p.1) hc h2
  exact ⟨by rw [h3, h1], h4⟩⟩
theorem FrC.frw (hf : FrC r h h') : FrW c r h h' := ⟨hf.1, fun i hi _ hg => hf.2 i hi hg⟩
theorem Pre.frw (hp : Pre h h') (hr : r < h.length) : FrW c r h h' := (hp.frc hr).frw
theorem grc_row (hr : h'[r]? = h[r]?) (i : Nat) : grc r h' i ↔ grc r h i := by unfold grc; rw [hr]
theorem PreX.frw (hp : PreX c h h') (hr : r < h.length) (hrc : r ≠ c) : FrW c r h h' := ⟨hp.1, fun i hi hc hg => ⟨hp.2 i hi hc, by rw [grc_row (hp.2 r hr hrc)]; exact hg⟩⟩
theorem rd_frw (hf : FrW c r h h') {i k o n : Nat} {cs : List AV} (hc : i ≠ c) (hg : ¬ grc r h i) (hr : rdRow h i k o n = some cs) : rdRow h' i k o n = some cs := by
  have := rd_lt hr
  unfold rdRow at hr ⊢
  rw [(hf.2 i this hc hg).1]; exact hr
def SlcW {α : Type} (esz : Nat) (enc : α → List AV) (c r : Nat) (h : AH) (v : AV) (L : List α) : Prop := Slc esz enc h v L ∧ ∀ i, rowOf v = some i → i ≠ c ∧ ¬ grc r h i
theorem SlcW.fr {α : Type} {esz : Nat} {enc : α → List AV} {v : AV} {L : List α} (hs : SlcW esz enc c r h v L) (hf : FrW c r h h') : SlcW esz enc c r h' v L := by
  obtain ⟨h1, h2⟩ := hs
  unfold SlcW Slc Sl at *
  cases v <;> simp only [rowOf] at * <;> first
    | (exact ⟨h1, fun r hr => by cases hr⟩)
    | (obtain ⟨k1, k2, k3, k4⟩ := h1
       obtain ⟨g1, g2⟩ := h2 _ rfl
       exact ⟨⟨k1, k2, k3, rd_frw hf g1 g2 k4⟩, fun r hr => by cases hr; exact ⟨g1, (hf.2 _ (rd_lt k4) g1 g2).2⟩⟩)
/-- A slice laid since. -/
theorem OutP.slcW {α β : Type} {esz esz' : Nat} {enc : α → List AV} {enc' : β → List AV} {b : AH} {l : List α} {v : AV} {L : List β} (hk : OutP esz enc r b h l) (hc : c < h.length) (ho : OwL esz' enc' h h' v L) (hp : Pre h h') : SlcW esz' enc' c r h' v L :=
  ⟨ho.slc, fun i hr => by
    have := own_ge ho hr
    exact ⟨by omega, hk.fresh hp this⟩⟩
theorem OutP.prex {α : Type} {esz : Nat} {enc : α → List AV} {b : AH} {l : List α} (hk : OutP esz enc r b h l) {es : List (AV × AV)} (hm : h[c]? = some (.map es)) (hp : PreX c h h') : OutP esz enc r b h' l ∧ r ≠ c := by
  have hlt := hk.lt
  obtain ⟨vo, h1, h2, h3⟩ := hk
  have hrc : r ≠ c := by rintro rfl; rw [h1] at hm; cases hm
  refine ⟨⟨vo, by rw [hp.2 r hlt hrc]; exact h1, own_row h2 fun i hi => ?_, h3⟩, hrc⟩
  refine hp.2 i (own_lt h2 hi) ?_
  rintro rfl
  unfold OwL Own at h2
  cases vo <;> simp only [rowOf] at hi <;> try (cases hi; done)
  obtain ⟨_, _, _, _, cells, fl, hh, _⟩ := h2
  cases hi
  rw [hm] at hh; cases hh
end
end Go.Proofs.YtejhhdpfndiliaaDoor.Ab

/- CLUES without one of them; copies of clues; marks found again. -/
namespace Go.Proofs.YtejhhdpfndiliaaDoor.Ab
open Go
set_option maxRecDepth 100000
set_option maxHeartbeats 4000000

section
variable {α : Type} {esz : Nat} {enc : α → List AV}
theorem apM (hl : ∀ x, (enc x).length = esz) (hsc : ∀ x, (enc x).all AV.sc = true) {h0 h : AH} {v : AV} {L : List α} (ho : OwL esz enc h0 h v L) (hp : Pre h0 h) (M : List α) (hr : L.length + M.length ≤ 1099511627776) :
    ∃ v' h', apRow h esz v M.length (M.flatMap enc) = some (v', h') ∧ OwL esz enc h0 h' v' (L ++ M) ∧ Pre h0 h' := by
  have hs : (M.flatMap enc).all AV.sc = true := by
    rw [List.all_eq_true]
    intro x hx
    obtain ⟨a, _, ha⟩ := List.mem_flatMap.1 hx
    exact List.all_eq_true.1 (hsc a) x ha
  obtain ⟨v', h', h1, h2, h3⟩ := ap_own ho hp (q := M.length) (vs := M.flatMap enc) (by rw [flat_len hl]) hs hr
  refine ⟨v', h', h1, ?_, h3⟩
  unfold OwL
  rw [List.length_append, List.flatMap_append]
  exact h2
theorem Slc.ahead (hl : ∀ x, (enc x).length = esz) {h : AH} {c kk off n e : Nat} {pre rest : List α} (hs : Slc esz enc h (.slice c kk off n e) (pre ++ rest)) : rdRow h c kk off (pre.length * esz) = some (pre.flatMap enc) := by
  obtain ⟨h1, rfl, h3⟩ := hs.all
  have hm := Nat.mul_le_mul_right e (show pre.length ≤ n by rw [h1]; simp)
  have := rd_part h3 (o := 0) (m := pre.length * e) (by omega)
  rw [Nat.add_zero, List.drop_zero, List.flatMap_append, List.take_left' (flat_len hl pre)] at this
  exact this
theorem Slc.behind (hl : ∀ x, (enc x).length = esz) {h : AH} {c kk off n e : Nat} {pre rest : List α} (hs : Slc esz enc h (.slice c kk off n e) (pre ++ rest)) : rdRow h c kk (off + pre.length * esz) (rest.length * esz) = some (rest.flatMap enc) := by
  obtain ⟨h1, rfl, h3⟩ := hs.all
  have hn : n * e = pre.length * e + rest.length * e := by rw [h1, List.length_append, Nat.add_mul]
  have := rd_part h3 (o := pre.length * e) (m := rest.length * e) (by omega)
  rw [List.flatMap_append, List.drop_left' (flat_len hl pre), List.take_of_length_le (by rw [flat_len hl]; exact Nat.le_refl _)] at this
  exact this
end
end Go.Proofs.YtejhhdpfndiliaaDoor.Ab

/- PLAIN LAWS of reaching: lines in order, layer by layer, and plays counted. -/
namespace Go.Proofs.YtejhhdpfndiliaaDoor.Ab
open Go

abbrev Ln := List UInt8
theorem bl_eq : ∀ (x y : Ln), Op.bytesLess x y = decide (x < y)
  | _, [] => by simp [Op.bytesLess]
  | [], _ :: _ => by simp [Op.bytesLess]
  | a :: x, b :: y => by
    simp only [Op.bytesLess, bl_eq x y, List.cons_lt_cons_iff]
    by_cases h : a < b
    · simp [h]
    · by_cases e : a = b
      · subst e; simp
      · simp [h, e]
theorem ln_irrefl (x : Ln) : ¬ x < x := List.lt_irrefl x
theorem ln_trans {x y z : Ln} (h : x < y) (h' : y < z) : x < z := List.lt_trans h h'
theorem ln_tri {x y : Ln} (h : ¬ x < y) (hn : x ≠ y) : y < x := by
  rcases List.le_total x y with h1 | h1
  · rcases (List.le_iff_lt_or_eq).1 h1 with h2 | h2
    · exact absurd h2 h
    · exact absurd h2 hn
  · rcases (List.le_iff_lt_or_eq).1 h1 with h2 | h2
    · exact h2
    · exact absurd h2.symm hn
abbrev Srt (l : List Ln) : Prop := l.Pairwise (· < ·)
theorem Srt.nodup {l : List Ln} (h : Srt l) : l.Nodup := h.imp fun hlt e => by subst e; exact ln_irrefl _ hlt
/-- Sorted lists of the same members are one. -/
theorem Srt.ext : ∀ {l l' : List Ln}, Srt l → Srt l' → (∀ x, x ∈ l ↔ x ∈ l') → l = l'
  | [], [], _, _, _ => rfl
  | [], b :: t, _, _, h => by have := (h b).2 (by simp); simp at this
  | a :: s, [], _, _, h => by have := (h a).1 (by simp); simp at this
  | a :: s, b :: t, h1, h2, h => by
    unfold Srt at h1 h2
    rw [List.pairwise_cons] at h1 h2
    obtain rfl : a = b := by
      have ha := (h a).1 (by simp)
      have hb := (h b).2 (by simp)
      rw [List.mem_cons] at ha hb
      rcases ha with rfl | ha
      · rfl
      · rcases hb with rfl | hb
        · rfl
        · exact absurd (ln_trans (h1.1 _ hb) (h2.1 _ ha)) (ln_irrefl _)
    congr 1
    refine Srt.ext h1.2 h2.2 fun x => ?_
    have hx := h x
    rw [List.mem_cons, List.mem_cons] at hx
    constructor
    · intro hm
      rcases hx.1 (.inr hm) with rfl | h3
      · exact absurd (h1.1 _ hm) (ln_irrefl _)
      · exact h3
    · intro hm
      rcases hx.2 (.inr hm) with rfl | h3
      · exact absurd (h2.1 _ hm) (ln_irrefl _)
      · exact h3
def lowB (x : Ln) : List Ln → Nat
  | [] => 0
  | a :: t => if a < x then lowB x t + 1 else 0
theorem lowB_le (x : Ln) : ∀ l : List Ln, lowB x l ≤ l.length
  | [] => Nat.le_refl _
  | a :: t => by
    unfold lowB
    split
    · have := lowB_le x t; simp; omega
    · simp
theorem low_iff (x : Ln) : ∀ {l : List Ln}, Srt l → ∀ (i : Nat) (y : Ln), l[i]? = some y → (y < x ↔ i < lowB x l)
  | [], _, i, y, h => by simp at h
  | a :: t, hs, i, y, h => by
    unfold Srt at hs
    rw [List.pairwise_cons] at hs
    unfold lowB
    cases i with
    | zero =>
      simp at h; subst h
      split <;> simp [*]
    | succ i =>
      rw [List.getElem?_cons_succ] at h
      split
      · rw [low_iff x hs.2 i y h]; omega
      · rename_i hn
        constructor
        · intro hy
          exact absurd (ln_trans (hs.1 y (List.mem_of_getElem? h)) hy) hn
        · intro hy; omega
def insS (x : Ln) : List Ln → List Ln
  | [] => [x]
  | a :: t => if a < x then a :: insS x t else if a = x then a :: t else x :: a :: t
theorem insS_low (x : Ln) : ∀ l : List Ln, insS x l = if l[lowB x l]? = some x then l else l.take (lowB x l) ++ x :: l.drop (lowB x l)
  | [] => by simp [insS, lowB]
  | a :: t => by
    unfold insS lowB
    by_cases h : a < x
    · simp only [if_pos h, insS_low x t, List.getElem?_cons_succ, List.take_succ_cons, List.drop_succ_cons]
      split <;> simp
    · simp only [if_neg h]
      by_cases e : a = x
      · simp [e]
      · simp [e]
theorem insS_mem (x y : Ln) : ∀ l : List Ln, y ∈ insS x l ↔ y = x ∨ y ∈ l
  | [] => by simp [insS]
  | a :: t => by
    unfold insS
    split
    · rw [List.mem_cons, insS_mem x y t, List.mem_cons]
      constructor
      · rintro (h | h | h) <;> simp [h]
      · rintro (h | h | h) <;> simp [h]
    · split
      · rename_i e; subst e
        simp
      · simp
theorem insS_srt (x : Ln) : ∀ {l : List Ln}, Srt l → Srt (insS x l)
  | [], _ => by simp [insS]
  | a :: t, hs => by
    have hs0 := hs
    unfold Srt at hs
    rw [List.pairwise_cons] at hs
    unfold insS
    split
    · rename_i h
      rw [Srt, List.pairwise_cons]
      refine ⟨fun y hy => ?_, insS_srt x hs.2⟩
      rcases (insS_mem x y t).1 hy with rfl | hy
      · exact h
      · exact hs.1 y hy
    · split
      · exact hs0
      · rename_i h e
        have hx := ln_tri h e
        rw [Srt, List.pairwise_cons]
        refine ⟨fun y hy => ?_, hs0⟩
        rcases List.mem_cons.1 hy with rfl | hy
        · exact hx
        · exact ln_trans hx (hs.1 y hy)
theorem insS_len (x : Ln) : ∀ l : List Ln, (insS x l).length ≤ l.length + 1
  | [] => by simp [insS]
  | a :: t => by
    unfold insS
    split
    · have := insS_len x t; simp; omega
    · split <;> simp
def addS (l acc : List Ln) : List Ln := l.foldl (fun a x => insS x a) acc
theorem addS_mem (y : Ln) : ∀ (l acc : List Ln), y ∈ addS l acc ↔ y ∈ l ∨ y ∈ acc
  | [], acc => by simp [addS]
  | x :: l, acc => by
    show y ∈ addS l (insS x acc) ↔ _
    rw [addS_mem y l, insS_mem, List.mem_cons]
    constructor
    · rintro (h | h | h) <;> simp [h]
    · rintro ((h | h) | h) <;> simp [h]
theorem addS_srt : ∀ (l : List Ln) {acc : List Ln}, Srt acc → Srt (addS l acc)
  | [], _, h => h
  | x :: l, acc, h => addS_srt l (insS_srt x h)
theorem addS_app (l l' acc : List Ln) : addS (l ++ l') acc = addS l' (addS l acc) := List.foldl_append

/-- Lines behind one move. -/
def nx (w : Ln) : List Ln := nextB w [84, 70]
def stepL (l : List Ln) : List Ln := addS (l.flatMap nx) []
theorem stepL_mem (l : List Ln) (y : Ln) : y ∈ stepL l ↔ ∃ u ∈ l, y ∈ nx u := by
  unfold stepL
  rw [addS_mem, List.mem_flatMap]
  simp
theorem stepL_srt (l : List Ln) : Srt (stepL l) := addS_srt _ List.Pairwise.nil
def lay (w : Ln) : Nat → List Ln
  | 0 => [w]
  | j + 1 => stepL (lay w j)
theorem lay_srt (w : Ln) : ∀ j, Srt (lay w j)
  | 0 => by simp [lay]
  | _ + 1 => stepL_srt _
theorem lay_mu (w : Ln) : ∀ (j : Nat) (v : Ln), v ∈ lay w j → mu v + j ≤ mu w
  | 0, v, h => by
    simp only [lay, List.mem_singleton] at h
    subst h; omega
  | j + 1, v, h => by
    obtain ⟨u, hu, hv⟩ := (stepL_mem _ _).1 h
    have h1 := lay_mu w j u hu
    have h2 := nextB_mu hv
    omega
theorem lay_empty (w : Ln) {j : Nat} (h : lay w j = []) : ∀ d, lay w (j + d) = []
  | 0 => h
  | d + 1 => by
    show stepL (lay w (j + d)) = []
    rw [lay_empty w h d]; rfl
theorem lay_end (w : Ln) : lay w (mu w + 1) = [] := by
  rw [List.eq_nil_iff_forall_not_mem]
  intro v hv
  have := lay_mu w _ v hv
  omega

/-! ### Plays counted -/
def cntP : Nat → Ln → Nat
  | 0, _ => 1
  | j + 1, w => ((nx w).map (cntP j)).sum
def pcs (L : List Ln) (p : Ln → Nat) (v : Ln) : Nat := (L.map fun u => (nx u).count v * p u).sum
def pc (w : Ln) : Nat → Ln → Nat
  | 0, _ => 1
  | j + 1, v => pcs (lay w j) (pc w j) v
theorem sum_zero {α : Type} (l : List α) : (l.map fun _ => 0).sum = 0 := by
  induction l with
  | nil => rfl
  | cons a l ih => simp [ih]
theorem sum_congr {α : Type} {f g : α → Nat} : ∀ {l : List α}, (∀ x ∈ l, f x = g x) → (l.map f).sum = (l.map g).sum
  | [], _ => rfl
  | a :: l, h => by
    rw [List.map_cons, List.map_cons, List.sum_cons, List.sum_cons, h a (by simp), sum_congr fun x hx => h x (by simp [hx])]
theorem sum_add' {α : Type} (f g : α → Nat) : ∀ l : List α, (l.map fun x => f x + g x).sum = (l.map f).sum + (l.map g).sum
  | [] => rfl
  | a :: l => by simp only [List.map_cons, List.sum_cons, sum_add' f g l]; omega
theorem sum_mul' {α : Type} (f : α → Nat) (c : Nat) : ∀ l : List α, (l.map fun x => c * f x).sum = c * (l.map f).sum
  | [] => by simp
  | a :: l => by simp only [List.map_cons, List.sum_cons, sum_mul' f c l, Nat.mul_add]
theorem count_sum (f : Ln → Nat) {S : List Ln} (hn : S.Nodup) : ∀ l : List Ln, (∀ x ∈ l, x ∈ S) → (S.map fun v => l.count v * f v).sum = (l.map f).sum
  | [], _ => by simp [sum_zero]
  | x :: l, h => by
    have ih := count_sum f hn l fun y hy => h y (by simp [hy])
    have one : ∀ {S : List Ln}, S.Nodup → x ∈ S → (S.map fun v => (if x == v then 1 else 0) * f v).sum = f x := by
      intro S
      induction S with
      | nil => intro _ hx; simp at hx
      | cons a S ih2 =>
        intro hn hx
        rw [List.nodup_cons] at hn
        rw [List.map_cons, List.sum_cons]
        by_cases e : x = a
        · subst e
          have : (S.map fun v => (if x == v then 1 else 0) * f v).sum = (S.map fun _ => 0).sum := sum_congr fun v hv => by
            have : x ≠ v := by rintro rfl; exact hn.1 hv
            simp [this]
          rw [this, sum_zero]; simp
        · rw [ih2 hn.2 (by rcases List.mem_cons.1 hx with h | h; exact absurd h e; exact h)]
          simp [e]
    rw [List.map_cons, List.sum_cons, ← ih, ← one hn (h x (by simp)), ← sum_add']
    refine sum_congr fun v _ => ?_
    rw [List.count_cons, Nat.add_mul, Nat.add_comm]
theorem pcs_sum (f p : Ln → Nat) (S : List Ln) (hn : S.Nodup) : ∀ L : List Ln, (∀ u ∈ L, ∀ x ∈ nx u, x ∈ S) → (S.map fun v => pcs L p v * f v).sum = (L.map fun u => p u * ((nx u).map f).sum).sum
  | [], _ => by simp [pcs, sum_zero]
  | u :: L, h => by
    have ih := pcs_sum f p S hn L fun y hy => h y (by simp [hy])
    rw [List.map_cons, List.sum_cons, ← ih, ← count_sum f hn (nx u) (h u (by simp)), ← sum_mul', ← sum_add']
    refine sum_congr fun v _ => ?_
    simp only [pcs, List.map_cons, List.sum_cons]
    rw [Nat.add_mul, Nat.mul_right_comm, Nat.mul_comm _ (p u)]
theorem pc_sum (w : Ln) : ∀ (j d : Nat), ((lay w j).map fun v => pc w j v * cntP d v).sum = cntP (j + d) w
  | 0, d => by simp [lay, pc]
  | j + 1, d => by
    have := pc_sum w j (d + 1)
    rw [show j + 1 + d = j + (d + 1) by omega, ← this]
    exact pcs_sum (cntP d) (pc w j) (lay w (j + 1)) (lay_srt w (j + 1)).nodup (lay w j) fun u hu x hx => (stepL_mem _ _).2 ⟨u, hu, hx⟩
theorem sum_le_of_mem {α : Type} (f : α → Nat) : ∀ {l : List α} {x : α}, x ∈ l → f x ≤ (l.map f).sum
  | a :: l, x, h => by
    rw [List.map_cons, List.sum_cons]
    rcases List.mem_cons.1 h with rfl | h
    · omega
    · have := sum_le_of_mem f h; omega
theorem pc_sum0 (w : Ln) (j : Nat) : ((lay w j).map (pc w j)).sum = cntP j w := by
  have := pc_sum w j 0
  simpa [cntP] using this
theorem pc_le (w : Ln) (j : Nat) {v : Ln} (h : v ∈ lay w j) : pc w j v ≤ cntP j w := by
  rw [← pc_sum0]; exact sum_le_of_mem _ h

/-! ### Lines with one gap -/
def oneGap (w : Ln) : Prop := w.all isSign = true ∧ w.count 46 = 1
theorem flat_one {β : Type} {f : Nat → List β} : ∀ {l : List Nat}, l.Nodup → (∀ i ∈ l, (f i).length ≤ 1) → (∀ i ∈ l, ∀ j ∈ l, f i ≠ [] → f j ≠ [] → i = j) → (l.flatMap f).length ≤ 1
  | [], _, _, _ => by simp
  | a :: l, hn, h1, h2 => by
    rw [List.nodup_cons] at hn
    rw [List.flatMap_cons, List.length_append]
    by_cases e : f a = []
    · rw [e]
      have := flat_one hn.2 (fun i hi => h1 i (by simp [hi])) (fun i hi j hj => h2 i (by simp [hi]) j (by simp [hj]))
      simpa using this
    · have : l.flatMap f = [] := by
        rw [List.flatMap_eq_nil_iff]
        intro j hj
        apply Classical.byContradiction
        intro hne
        have := h2 a (by simp) j (by simp [hj]) e hne
        subst this; exact hn.1 hj
      rw [this]
      have := h1 a (by simp)
      simpa using this
end Go.Proofs.YtejhhdpfndiliaaDoor.Ab

/- PLAIN LAWS of words: in a line with one gap a toad has one move at most, and so a frog. -/
namespace Go.Proofs.YtejhhdpfndiliaaDoor.Ab
open Go

theorem flatMap_sum {α β : Type} (g : β → Nat) (f : α → List β) : ∀ l : List α, ((l.flatMap f).map g).sum = (l.map fun i => ((f i).map g).sum).sum
  | [] => rfl
  | a :: l => by rw [List.flatMap_cons, List.map_append, List.sum_append, flatMap_sum g f l, List.map_cons, List.sum_cons]
theorem has2 (b : UInt8) : hasB [84, 70] b = ((b == 84) || (b == 70)) := by have := hasB_kinds true true b; simpa [kindsS] using this
theorem has84 (b : UInt8) : hasB [84] b = (b == 84) := by have := hasB_kinds true false b; simpa [kindsS] using this
theorem has70 (b : UInt8) : hasB [70] b = (b == 70) := by have := hasB_kinds false true b; simpa [kindsS] using this
theorem moveB_parts (g : Int × Int → Nat) (w : Ln) (i : Nat) : ((moveB w [84, 70] i).map g).sum = ((moveB w [70] i).map g).sum + ((moveB w [84] i).map g).sum := by
  unfold moveB
  rw [has2, has84, has70]
  cases goalB w i with
  | none => rfl
  | some t =>
    simp only
    generalize w.getD i 0 = b
    by_cases h1 : b = 84
    · subst h1; simp
    · by_cases h2 : b = 70
      · subst h2; simp
      · simp [h1, h2]
theorem nx_parts (f : Ln → Nat) (w : Ln) : ((nx w).map f).sum = ((nextB w [70]).map f).sum + ((nextB w [84]).map f).sum := by
  unfold nx nextB movesB
  simp only [List.map_map]
  rw [flatMap_sum, flatMap_sum, flatMap_sum, ← sum_add']
  exact sum_congr fun i _ => moveB_parts _ w i
theorem count_set {b x : UInt8} : ∀ {l : Ln} {i : Nat}, i < l.length → (l.set i b).count x + (if l.getD i 0 = x then 1 else 0) = l.count x + (if b = x then 1 else 0)
  | [], i, h => by simp at h
  | a :: l, 0, _ => by
    simp only [List.set_cons_zero, List.count_cons, List.getD_cons_zero, beq_iff_eq]
    omega
  | a :: l, i + 1, h => by
    have := count_set (b := b) (x := x) (l := l) (i := i) (by simpa using h)
    simp only [List.set_cons_succ, List.count_cons, List.getD_cons_succ]
    omega
theorem Mv.ne {w : Ln} {i t : Nat} (h : Mv w i t) : i ≠ t := by
  obtain ⟨_, _, h3, h4⟩ := h
  rintro rfl
  rcases h4 with ⟨h5, _⟩ | ⟨h5, _⟩ <;> rw [h5] at h3 <;> cases h3
theorem Mv.sign {w : Ln} {i t : Nat} (h : Mv w i t) : w.getD i 0 = 84 ∨ w.getD i 0 = 70 := by
  obtain ⟨_, _, _, h4⟩ := h
  rcases h4 with ⟨h5, _⟩ | ⟨h5, _⟩
  · exact .inl h5
  · exact .inr h5
theorem getD_setL {l : Ln} {i j : Nat} {b : UInt8} (h : i < l.length) : (l.set i b).getD j 0 = if i = j then b else l.getD j 0 := by
  simp only [List.getD_eq_getElem?_getD, List.getElem?_set]
  by_cases e : i = j
  · subst e; simp [h]
  · simp [e]
theorem count_made {w : Ln} {i t : Nat} (h : Mv w i t) : (madeB w i t).count 46 = w.count 46 := by
  have hne := h.ne
  have hs := h.sign
  obtain ⟨h1, h2, h3, h4⟩ := h
  have e1 := count_set (b := w.getD i 0) (x := 46) (l := w) (i := t) h2
  have e2 := count_set (b := 46) (x := 46) (l := w.set t (w.getD i 0)) (i := i) (by simpa using h1)
  rw [getD_setL h2, if_neg (Ne.symm hne)] at e2
  unfold madeB
  have hb : w.getD i 0 ≠ 46 := by rcases hs with h | h <;> rw [h] <;> decide
  rw [h3] at e1
  simp only [if_true, if_neg hb] at e1 e2
  omega
theorem signs_made {w : Ln} {i t : Nat} (h : Mv w i t) (hs : w.all isSign = true) : (madeB w i t).all isSign = true := by
  rw [List.all_eq_true] at hs ⊢
  unfold madeB
  intro x hx
  rcases List.mem_or_eq_of_mem_set hx with hx | rfl
  · rcases List.mem_or_eq_of_mem_set hx with hx | rfl
    · exact hs x hx
    · rcases h.sign with h | h <;> rw [h] <;> rfl
  · rfl
theorem nextB_mv {w kinds v : Ln} (h : v ∈ nextB w kinds) : ∃ i t : Nat, ((i : Int), (t : Int)) ∈ movesB w kinds ∧ Mv w i t ∧ v = madeB w i t := by
  obtain ⟨m, hm, rfl⟩ := List.mem_map.1 h
  obtain ⟨i, t, rfl, hv⟩ := movesB_mv hm
  exact ⟨i, t, hm, hv, by simp⟩
theorem oneGap.next {w kinds v : Ln} (h : oneGap w) (hv : v ∈ nextB w kinds) : oneGap v := by
  obtain ⟨i, t, _, hm, rfl⟩ := nextB_mv hv
  exact ⟨signs_made hm h.1, (count_made hm).trans h.2⟩
theorem count_two {x : UInt8} : ∀ {l : Ln} {i j : Nat}, i < j → l.getD i 0 = x → l.getD j 0 = x → j < l.length → 2 ≤ l.count x
  | [], _, _, _, _, _, h => by simp at h
  | a :: l, 0, j + 1, _, h1, h2, h3 => by
    simp only [List.getD_cons_zero, List.getD_cons_succ] at h1 h2
    subst h1
    have : a ∈ l := by
      have hj : j < l.length := by simpa using h3
      rw [← h2, List.getD_eq_getElem?_getD, List.getElem?_eq_getElem hj]
      simp
    have := List.count_pos_iff.2 this
    simp only [List.count_cons, beq_self_eq_true, if_true]
    omega
  | a :: l, i + 1, j + 1, h, h1, h2, h3 => by
    have := count_two (l := l) (i := i) (j := j) (by omega) (by simpa using h1) (by simpa using h2) (by simpa using h3)
    rw [List.count_cons]; omega
theorem gap_one {w : Ln} (h : w.count 46 = 1) {t t' : Nat} (ht : t < w.length) (ht' : t' < w.length) (h1 : w.getD t 0 = 46) (h2 : w.getD t' 0 = 46) : t = t' := by
  rcases Nat.lt_trichotomy t t' with hl | hl | hl
  · have := count_two hl h1 h2 ht'; omega
  · exact hl
  · have := count_two hl h2 h1 ht; omega
theorem moveB_some {w kinds : Ln} {i : Nat} (hi : i < w.length) (h : moveB w kinds i ≠ []) : ∃ t : Nat, Mv w i t ∧ hasB kinds (w.getD i 0) = true := by
  unfold moveB at h
  cases hg : goalB w i with
  | none => rw [hg] at h; exact absurd rfl h
  | some t =>
    rw [hg] at h
    simp only at h
    obtain ⟨t', rfl, hm⟩ := goalB_mv hi hg
    refine ⟨t', hm, ?_⟩
    cases hk : hasB kinds (w.getD i 0)
    · rw [hk] at h; simp at h
    · rfl
theorem kind_one {w : Ln} (h : oneGap w) {s : UInt8} (hs : s = 84 ∨ s = 70) : (nextB w [s]).length ≤ 1 := by
  unfold nextB movesB
  rw [List.length_map]
  refine flat_one List.nodup_range (fun i _ => moveB_len w [s] i) ?_
  intro i hi j hj h1 h2
  rw [List.mem_range] at hi hj
  obtain ⟨t, ⟨_, a2, a3, a4⟩, ak⟩ := moveB_some hi h1
  obtain ⟨t', ⟨_, b2, b3, b4⟩, bk⟩ := moveB_some hj h2
  obtain rfl := gap_one h.2 a2 b2 a3 b3
  rcases hs with rfl | rfl
  · rw [has84] at ak bk
    have ea := beq_iff_eq.1 ak
    have eb := beq_iff_eq.1 bk
    rcases a4 with ⟨_, a5⟩ | ⟨a6, _⟩
    · rcases b4 with ⟨_, b5⟩ | ⟨b6, _⟩
      · rcases a5 with a5 | ⟨a5, a7⟩ <;> rcases b5 with b5 | ⟨b5, b7⟩
        · omega
        · have : j + 1 = i := by omega
          rw [this, ea] at b7; cases b7
        · have : i + 1 = j := by omega
          rw [this, eb] at a7; cases a7
        · omega
      · rw [eb] at b6; cases b6
    · rw [ea] at a6; cases a6
  · rw [has70] at ak bk
    have ea := beq_iff_eq.1 ak
    have eb := beq_iff_eq.1 bk
    rcases a4 with ⟨a6, _⟩ | ⟨_, a5⟩
    · rw [ea] at a6; cases a6
    · rcases b4 with ⟨b6, _⟩ | ⟨_, b5⟩
      · rw [eb] at b6; cases b6
      · rcases a5 with a5 | ⟨a5, a7⟩ <;> rcases b5 with b5 | ⟨b5, b7⟩
        · omega
        · have : j - 1 = i := by omega
          rw [this, ea] at b7; cases b7
        · have : i - 1 = j := by omega
          rw [this, eb] at a7; cases a7
        · omega
theorem cntP_le : ∀ (j : Nat) {w : Ln}, oneGap w → cntP j w ≤ 2 ^ j
  | 0, _, _ => Nat.le_refl _
  | j + 1, w, h => by
    have part : ∀ {s : UInt8}, s = 84 ∨ s = 70 → ((nextB w [s]).map (cntP j)).sum ≤ 2 ^ j := by
      intro s hs
      have hl := kind_one h hs
      match hn : nextB w [s], hl with
      | [], _ => simp
      | [v], _ =>
        have := cntP_le j (h.next (kinds := [s]) (v := v) (by rw [hn]; simp))
        simpa using this
    unfold cntP
    rw [nx_parts]
    have h1 := part (s := 84) (.inl rfl)
    have h2 := part (s := 70) (.inr rfl)
    rw [Nat.pow_succ]; omega

/-! ### Words -/
def words : Nat → Ln → List Ln
  | 0, _ => [[]]
  | j + 1, w => ((nextB w [70]).flatMap fun v => (words j v).map (70 :: ·)) ++ ((nextB w [84]).flatMap fun v => (words j v).map (84 :: ·))
theorem words_len : ∀ (j : Nat) (w : Ln), (words j w).length = cntP j w
  | 0, _ => rfl
  | j + 1, w => by
    have part : ∀ (s : UInt8) (l : List Ln), (l.flatMap fun v => (words j v).map (s :: ·)).length = (l.map (cntP j)).sum := by
      intro s l
      induction l with
      | nil => rfl
      | cons v l ih => rw [List.flatMap_cons, List.length_append, ih, List.length_map, words_len j v, List.map_cons, List.sum_cons]
    unfold words cntP
    rw [List.length_append, part, part, nx_parts]
theorem cntP_next {j : Nat} {w v s : Ln} (h : v ∈ nextB w s) (hs : s = [84] ∨ s = [70]) : cntP j v ≤ cntP (j + 1) w := by
  show cntP j v ≤ ((nx w).map (cntP j)).sum
  rw [nx_parts]
  rcases hs with rfl | rfl
  · have := sum_le_of_mem (cntP j) h; omega
  · have := sum_le_of_mem (cntP j) h; omega
end Go.Proofs.YtejhhdpfndiliaaDoor.Ab

/- REACHING, the reference's side: texts in order with one more, layers of lines. -/
namespace Go.Proofs.YtejhhdpfndiliaaDoor.Ab
open Go
set_option maxRecDepth 100000
set_option maxHeartbeats 4000000

theorem two_ne : ((2 : Int) = 0) = False := by simp
def fewB (s : Ln) : Bool := goodLine s && decide ((s.length : Int) ≤ 10)
theorem e_reFew (s : Ln) (hs : s.length < 2 ^ 60) {h : AH} {post : AV → AH → Prop} : S 58 [.str s] h post k = post (.bool (fewB s)) h := by
  refine S_eq fun post hp => ?_
  unfold fewB at hp
  refine S_of rfl T58 ?_; unfold fi58
  simp (maxSteps := 1000000) (disch := first | omega | rfl | (simp only [zL, two63, room] <;> omega) | fail) only [↓reduceIte, ↓zP, zW, WOp, evOp, evBin, binI, binSh, binS, evNil, keyIs, keyEq, mkv, AV.cells, AV.sc, optv, bnd, env, put, Env.get, Env.set, Env.del, Env.dels, Env.init, res1, resL, resV, fillP, splice, newRow, Nat.reduceEqDiff, Nat.reduceLT, Nat.reduceLeDiff, Nat.reduceAdd, Nat.reduceMul, Nat.reduceSub, Nat.reduceBEq, reduceCtorEq, ↓zR, zQ, Tr, StA, StT]
  refine c_liGood s hs ?_
  cases e : goodLine s
  · rw [e] at hp
    simp (maxSteps := 1000000) (disch := first | omega | rfl | (simp only [zL, two63, room] <;> omega) | fail) only [↓reduceIte, ↓zP, zW, WOp, evOp, evBin, binI, binSh, binS, evNil, keyIs, keyEq, mkv, AV.cells, AV.sc, optv, bnd, env, put, Env.get, Env.set, Env.del, Env.dels, Env.init, res1, resL, resV, fillP, splice, newRow, Nat.reduceEqDiff, Nat.reduceLT, Nat.reduceLeDiff, Nat.reduceAdd, Nat.reduceMul, Nat.reduceSub, Nat.reduceBEq, reduceCtorEq, ↓zR, zQ, Tr, StA, StT]
    exact hp
  · rw [e] at hp
    simp (maxSteps := 1000000) (disch := first | omega | rfl | (simp only [zL, two63, room] <;> omega) | fail) only [↓reduceIte, ↓zP, zW, WOp, evOp, evBin, binI, binSh, binS, evNil, keyIs, keyEq, mkv, AV.cells, AV.sc, optv, bnd, env, put, Env.get, Env.set, Env.del, Env.dels, Env.init, res1, resL, resV, fillP, splice, newRow, Nat.reduceEqDiff, Nat.reduceLT, Nat.reduceLeDiff, Nat.reduceAdd, Nat.reduceMul, Nat.reduceSub, Nat.reduceBEq, reduceCtorEq, ↓zR, zQ, Tr, StA, StT]
    simpa using hp
end Go.Proofs.YtejhhdpfndiliaaDoor.Ab

/- REACHING, the reference's side: layers of lines. -/
namespace Go.Proofs.YtejhhdpfndiliaaDoor.Ab
open Go
set_option maxRecDepth 100000
set_option maxHeartbeats 4000000

def GoodL (n : Nat) (A : List Ln) : Prop := Srt A ∧ ∀ x ∈ A, x.length = n ∧ x.all isSign = true
theorem GoodL.len {n : Nat} {A : List Ln} (h : GoodL n A) (hn : n ≤ 10) : A.length ≤ 59049 := by
  have := nodup_bound (A := [46, 70, 84]) (n := n) h.1.nodup (fun x hx => ⟨(h.2 x hx).1, fun b hb => by
    have := List.all_eq_true.1 (h.2 x hx).2 b hb
    unfold isSign at this
    simp at this ⊢
    rcases this with h | h
    · rcases h with h | h <;> simp [h]
    · simp [h]⟩)
  exact Nat.le_trans this (Nat.le_trans (Nat.pow_le_pow_right (by simp) hn) (by decide))
theorem GoodL.nil {n : Nat} : GoodL n [] := ⟨List.Pairwise.nil, fun x hx => by simp at hx⟩
theorem GoodL.ins {n : Nat} {A : List Ln} (h : GoodL n A) {x : Ln} (hx : x.length = n ∧ x.all isSign = true) : GoodL n (insS x A) :=
  ⟨insS_srt x h.1, fun y hy => by
    rcases (insS_mem x y A).1 hy with rfl | hy
    · exact hx
    · exact h.2 y hy⟩
theorem GoodL.add {n : Nat} : ∀ {l A : List Ln}, GoodL n A → (∀ x ∈ l, x.length = n ∧ x.all isSign = true) → GoodL n (addS l A)
  | [], _, h, _ => h
  | x :: l, A, h, hx => GoodL.add (l := l) (h.ins (hx x (by simp))) fun y hy => hx y (by simp [hy])
theorem nx_good {w v : Ln} (hg : w.all isSign = true) (h : v ∈ nx w) : v.length = w.length ∧ v.all isSign = true := by
  obtain ⟨i, t, _, hm, rfl⟩ := nextB_mv h
  exact ⟨madeB_length w i t, signs_made hm hg⟩
theorem lay_good {w : Ln} (hg : w.all isSign = true) : ∀ j, GoodL w.length (lay w j)
  | 0 => ⟨lay_srt w 0, fun x hx => by
    simp only [lay, List.mem_singleton] at hx
    subst hx; exact ⟨rfl, hg⟩⟩
  | j + 1 => ⟨lay_srt w _, fun x hx => by
    obtain ⟨u, hu, hv⟩ := (stepL_mem _ _).1 hx
    obtain ⟨h1, h2⟩ := (lay_good hg j).2 u hu
    obtain ⟨h3, h4⟩ := nx_good h2 hv
    exact ⟨h3.trans h1, h4⟩⟩
theorem muF_le (n : Nat) : ∀ (l : Ln) (i : Nat), i + l.length ≤ n → muF n i l ≤ n * l.length
  | [], _, _ => by simp [muF]
  | b :: l, i, h => by
    have := muF_le n l (i + 1) (by simp at h; omega)
    have hb : fmu n i b ≤ n := by
      unfold fmu
      simp at h
      split
      · omega
      · split <;> omega
    simp only [muF, List.length_cons, Nat.mul_add, Nat.mul_one]
    omega
theorem mu_le (w : Ln) (hw : w.length ≤ 10) : mu w ≤ 100 := by
  have := muF_le w.length w 0 (by omega)
  unfold mu
  exact Nat.le_trans this (Nat.mul_le_mul hw hw)
def mkM (w : Ln) (m : Int × Int) : Ln := madeB w m.1.toNat m.2.toNat
theorem nx_eq (w : Ln) : nx w = (movesB w [84, 70]).map (mkM w) := rfl
theorem liM_eq (w : Ln) : liMovesB w true true = movesB w [84, 70] := liMovesB_eq w true true

/-- A value that fills one cell. -/
abbrev SV := {v : AV // v.sc = true}
def encV (x : SV) : List AV := [x.1]
theorem hlV (x : SV) : (encV x).length = 1 := rfl
theorem scV (x : SV) : (encV x).all AV.sc = true := by simp [encV, x.2]
def LL (h : AH) (o : AV) (vs : List SV) (Ls : List (List Ln)) : Prop := vs.length = Ls.length ∧ ∀ (i : Nat) (v : SV) (L : List Ln), vs[i]? = some v → Ls[i]? = some L → Slc 1 encS h v.1 L ∧ ∀ r, rowOf v.1 = some r → rowOf o ≠ some r
theorem Slc.lt {α : Type} {esz : Nat} {enc : α → List AV} {h : AH} {v : AV} {L : List α} (hs : Slc esz enc h v L) {r : Nat} (hr : rowOf v = some r) : r < h.length := by
  cases v <;> simp only [rowOf] at hr <;> try (cases hr; done)
  cases hr
  exact hs.row_lt _ _ _ _ _ rfl
theorem Slc.stay {α : Type} {esz : Nat} {enc : α → List AV} {h h' : AH} {v : AV} {L : List α} (hs : Slc esz enc h v L) (hr : ∀ r, rowOf v = some r → h'[r]? = h[r]?) : Slc esz enc h' v L := by
  unfold Slc Sl at *
  cases v <;> simp only [rowOf] at * <;> first
    | exact hs
    | (obtain ⟨k1, k2, k3, k4⟩ := hs
       refine ⟨k1, k2, k3, ?_⟩
       unfold rdRow at k4 ⊢
       rw [hr _ rfl]; exact k4)
theorem LL.pre {h h' : AH} {o : AV} {vs : List SV} {Ls : List (List Ln)} (hl : LL h o vs Ls) (hp : Pre h h') : LL h' o vs Ls := ⟨hl.1, fun i v L h1 h2 => ⟨(hl.2 i v L h1 h2).1.pre hp, (hl.2 i v L h1 h2).2⟩⟩
/-- Behind an append to the outer slice. -/
theorem LL.app {h h3 : AH} {o o3 : AV} {vs : List SV} {Ls : List (List Ln)} (hl : LL h o vs Ls) {w : SV} {M : List Ln} (hw : Slc 1 encS h w.1 M) (hn : ∀ r, rowOf w.1 = some r → rowOf o ≠ some r)
    (f1 : ∀ i, i < h.length → rowOf o ≠ some i → h3[i]? = h[i]?) (f3 : ∀ r, rowOf o3 = some r → rowOf o = some r ∨ h.length ≤ r) : LL h3 o3 (vs ++ [w]) (Ls ++ [M]) := by
  have one : ∀ {v : SV} {L : List Ln}, Slc 1 encS h v.1 L → (∀ r, rowOf v.1 = some r → rowOf o ≠ some r) → Slc 1 encS h3 v.1 L ∧ ∀ r, rowOf v.1 = some r → rowOf o3 ≠ some r := by
    intro v L hs hd
    refine ⟨hs.stay fun r hr => f1 r (hs.lt hr) (hd r hr), fun r hr e => ?_⟩
    rcases f3 r e with h1 | h1
    · exact hd r hr h1
    · have := hs.lt hr; omega
  refine ⟨by simp [hl.1], fun i u N h1 h2 => ?_⟩
  have h0 := hl.1
  rcases Nat.lt_trichotomy i vs.length with hi | hi | hi
  · rw [List.getElem?_append_left hi] at h1
    rw [List.getElem?_append_left (by omega)] at h2
    obtain ⟨g1, g2⟩ := hl.2 i u N h1 h2
    exact one g1 g2
  · subst hi
    rw [List.getElem?_append_right (Nat.le_refl _)] at h1
    rw [List.getElem?_append_right (by omega), ← h0] at h2
    simp at h1 h2
    subst h1; subst h2; exact one hw hn
  · rw [List.getElem?_eq_none (by simp; omega)] at h1; cases h1
def lays (w : Ln) (n : Nat) : List (List Ln) := (List.range n).map (lay w)
theorem lays_succ (w : Ln) (n : Nat) : lays w (n + 1) = lays w n ++ [lay w n] := by unfold lays; rw [List.range_succ, List.map_append]; rfl
end Go.Proofs.YtejhhdpfndiliaaDoor.Ab

/- WORDS counted by layers: the reference's side. -/
namespace Go.Proofs.YtejhhdpfndiliaaDoor.Ab
open Go
set_option maxRecDepth 100000
set_option maxHeartbeats 4000000

theorem Slc.get {α : Type} {esz : Nat} {enc : α → List AV} (hl : ∀ x, (enc x).length = esz) {h : AH} {v : AV} {L : List α} (hs : Slc esz enc h v L) {i : Nat} (hi : i < L.length) : ∃ c kk off, v = .slice c kk off L.length esz ∧ rdRow h c kk (off + i * esz) esz = some (enc L[i]) := by
  have hsp : L = L.take i ++ L[i] :: L.drop (i + 1) := by rw [← List.drop_eq_getElem_cons, List.take_append_drop]
  have hpl : (L.take i).length = i := by rw [List.length_take]; omega
  have hs' : Slc esz enc h v (L.take i ++ L[i] :: L.drop (i + 1)) := by rw [← hsp]; exact hs
  obtain ⟨c, kk, off, hv, hr⟩ := hs'.at hl
  rw [← hsp] at hv
  rw [hpl] at hr
  exact ⟨c, kk, off, hv, hr⟩
def SlcX {α : Type} (esz : Nat) (enc : α → List AV) (c : Nat) (h : AH) (v : AV) (L : List α) : Prop := Slc esz enc h v L ∧ ∀ r, rowOf v = some r → r ≠ c
theorem SlcX.fr {α : Type} {esz : Nat} {enc : α → List AV} {c : Nat} {h h' : AH} {v : AV} {L : List α} (hs : SlcX esz enc c h v L) (hp : PreX c h h') : SlcX esz enc c h' v L :=
  ⟨hs.1.stay fun r hr => hp.2 r (hs.1.lt hr) (hs.2 r hr), hs.2⟩
theorem Slc.x {α : Type} {esz : Nat} {enc : α → List AV} {c : Nat} {h : AH} {v : AV} {L : List α} (hs : Slc esz enc h v L) (hc : h.length ≤ c) : SlcX esz enc c h v L := ⟨hs, fun r hr => by have := hs.lt hr; omega⟩

theorem pcs_snoc (L : List Ln) (w : Ln) (p : Ln → Nat) (x : Ln) : pcs (L ++ [w]) p x = pcs L p x + (nx w).count x * p w := by simp [pcs]
theorem pcs_mono {L L' : List Ln} (w : Ln) (p : Ln → Nat) (x : Ln) : pcs (L ++ [w]) p x ≤ pcs (L ++ w :: L') p x := by simp [pcs]
theorem rep0_flat (n : Nat) : (List.replicate n [AV.int .i64 0]).flatten = (List.replicate n (0 : Int)).flatMap encI := by
  induction n with
  | zero => rfl
  | succ n ih => rw [List.replicate_succ, List.replicate_succ, List.flatten_cons, List.flatMap_cons, ih]
theorem lays_get {w : Ln} {j n : Nat} (h : j < n) : (lays w n)[j]? = some (lay w j) := by
  unfold lays; rw [List.getElem?_map, List.getElem?_range h]; rfl
theorem words_mem_len : ∀ (j : Nat) (w x : Ln), x ∈ words j w → x.length = j
  | 0, w, x, h => by simp [words] at h; subst h; rfl
  | j + 1, w, x, h => by
    unfold words at h
    rw [List.mem_append] at h
    rcases h with h | h
    all_goals
      obtain ⟨v, _, hv⟩ := List.mem_flatMap.1 h
      obtain ⟨y, hy, rfl⟩ := List.mem_map.1 hv
      rw [List.length_cons, words_mem_len j v y hy]
theorem liB_eq (w : Ln) (tf ff : Bool) : liMovesB w tf ff = movesB w (kindsS tf ff) := liMovesB_eq w tf ff
/-- One kind's part of the words. -/
def part (s : UInt8) (j : Nat) (w : Ln) : List Ln := (nextB w [s]).flatMap fun v => (words j v).map (s :: ·)
theorem words_succ (j : Nat) (w : Ln) : words (j + 1) w = part 70 j w ++ part 84 j w := rfl
end Go.Proofs.YtejhhdpfndiliaaDoor.Ab

/- WORDS counted by the program. -/
namespace Go.Proofs.YtejhhdpfndiliaaDoor.Ab
open Go
set_option maxRecDepth 100000
set_option maxHeartbeats 4000000

def oneB (w : Ln) : Bool := fewB w && ((w.count 46 : Nat) : Int) == 1
theorem fewB_iff {w : Ln} (h : fewB w = true) : w.all isSign = true ∧ 1 ≤ w.length ∧ w.length ≤ 10 := by
  simp only [fewB, goodLine, Bool.and_eq_true, decide_eq_true_eq] at h
  exact ⟨h.1.2, by omega, by omega⟩
theorem oneB_iff {w : Ln} (h : oneB w = true) : oneGap w ∧ w.length ≤ 10 := by
  simp only [oneB, Bool.and_eq_true, beq_iff_eq] at h
  obtain ⟨h1, h2⟩ := h
  obtain ⟨h3, h4, h5⟩ := fewB_iff h1
  exact ⟨⟨h3, by omega⟩, h5⟩
theorem few_eq (s : Ln) : (decide (1 ≤ (s.length : Int) ∧ (s.length : Int) ≤ 10) && s.all isSign) = fewB s := by
  unfold fewB goodLine
  rw [Bool.eq_iff_iff]
  simp only [Bool.and_eq_true, decide_eq_true_eq]
  constructor
  · rintro ⟨h1, h2⟩; exact ⟨⟨by omega, h2⟩, by omega⟩
  · rintro ⟨⟨h1, h2⟩, h3⟩; exact ⟨by omega, h2⟩
theorem e_isReachLine (s : Ln) (hs : s.length < 2 ^ 60) {h : AH} {post : AV → AH → Prop} : S 56 [.str s] h post k = post (.bool (fewB s)) h := by
  refine S_eq fun post hp => ?_
  refine S_of rfl T56 ?_; unfold fi56
  simp (maxSteps := 1000000) (disch := first | omega | rfl | (simp only [zL, two63, room] <;> omega) | fail) only [↓reduceIte, ↓zP, zW, WOp, evOp, evBin, binI, binSh, binS, evNil, keyIs, keyEq, mkv, AV.cells, AV.sc, optv, bnd, env, put, Env.get, Env.set, Env.del, Env.dels, Env.init, res1, resL, resV, fillP, splice, newRow, Nat.reduceEqDiff, Nat.reduceLT, Nat.reduceLeDiff, Nat.reduceAdd, Nat.reduceMul, Nat.reduceSub, Nat.reduceBEq, reduceCtorEq, ↓zR, zQ, Tr, StA, StT]
  refine c_isLineOf s 10 (by omega) hs ?_
  rw [few_eq]
  simp (maxSteps := 1000000) (disch := first | omega | rfl | (simp only [zL, two63, room] <;> omega) | fail) only [↓reduceIte, ↓zP, zW, WOp, evOp, evBin, binI, binSh, binS, evNil, keyIs, keyEq, mkv, AV.cells, AV.sc, optv, bnd, env, put, Env.get, Env.set, Env.del, Env.dels, Env.init, res1, resL, resV, fillP, splice, newRow, Nat.reduceEqDiff, Nat.reduceLT, Nat.reduceLeDiff, Nat.reduceAdd, Nat.reduceMul, Nat.reduceSub, Nat.reduceBEq, reduceCtorEq, ↓zR, zQ, Tr, StA, StT]
  exact hp
theorem cntb (c : UInt8) (s : Ln) : Go.Lib.countByte s c = s.count c := rfl
abbrev OfS := {p : Ln × Nat // p.1.all isSign = true}
def ofK (s : OfS) : Ln := s.1.1 ++ List.replicate s.1.2 33
def ofV (s : OfS) : AV := .int .i64 (cntP s.1.2 s.1.1 : Nat)
theorem ofK_inj (s s' : OfS) (h : ofK s = ofK s') : ofV s = ofV s' := by
  obtain ⟨⟨w, n⟩, hw⟩ := s
  obtain ⟨⟨w', n'⟩, hw'⟩ := s'
  unfold ofK at h
  simp only at h hw hw'
  have key : ∀ {w w' : Ln} {n n' : Nat}, w.all isSign = true → w'.all isSign = true → w ++ List.replicate n 33 = w' ++ List.replicate n' 33 → w = w' ∧ n = n' := by
    intro w
    induction w with
    | nil =>
      intro w' n n' _ h2 h
      cases w' with
      | nil => simpa using h
      | cons b w' =>
        simp only [List.all_cons, Bool.and_eq_true] at h2
        cases n with
        | zero => simp at h
        | succ n =>
          rw [List.replicate_succ] at h
          simp at h
          rw [← h.1] at h2
          exact absurd h2.1 (by decide)
    | cons a w ih =>
      intro w' n n' h1 h2 h
      simp only [List.all_cons, Bool.and_eq_true] at h1
      cases w' with
      | nil =>
        cases n' with
        | zero => simp at h
        | succ n' =>
          rw [List.replicate_succ] at h
          simp at h
          rw [h.1] at h1
          exact absurd h1.1 (by decide)
      | cons b w' =>
        simp only [List.all_cons, Bool.and_eq_true] at h2
        simp only [List.cons_append, List.cons.injEq] at h
        obtain ⟨e1, e2⟩ := ih h1.2 h2.2 h.2
        exact ⟨by rw [h.1, e1], e2⟩
  obtain ⟨rfl, rfl⟩ := key hw hw' h
  rfl
theorem rep33 : ∀ n : Nat, Go.Lib.repeatL [33] n = List.replicate n 33
  | 0 => rfl
  | n + 1 => by rw [Go.Lib.repeatL, rep33 n, List.replicate_succ]; rfl
theorem pow40 {j : Nat} (h : j ≤ 40) : 2 ^ j ≤ 1099511627776 := Nat.le_trans (Nat.pow_le_pow_right (by omega) h) (by decide)
end Go.Proofs.YtejhhdpfndiliaaDoor.Ab

/- PLAIN LAWS: each move turns one pair of neighbours in order: all plays from a line to another have as many moves. -/
namespace Go.Proofs.YtejhhdpfndiliaaDoor.Ab
open Go

def cr (a : UInt8) (l : Ln) : Nat := if a = 84 then l.count 46 + l.count 70 else if a = 46 then l.count 70 else 0
def inv : Ln → Nat
  | [] => 0
  | a :: l => cr a l + inv l
theorem inv_app : ∀ (A l : Ln), inv (A ++ l) = inv A + (A.map fun a => cr a l).sum + inv l
  | [], l => by simp [inv]
  | a :: A, l => by
    have ih := inv_app A l
    have hc : cr a (A ++ l) = cr a A + cr a l := by
      unfold cr
      simp only [List.count_append]
      split
      · omega
      · split <;> omega
    simp only [List.cons_append, inv, List.map_cons, List.sum_cons, ih, hc]
    omega
theorem inv_turn {A l l' : Ln} (h1 : l.count 46 = l'.count 46) (h2 : l.count 70 = l'.count 70) (h3 : inv l = inv l' + 1) : inv (A ++ l) = inv (A ++ l') + 1 := by
  rw [inv_app, inv_app, h3]
  have : (A.map fun a => cr a l).sum = (A.map fun a => cr a l').sum := sum_congr fun a _ => by unfold cr; rw [h1, h2]
  omega
theorem at_split {w : Ln} {i : Nat} (h : i < w.length) : w = w.take i ++ w.getD i 0 :: w.drop (i + 1) := by
  rw [List.getD_eq_getElem?_getD, List.getElem?_eq_getElem h]
  simp only [Option.getD_some]
  rw [← List.drop_eq_getElem_cons, List.take_append_drop]
theorem split2 {w : Ln} {i : Nat} (h : i + 1 < w.length) : ∃ A B, A.length = i ∧ w = A ++ w.getD i 0 :: w.getD (i + 1) 0 :: B := by
  refine ⟨w.take i, w.drop (i + 2), by simp; omega, ?_⟩
  have h1 := at_split (w := w) (i := i) (by omega)
  have h2 : w.drop (i + 1) = w.getD (i + 1) 0 :: w.drop (i + 2) := by
    rw [List.drop_eq_getElem_cons h, List.getD_eq_getElem?_getD, List.getElem?_eq_getElem h]; rfl
  rw [← h2]; exact h1
theorem split3 {w : Ln} {i : Nat} (h : i + 2 < w.length) : ∃ A B, A.length = i ∧ w = A ++ w.getD i 0 :: w.getD (i + 1) 0 :: w.getD (i + 2) 0 :: B := by
  obtain ⟨A, B, hA, hw⟩ := split2 (w := w) (i := i) (by omega)
  have h2 : w.drop (i + 2) = w.getD (i + 2) 0 :: w.drop (i + 3) := by
    rw [List.drop_eq_getElem_cons h, List.getD_eq_getElem?_getD, List.getElem?_eq_getElem h]; rfl
  have h3 : w.drop (i + 2) = B := by
    have e := congrArg (List.drop (i + 2)) hw
    have hl : (A ++ [w.getD i 0, w.getD (i + 1) 0]).length = i + 2 := by simp [hA]
    rw [e, show A ++ w.getD i 0 :: w.getD (i + 1) 0 :: B = (A ++ [w.getD i 0, w.getD (i + 1) 0]) ++ B by simp, List.drop_left' hl]
  refine ⟨A, w.drop (i + 3), hA, ?_⟩
  rw [← h2, h3]; exact hw
theorem set_at {A B : Ln} {a b : UInt8} : (A ++ a :: B).set A.length b = A ++ b :: B := by
  rw [List.set_append_right _ _ (Nat.le_refl _), Nat.sub_self, List.set_cons_zero]
theorem set_at1 {A B : Ln} {a b c : UInt8} : (A ++ a :: b :: B).set (A.length + 1) c = A ++ a :: c :: B := by
  rw [List.set_append_right _ _ (by omega), Nat.add_sub_cancel_left, List.set_cons_succ, List.set_cons_zero]
theorem set_at2 {A B : Ln} {a b c d : UInt8} : (A ++ a :: b :: c :: B).set (A.length + 2) d = A ++ a :: b :: d :: B := by
  rw [List.set_append_right _ _ (by omega), Nat.add_sub_cancel_left, List.set_cons_succ, List.set_cons_succ, List.set_cons_zero]
theorem inv_made {w : Ln} {i t : Nat} (h : Mv w i t) : inv w = inv (madeB w i t) + 1 := by
  obtain ⟨h1, h2, h3, h4⟩ := h
  unfold madeB
  rcases h4 with ⟨h5, h6⟩ | ⟨h5, h6⟩
  · rcases h6 with h6 | ⟨h6, h7⟩
    · subst h6
      obtain ⟨A, B, hA, hw⟩ := split2 (w := w) (i := i) h2
      rw [h5, h3] at hw
      rw [h5]
      generalize w = w0 at hw
      subst hw; subst hA
      rw [set_at1, set_at]
      refine inv_turn ?_ ?_ ?_
      · simp
      · simp
      · simp [inv, cr]; omega
    · subst h6
      obtain ⟨A, B, hA, hw⟩ := split3 (w := w) (i := i) h2
      rw [h5, h3, h7] at hw
      rw [h5]
      generalize w = w0 at hw
      subst hw; subst hA
      rw [set_at2, set_at]
      refine inv_turn ?_ ?_ ?_
      · simp
      · simp
      · simp [inv, cr]; omega
  · rcases h6 with h6 | ⟨h6, h7⟩
    · obtain rfl : i = t + 1 := by omega
      obtain ⟨A, B, hA, hw⟩ := split2 (w := w) (i := t) h1
      rw [h5, h3] at hw
      rw [h5]
      generalize w = w0 at hw
      subst hw; subst hA
      rw [set_at, set_at1]
      refine inv_turn ?_ ?_ ?_
      · simp
      · simp
      · simp [inv, cr]; omega
    · obtain rfl : i = t + 2 := by omega
      have e7 : t + 2 - 1 = t + 1 := by omega
      rw [e7] at h7
      obtain ⟨A, B, hA, hw⟩ := split3 (w := w) (i := t) h1
      rw [h5, h3, h7] at hw
      rw [h5]
      generalize w = w0 at hw
      subst hw; subst hA
      rw [set_at, set_at2]
      refine inv_turn ?_ ?_ ?_
      · simp
      · simp
      · simp [inv, cr]; omega
theorem lay_inv {w : Ln} : ∀ (j : Nat) (v : Ln), v ∈ lay w j → inv v + j = inv w
  | 0, v, h => by simp only [lay, List.mem_singleton] at h; subst h; rfl
  | j + 1, v, h => by
    obtain ⟨u, hu, hv⟩ := (stepL_mem _ _).1 h
    obtain ⟨i, t, _, hm, rfl⟩ := nextB_mv hv
    have h1 := lay_inv j u hu
    have h2 := inv_made hm
    omega
theorem lay_one {w v : Ln} {i j : Nat} (h1 : v ∈ lay w i) (h2 : v ∈ lay w j) : i = j := by
  have := lay_inv i v h1
  have := lay_inv j v h2
  omega
end Go.Proofs.YtejhhdpfndiliaaDoor.Ab
