/- Part 4 of the proof of a law of the given program: the rules that it leans on, and what the functions that it reaches answer; the conditions stand with each theorem. -/
import Derived.Laws.RangeString
import Derived.Test.YtnamhjdfegohbaaGreatDoorQ2
set_option linter.unusedSimpArgs false
set_option linter.unusedVariables false
/- TYPED slices: what a slice holds, element by element. -/
namespace Go.Proofs.YtnamhjdfegohbaaGreatDoor.Ab
open Go
set_option maxRecDepth 100000
set_option maxHeartbeats 4000000

section
variable {α : Type} (esz : Nat) (enc : α → List AV)
def Slc (h : AH) (v : AV) (L : List α) : Prop := Sl h esz v L.length (L.flatMap enc)
def OwL (h0 h : AH) (v : AV) (L : List α) : Prop := Own esz h0 h v L.length (L.flatMap enc)
end
section
variable {α : Type} {esz : Nat} {enc : α → List AV}
theorem flat_len (hl : ∀ x, (enc x).length = esz) : ∀ L : List α, (L.flatMap enc).length = L.length * esz
  | [] => by simp
  | x :: L => by rw [List.flatMap_cons, List.length_append, hl, flat_len hl L, List.length_cons, Nat.succ_mul]; omega
theorem flat_at (hl : ∀ x, (enc x).length = esz) (pre : List α) (x : α) (rest : List α) : (((pre ++ x :: rest).flatMap enc).drop (pre.length * esz)).take esz = enc x := by
  rw [List.flatMap_append, List.flatMap_cons, List.drop_left' (flat_len hl pre), List.take_left' (hl x)]
theorem rd_part {h : AH} {c k off n : Nat} {cs : List AV} (hr : rdRow h c k off n = some cs) {o m : Nat} (ho : o + m ≤ n) : rdRow h c k (off + o) m = some ((cs.drop o).take m) := by
  unfold rdRow at hr ⊢
  split at hr
  · rename_i cells ver fl _ hh
    split at hr
    · rename_i hc
      cases hr
      rw [if_pos ⟨hc.1, hc.2.1, by omega⟩, List.drop_take, List.take_take, Nat.min_eq_left (by omega), List.drop_drop]
    · cases hr
  · cases hr
theorem Slc.pre {h h' : AH} (hp : Pre h h') {v : AV} {L : List α} (hs : Slc esz enc h v L) : Slc esz enc h' v L := Sl.pre hp hs
theorem OwL.slc {h0 h : AH} {v : AV} {L : List α} (ho : OwL esz enc h0 h v L) : Slc esz enc h v L := Own.sl ho
theorem OwL.pre {h0 h h' : AH} (hp : Pre h h') {v : AV} {L : List α} (ho : OwL esz enc h0 h v L) : OwL esz enc h0 h' v L := Own.pre hp ho
theorem OwL.old {h0 h1 h : AH} {v : AV} {L : List α} (ho : OwL esz enc h1 h v L) (hp : h0.length ≤ h1.length) : OwL esz enc h0 h v L := by
  unfold OwL Own at ho ⊢
  split at ho
  · exact ho
  · exact ho
  · obtain ⟨h1, h2, h3, h4, h5⟩ := ho; exact ⟨h1, h2, h3, Nat.le_trans hp h4, h5⟩
  · exact ho
theorem Slc.nil {h : AH} : Slc esz enc h .nilS ([] : List α) := ⟨rfl, rfl⟩
theorem Slc.emp {h : AH} : Slc esz enc h .empS ([] : List α) := ⟨rfl, rfl⟩
theorem OwL.nil {h0 h : AH} : OwL esz enc h0 h .nilS ([] : List α) := ⟨rfl, rfl⟩
theorem OwL.emp {h0 h : AH} : OwL esz enc h0 h .empS ([] : List α) := ⟨rfl, rfl⟩
/-- Which slice it is, and what its element is. -/
theorem Slc.at (hl : ∀ x, (enc x).length = esz) {h : AH} {v : AV} {pre : List α} {x : α} {rest : List α} (hs : Slc esz enc h v (pre ++ x :: rest)) : ∃ c kk off, v = .slice c kk off (pre ++ x :: rest).length esz ∧ rdRow h c kk (off + pre.length * esz) esz = some (enc x) := by
  unfold Slc at hs
  cases v <;> simp only [Sl] at hs <;> first
    | (exact hs.elim)
    | (have := hs.1; simp at this; done)
    | skip
  rename_i c kk off len e
  obtain ⟨rfl, rfl, h3, h4⟩ := hs
  refine ⟨c, kk, off, rfl, ?_⟩
  rw [rd_part h4 (by rw [← Nat.succ_mul]; exact Nat.mul_le_mul_right _ (by simp)), flat_at hl]
theorem Slc.rd (hl : ∀ x, (enc x).length = esz) {h : AH} {c kk off n e : Nat} {pre : List α} {x : α} {rest : List α} (hs : Slc esz enc h (.slice c kk off n e) (pre ++ x :: rest)) : rdRow h c kk (off + pre.length * esz) esz = some (enc x) := by
  obtain ⟨c', k', o', he, hr⟩ := hs.at hl
  cases he; exact hr
theorem Slc.all {h : AH} {c kk off n e : Nat} {L : List α} (hs : Slc esz enc h (.slice c kk off n e) L) : n = L.length ∧ e = esz ∧ rdRow h c kk off (n * esz) = some (L.flatMap enc) := by
  unfold Slc at hs
  simp only [Sl] at hs
  obtain ⟨h1, h2, _, h4⟩ := hs
  exact ⟨h2, h1, by rw [h2]; exact h4⟩
theorem Slc.lenV {h : AH} {v : AV} {L : List α} (hs : Slc esz enc h v L) {g : AH} {ρ : Opd → AV} {x : Opd} (hx : ρ x = v) : evOp noCall ρ g (.lenV x) = some (.int .i64 L.length, g) := by
  unfold Slc at hs
  simp only [evOp, hx]
  cases v <;> simp only [Sl] at hs <;> first
    | (exact hs.elim)
    | (have := hs.1; simp only [this]; rfl)
    | (obtain ⟨_, rfl, _⟩ := hs; rfl)
theorem Slc.cases {h : AH} {v : AV} {L : List α} (hs : Slc esz enc h v L) : (v = .nilS ∧ L = []) ∨ (v = .empS ∧ L = []) ∨ ∃ c kk off, v = .slice c kk off L.length esz := by
  unfold Slc at hs
  cases v <;> simp only [Sl] at hs <;> first
    | (exact hs.elim)
    | (obtain ⟨h1, _⟩ := hs; exact .inl ⟨rfl, List.eq_nil_of_length_eq_zero h1⟩)
    | (obtain ⟨h1, _⟩ := hs; exact .inr (.inl ⟨rfl, List.eq_nil_of_length_eq_zero h1⟩))
    | (obtain ⟨rfl, rfl, _⟩ := hs; exact .inr (.inr ⟨_, _, _, rfl⟩))
/-- append of one element. -/
theorem apL (hl : ∀ x, (enc x).length = esz) (hsc : ∀ x, (enc x).all AV.sc = true) {h0 h : AH} {v : AV} {L : List α} (ho : OwL esz enc h0 h v L) (hp : Pre h0 h) (x : α) (hr : L.length + 1 ≤ 1099511627776) :
    ∃ v' h', apRow h esz v 1 (enc x) = some (v', h') ∧ OwL esz enc h0 h' v' (L ++ [x]) ∧ Pre h0 h' := by
  obtain ⟨v', h', h1, h2, h3⟩ := ap_own ho hp (q := 1) (vs := enc x) (by rw [hl]; omega) (hsc x) hr
  refine ⟨v', h', h1, ?_, h3⟩
  unfold OwL
  rw [List.length_append, List.flatMap_append]
  simpa using h2
end
/-- Two heaps agree below n. -/
def Ag (n : Nat) (h h' : AH) : Prop := h.length ≤ h'.length ∧ ∀ i, i < n → h'[i]? = h[i]?
theorem Ag.refl (n : Nat) (h : AH) : Ag n h h := ⟨Nat.le_refl _, fun _ _ => rfl⟩
theorem Ag.trans {n : Nat} {a b c : AH} (x : Ag n a b) (y : Ag n b c) : Ag n a c := ⟨Nat.le_trans x.1 y.1, fun i hi => by rw [y.2 i hi, x.2 i hi]⟩
theorem Pre.ag {h h' : AH} (hp : Pre h h') {n : Nat} (hn : n ≤ h.length) : Ag n h h' := ⟨hp.1, fun i hi => hp.2 i (Nat.lt_of_lt_of_le hi hn)⟩
theorem Ag.pre {h h' : AH} {n : Nat} (ha : Ag n h h') (hn : h.length ≤ n) : Pre h h' := ⟨ha.1, fun i hi => ha.2 i (Nat.lt_of_lt_of_le hi hn)⟩
theorem Ag.mono {h h' : AH} {n m : Nat} (ha : Ag n h h') (hn : m ≤ n) : Ag m h h' := ⟨ha.1, fun i hi => ha.2 i (Nat.lt_of_lt_of_le hi hn)⟩
theorem Ag.set {h h' : AH} {n c : Nat} {o : AO} (ha : Ag n h h') (hc : n ≤ c) : Ag n h (h'.set c o) := ⟨by simpa using ha.1, fun i hi => by rw [List.getElem?_set, if_neg (by omega)]; exact ha.2 i hi⟩
theorem Pre.trans' {a b c : AH} (x : Pre a b) (y : Ag a.length b c) : Pre a c := ⟨Nat.le_trans x.1 y.1, fun i hi => by rw [y.2 i hi, x.2 i hi]⟩
/-- append to a slice of one's own: what lies below is as it was. -/
theorem ap_ag {esz : Nat} {b h : AH} {v : AV} {n : Nat} {cs : List AV} (ho : Own esz b h v n cs) (hb : b.length ≤ h.length) {q : Nat} {vs : List AV} (hq : q * esz = vs.length) (hsc : vs.all AV.sc = true) (hroom : n + q ≤ room) :
    ∃ v' h', apRow h esz v q vs = some (v', h') ∧ Own esz b h' v' (n + q) (cs ++ vs) ∧ Ag b.length h h' := by
  have ho' : Own esz (h.take b.length) h v n cs := by
    unfold Own at ho ⊢
    cases v <;> simp only at ho ⊢ <;> first
      | exact ho
      | (obtain ⟨h1, h2, h3, h4, h5⟩ := ho; exact ⟨h1, h2, h3, by simp; omega, h5⟩)
  have hp : Pre (h.take b.length) h := ⟨by simp; omega, fun i hi => by simp at hi; rw [List.getElem?_take, if_pos (by omega)]⟩
  obtain ⟨v', h', h1, h2, h3⟩ := ap_own ho' hp hq hsc hroom
  refine ⟨v', h', h1, ?_, ?_, ?_⟩
  · unfold Own at h2 ⊢
    cases v' <;> simp only at h2 ⊢ <;> first
      | exact h2
      | (obtain ⟨k1, k2, k3, k4, k5⟩ := h2; exact ⟨k1, k2, k3, by simp at k4; omega, k5⟩)
  · unfold apRow at h1
    cases v <;> simp only [apRow1] at h1 <;> first
      | (cases h1; done)
      | (split at h1
         · cases h1; exact Nat.le_refl _
         · split at h1
           · simp only [newRow, hsc, if_true, Option.map_some, Option.some.injEq, Prod.mk.injEq] at h1
             obtain ⟨_, rfl⟩ := h1; simp
           · cases h1)
      | (split at h1
         · split at h1
           · cases h1; simp
           · split at h1
             · cases h1; simp
             · cases h1
         · cases h1)
  · intro i hi
    have := h3.2 i (by simp; omega)
    rw [this, List.getElem?_take, if_pos hi]
section
variable {α : Type} {esz : Nat} {enc : α → List AV}
theorem apA (hl : ∀ x, (enc x).length = esz) (hsc : ∀ x, (enc x).all AV.sc = true) {b h : AH} {v : AV} {L : List α} (ho : OwL esz enc b h v L) (hb : b.length ≤ h.length) (x : α) (hr : L.length + 1 ≤ 1099511627776) :
    ∃ v' h', apRow h esz v 1 (enc x) = some (v', h') ∧ OwL esz enc b h' v' (L ++ [x]) ∧ Ag b.length h h' := by
  obtain ⟨v', h', h1, h2, h3⟩ := ap_ag ho hb (q := 1) (vs := enc x) (by rw [hl]; omega) (hsc x) hr
  refine ⟨v', h', h1, ?_, h3⟩
  unfold OwL
  rw [List.length_append, List.flatMap_append]
  simpa using h2
end
/-- A store into a slice of one's own. -/
theorem OwL.store {α : Type} {esz : Nat} {enc : α → List AV} (hl : ∀ x, (enc x).length = esz) (hsc : ∀ x, (enc x).all AV.sc = true) {b h : AH} {v : AV} {pre : List α} {x : α} {rest : List α} (ho : OwL esz enc b h v (pre ++ x :: rest)) (y : α) :
    ∃ c kk off h', v = .slice c kk off (pre ++ x :: rest).length esz ∧ wrRow h c kk (off + pre.length * esz) (enc y) = some h' ∧ OwL esz enc b h' v (pre ++ y :: rest) ∧ b.length ≤ c ∧ h'.length = h.length ∧ ∀ i, i ≠ c → h'[i]? = h[i]? := by
  unfold OwL Own at ho
  cases v <;> simp only at ho <;> first
    | (exact ho.elim)
    | (have := ho.1; simp at this; done)
    | skip
  rename_i c kk off len e
  obtain ⟨rfl, rfl, h3, h4, cells, fl, h5, h6, h7, h8⟩ := ho
  have hlt := (List.getElem?_eq_some_iff.1 h5).1
  have hn : (pre ++ x :: rest).length * e = pre.length * e + e + rest.length * e := by
    simp only [List.length_append, List.length_cons, Nat.add_mul, Nat.one_mul]; try omega
  have hf : (pre ++ x :: rest).flatMap enc = pre.flatMap enc ++ (enc x ++ rest.flatMap enc) := by simp
  have hf2 : (pre ++ y :: rest).flatMap enc = pre.flatMap enc ++ (enc y ++ rest.flatMap enc) := by simp
  have hpl := flat_len hl pre
  refine ⟨c, kk, off, h.set c (.row (splice cells (off + pre.length * e) (enc y)) kk kk false), rfl, ?_, ?_, h4, by simp, fun i hi => by rw [List.getElem?_set, if_neg (Ne.symm hi)]⟩
  · unfold wrRow
    rw [h5]
    simp only
    rw [if_pos ⟨trivial, h6, by rw [hl]; omega, hsc y⟩]
  · unfold OwL Own
    simp only
    have hsl : (splice cells (off + pre.length * e) (enc y)).length = cells.length := by
      unfold splice
      simp only [List.length_append, List.length_take, List.length_drop, hl]
      omega
    refine ⟨trivial, by simp, by (rw [flat_len hl]; try simp), h4, _, kk, by rw [List.getElem?_set, if_pos rfl, if_pos hlt], Nat.le_refl _, by rw [hsl]; simp at h7 ⊢; omega, ?_⟩
    unfold splice
    rw [List.append_assoc, List.drop_append_of_le_length (by simp; omega), List.drop_take, h8, hf, hf2, hl]
    rw [show off + pre.length * e - off = pre.length * e by omega, List.take_left' hpl]
    congr 2
    have : cells.drop (off + pre.length * e + e) = (cells.drop off).drop (pre.length * e + e) := by rw [List.drop_drop]; congr 1; omega
    rw [this, h8, hf, ← List.drop_drop, List.drop_left' hpl, List.drop_left' (hl x)]
/-- An iterator moves on: slices stay. -/
theorem own_set {esz : Nat} {b h : AH} {v : AV} {n : Nat} {cs : List AV} (ho : Own esz b h v n cs) {c : Nat} {o : AO} (hc : c < b.length) : Own esz b (h.set c o) v n cs := by
  unfold Own at ho ⊢
  cases v <;> simp only at ho ⊢ <;> first
    | exact ho
    | (obtain ⟨h1, h2, h3, h4, cells, fl, h5, h6⟩ := ho
       exact ⟨h1, h2, h3, h4, cells, fl, by rw [List.getElem?_set, if_neg (by omega)]; exact h5, h6⟩)
theorem own_iter {esz : Nat} {b h : AH} {v : AV} {n : Nat} {cs : List AV} (ho : Own esz b h v n cs) {c : Nat} {o : AO} {s : List UInt8} {p : Nat} (hc : h[c]? = some (.iter s p)) : Own esz b (h.set c o) v n cs := by
  unfold Own at ho ⊢
  cases v <;> simp only at ho ⊢ <;> first
    | exact ho
    | (obtain ⟨h1, h2, h3, h4, cells, fl, h5, h6⟩ := ho
       refine ⟨h1, h2, h3, h4, cells, fl, ?_, h6⟩
       rw [List.getElem?_set, if_neg]
       · exact h5
       · rintro rfl
         rw [hc] at h5; cases h5)
theorem own_base {esz : Nat} {b b' h : AH} {v : AV} {n : Nat} {cs : List AV} (ho : Own esz b h v n cs) (hb : b'.length ≤ b.length) : Own esz b' h v n cs := by
  unfold Own at ho ⊢
  cases v <;> simp only at ho ⊢ <;> first
    | exact ho
    | (obtain ⟨h1, h2, h3, h4, h5⟩ := ho; exact ⟨h1, h2, h3, Nat.le_trans hb h4, h5⟩)
abbrev encS (s : List UInt8) : List AV := [.str s]
abbrev encI (n : Int) : List AV := [.int .i64 n]
abbrev encB (b : Bool) : List AV := [.bool b]
abbrev encM (m : Int × Int) : List AV := [.int .i64 m.1, .int .i64 m.2]
abbrev encC (c : Int × Int × Int) : List AV := [.int .i64 c.1, .int .i64 c.2.1, .int .i64 c.2.2]
theorem hlS (s : List UInt8) : (encS s).length = 1 := rfl
theorem hlI (s : Int) : (encI s).length = 1 := rfl
theorem hlB (s : Bool) : (encB s).length = 1 := rfl
theorem hlM (s : Int × Int) : (encM s).length = 2 := rfl
theorem hlC (s : Int × Int × Int) : (encC s).length = 3 := rfl
theorem scS (s : List UInt8) : (encS s).all AV.sc = true := rfl
theorem scI (s : Int) : (encI s).all AV.sc = true := rfl
theorem scB (s : Bool) : (encB s).all AV.sc = true := rfl
theorem scM (s : Int × Int) : (encM s).all AV.sc = true := rfl
theorem scC (s : Int × Int × Int) : (encC s).all AV.sc = true := rfl
/-- All old rows but one are as they were. -/
def PreX (c : Nat) (h h' : AH) : Prop := h.length ≤ h'.length ∧ ∀ i, i < h.length → i ≠ c → h'[i]? = h[i]?
theorem Pre.x {h h' : AH} (hp : Pre h h') (c : Nat) : PreX c h h' := ⟨hp.1, fun i hi _ => hp.2 i hi⟩
theorem PreX.trans {c : Nat} {h1 h2 h3 : AH} (x : PreX c h1 h2) (y : PreX c h2 h3) : PreX c h1 h3 := ⟨Nat.le_trans x.1 y.1, fun i hi hc => by rw [y.2 i (Nat.lt_of_lt_of_le hi x.1) hc, x.2 i hi hc]⟩
theorem PreX.refl (c : Nat) (h : AH) : PreX c h h := ⟨Nat.le_refl _, fun _ _ _ => rfl⟩
theorem PreX.pre {c : Nat} {h1 h2 : AH} (x : PreX c h1 h2) (hc : h1.length ≤ c) : Pre h1 h2 := ⟨x.1, fun i hi => x.2 i hi (by omega)⟩
theorem PreX.pre2 {c : Nat} {h h2 : AH} {o o' : AO} (x : PreX c (h ++ [o]) h2) (hc : h.length + 1 ≤ c) : Pre h (h2.set h.length o') := by
  have h1 := x.1
  simp at h1
  exact ⟨by simp; omega, fun i hi => by rw [List.getElem?_set, if_neg (by omega), x.2 i (by simp; omega) (by omega), List.getElem?_append_left hi]⟩
theorem PreX.set {c : Nat} {h0 h : AH} {o : AO} (x : PreX c h0 h) : PreX c h0 (h.set c o) := ⟨by simpa using x.1, fun i hi hc => by rw [List.getElem?_set, if_neg (by omega)]; exact x.2 i hi hc⟩
theorem rd_lt {h : AH} {c k off n : Nat} {cs : List AV} (hr : rdRow h c k off n = some cs) : c < h.length := by
  unfold rdRow at hr; split at hr
  · rename_i hh; exact (List.getElem?_eq_some_iff.1 hh).1
  · cases hr
theorem rdRow_prex {h h' : AH} {x : Nat} (hp : PreX x h h') {c k off n : Nat} {cs : List AV} (hc : c ≠ x) (hr : rdRow h c k off n = some cs) : rdRow h' c k off n = some cs := by
  have hlt : c < h.length := by
    unfold rdRow at hr; split at hr
    · rename_i hh; exact (List.getElem?_eq_some_iff.1 hh).1
    · cases hr
  unfold rdRow at hr ⊢
  rw [hp.2 c hlt hc]; exact hr
theorem OwL.slc_prex {α : Type} {esz : Nat} {enc : α → List AV} {h0 h h' : AH} {v : AV} {L : List α} {c : Nat} (ho : OwL esz enc h0 h v L) (hp : PreX c h h') (hc : c < h0.length) : Slc esz enc h' v L := by
  have hs := ho.slc
  unfold OwL Own at ho
  unfold Slc Sl at hs ⊢
  cases v <;> simp only at ho hs ⊢ <;> first
    | exact hs
    | (obtain ⟨h1, h2, h3, h4⟩ := hs
       exact ⟨h1, h2, h3, rdRow_prex hp (by have := ho.2.2.2.1; omega) h4⟩)
end Go.Proofs.YtnamhjdfegohbaaGreatDoor.Ab

/- ARGUMENTS: slices of structs of three integers; a struct of an integer and such a slice. -/
namespace Go.Proofs.YtnamhjdfegohbaaGreatDoor.Ab
open Go Go.RowKit Go.ChangeShapes Go.WideShapes Go.Deep Go.Joins
set_option maxRecDepth 100000

section
variable {H : Type} {enc : TypeId × Value → H} {P : Program}
theorem cell_atA {W : World} {blk off : Nat} {C : Array Value} {ee : TypeId} {fr : Nat × Nat} (h : W.heap[blk]? = some (.cells C ee fr)) (i : Nat) : W.cell? (Addr.add ⟨blk, off, none⟩ i) = C[off + i]? := by
  unfold Addr.add
  split
  · rename_i h0; simp [World.cell?, h, h0]
  · simp [World.cell?, h]
end
end Go.Proofs.YtnamhjdfegohbaaGreatDoor.Ab

/- ARGUMENTS: structs of two integers, slices of them. -/
namespace Go.Proofs.YtnamhjdfegohbaaGreatDoor.Ab
open Go Go.RowKit Go.ChangeShapes Go.WideShapes Go.Deep Go.Joins
set_option maxRecDepth 100000

section
variable {H : Type} {enc : TypeId × Value → H} {P : Program}
end
end Go.Proofs.YtnamhjdfegohbaaGreatDoor.Ab

/- slices.IndexFunc, ContainsFunc and DeleteFunc, by what the function handed on answers. -/
namespace Go.Proofs.YtnamhjdfegohbaaGreatDoor.Ab
open Go
set_option maxRecDepth 100000
set_option maxHeartbeats 4000000

def idxOf {α : Type} (P : α → Bool) (L : List α) : Int := match L.findIdx? P with
  | some i => i
  | none => -1
theorem idxOf_ge {α : Type} (P : α → Bool) (L : List α) : (idxOf P L ≥ 0) = (L.any P = true) := by
  unfold idxOf
  cases h : L.findIdx? P with
  | none => rw [List.findIdx?_eq_none_iff] at h; simp; exact fun x hx => by simpa using h x hx
  | some i =>
    rw [List.findIdx?_eq_some_iff_getElem] at h
    obtain ⟨hi, hp, _⟩ := h
    simp only [ge_iff_le, Int.natCast_nonneg, eq_iff_iff, true_iff, List.any_eq_true]
    exact ⟨_, List.getElem_mem hi, hp⟩
theorem lp_IndexFuncM (f : Nat) (cap : List AV) (P : (Int × Int) → Bool) (I : AH → Prop) {v : AV} {L : List (Int × Int)} (hL : L.length < 2 ^ 40) (hS : ∀ h, I h → Slc 2 encM h v L)
    (hI : ∀ x ∈ L, ∀ h, I h → ∀ post : AV → AH → Prop, (∀ h', I h' → post (.bool (P x)) h') → S f ([.agg (encM x)] ++ cap) h post k) {R : X → Env → AH → Prop} : ∀ (rest pre : List (Int × Int)) (h : AH), L = pre ++ rest → I h →
    (∀ h', I h' → ∀ i, rest.findIdx? P = some i → R .ret [(4, .int .i64 ((pre.length + i : Nat) : Int))] h') → (∀ h', I h' → rest.findIdx? P = none → R (.exit 0) [] h') →
    Cx (.loop lp205_0) [(0, v), (1, .fn f cap), (7, .int .i64 L.length), (8, .int .i64 pre.length)] h R k k
  | [], pre, h, hpre, h0, h1, h2 => by
    subst hpre
    rw [w_loopb (c := lp205_0) (d := lb205_0) rfl]; unfold lb205_0
    simp only [List.append_nil]
    simp (maxSteps := 1000000) (disch := first | omega | rfl | (simp only [zL, two63, room] <;> omega) | fail) only [↓reduceIte, ↓zP, zW, WOp, evOp, evBin, binI, binSh, binS, evNil, keyIs, keyEq, mkv, AV.cells, AV.sc, optv, bnd, env, put, Env.get, Env.set, Env.del, Env.dels, Env.init, res1, resL, resV, fillP, splice, newRow, Nat.reduceEqDiff, Nat.reduceLT, Nat.reduceLeDiff, Nat.reduceAdd, Nat.reduceMul, Nat.reduceSub, Nat.reduceBEq, reduceCtorEq, ↓zR, zQ, Tr, StA, StT]
    exact h2 h h0 rfl
  | x :: rest, pre, h, hpre, h0, h1, h2 => by
    have ih := lp_IndexFuncM f cap P I hL hS hI (R := R) rest (pre ++ [x])
    subst hpre
    obtain ⟨c, kk, off, rfl, hr⟩ := (hS h h0).at hlM
    have hlen : (pre ++ x :: rest).length = pre.length + 1 + rest.length := by simp; omega
    rw [hlen] at ih hL ⊢
    rw [w_loopb (c := lp205_0) (d := lb205_0) rfl]; unfold lb205_0
    have hlt : (pre.length : Int) < ((pre.length + 1 + rest.length : Nat) : Int) := by omega
    simp (maxSteps := 1000000) (disch := first | omega | rfl | (simp only [zL, two63, room] <;> omega) | fail) only [↓reduceIte, ↓zP, zW, WOp, evOp, evBin, binI, binSh, binS, evNil, keyIs, keyEq, mkv, AV.cells, AV.sc, optv, bnd, env, put, Env.get, Env.set, Env.del, Env.dels, Env.init, res1, resL, resV, fillP, splice, newRow, Nat.reduceEqDiff, Nat.reduceLT, Nat.reduceLeDiff, Nat.reduceAdd, Nat.reduceMul, Nat.reduceSub, Nat.reduceBEq, reduceCtorEq, ↓zR, zQ, Tr, StA, StT, hlt, hr, List.length_append]
    refine hI x (by simp) h h0 _ ?_
    intro h' h0'
    cases e : P x
    · have hw : (pre.length : Int) + 1 = ((pre ++ [x]).length : Int) := by simp
      simp (maxSteps := 1000000) (disch := first | omega | rfl | (simp only [zL, two63, room] <;> omega) | fail) only [↓reduceIte, ↓zP, zW, WOp, evOp, evBin, binI, binSh, binS, evNil, keyIs, keyEq, mkv, AV.cells, AV.sc, optv, bnd, env, put, Env.get, Env.set, Env.del, Env.dels, Env.init, res1, resL, resV, fillP, splice, newRow, Nat.reduceEqDiff, Nat.reduceLT, Nat.reduceLeDiff, Nat.reduceAdd, Nat.reduceMul, Nat.reduceSub, Nat.reduceBEq, reduceCtorEq, ↓zR, zQ, Tr, StA, StT, hw]
      rw [w_loopn (c := lp205_0) rfl]
      simp (maxSteps := 1000000) (disch := first | omega | rfl | (simp only [zL, two63, room] <;> omega) | fail) only [↓reduceIte, ↓zP, zW, WOp, evOp, evBin, binI, binSh, binS, evNil, keyIs, keyEq, mkv, AV.cells, AV.sc, optv, bnd, env, put, Env.get, Env.set, Env.del, Env.dels, Env.init, res1, resL, resV, fillP, splice, newRow, Nat.reduceEqDiff, Nat.reduceLT, Nat.reduceLeDiff, Nat.reduceAdd, Nat.reduceMul, Nat.reduceSub, Nat.reduceBEq, reduceCtorEq, ↓zR, zQ, Tr, StA, StT]
      refine ih h' (by simp) h0' ?_ ?_
      · intro h2' h02 i hi
        have := h1 h2' h02 (i + 1) (by rw [List.findIdx?_cons, e]; simp [hi])
        simpa [Nat.add_assoc, Nat.add_comm 1 i] using this
      · intro h2' h02 hi
        exact h2 h2' h02 (by rw [List.findIdx?_cons, e]; simp [hi])
    · simp (maxSteps := 1000000) (disch := first | omega | rfl | (simp only [zL, two63, room] <;> omega) | fail) only [↓reduceIte, ↓zP, zW, WOp, evOp, evBin, binI, binSh, binS, evNil, keyIs, keyEq, mkv, AV.cells, AV.sc, optv, bnd, env, put, Env.get, Env.set, Env.del, Env.dels, Env.init, res1, resL, resV, fillP, splice, newRow, Nat.reduceEqDiff, Nat.reduceLT, Nat.reduceLeDiff, Nat.reduceAdd, Nat.reduceMul, Nat.reduceSub, Nat.reduceBEq, reduceCtorEq, ↓zR, zQ, Tr, StA, StT]
      simpa using h1 h' h0' 0 (by rw [List.findIdx?_cons, e]; simp)
theorem c_IndexFuncM (f : Nat) (cap : List AV) (P : (Int × Int) → Bool) (I : AH → Prop) {v : AV} {L : List (Int × Int)} (hL : L.length < 2 ^ 40) (hS : ∀ h, I h → Slc 2 encM h v L)
    (hI : ∀ x ∈ L, ∀ h, I h → ∀ post : AV → AH → Prop, (∀ h', I h' → post (.bool (P x)) h') → S f ([.agg (encM x)] ++ cap) h post k) {h : AH} (h0 : I h) {post : AV → AH → Prop}
    (hp : ∀ h', I h' → post (.int .i64 (idxOf P L)) h') : S 205 [v, .fn f cap] h post k := by
  refine S_of rfl T205 ?_; unfold fi205
  have hv := fun g => Slc.lenV ((hS h h0)) (g := g) (ρ := fun _ => _) (x := .t 0) rfl; simp only [evOp] at hv
  simp (maxSteps := 1000000) (disch := first | omega | rfl | (simp only [zL, two63, room] <;> omega) | fail) only [↓reduceIte, ↓zP, zW, WOp, evOp, evBin, binI, binSh, binS, evNil, keyIs, keyEq, mkv, AV.cells, AV.sc, optv, bnd, env, put, Env.get, Env.set, Env.del, Env.dels, Env.init, res1, resL, resV, fillP, splice, newRow, Nat.reduceEqDiff, Nat.reduceLT, Nat.reduceLeDiff, Nat.reduceAdd, Nat.reduceMul, Nat.reduceSub, Nat.reduceBEq, reduceCtorEq, ↓zR, zQ, Tr, StA, StT, hv]
  refine lp_IndexFuncM f cap P I hL hS hI L [] h rfl h0 ?_ ?_
  · intro h' h0' i hi
    simp (maxSteps := 1000000) (disch := first | omega | rfl | (simp only [zL, two63, room] <;> omega) | fail) only [↓reduceIte, ↓zP, zW, WOp, evOp, evBin, binI, binSh, binS, evNil, keyIs, keyEq, mkv, AV.cells, AV.sc, optv, bnd, env, put, Env.get, Env.set, Env.del, Env.dels, Env.init, res1, resL, resV, fillP, splice, newRow, Nat.reduceEqDiff, Nat.reduceLT, Nat.reduceLeDiff, Nat.reduceAdd, Nat.reduceMul, Nat.reduceSub, Nat.reduceBEq, reduceCtorEq, ↓zR, zQ, Tr, StA, StT]
    have := hp h' h0'
    unfold idxOf at this
    rw [hi] at this
    simpa using this
  · intro h' h0' hi
    simp (maxSteps := 1000000) (disch := first | omega | rfl | (simp only [zL, two63, room] <;> omega) | fail) only [↓reduceIte, ↓zP, zW, WOp, evOp, evBin, binI, binSh, binS, evNil, keyIs, keyEq, mkv, AV.cells, AV.sc, optv, bnd, env, put, Env.get, Env.set, Env.del, Env.dels, Env.init, res1, resL, resV, fillP, splice, newRow, Nat.reduceEqDiff, Nat.reduceLT, Nat.reduceLeDiff, Nat.reduceAdd, Nat.reduceMul, Nat.reduceSub, Nat.reduceBEq, reduceCtorEq, ↓zR, zQ, Tr, StA, StT]
    have := hp h' h0'
    unfold idxOf at this
    rw [hi] at this
    exact this
theorem c_ContainsFuncM (f : Nat) (cap : List AV) (P : (Int × Int) → Bool) (I : AH → Prop) {v : AV} {L : List (Int × Int)} (hL : L.length < 2 ^ 40) (hS : ∀ h, I h → Slc 2 encM h v L)
    (hI : ∀ x ∈ L, ∀ h, I h → ∀ post : AV → AH → Prop, (∀ h', I h' → post (.bool (P x)) h') → S f ([.agg (encM x)] ++ cap) h post k) {h : AH} (h0 : I h) {post : AV → AH → Prop}
    (hp : ∀ h', I h' → post (.bool (L.any P)) h') : S 202 [v, .fn f cap] h post k := by
  refine S_of rfl T202 ?_; unfold fi202
  simp (maxSteps := 1000000) (disch := first | omega | rfl | (simp only [zL, two63, room] <;> omega) | fail) only [↓reduceIte, ↓zP, zW, WOp, evOp, evBin, binI, binSh, binS, evNil, keyIs, keyEq, mkv, AV.cells, AV.sc, optv, bnd, env, put, Env.get, Env.set, Env.del, Env.dels, Env.init, res1, resL, resV, fillP, splice, newRow, Nat.reduceEqDiff, Nat.reduceLT, Nat.reduceLeDiff, Nat.reduceAdd, Nat.reduceMul, Nat.reduceSub, Nat.reduceBEq, reduceCtorEq, ↓zR, zQ, Tr, StA, StT]
  refine c_IndexFuncM f cap P I hL hS hI h0 ?_
  intro h' h0'
  simp (maxSteps := 1000000) (disch := first | omega | rfl | (simp only [zL, two63, room] <;> omega) | fail) only [↓reduceIte, ↓zP, zW, WOp, evOp, evBin, binI, binSh, binS, evNil, keyIs, keyEq, mkv, AV.cells, AV.sc, optv, bnd, env, put, Env.get, Env.set, Env.del, Env.dels, Env.init, res1, resL, resV, fillP, splice, newRow, Nat.reduceEqDiff, Nat.reduceLT, Nat.reduceLeDiff, Nat.reduceAdd, Nat.reduceMul, Nat.reduceSub, Nat.reduceBEq, reduceCtorEq, ↓zR, zQ, Tr, StA, StT, idxOf_ge]
  have := hp h' h0'
  cases e : L.any P <;> simp only [e] at this ⊢ <;> exact this
theorem lp_IndexFuncC (f : Nat) (cap : List AV) (P : (Int × Int × Int) → Bool) (I : AH → Prop) {v : AV} {L : List (Int × Int × Int)} (hL : L.length < 2 ^ 40) (hS : ∀ h, I h → Slc 3 encC h v L)
    (hI : ∀ x ∈ L, ∀ h, I h → ∀ post : AV → AH → Prop, (∀ h', I h' → post (.bool (P x)) h') → S f ([.agg (encC x)] ++ cap) h post k) {R : X → Env → AH → Prop} : ∀ (rest pre : List (Int × Int × Int)) (h : AH), L = pre ++ rest → I h →
    (∀ h', I h' → ∀ i, rest.findIdx? P = some i → R .ret [(4, .int .i64 ((pre.length + i : Nat) : Int))] h') → (∀ h', I h' → rest.findIdx? P = none → R (.exit 0) [] h') →
    Cx (.loop lp182_0) [(0, v), (1, .fn f cap), (7, .int .i64 L.length), (8, .int .i64 pre.length)] h R k k
  | [], pre, h, hpre, h0, h1, h2 => by
    subst hpre
    rw [w_loopb (c := lp182_0) (d := lb182_0) rfl]; unfold lb182_0
    simp only [List.append_nil]
    simp (maxSteps := 1000000) (disch := first | omega | rfl | (simp only [zL, two63, room] <;> omega) | fail) only [↓reduceIte, ↓zP, zW, WOp, evOp, evBin, binI, binSh, binS, evNil, keyIs, keyEq, mkv, AV.cells, AV.sc, optv, bnd, env, put, Env.get, Env.set, Env.del, Env.dels, Env.init, res1, resL, resV, fillP, splice, newRow, Nat.reduceEqDiff, Nat.reduceLT, Nat.reduceLeDiff, Nat.reduceAdd, Nat.reduceMul, Nat.reduceSub, Nat.reduceBEq, reduceCtorEq, ↓zR, zQ, Tr, StA, StT]
    exact h2 h h0 rfl
  | x :: rest, pre, h, hpre, h0, h1, h2 => by
    have ih := lp_IndexFuncC f cap P I hL hS hI (R := R) rest (pre ++ [x])
    subst hpre
    obtain ⟨c, kk, off, rfl, hr⟩ := (hS h h0).at hlC
    have hlen : (pre ++ x :: rest).length = pre.length + 1 + rest.length := by simp; omega
    rw [hlen] at ih hL ⊢
    rw [w_loopb (c := lp182_0) (d := lb182_0) rfl]; unfold lb182_0
    have hlt : (pre.length : Int) < ((pre.length + 1 + rest.length : Nat) : Int) := by omega
    simp (maxSteps := 1000000) (disch := first | omega | rfl | (simp only [zL, two63, room] <;> omega) | fail) only [↓reduceIte, ↓zP, zW, WOp, evOp, evBin, binI, binSh, binS, evNil, keyIs, keyEq, mkv, AV.cells, AV.sc, optv, bnd, env, put, Env.get, Env.set, Env.del, Env.dels, Env.init, res1, resL, resV, fillP, splice, newRow, Nat.reduceEqDiff, Nat.reduceLT, Nat.reduceLeDiff, Nat.reduceAdd, Nat.reduceMul, Nat.reduceSub, Nat.reduceBEq, reduceCtorEq, ↓zR, zQ, Tr, StA, StT, hlt, hr, List.length_append]
    refine hI x (by simp) h h0 _ ?_
    intro h' h0'
    cases e : P x
    · have hw : (pre.length : Int) + 1 = ((pre ++ [x]).length : Int) := by simp
      simp (maxSteps := 1000000) (disch := first | omega | rfl | (simp only [zL, two63, room] <;> omega) | fail) only [↓reduceIte, ↓zP, zW, WOp, evOp, evBin, binI, binSh, binS, evNil, keyIs, keyEq, mkv, AV.cells, AV.sc, optv, bnd, env, put, Env.get, Env.set, Env.del, Env.dels, Env.init, res1, resL, resV, fillP, splice, newRow, Nat.reduceEqDiff, Nat.reduceLT, Nat.reduceLeDiff, Nat.reduceAdd, Nat.reduceMul, Nat.reduceSub, Nat.reduceBEq, reduceCtorEq, ↓zR, zQ, Tr, StA, StT, hw]
      rw [w_loopn (c := lp182_0) rfl]
      simp (maxSteps := 1000000) (disch := first | omega | rfl | (simp only [zL, two63, room] <;> omega) | fail) only [↓reduceIte, ↓zP, zW, WOp, evOp, evBin, binI, binSh, binS, evNil, keyIs, keyEq, mkv, AV.cells, AV.sc, optv, bnd, env, put, Env.get, Env.set, Env.del, Env.dels, Env.init, res1, resL, resV, fillP, splice, newRow, Nat.reduceEqDiff, Nat.reduceLT, Nat.reduceLeDiff, Nat.reduceAdd, Nat.reduceMul, Nat.reduceSub, Nat.reduceBEq, reduceCtorEq, ↓zR, zQ, Tr, StA, StT]
      refine ih h' (by simp) h0' ?_ ?_
      · intro h2' h02 i hi
        have := h1 h2' h02 (i + 1) (by rw [List.findIdx?_cons, e]; simp [hi])
        simpa [Nat.add_assoc, Nat.add_comm 1 i] using this
      · intro h2' h02 hi
        exact h2 h2' h02 (by rw [List.findIdx?_cons, e]; simp [hi])
    · simp (maxSteps := 1000000) (disch := first | omega | rfl | (simp only [zL, two63, room] <;> omega) | fail) only [↓reduceIte, ↓zP, zW, WOp, evOp, evBin, binI, binSh, binS, evNil, keyIs, keyEq, mkv, AV.cells, AV.sc, optv, bnd, env, put, Env.get, Env.set, Env.del, Env.dels, Env.init, res1, resL, resV, fillP, splice, newRow, Nat.reduceEqDiff, Nat.reduceLT, Nat.reduceLeDiff, Nat.reduceAdd, Nat.reduceMul, Nat.reduceSub, Nat.reduceBEq, reduceCtorEq, ↓zR, zQ, Tr, StA, StT]
      simpa using h1 h' h0' 0 (by rw [List.findIdx?_cons, e]; simp)
theorem c_IndexFuncC (f : Nat) (cap : List AV) (P : (Int × Int × Int) → Bool) (I : AH → Prop) {v : AV} {L : List (Int × Int × Int)} (hL : L.length < 2 ^ 40) (hS : ∀ h, I h → Slc 3 encC h v L)
    (hI : ∀ x ∈ L, ∀ h, I h → ∀ post : AV → AH → Prop, (∀ h', I h' → post (.bool (P x)) h') → S f ([.agg (encC x)] ++ cap) h post k) {h : AH} (h0 : I h) {post : AV → AH → Prop}
    (hp : ∀ h', I h' → post (.int .i64 (idxOf P L)) h') : S 182 [v, .fn f cap] h post k := by
  refine S_of rfl T182 ?_; unfold fi182
  have hv := fun g => Slc.lenV ((hS h h0)) (g := g) (ρ := fun _ => _) (x := .t 0) rfl; simp only [evOp] at hv
  simp (maxSteps := 1000000) (disch := first | omega | rfl | (simp only [zL, two63, room] <;> omega) | fail) only [↓reduceIte, ↓zP, zW, WOp, evOp, evBin, binI, binSh, binS, evNil, keyIs, keyEq, mkv, AV.cells, AV.sc, optv, bnd, env, put, Env.get, Env.set, Env.del, Env.dels, Env.init, res1, resL, resV, fillP, splice, newRow, Nat.reduceEqDiff, Nat.reduceLT, Nat.reduceLeDiff, Nat.reduceAdd, Nat.reduceMul, Nat.reduceSub, Nat.reduceBEq, reduceCtorEq, ↓zR, zQ, Tr, StA, StT, hv]
  refine lp_IndexFuncC f cap P I hL hS hI L [] h rfl h0 ?_ ?_
  · intro h' h0' i hi
    simp (maxSteps := 1000000) (disch := first | omega | rfl | (simp only [zL, two63, room] <;> omega) | fail) only [↓reduceIte, ↓zP, zW, WOp, evOp, evBin, binI, binSh, binS, evNil, keyIs, keyEq, mkv, AV.cells, AV.sc, optv, bnd, env, put, Env.get, Env.set, Env.del, Env.dels, Env.init, res1, resL, resV, fillP, splice, newRow, Nat.reduceEqDiff, Nat.reduceLT, Nat.reduceLeDiff, Nat.reduceAdd, Nat.reduceMul, Nat.reduceSub, Nat.reduceBEq, reduceCtorEq, ↓zR, zQ, Tr, StA, StT]
    have := hp h' h0'
    unfold idxOf at this
    rw [hi] at this
    simpa using this
  · intro h' h0' hi
    simp (maxSteps := 1000000) (disch := first | omega | rfl | (simp only [zL, two63, room] <;> omega) | fail) only [↓reduceIte, ↓zP, zW, WOp, evOp, evBin, binI, binSh, binS, evNil, keyIs, keyEq, mkv, AV.cells, AV.sc, optv, bnd, env, put, Env.get, Env.set, Env.del, Env.dels, Env.init, res1, resL, resV, fillP, splice, newRow, Nat.reduceEqDiff, Nat.reduceLT, Nat.reduceLeDiff, Nat.reduceAdd, Nat.reduceMul, Nat.reduceSub, Nat.reduceBEq, reduceCtorEq, ↓zR, zQ, Tr, StA, StT]
    have := hp h' h0'
    unfold idxOf at this
    rw [hi] at this
    exact this
theorem c_ContainsFuncC (f : Nat) (cap : List AV) (P : (Int × Int × Int) → Bool) (I : AH → Prop) {v : AV} {L : List (Int × Int × Int)} (hL : L.length < 2 ^ 40) (hS : ∀ h, I h → Slc 3 encC h v L)
    (hI : ∀ x ∈ L, ∀ h, I h → ∀ post : AV → AH → Prop, (∀ h', I h' → post (.bool (P x)) h') → S f ([.agg (encC x)] ++ cap) h post k) {h : AH} (h0 : I h) {post : AV → AH → Prop}
    (hp : ∀ h', I h' → post (.bool (L.any P)) h') : S 177 [v, .fn f cap] h post k := by
  refine S_of rfl T177 ?_; unfold fi177
  simp (maxSteps := 1000000) (disch := first | omega | rfl | (simp only [zL, two63, room] <;> omega) | fail) only [↓reduceIte, ↓zP, zW, WOp, evOp, evBin, binI, binSh, binS, evNil, keyIs, keyEq, mkv, AV.cells, AV.sc, optv, bnd, env, put, Env.get, Env.set, Env.del, Env.dels, Env.init, res1, resL, resV, fillP, splice, newRow, Nat.reduceEqDiff, Nat.reduceLT, Nat.reduceLeDiff, Nat.reduceAdd, Nat.reduceMul, Nat.reduceSub, Nat.reduceBEq, reduceCtorEq, ↓zR, zQ, Tr, StA, StT]
  refine c_IndexFuncC f cap P I hL hS hI h0 ?_
  intro h' h0'
  simp (maxSteps := 1000000) (disch := first | omega | rfl | (simp only [zL, two63, room] <;> omega) | fail) only [↓reduceIte, ↓zP, zW, WOp, evOp, evBin, binI, binSh, binS, evNil, keyIs, keyEq, mkv, AV.cells, AV.sc, optv, bnd, env, put, Env.get, Env.set, Env.del, Env.dels, Env.init, res1, resL, resV, fillP, splice, newRow, Nat.reduceEqDiff, Nat.reduceLT, Nat.reduceLeDiff, Nat.reduceAdd, Nat.reduceMul, Nat.reduceSub, Nat.reduceBEq, reduceCtorEq, ↓zR, zQ, Tr, StA, StT, idxOf_ge]
  have := hp h' h0'
  cases e : L.any P <;> simp only [e] at this ⊢ <;> exact this
theorem lp_IndexFuncS (f : Nat) (cap : List AV) (P : (List UInt8) → Bool) (I : AH → Prop) {v : AV} {L : List (List UInt8)} (hL : L.length < 2 ^ 40) (hS : ∀ h, I h → Slc 1 encS h v L)
    (hI : ∀ x ∈ L, ∀ h, I h → ∀ post : AV → AH → Prop, (∀ h', I h' → post (.bool (P x)) h') → S f ([.str x] ++ cap) h post k) {R : X → Env → AH → Prop} : ∀ (rest pre : List (List UInt8)) (h : AH), L = pre ++ rest → I h →
    (∀ h', I h' → ∀ i, rest.findIdx? P = some i → R .ret [(4, .int .i64 ((pre.length + i : Nat) : Int))] h') → (∀ h', I h' → rest.findIdx? P = none → R (.exit 0) [] h') →
    Cx (.loop lp184_0) [(0, v), (1, .fn f cap), (7, .int .i64 L.length), (8, .int .i64 pre.length)] h R k k
  | [], pre, h, hpre, h0, h1, h2 => by
    subst hpre
    rw [w_loopb (c := lp184_0) (d := lb184_0) rfl]; unfold lb184_0
    simp only [List.append_nil]
    simp (maxSteps := 1000000) (disch := first | omega | rfl | (simp only [zL, two63, room] <;> omega) | fail) only [↓reduceIte, ↓zP, zW, WOp, evOp, evBin, binI, binSh, binS, evNil, keyIs, keyEq, mkv, AV.cells, AV.sc, optv, bnd, env, put, Env.get, Env.set, Env.del, Env.dels, Env.init, res1, resL, resV, fillP, splice, newRow, Nat.reduceEqDiff, Nat.reduceLT, Nat.reduceLeDiff, Nat.reduceAdd, Nat.reduceMul, Nat.reduceSub, Nat.reduceBEq, reduceCtorEq, ↓zR, zQ, Tr, StA, StT]
    exact h2 h h0 rfl
  | x :: rest, pre, h, hpre, h0, h1, h2 => by
    have ih := lp_IndexFuncS f cap P I hL hS hI (R := R) rest (pre ++ [x])
    subst hpre
    obtain ⟨c, kk, off, rfl, hr⟩ := (hS h h0).at hlS
    have hlen : (pre ++ x :: rest).length = pre.length + 1 + rest.length := by simp; omega
    rw [hlen] at ih hL ⊢
    rw [w_loopb (c := lp184_0) (d := lb184_0) rfl]; unfold lb184_0
    have hlt : (pre.length : Int) < ((pre.length + 1 + rest.length : Nat) : Int) := by omega
    simp (maxSteps := 1000000) (disch := first | omega | rfl | (simp only [zL, two63, room] <;> omega) | fail) only [↓reduceIte, ↓zP, zW, WOp, evOp, evBin, binI, binSh, binS, evNil, keyIs, keyEq, mkv, AV.cells, AV.sc, optv, bnd, env, put, Env.get, Env.set, Env.del, Env.dels, Env.init, res1, resL, resV, fillP, splice, newRow, Nat.reduceEqDiff, Nat.reduceLT, Nat.reduceLeDiff, Nat.reduceAdd, Nat.reduceMul, Nat.reduceSub, Nat.reduceBEq, reduceCtorEq, ↓zR, zQ, Tr, StA, StT, hlt, hr, List.length_append]
    refine hI x (by simp) h h0 _ ?_
    intro h' h0'
    cases e : P x
    · have hw : (pre.length : Int) + 1 = ((pre ++ [x]).length : Int) := by simp
      simp (maxSteps := 1000000) (disch := first | omega | rfl | (simp only [zL, two63, room] <;> omega) | fail) only [↓reduceIte, ↓zP, zW, WOp, evOp, evBin, binI, binSh, binS, evNil, keyIs, keyEq, mkv, AV.cells, AV.sc, optv, bnd, env, put, Env.get, Env.set, Env.del, Env.dels, Env.init, res1, resL, resV, fillP, splice, newRow, Nat.reduceEqDiff, Nat.reduceLT, Nat.reduceLeDiff, Nat.reduceAdd, Nat.reduceMul, Nat.reduceSub, Nat.reduceBEq, reduceCtorEq, ↓zR, zQ, Tr, StA, StT, hw]
      rw [w_loopn (c := lp184_0) rfl]
      simp (maxSteps := 1000000) (disch := first | omega | rfl | (simp only [zL, two63, room] <;> omega) | fail) only [↓reduceIte, ↓zP, zW, WOp, evOp, evBin, binI, binSh, binS, evNil, keyIs, keyEq, mkv, AV.cells, AV.sc, optv, bnd, env, put, Env.get, Env.set, Env.del, Env.dels, Env.init, res1, resL, resV, fillP, splice, newRow, Nat.reduceEqDiff, Nat.reduceLT, Nat.reduceLeDiff, Nat.reduceAdd, Nat.reduceMul, Nat.reduceSub, Nat.reduceBEq, reduceCtorEq, ↓zR, zQ, Tr, StA, StT]
      refine ih h' (by simp) h0' ?_ ?_
      · intro h2' h02 i hi
        have := h1 h2' h02 (i + 1) (by rw [List.findIdx?_cons, e]; simp [hi])
        simpa [Nat.add_assoc, Nat.add_comm 1 i] using this
      · intro h2' h02 hi
        exact h2 h2' h02 (by rw [List.findIdx?_cons, e]; simp [hi])
    · simp (maxSteps := 1000000) (disch := first | omega | rfl | (simp only [zL, two63, room] <;> omega) | fail) only [↓reduceIte, ↓zP, zW, WOp, evOp, evBin, binI, binSh, binS, evNil, keyIs, keyEq, mkv, AV.cells, AV.sc, optv, bnd, env, put, Env.get, Env.set, Env.del, Env.dels, Env.init, res1, resL, resV, fillP, splice, newRow, Nat.reduceEqDiff, Nat.reduceLT, Nat.reduceLeDiff, Nat.reduceAdd, Nat.reduceMul, Nat.reduceSub, Nat.reduceBEq, reduceCtorEq, ↓zR, zQ, Tr, StA, StT]
      simpa using h1 h' h0' 0 (by rw [List.findIdx?_cons, e]; simp)
theorem c_IndexFuncS (f : Nat) (cap : List AV) (P : (List UInt8) → Bool) (I : AH → Prop) {v : AV} {L : List (List UInt8)} (hL : L.length < 2 ^ 40) (hS : ∀ h, I h → Slc 1 encS h v L)
    (hI : ∀ x ∈ L, ∀ h, I h → ∀ post : AV → AH → Prop, (∀ h', I h' → post (.bool (P x)) h') → S f ([.str x] ++ cap) h post k) {h : AH} (h0 : I h) {post : AV → AH → Prop}
    (hp : ∀ h', I h' → post (.int .i64 (idxOf P L)) h') : S 184 [v, .fn f cap] h post k := by
  refine S_of rfl T184 ?_; unfold fi184
  have hv := fun g => Slc.lenV ((hS h h0)) (g := g) (ρ := fun _ => _) (x := .t 0) rfl; simp only [evOp] at hv
  simp (maxSteps := 1000000) (disch := first | omega | rfl | (simp only [zL, two63, room] <;> omega) | fail) only [↓reduceIte, ↓zP, zW, WOp, evOp, evBin, binI, binSh, binS, evNil, keyIs, keyEq, mkv, AV.cells, AV.sc, optv, bnd, env, put, Env.get, Env.set, Env.del, Env.dels, Env.init, res1, resL, resV, fillP, splice, newRow, Nat.reduceEqDiff, Nat.reduceLT, Nat.reduceLeDiff, Nat.reduceAdd, Nat.reduceMul, Nat.reduceSub, Nat.reduceBEq, reduceCtorEq, ↓zR, zQ, Tr, StA, StT, hv]
  refine lp_IndexFuncS f cap P I hL hS hI L [] h rfl h0 ?_ ?_
  · intro h' h0' i hi
    simp (maxSteps := 1000000) (disch := first | omega | rfl | (simp only [zL, two63, room] <;> omega) | fail) only [↓reduceIte, ↓zP, zW, WOp, evOp, evBin, binI, binSh, binS, evNil, keyIs, keyEq, mkv, AV.cells, AV.sc, optv, bnd, env, put, Env.get, Env.set, Env.del, Env.dels, Env.init, res1, resL, resV, fillP, splice, newRow, Nat.reduceEqDiff, Nat.reduceLT, Nat.reduceLeDiff, Nat.reduceAdd, Nat.reduceMul, Nat.reduceSub, Nat.reduceBEq, reduceCtorEq, ↓zR, zQ, Tr, StA, StT]
    have := hp h' h0'
    unfold idxOf at this
    rw [hi] at this
    simpa using this
  · intro h' h0' hi
    simp (maxSteps := 1000000) (disch := first | omega | rfl | (simp only [zL, two63, room] <;> omega) | fail) only [↓reduceIte, ↓zP, zW, WOp, evOp, evBin, binI, binSh, binS, evNil, keyIs, keyEq, mkv, AV.cells, AV.sc, optv, bnd, env, put, Env.get, Env.set, Env.del, Env.dels, Env.init, res1, resL, resV, fillP, splice, newRow, Nat.reduceEqDiff, Nat.reduceLT, Nat.reduceLeDiff, Nat.reduceAdd, Nat.reduceMul, Nat.reduceSub, Nat.reduceBEq, reduceCtorEq, ↓zR, zQ, Tr, StA, StT]
    have := hp h' h0'
    unfold idxOf at this
    rw [hi] at this
    exact this
end Go.Proofs.YtnamhjdfegohbaaGreatDoor.Ab

/- slices.DeleteFunc on texts. -/
namespace Go.Proofs.YtnamhjdfegohbaaGreatDoor.Ab
open Go
set_option maxRecDepth 100000
set_option maxHeartbeats 4000000

/-- A slice of one's own that may be written, perhaps with more behind it in its row. -/
def OwW {α : Type} (esz : Nat) (enc : α → List AV) (b h : AH) (v : AV) (L : List α) : Prop := match v with
  | .nilS | .empS => L = []
  | .slice c kk off len e => e = esz ∧ len = L.length ∧ b.length ≤ c ∧ ∃ A Z fl, h[c]? = some (.row (A ++ L.flatMap enc ++ Z) kk fl false) ∧ fl ≤ kk ∧ A.length = off
  | _ => False
section
variable {α : Type} {esz : Nat} {enc : α → List AV}
theorem OwL.w {b h : AH} {v : AV} {L : List α} (ho : OwL esz enc b h v L) : OwW esz enc b h v L := by
  unfold OwL Own at ho
  unfold OwW
  cases v <;> simp only at ho ⊢ <;> first
    | exact ho
    | exact List.eq_nil_of_length_eq_zero ho.1
    | skip
  rename_i c kk off len e
  obtain ⟨h1, h2, h3, h4, cells, fl, h5, h6, h7, h8⟩ := ho
  refine ⟨h1, h2, h4, cells.take off, [], fl, ?_, h6, by simp; omega⟩
  rw [← h8, List.append_nil, List.take_append_drop]
  exact h5
theorem OwW.slc (hl : ∀ x, (enc x).length = esz) {b h : AH} {v : AV} {L : List α} (ho : OwW esz enc b h v L) : Slc esz enc h v L := by
  unfold OwW at ho
  unfold Slc Sl
  cases v <;> simp only at ho ⊢ <;> first
    | exact ho
    | (subst ho; exact ⟨rfl, rfl⟩)
    | skip
  rename_i c kk off len e
  obtain ⟨h1, h2, h3, A, Z, fl, h4, h5, h6⟩ := ho
  refine ⟨h1, h2, (flat_len hl L).symm, ?_⟩
  have hf := flat_len hl L
  rw [rd_of h4 ⟨h5, Nat.le_refl _, by simp only [List.length_append, hf]; omega⟩]
  rw [List.append_assoc, List.drop_left' h6, List.take_left' hf]
theorem OwW.pre {b h h' : AH} (hp : Pre h h') {v : AV} {L : List α} (ho : OwW esz enc b h v L) : OwW esz enc b h' v L := by
  unfold OwW at ho ⊢
  cases v <;> simp only at ho ⊢ <;> first
    | exact ho
    | (obtain ⟨h1, h2, h3, A, Z, fl, h4, h5⟩ := ho
       exact ⟨h1, h2, h3, A, Z, fl, by rw [hp.2 _ (List.getElem?_eq_some_iff.1 h4).1]; exact h4, h5⟩)
theorem OwW.base {b b' h : AH} {v : AV} {L : List α} (ho : OwW esz enc b h v L) (hb : b'.length ≤ b.length) : OwW esz enc b' h v L := by
  unfold OwW at ho ⊢
  cases v <;> simp only at ho ⊢ <;> first
    | exact ho
    | (obtain ⟨h1, h2, h3, h4⟩ := ho; exact ⟨h1, h2, Nat.le_trans hb h3, h4⟩)
end
theorem drop_mid {α : Type} (A w : List α) (x : α) (Z : List α) {n : Nat} (hn : n = A.length + w.length) : ((A ++ (w ++ x :: Z)).drop n).take 1 = [x] := by
  subst hn
  rw [← List.append_assoc, List.drop_left' (by simp)]
  rfl
theorem splice_mid {α : Type} (A w : List α) (y x : α) (Z : List α) {n : Nat} (hn : n = A.length + w.length) : splice (A ++ (w ++ y :: Z)) n [x] = A ++ (w ++ x :: Z) := by
  subst hn
  unfold splice
  rw [← List.append_assoc, List.take_left' (by simp), List.append_assoc, ← List.drop_drop, List.drop_left' (by simp)]
  simp
theorem splice_all {α : Type} (A w m Z m' : List α) {n : Nat} (hn : n = A.length + w.length) (hm : m'.length = m.length) : splice (A ++ (w ++ (m ++ Z))) n m' = A ++ (w ++ (m' ++ Z)) := by
  subst hn
  unfold splice
  rw [← List.append_assoc, List.take_left' (by simp), ← List.drop_drop, List.drop_left' (by simp), hm, List.drop_left' rfl]
  simp

theorem lp_DeleteFuncS (f : Nat) (cap : List AV) (P : List UInt8 → Bool) {c kk off n : Nat} {A Z : List AV} (hA : A.length = off) (hn : n < 2 ^ 40) {h0 : AH} {R : X → Env → AH → Prop} : ∀ (rest Fl : List (List UInt8)) (mid : List AV) (h : AH) (fl i j : Nat),
    (∀ x ∈ rest, ∀ h', PreX c h0 h' → ∀ post : AV → AH → Prop, (∀ h'', Pre h' h'' → post (.bool (P x)) h'') → S f ([.str x] ++ cap) h' post k) → PreX c h0 h → mid ≠ [] → i = Fl.length → j = i + mid.length → n = j + rest.length → fl ≤ kk →
    h[c]? = some (.row (A ++ (Fl.map AV.str ++ (mid ++ (rest.map AV.str ++ Z)))) kk fl false) →
    (∀ h' mid' fl' i', PreX c h0 h' → fl' ≤ kk → i' = (Fl ++ rest.filter fun x => !P x).length → n = i' + mid'.length → h'[c]? = some (.row (A ++ ((Fl ++ rest.filter fun x => !P x).map AV.str ++ (mid' ++ Z))) kk fl' false) → R (.exit 0) [(0, .slice c kk off n 1), (5, .int .i64 (i' : Nat))] h') →
    Cx (.loop lp180_0) [(0, .slice c kk off n 1), (1, .fn f cap), (5, .int .i64 (i : Nat)), (6, .int .i64 (j : Nat))] h R k k
  | [], Fl, mid, h, fl, i, j, hI, hp, hm, hi, hj, hlen, hfl, hrow, hR => by
    rw [w_loopb (c := lp180_0) (d := lb180_0) rfl]; unfold lb180_0
    have hnot : ¬ ((j : Int) < (n : Int)) := by simp at hlen; omega
    simp (maxSteps := 1000000) (disch := first | omega | rfl | (simp only [zL, two63, room] <;> omega) | fail) only [↓reduceIte, ↓zP, zW, WOp, evOp, evBin, binI, binSh, binS, evNil, keyIs, keyEq, mkv, AV.cells, AV.sc, optv, bnd, env, put, Env.get, Env.set, Env.del, Env.dels, Env.init, res1, resL, resV, fillP, splice, newRow, Nat.reduceEqDiff, Nat.reduceLT, Nat.reduceLeDiff, Nat.reduceAdd, Nat.reduceMul, Nat.reduceSub, Nat.reduceBEq, reduceCtorEq, ↓zR, zQ, Tr, StA, StT, hnot]
    exact hR h mid fl i hp hfl (by simpa using hi) (by simp at hlen; omega) (by simpa using hrow)
  | x :: rest, Fl, mid, h, fl, i, j, hI, hp, hm, hi, hj, hlen, hfl, hrow, hR => by
    have ih := lp_DeleteFuncS f cap P hA hn (c := c) (h0 := h0) (kk := kk) (Z := Z) (R := R) rest
    simp only [List.length_cons] at hlen
    have hlt : (j : Int) < (n : Int) := by omega
    have hlt2 : (i : Int) < (n : Int) := by omega
    have e0 : A ++ (Fl.map AV.str ++ (mid ++ ((x :: rest).map AV.str ++ Z))) = A ++ ((Fl.map AV.str ++ mid) ++ AV.str x :: (rest.map AV.str ++ Z)) := by simp
    have hrd : rdRow h c kk (off + j * 1) 1 = some [.str x] := by
      rw [rd_of hrow ⟨hfl, Nat.le_refl _, by simp only [List.length_append, List.length_map, List.length_cons, hA]; omega⟩, e0, drop_mid _ _ _ _ (by simp [hA]; omega)]
    obtain ⟨m0, mid, rfl⟩ := List.exists_cons_of_ne_nil hm
    simp only [List.length_cons] at hj
    have w2 : (j : Int) + 1 = ((j + 1 : Nat) : Int) := by omega
    have w1 : (i : Int) + 1 = ((i + 1 : Nat) : Int) := by omega
    rw [w_loopb (c := lp180_0) (d := lb180_0) rfl]; unfold lb180_0
    simp (maxSteps := 1000000) (disch := first | omega | rfl | (simp only [zL, two63, room] <;> omega) | fail) only [↓reduceIte, ↓zP, zW, WOp, evOp, evBin, binI, binSh, binS, evNil, keyIs, keyEq, mkv, AV.cells, AV.sc, optv, bnd, env, put, Env.get, Env.set, Env.del, Env.dels, Env.init, res1, resL, resV, fillP, splice, newRow, Nat.reduceEqDiff, Nat.reduceLT, Nat.reduceLeDiff, Nat.reduceAdd, Nat.reduceMul, Nat.reduceSub, Nat.reduceBEq, reduceCtorEq, ↓zR, zQ, Tr, StA, StT, hlt, hrd]
    refine hI x (by simp) h hp _ ?_
    intro h2 hp2
    have hrow2 : h2[c]? = some (.row (A ++ (Fl.map AV.str ++ (m0 :: mid ++ ((x :: rest).map AV.str ++ Z)))) kk fl false) := by rw [hp2.2 c (List.getElem?_eq_some_iff.1 hrow).1]; exact hrow
    have hpx2 := hp.trans (hp2.x c)
    have hc2 := (List.getElem?_eq_some_iff.1 hrow2).1
    cases e : P x
    · have e1 : A ++ (Fl.map AV.str ++ (m0 :: mid ++ ((x :: rest).map AV.str ++ Z))) = A ++ (Fl.map AV.str ++ m0 :: (mid ++ AV.str x :: (rest.map AV.str ++ Z))) := by simp
      have hwr : wrRow h2 c kk (off + i * 1) [.str x] = some (h2.set c (.row (A ++ (Fl.map AV.str ++ AV.str x :: (mid ++ AV.str x :: (rest.map AV.str ++ Z)))) kk kk false)) := by
        rw [e1] at hrow2
        rw [wr_of hrow2 ⟨rfl, hfl, by simp only [List.length_append, List.length_map, List.length_cons, List.length_nil, hA]; omega⟩, splice_mid _ _ _ _ _ (by simp [hA]; omega)]
        rfl
      simp (maxSteps := 1000000) (disch := first | omega | rfl | (simp only [zL, two63, room] <;> omega) | fail) only [↓reduceIte, ↓zP, zW, WOp, evOp, evBin, binI, binSh, binS, evNil, keyIs, keyEq, mkv, AV.cells, AV.sc, optv, bnd, env, put, Env.get, Env.set, Env.del, Env.dels, Env.init, res1, resL, resV, fillP, splice, newRow, Nat.reduceEqDiff, Nat.reduceLT, Nat.reduceLeDiff, Nat.reduceAdd, Nat.reduceMul, Nat.reduceSub, Nat.reduceBEq, reduceCtorEq, ↓zR, zQ, Tr, StA, StT, e, hlt2, hwr, w1, w2]
      rw [w_loopn (c := lp180_0) rfl]
      simp (maxSteps := 1000000) (disch := first | omega | rfl | (simp only [zL, two63, room] <;> omega) | fail) only [↓reduceIte, ↓zP, zW, WOp, evOp, evBin, binI, binSh, binS, evNil, keyIs, keyEq, mkv, AV.cells, AV.sc, optv, bnd, env, put, Env.get, Env.set, Env.del, Env.dels, Env.init, res1, resL, resV, fillP, splice, newRow, Nat.reduceEqDiff, Nat.reduceLT, Nat.reduceLeDiff, Nat.reduceAdd, Nat.reduceMul, Nat.reduceSub, Nat.reduceBEq, reduceCtorEq, ↓zR, zQ, Tr, StA, StT]
      have hfilt : (x :: rest).filter (fun x => !P x) = x :: rest.filter fun x => !P x := by rw [List.filter_cons, e]; rfl
      rw [hfilt] at hR
      refine ih (Fl ++ [x]) (mid ++ [AV.str x]) _ kk (i + 1) (j + 1) (fun y hy => hI y (by simp [hy])) (hpx2.trans (PreX.refl c h2).set) (by simp) (by simp; omega) (by simp; omega) (by omega) (Nat.le_refl _) ?_ ?_
      · rw [List.getElem?_set, if_pos rfl, if_pos hc2]
        simp
      · intro h' mid' fl' i' q1 q2 q3 q4 q5
        exact hR h' mid' fl' i' q1 q2 (by simpa using q3) q4 (by simpa using q5)
    · simp (maxSteps := 1000000) (disch := first | omega | rfl | (simp only [zL, two63, room] <;> omega) | fail) only [↓reduceIte, ↓zP, zW, WOp, evOp, evBin, binI, binSh, binS, evNil, keyIs, keyEq, mkv, AV.cells, AV.sc, optv, bnd, env, put, Env.get, Env.set, Env.del, Env.dels, Env.init, res1, resL, resV, fillP, splice, newRow, Nat.reduceEqDiff, Nat.reduceLT, Nat.reduceLeDiff, Nat.reduceAdd, Nat.reduceMul, Nat.reduceSub, Nat.reduceBEq, reduceCtorEq, ↓zR, zQ, Tr, StA, StT, e, w2]
      rw [w_loopn (c := lp180_0) rfl]
      simp (maxSteps := 1000000) (disch := first | omega | rfl | (simp only [zL, two63, room] <;> omega) | fail) only [↓reduceIte, ↓zP, zW, WOp, evOp, evBin, binI, binSh, binS, evNil, keyIs, keyEq, mkv, AV.cells, AV.sc, optv, bnd, env, put, Env.get, Env.set, Env.del, Env.dels, Env.init, res1, resL, resV, fillP, splice, newRow, Nat.reduceEqDiff, Nat.reduceLT, Nat.reduceLeDiff, Nat.reduceAdd, Nat.reduceMul, Nat.reduceSub, Nat.reduceBEq, reduceCtorEq, ↓zR, zQ, Tr, StA, StT]
      have hfilt : (x :: rest).filter (fun x => !P x) = rest.filter fun x => !P x := by rw [List.filter_cons, e]; rfl
      rw [hfilt] at hR
      refine ih Fl (m0 :: mid ++ [AV.str x]) h2 fl i (j + 1) (fun y hy => hI y (by simp [hy])) hpx2 (by simp) hi (by simp; omega) (by omega) hfl (by rw [hrow2]; simp) hR

theorem take_slice {α : Type} {P : α → Bool} {L : List α} {i : Nat} (h : L.findIdx? P = some i) : ∃ x rest, L = L.take i ++ x :: rest ∧ P x = true ∧ L.filter (fun x => !P x) = L.take i ++ rest.filter (fun x => !P x) ∧ i < L.length := by
  rw [List.findIdx?_eq_some_iff_getElem] at h
  obtain ⟨hi, hp, hn⟩ := h
  have e : L = L.take i ++ L[i] :: L.drop (i + 1) := by rw [← List.drop_eq_getElem_cons, List.take_append_drop]
  refine ⟨L[i], L.drop (i + 1), e, hp, ?_, hi⟩
  rw [e, List.filter_append, List.filter_cons, hp, ← e]
  simp only [Bool.not_true, Bool.false_eq_true, if_false]
  congr 1
  rw [List.filter_eq_self]
  intro x hx
  obtain ⟨j, hj, rfl⟩ := List.getElem_of_mem hx
  simp at hj
  have := hn j (by omega)
  simp at this ⊢
  exact this
/-- All old rows but the slice's own are as they were. -/
def PreV (v : AV) (h h' : AH) : Prop := h.length ≤ h'.length ∧ ∀ i, i < h.length → (∀ c kk off n e, v = .slice c kk off n e → i ≠ c) → h'[i]? = h[i]?
theorem Pre.v {h h' : AH} (hp : Pre h h') (v : AV) : PreV v h h' := ⟨hp.1, fun i hi _ => hp.2 i hi⟩
theorem PreX.v {h h' : AH} {c kk off n e : Nat} (hp : PreX c h h') : PreV (.slice c kk off n e) h h' := ⟨hp.1, fun i hi hc => hp.2 i hi (hc c kk off n e rfl)⟩
theorem flatS (L : List (List UInt8)) : L.flatMap encS = L.map AV.str := by
  induction L with
  | nil => rfl
  | cons a L ih => rw [List.flatMap_cons, ih]; rfl
theorem c_DeleteFuncS (f : Nat) (cap : List AV) (P : List UInt8 → Bool) {b h : AH} {v : AV} {L : List (List UInt8)} (ho : OwW 1 encS b h v L) (hL : L.length < 2 ^ 40)
    (hI : ∀ x ∈ L, ∀ h', PreV v h h' → ∀ post : AV → AH → Prop, (∀ h'', Pre h' h'' → post (.bool (P x)) h'') → S f ([.str x] ++ cap) h' post k) {post : AV → AH → Prop}
    (hp : ∀ v' h', OwW 1 encS b h' v' (L.filter fun x => !P x) → PreV v h h' → post v' h') : S 180 [v, .fn f cap] h post k := by
  refine S_of rfl T180 ?_; unfold fi180
  simp (maxSteps := 1000000) (disch := first | omega | rfl | (simp only [zL, two63, room] <;> omega) | fail) only [↓reduceIte, ↓zP, zW, WOp, evOp, evBin, binI, binSh, binS, evNil, keyIs, keyEq, mkv, AV.cells, AV.sc, optv, bnd, env, put, Env.get, Env.set, Env.del, Env.dels, Env.init, res1, resL, resV, fillP, splice, newRow, Nat.reduceEqDiff, Nat.reduceLT, Nat.reduceLeDiff, Nat.reduceAdd, Nat.reduceMul, Nat.reduceSub, Nat.reduceBEq, reduceCtorEq, ↓zR, zQ, Tr, StA, StT]
  refine c_IndexFuncS f cap P (fun h' => Pre h h') hL (fun h' hp' => (ho.pre hp').slc hlS) ?_ (Pre.refl h) ?_
  · intro x hx h' hp' post hpost
    exact hI x hx h' (hp'.v v) post fun h'' hp'' => hpost h'' (hp'.trans hp'')
  intro h2 hp2
  unfold idxOf
  cases hf : L.findIdx? P with
  | none =>
    have hfl : (L.filter fun x => !P x) = L := by
      rw [List.findIdx?_eq_none_iff] at hf
      rw [List.filter_eq_self]
      intro x hx; simp [hf x hx]
    rw [hfl] at hp
    simp (maxSteps := 1000000) (disch := first | omega | rfl | (simp only [zL, two63, room] <;> omega) | fail) only [↓reduceIte, ↓zP, zW, WOp, evOp, evBin, binI, binSh, binS, evNil, keyIs, keyEq, mkv, AV.cells, AV.sc, optv, bnd, env, put, Env.get, Env.set, Env.del, Env.dels, Env.init, res1, resL, resV, fillP, splice, newRow, Nat.reduceEqDiff, Nat.reduceLT, Nat.reduceLeDiff, Nat.reduceAdd, Nat.reduceMul, Nat.reduceSub, Nat.reduceBEq, reduceCtorEq, ↓zR, zQ, Tr, StA, StT]
    exact hp v h2 (ho.pre hp2) (hp2.v v)
  | some i =>
    obtain ⟨x, rest, hLe, hPx, hfl, hi⟩ := take_slice hf
    rw [hfl] at hp
    have ho2 := ho.pre hp2
    unfold OwW at ho2
    cases v <;> simp only at ho2 <;> first
      | (exact ho2.elim)
      | (rw [ho2] at hi; simp at hi; done)
      | skip
    rename_i c kk off n e
    obtain ⟨rfl, hn, hbc, A, Z, fl, hrow, hfl2, hA⟩ := ho2
    have hi1 : (i : Int) + 1 = ((i + 1 : Nat) : Int) := by omega
    have hne : ((i : Int) == -1) = false := by simp
    have hil : (L.take i).length = i := by simp; omega
    have hll : L.length = i + 1 + rest.length := by
      have := congrArg List.length hLe
      simp only [List.length_append, List.length_cons, hil] at this
      omega
    have hc2 := (List.getElem?_eq_some_iff.1 hrow).1
    simp (maxSteps := 1000000) (disch := first | omega | rfl | (simp only [zL, two63, room] <;> omega) | fail) only [↓reduceIte, ↓zP, zW, WOp, evOp, evBin, binI, binSh, binS, evNil, keyIs, keyEq, mkv, AV.cells, AV.sc, optv, bnd, env, put, Env.get, Env.set, Env.del, Env.dels, Env.init, res1, resL, resV, fillP, splice, newRow, Nat.reduceEqDiff, Nat.reduceLT, Nat.reduceLeDiff, Nat.reduceAdd, Nat.reduceMul, Nat.reduceSub, Nat.reduceBEq, reduceCtorEq, ↓zR, zQ, Tr, StA, StT, hne, hi1]
    refine lp_DeleteFuncS f cap P hA (by omega) (Z := Z) (h0 := h2) rest (L.take i) [.str x] h2 fl i (i + 1) ?_ (PreX.refl _ _) (by simp) hil.symm (by simp) (by omega) hfl2 ?_ ?_
    · intro y hy h' hpx post hpost
      refine hI y (by rw [hLe]; simp [hy]) h' ?_ post hpost
      exact ((hp2.x c).trans hpx).v
    · have hm : L.map AV.str = (L.take i).map AV.str ++ AV.str x :: rest.map AV.str := by
        conv => lhs; rw [hLe]
        rw [List.map_append, List.map_cons]
      rw [hrow, flatS, hm]
      simp only [List.append_assoc, List.cons_append, List.nil_append]
    · intro h3 mid fl3 i' hpx3 hfl3 hi' hn3 hrow3
      generalize (L.take i ++ rest.filter fun x => !P x) = M at *
      have hlt : (i' : Int) ≤ (n : Int) := by omega
      have hag : PreX c h h3 := (hp2.x c).trans hpx3
      have hc3 := (List.getElem?_eq_some_iff.1 hrow3).1
      have fin : ∀ h4 m4 fl4, h4[c]? = some (.row (A ++ (M.map AV.str ++ (m4 ++ Z))) kk fl4 false) → fl4 ≤ kk → PreX c h h4 → post (.slice c kk (off + 0) (i' - 0) 1) h4 := by
        intro h4 m4 fl4 hr4 hf4 ha4
        refine hp _ h4 ?_ ha4.v
        unfold OwW
        simp only
        refine ⟨trivial, by omega, hbc, A, m4 ++ Z, fl4, ?_, hf4, by omega⟩
        rw [hr4, flatS]
        simp only [List.append_assoc]
      by_cases hz : n - i' = 0
      · simp (maxSteps := 1000000) (disch := first | omega | rfl | (simp only [zL, two63, room] <;> omega) | fail) only [↓reduceIte, ↓zP, zW, WOp, evOp, evBin, binI, binSh, binS, evNil, keyIs, keyEq, mkv, AV.cells, AV.sc, optv, bnd, env, put, Env.get, Env.set, Env.del, Env.dels, Env.init, res1, resL, resV, fillP, splice, newRow, Nat.reduceEqDiff, Nat.reduceLT, Nat.reduceLeDiff, Nat.reduceAdd, Nat.reduceMul, Nat.reduceSub, Nat.reduceBEq, reduceCtorEq, ↓zR, zQ, Tr, StA, StT, hz]
        exact fin h3 mid fl3 hrow3 hfl3 hag
      · have hrep : (List.replicate (n - i') [AV.str []]).flatten = List.replicate (n - i') (AV.str []) := by
          induction n - i' with
          | zero => rfl
          | succ m ih => simp [List.replicate_succ, ih]
        have hall : (List.replicate (n - i') (AV.str [])).all AV.sc = true := by simp [AV.sc]
        have hwr : wrRow h3 c kk (off + i' * 1) (List.replicate (n - i') (AV.str [])) = some (h3.set c (.row (A ++ (M.map AV.str ++ (List.replicate (n - i') (AV.str []) ++ Z))) kk kk false)) := by
          rw [wr_of hrow3 ⟨rfl, hfl3, by simp only [List.length_append, List.length_map, List.length_replicate, hA]; omega⟩, if_pos hall, splice_all _ _ _ _ _ (by simp [hA]; omega) (by simp; omega)]
        simp (maxSteps := 1000000) (disch := first | omega | rfl | (simp only [zL, two63, room] <;> omega) | fail) only [↓reduceIte, ↓zP, zW, WOp, evOp, evBin, binI, binSh, binS, evNil, keyIs, keyEq, mkv, AV.cells, AV.sc, optv, bnd, env, put, Env.get, Env.set, Env.del, Env.dels, Env.init, res1, resL, resV, fillP, splice, newRow, Nat.reduceEqDiff, Nat.reduceLT, Nat.reduceLeDiff, Nat.reduceAdd, Nat.reduceMul, Nat.reduceSub, Nat.reduceBEq, reduceCtorEq, ↓zR, zQ, Tr, StA, StT, hz, hrep, hwr]
        refine fin _ (List.replicate (n - i') (AV.str [])) kk ?_ (Nat.le_refl _) hag.set
        rw [List.getElem?_set, if_pos rfl, if_pos hc3]
end Go.Proofs.YtnamhjdfegohbaaGreatDoor.Ab

/- LINES: what the reference's small functions answer. -/
namespace Go.Proofs.YtnamhjdfegohbaaGreatDoor.Ab
open Go
set_option maxRecDepth 100000
set_option maxHeartbeats 4000000

theorem c_l1In (n lo hi : Int) {h : AH} {post : AV → AH → Prop} (hp : post (.bool (decide (lo ≤ n ∧ n ≤ hi))) h) : S 77 [.int .i64 n, .int .i64 lo, .int .i64 hi] h post k := by
  refine S_of rfl T77 ?_
  unfold fi77
  simp only [↓reduceIte, ↓zP, zW, WOp, evOp, evBin, binI, binSh, binS, evNil, keyIs, keyEq, mkv, AV.cells, AV.sc, optv, bnd, env, put, Env.get, Env.set, Env.del, Env.dels, Env.init, res1, resL, resV, fillP, splice, newRow, Nat.reduceEqDiff, Nat.reduceLT, Nat.reduceLeDiff, Nat.reduceAdd, Nat.reduceMul, Nat.reduceSub, Nat.reduceBEq, reduceCtorEq]
  apply WB_dec
  · intro h1
    simp only [↓reduceIte, ↓zP, zW, WOp, evOp, evBin, binI, binSh, binS, evNil, keyIs, keyEq, mkv, AV.cells, AV.sc, optv, bnd, env, put, Env.get, Env.set, Env.del, Env.dels, Env.init, res1, resL, resV, fillP, splice, newRow, Nat.reduceEqDiff, Nat.reduceLT, Nat.reduceLeDiff, Nat.reduceAdd, Nat.reduceMul, Nat.reduceSub, Nat.reduceBEq, reduceCtorEq, h1]
    simpa [h1] using hp
  · intro h1
    simp only [↓reduceIte, ↓zP, zW, WOp, evOp, evBin, binI, binSh, binS, evNil, keyIs, keyEq, mkv, AV.cells, AV.sc, optv, bnd, env, put, Env.get, Env.set, Env.del, Env.dels, Env.init, res1, resL, resV, fillP, splice, newRow, Nat.reduceEqDiff, Nat.reduceLT, Nat.reduceLeDiff, Nat.reduceAdd, Nat.reduceMul, Nat.reduceSub, Nat.reduceBEq, reduceCtorEq, h1]
    simpa [h1] using hp

def isSign (b : UInt8) : Bool := b == 84 || b == 70 || b == 46
def goodLine (s : List UInt8) : Bool := decide (1 ≤ s.length ∧ s.length ≤ 12) && s.all isSign

theorem u8_eq (b c : UInt8) {n : Int} (hc : (c.toNat : Int) = n) : (((b.toNat : Nat) : Int) == n) = (b == c) := by
  subst hc
  by_cases h : b = c
  · subst h; simp
  · have : ¬ ((b.toNat : Int) = (c.toNat : Int)) := fun hh => h (UInt8.toNat_inj.1 (by omega))
    rw [beq_eq_false_iff_ne.2 h, beq_eq_false_iff_ne.2 this]
theorem u8_ne (b c : UInt8) {n : Int} (hc : (c.toNat : Int) = n) : (((b.toNat : Nat) : Int) != n) = !(b == c) := by
  show (!(((b.toNat : Nat) : Int) == n)) = _
  rw [u8_eq b c hc]

theorem lp_liGood (s : List UInt8) (hs : s.length < 2 ^ 60) {h : AH} {R : X → Env → AH → Prop} : ∀ d i : Nat, i + d = s.length →
    ((s.drop i).all isSign = true → R (.exit 0) [] h) → ((s.drop i).all isSign = false → R .ret [(2, .bool false)] h) →
    Cx (.loop lp104_0) [(0, .str s), (3, .int .i64 i)] h R k k := by
  intro d
  induction d with
  | zero =>
    intro i hi h1 h2
    rw [w_loopb (c := lp104_0) (d := lb104_0) rfl]
    unfold lb104_0
    obtain rfl : i = s.length := by omega
    simp only [↓reduceIte, ↓zP, zW, WOp, evOp, evBin, binI, binSh, binS, evNil, keyIs, keyEq, mkv, AV.cells, AV.sc, optv, bnd, env, put, Env.get, Env.set, Env.del, Env.dels, Env.init, res1, resL, resV, fillP, splice, newRow, Nat.reduceEqDiff, Nat.reduceLT, Nat.reduceLeDiff, Nat.reduceAdd, Nat.reduceMul, Nat.reduceSub, Nat.reduceBEq, reduceCtorEq]
    exact h1 (by simp)
  | succ d ih =>
    intro i hi h1 h2
    rw [w_loopb (c := lp104_0) (d := lb104_0) rfl]
    unfold lb104_0
    have hlt : i < s.length := by omega
    have hlt' : (i : Int) < (s.length : Int) := by omega
    have hdrop : s.drop i = s.getD i 0 :: s.drop (i + 1) := by
      rw [List.drop_eq_getElem_cons hlt]; simp [List.getD_eq_getElem?_getD, hlt]
    generalize hb : s.getD i 0 = b at *
    have u1 := u8_ne b 84 (n := 84) rfl
    have u2 := u8_ne b 70 (n := 70) rfl
    have u3 := u8_ne b 46 (n := 46) rfl
    have hw : IntKind.i64.wrap ((i : Int) + 1) = ((i + 1 : Nat) : Int) := by rw [IntKind.wrap_i64]; omega
    cases e1 : (b == 84) <;> cases e2 : (b == 70) <;> cases e3 : (b == 46) <;>
      simp only [↓reduceIte, ↓zP, zW, WOp, evOp, evBin, binI, binSh, binS, evNil, keyIs, keyEq, mkv, AV.cells, AV.sc, optv, bnd, env, put, Env.get, Env.set, Env.del, Env.dels, Env.init, res1, resL, resV, fillP, splice, newRow, Nat.reduceEqDiff, Nat.reduceLT, Nat.reduceLeDiff, Nat.reduceAdd, Nat.reduceMul, Nat.reduceSub, Nat.reduceBEq, reduceCtorEq, hlt', hb, u1, u2, u3, e1, e2, e3, hw] <;> first
      | (rw [w_loopn (c := lp104_0) rfl]
         simp only [↓reduceIte, ↓zP, zW, WOp, evOp, evBin, binI, binSh, binS, evNil, keyIs, keyEq, mkv, AV.cells, AV.sc, optv, bnd, env, put, Env.get, Env.set, Env.del, Env.dels, Env.init, res1, resL, resV, fillP, splice, newRow, Nat.reduceEqDiff, Nat.reduceLT, Nat.reduceLeDiff, Nat.reduceAdd, Nat.reduceMul, Nat.reduceSub, Nat.reduceBEq, reduceCtorEq]
         exact ih (i + 1) (by omega) (fun hh => h1 (by rw [hdrop, List.all_cons, hh]; simp [isSign, e1, e2, e3])) (fun hh => h2 (by rw [hdrop, List.all_cons, hh]; simp)))
      | exact h2 (by rw [hdrop, List.all_cons]; simp [isSign, e1, e2, e3])

theorem c_liGood (s : List UInt8) {h : AH} {post : AV → AH → Prop} (hs : s.length < 2 ^ 60) (hp : post (.bool (goodLine s)) h) : S 104 [.str s] h post k := by
  refine S_of rfl T104 ?_
  unfold fi104
  simp only [↓reduceIte, ↓zP, zW, WOp, evOp, evBin, binI, binSh, binS, evNil, keyIs, keyEq, mkv, AV.cells, AV.sc, optv, bnd, env, put, Env.get, Env.set, Env.del, Env.dels, Env.init, res1, resL, resV, fillP, splice, newRow, Nat.reduceEqDiff, Nat.reduceLT, Nat.reduceLeDiff, Nat.reduceAdd, Nat.reduceMul, Nat.reduceSub, Nat.reduceBEq, reduceCtorEq]
  refine c_l1In _ _ _ ?_
  simp only [↓reduceIte, ↓zP, zW, WOp, evOp, evBin, binI, binSh, binS, evNil, keyIs, keyEq, mkv, AV.cells, AV.sc, optv, bnd, env, put, Env.get, Env.set, Env.del, Env.dels, Env.init, res1, resL, resV, fillP, splice, newRow, Nat.reduceEqDiff, Nat.reduceLT, Nat.reduceLeDiff, Nat.reduceAdd, Nat.reduceMul, Nat.reduceSub, Nat.reduceBEq, reduceCtorEq]
  refine WB_cases ?_ ?_
  · intro e
    simp only [↓reduceIte, ↓zP, zW, WOp, evOp, evBin, binI, binSh, binS, evNil, keyIs, keyEq, mkv, AV.cells, AV.sc, optv, bnd, env, put, Env.get, Env.set, Env.del, Env.dels, Env.init, res1, resL, resV, fillP, splice, newRow, Nat.reduceEqDiff, Nat.reduceLT, Nat.reduceLeDiff, Nat.reduceAdd, Nat.reduceMul, Nat.reduceSub, Nat.reduceBEq, reduceCtorEq, e]
    have : goodLine s = false := by
      simp only [goodLine]
      simp at e ⊢
      omega
    rw [this] at hp
    exact hp
  · intro e
    simp only [↓reduceIte, ↓zP, zW, WOp, evOp, evBin, binI, binSh, binS, evNil, keyIs, keyEq, mkv, AV.cells, AV.sc, optv, bnd, env, put, Env.get, Env.set, Env.del, Env.dels, Env.init, res1, resL, resV, fillP, splice, newRow, Nat.reduceEqDiff, Nat.reduceLT, Nat.reduceLeDiff, Nat.reduceAdd, Nat.reduceMul, Nat.reduceSub, Nat.reduceBEq, reduceCtorEq, e]
    have hlen : 1 ≤ s.length ∧ s.length ≤ 12 := by
      simp at e
      omega
    refine lp_liGood s hs s.length 0 (by omega) ?_ ?_
    · intro hall
      simp only [↓reduceIte, ↓zP, zW, WOp, evOp, evBin, binI, binSh, binS, evNil, keyIs, keyEq, mkv, AV.cells, AV.sc, optv, bnd, env, put, Env.get, Env.set, Env.del, Env.dels, Env.init, res1, resL, resV, fillP, splice, newRow, Nat.reduceEqDiff, Nat.reduceLT, Nat.reduceLeDiff, Nat.reduceAdd, Nat.reduceMul, Nat.reduceSub, Nat.reduceBEq, reduceCtorEq]
      have : goodLine s = true := by simp only [goodLine]; rw [List.drop_zero] at hall; rw [hall]; simp [hlen]
      rw [this] at hp
      exact hp
    · intro hall
      simp only [↓reduceIte, ↓zP, zW, WOp, evOp, evBin, binI, binSh, binS, evNil, keyIs, keyEq, mkv, AV.cells, AV.sc, optv, bnd, env, put, Env.get, Env.set, Env.del, Env.dels, Env.init, res1, resL, resV, fillP, splice, newRow, Nat.reduceEqDiff, Nat.reduceLT, Nat.reduceLeDiff, Nat.reduceAdd, Nat.reduceMul, Nat.reduceSub, Nat.reduceBEq, reduceCtorEq]
      have : goodLine s = false := by simp only [goodLine]; rw [List.drop_zero] at hall; rw [hall]; simp
      rw [this] at hp
      exact hp

end Go.Proofs.YtnamhjdfegohbaaGreatDoor.Ab

/- LINES AND MOVES: the program's small functions. -/
namespace Go.Proofs.YtnamhjdfegohbaaGreatDoor.Ab
open Go
set_option maxRecDepth 100000
set_option maxHeartbeats 4000000

abbrev by8 (b : UInt8) : AV := .int .u8 b.toNat
theorem c_within (n lo hi : Int) {h : AH} {post : AV → AH → Prop} (hp : post (.bool (decide (lo ≤ n ∧ n ≤ hi))) h) : S 74 [.int .i64 n, .int .i64 lo, .int .i64 hi] h post k := by
  refine S_of rfl T74 ?_
  unfold fi74
  simp only [↓reduceIte, ↓zP, zW, WOp, evOp, evBin, binI, binSh, binS, evNil, keyIs, keyEq, mkv, AV.cells, AV.sc, optv, bnd, env, put, Env.get, Env.set, Env.del, Env.dels, Env.init, res1, resL, resV, fillP, splice, newRow, Nat.reduceEqDiff, Nat.reduceLT, Nat.reduceLeDiff, Nat.reduceAdd, Nat.reduceMul, Nat.reduceSub, Nat.reduceBEq, reduceCtorEq]
  apply WB_dec
  · intro h1
    simp only [↓reduceIte, ↓zP, zW, WOp, evOp, evBin, binI, binSh, binS, evNil, keyIs, keyEq, mkv, AV.cells, AV.sc, optv, bnd, env, put, Env.get, Env.set, Env.del, Env.dels, Env.init, res1, resL, resV, fillP, splice, newRow, Nat.reduceEqDiff, Nat.reduceLT, Nat.reduceLeDiff, Nat.reduceAdd, Nat.reduceMul, Nat.reduceSub, Nat.reduceBEq, reduceCtorEq, h1]
    simpa [h1] using hp
  · intro h1
    simp only [↓reduceIte, ↓zP, zW, WOp, evOp, evBin, binI, binSh, binS, evNil, keyIs, keyEq, mkv, AV.cells, AV.sc, optv, bnd, env, put, Env.get, Env.set, Env.del, Env.dels, Env.init, res1, resL, resV, fillP, splice, newRow, Nat.reduceEqDiff, Nat.reduceLT, Nat.reduceLeDiff, Nat.reduceAdd, Nat.reduceMul, Nat.reduceSub, Nat.reduceBEq, reduceCtorEq, h1]
    simpa [h1] using hp

def stepB (b : UInt8) : Int := if b == 84 then 1 else if b == 70 then -1 else 0
def otherB (b : UInt8) : UInt8 := if b == 84 then 70 else if b == 70 then 84 else b
def atB (w : List UInt8) (i : Int) : UInt8 := if 0 ≤ i ∧ i < w.length then w.getD i.toNat 0 else 0

theorem c_stepOf (b : UInt8) {h : AH} {post : AV → AH → Prop} (hp : post (.int .i64 (stepB b)) h) : S 103 [by8 b] h post k := by
  refine S_of rfl T103 ?_
  unfold fi103
  have u1 := u8_eq b 84 (n := 84) rfl
  have u2 := u8_eq b 70 (n := 70) rfl
  cases e1 : (b == 84) <;> cases e2 : (b == 70) <;> simp only [stepB, e1, e2, if_true, if_false, Bool.false_eq_true] at hp <;> simp only [↓reduceIte, ↓zP, zW, WOp, evOp, evBin, binI, binSh, binS, evNil, keyIs, keyEq, mkv, AV.cells, AV.sc, optv, bnd, env, put, Env.get, Env.set, Env.del, Env.dels, Env.init, res1, resL, resV, fillP, splice, newRow, Nat.reduceEqDiff, Nat.reduceLT, Nat.reduceLeDiff, Nat.reduceAdd, Nat.reduceMul, Nat.reduceSub, Nat.reduceBEq, reduceCtorEq, u1, u2, e1, e2] <;> exact hp

theorem c_other (b : UInt8) {h : AH} {post : AV → AH → Prop} (hp : post (by8 (otherB b)) h) : S 109 [by8 b] h post k := by
  refine S_of rfl T109 ?_
  unfold fi109
  have u1 := u8_eq b 84 (n := 84) rfl
  have u2 := u8_eq b 70 (n := 70) rfl
  cases e1 : (b == 84) <;> cases e2 : (b == 70) <;> simp only [otherB, e1, e2, if_true, if_false, Bool.false_eq_true] at hp <;> simp only [↓reduceIte, ↓zP, zW, WOp, evOp, evBin, binI, binSh, binS, evNil, keyIs, keyEq, mkv, AV.cells, AV.sc, optv, bnd, env, put, Env.get, Env.set, Env.del, Env.dels, Env.init, res1, resL, resV, fillP, splice, newRow, Nat.reduceEqDiff, Nat.reduceLT, Nat.reduceLeDiff, Nat.reduceAdd, Nat.reduceMul, Nat.reduceSub, Nat.reduceBEq, reduceCtorEq, u1, u2, e1, e2] <;> exact hp

theorem c_at (w : List UInt8) (i : Int) {h : AH} {post : AV → AH → Prop} (hp : post (by8 (atB w i)) h) : S 125 [.str w, .int .i64 i] h post k := by
  refine S_of rfl T125 ?_
  unfold fi125
  unfold atB at hp
  by_cases h1 : i < 0
  · have h2 : ¬ (0 ≤ i ∧ i < w.length) := by omega
    rw [if_neg h2] at hp
    simp only [↓reduceIte, ↓zP, zW, WOp, evOp, evBin, binI, binSh, binS, evNil, keyIs, keyEq, mkv, AV.cells, AV.sc, optv, bnd, env, put, Env.get, Env.set, Env.del, Env.dels, Env.init, res1, resL, resV, fillP, splice, newRow, Nat.reduceEqDiff, Nat.reduceLT, Nat.reduceLeDiff, Nat.reduceAdd, Nat.reduceMul, Nat.reduceSub, Nat.reduceBEq, reduceCtorEq, h1]
    exact hp
  · by_cases h2 : i ≥ w.length
    · have h3 : ¬ (0 ≤ i ∧ i < w.length) := by omega
      rw [if_neg h3] at hp
      simp only [↓reduceIte, ↓zP, zW, WOp, evOp, evBin, binI, binSh, binS, evNil, keyIs, keyEq, mkv, AV.cells, AV.sc, optv, bnd, env, put, Env.get, Env.set, Env.del, Env.dels, Env.init, res1, resL, resV, fillP, splice, newRow, Nat.reduceEqDiff, Nat.reduceLT, Nat.reduceLeDiff, Nat.reduceAdd, Nat.reduceMul, Nat.reduceSub, Nat.reduceBEq, reduceCtorEq, h1, h2]
      exact hp
    · have h3 : (0 ≤ i ∧ i < w.length) := by omega
      rw [if_pos h3] at hp
      simp only [↓reduceIte, ↓zP, zW, WOp, evOp, evBin, binI, binSh, binS, evNil, keyIs, keyEq, mkv, AV.cells, AV.sc, optv, bnd, env, put, Env.get, Env.set, Env.del, Env.dels, Env.init, res1, resL, resV, fillP, splice, newRow, Nat.reduceEqDiff, Nat.reduceLT, Nat.reduceLeDiff, Nat.reduceAdd, Nat.reduceMul, Nat.reduceSub, Nat.reduceBEq, reduceCtorEq, h1, h2]
      exact ⟨h3, hp⟩

def goalB (w : List UInt8) (i : Nat) : Option Int :=
  if stepB (w.getD i 0) == 0 then none
  else if atB w (i + stepB (w.getD i 0)) == 46 then some (i + stepB (w.getD i 0))
  else if (atB w (i + stepB (w.getD i 0)) == otherB (w.getD i 0)) && (atB w (i + 2 * stepB (w.getD i 0)) == 46) then some (i + 2 * stepB (w.getD i 0))
  else none
def goalV (w : List UInt8) (i : Nat) : AV := match goalB w i with
  | some t => .tup [.int .i64 t, .bool true]
  | none => .tup [.int .i64 0, .bool false]

theorem stepB_range (b : UInt8) : stepB b = 0 ∨ stepB b = 1 ∨ stepB b = -1 := by
  unfold stepB; split
  · simp
  · split <;> simp
theorem wrap_id {n : Int} (h1 : -9223372036854775808 ≤ n) (h2 : n ≤ 9223372036854775807) : IntKind.i64.wrap n = n := by rw [IntKind.wrap_i64]; omega

theorem c_kindOf (t : Bool) {h : AH} {post : AV → AH → Prop} (hp : post (.str (if t then [84] else [70])) h) : S 200 [.bool t] h post k := by
  refine S_of rfl T200 ?_
  unfold fi200
  cases t <;> simp only [↓reduceIte, ↓zP, zW, WOp, evOp, evBin, binI, binSh, binS, evNil, keyIs, keyEq, mkv, AV.cells, AV.sc, optv, bnd, env, put, Env.get, Env.set, Env.del, Env.dels, Env.init, res1, resL, resV, fillP, splice, newRow, Nat.reduceEqDiff, Nat.reduceLT, Nat.reduceLeDiff, Nat.reduceAdd, Nat.reduceMul, Nat.reduceSub, Nat.reduceBEq, reduceCtorEq] <;> exact hp

theorem c_goal (w : List UInt8) (i : Nat) (hi : i < w.length) (hw : w.length < 2 ^ 60) {h : AH} {post : AV → AH → Prop} (hp : post (goalV w i) h) : S 127 [.str w, .int .i64 i] h post k := by
  refine S_of rfl T127 ?_
  unfold fi127
  have hi' : (i : Int) < (w.length : Int) := by omega
  simp only [↓reduceIte, ↓zP, zW, WOp, evOp, evBin, binI, binSh, binS, evNil, keyIs, keyEq, mkv, AV.cells, AV.sc, optv, bnd, env, put, Env.get, Env.set, Env.del, Env.dels, Env.init, res1, resL, resV, fillP, splice, newRow, Nat.reduceEqDiff, Nat.reduceLT, Nat.reduceLeDiff, Nat.reduceAdd, Nat.reduceMul, Nat.reduceSub, Nat.reduceBEq, reduceCtorEq, hi']
  refine c_stepOf _ ?_
  simp only [↓reduceIte, ↓zP, zW, WOp, evOp, evBin, binI, binSh, binS, evNil, keyIs, keyEq, mkv, AV.cells, AV.sc, optv, bnd, env, put, Env.get, Env.set, Env.del, Env.dels, Env.init, res1, resL, resV, fillP, splice, newRow, Nat.reduceEqDiff, Nat.reduceLT, Nat.reduceLeDiff, Nat.reduceAdd, Nat.reduceMul, Nat.reduceSub, Nat.reduceBEq, reduceCtorEq]
  have hr := stepB_range (w.getD i 0)
  generalize hd : stepB (w.getD i 0) = d at *
  have w1 : IntKind.i64.wrap ((i : Int) + d) = i + d := wrap_id (by omega) (by omega)
  have w2 : IntKind.i64.wrap (2 * d) = 2 * d := wrap_id (by omega) (by omega)
  have w3 : IntKind.i64.wrap ((i : Int) + 2 * d) = i + 2 * d := wrap_id (by omega) (by omega)
  cases e0 : (d == 0)
  · simp only [↓reduceIte, ↓zP, zW, WOp, evOp, evBin, binI, binSh, binS, evNil, keyIs, keyEq, mkv, AV.cells, AV.sc, optv, bnd, env, put, Env.get, Env.set, Env.del, Env.dels, Env.init, res1, resL, resV, fillP, splice, newRow, Nat.reduceEqDiff, Nat.reduceLT, Nat.reduceLeDiff, Nat.reduceAdd, Nat.reduceMul, Nat.reduceSub, Nat.reduceBEq, reduceCtorEq, e0, w1]
    refine c_at _ _ ?_
    have u1 := u8_eq (atB w (i + d)) 46 (n := 46) rfl
    cases e1 : (atB w (i + d) == 46)
    · simp only [↓reduceIte, ↓zP, zW, WOp, evOp, evBin, binI, binSh, binS, evNil, keyIs, keyEq, mkv, AV.cells, AV.sc, optv, bnd, env, put, Env.get, Env.set, Env.del, Env.dels, Env.init, res1, resL, resV, fillP, splice, newRow, Nat.reduceEqDiff, Nat.reduceLT, Nat.reduceLeDiff, Nat.reduceAdd, Nat.reduceMul, Nat.reduceSub, Nat.reduceBEq, reduceCtorEq, u1, e1, w1]
      refine c_at _ _ ?_
      simp only [↓reduceIte, ↓zP, zW, WOp, evOp, evBin, binI, binSh, binS, evNil, keyIs, keyEq, mkv, AV.cells, AV.sc, optv, bnd, env, put, Env.get, Env.set, Env.del, Env.dels, Env.init, res1, resL, resV, fillP, splice, newRow, Nat.reduceEqDiff, Nat.reduceLT, Nat.reduceLeDiff, Nat.reduceAdd, Nat.reduceMul, Nat.reduceSub, Nat.reduceBEq, reduceCtorEq, hi']
      refine c_other _ ?_
      have u2 := u8_eq (atB w (i + d)) (otherB (w.getD i 0)) rfl
      cases e2 : (atB w (i + d) == otherB (w.getD i 0))
      · simp only [↓reduceIte, ↓zP, zW, WOp, evOp, evBin, binI, binSh, binS, evNil, keyIs, keyEq, mkv, AV.cells, AV.sc, optv, bnd, env, put, Env.get, Env.set, Env.del, Env.dels, Env.init, res1, resL, resV, fillP, splice, newRow, Nat.reduceEqDiff, Nat.reduceLT, Nat.reduceLeDiff, Nat.reduceAdd, Nat.reduceMul, Nat.reduceSub, Nat.reduceBEq, reduceCtorEq, u2, e2]
        simp only [goalV, goalB, hd, e0, e1, e2, if_true, if_false, Bool.false_eq_true, Bool.false_and] at hp
        exact hp
      · simp only [↓reduceIte, ↓zP, zW, WOp, evOp, evBin, binI, binSh, binS, evNil, keyIs, keyEq, mkv, AV.cells, AV.sc, optv, bnd, env, put, Env.get, Env.set, Env.del, Env.dels, Env.init, res1, resL, resV, fillP, splice, newRow, Nat.reduceEqDiff, Nat.reduceLT, Nat.reduceLeDiff, Nat.reduceAdd, Nat.reduceMul, Nat.reduceSub, Nat.reduceBEq, reduceCtorEq, u2, e2, w2, w3]
        refine c_at _ _ ?_
        have u3 := u8_eq (atB w (i + 2 * d)) 46 (n := 46) rfl
        cases e3 : (atB w (i + 2 * d) == 46)
        · simp only [↓reduceIte, ↓zP, zW, WOp, evOp, evBin, binI, binSh, binS, evNil, keyIs, keyEq, mkv, AV.cells, AV.sc, optv, bnd, env, put, Env.get, Env.set, Env.del, Env.dels, Env.init, res1, resL, resV, fillP, splice, newRow, Nat.reduceEqDiff, Nat.reduceLT, Nat.reduceLeDiff, Nat.reduceAdd, Nat.reduceMul, Nat.reduceSub, Nat.reduceBEq, reduceCtorEq, u3, e3]
          simp only [goalV, goalB, hd, e0, e1, e2, e3, if_true, if_false, Bool.false_eq_true, Bool.and_false] at hp
          exact hp
        · simp only [↓reduceIte, ↓zP, zW, WOp, evOp, evBin, binI, binSh, binS, evNil, keyIs, keyEq, mkv, AV.cells, AV.sc, optv, bnd, env, put, Env.get, Env.set, Env.del, Env.dels, Env.init, res1, resL, resV, fillP, splice, newRow, Nat.reduceEqDiff, Nat.reduceLT, Nat.reduceLeDiff, Nat.reduceAdd, Nat.reduceMul, Nat.reduceSub, Nat.reduceBEq, reduceCtorEq, u3, e3, w2, w3]
          simp only [goalV, goalB, hd, e0, e1, e2, e3, if_true, if_false, Bool.false_eq_true, Bool.and_true] at hp
          exact hp
    · simp only [↓reduceIte, ↓zP, zW, WOp, evOp, evBin, binI, binSh, binS, evNil, keyIs, keyEq, mkv, AV.cells, AV.sc, optv, bnd, env, put, Env.get, Env.set, Env.del, Env.dels, Env.init, res1, resL, resV, fillP, splice, newRow, Nat.reduceEqDiff, Nat.reduceLT, Nat.reduceLeDiff, Nat.reduceAdd, Nat.reduceMul, Nat.reduceSub, Nat.reduceBEq, reduceCtorEq, u1, e1, w1]
      simp only [goalV, goalB, hd, e0, e1, if_true, if_false, Bool.false_eq_true] at hp
      exact hp
  · simp only [↓reduceIte, ↓zP, zW, WOp, evOp, evBin, binI, binSh, binS, evNil, keyIs, keyEq, mkv, AV.cells, AV.sc, optv, bnd, env, put, Env.get, Env.set, Env.del, Env.dels, Env.init, res1, resL, resV, fillP, splice, newRow, Nat.reduceEqDiff, Nat.reduceLT, Nat.reduceLeDiff, Nat.reduceAdd, Nat.reduceMul, Nat.reduceSub, Nat.reduceBEq, reduceCtorEq, e0]
    simp only [goalV, goalB, hd, e0, if_true] at hp
    exact hp

end Go.Proofs.YtnamhjdfegohbaaGreatDoor.Ab

/- MOVES of a line: what the program lists. -/
namespace Go.Proofs.YtnamhjdfegohbaaGreatDoor.Ab
open Go
set_option maxRecDepth 100000
set_option maxHeartbeats 4000000

def mcells (l : List (Int × Int)) : List AV := l.flatMap fun m => [.int .i64 m.1, .int .i64 m.2]
theorem mcells_app (a b : List (Int × Int)) : mcells (a ++ b) = mcells a ++ mcells b := by simp [mcells]
def hasB (s : List UInt8) (c : UInt8) : Bool := decide (0 ≤ Go.Lib.indexByte s c)
def moveB (w kinds : List UInt8) (i : Nat) : List (Int × Int) := match goalB w i with
  | some t => if hasB kinds (w.getD i 0) then [((i : Int), t)] else []
  | none => []
def movesB (w kinds : List UInt8) : List (Int × Int) := (List.range w.length).flatMap (moveB w kinds)

theorem sub_one (w : List UInt8) (i : Nat) (hi : i < w.length) : (w.drop i).take (i + 1 - i) = [w.getD i 0] := by
  have h1 : w.drop i = w.getD i 0 :: w.drop (i + 1) := by
    rw [List.drop_eq_getElem_cons hi]; simp [List.getD_eq_getElem?_getD, hi]
  rw [show i + 1 - i = 1 by omega, h1]; rfl

theorem lp_moves (w kinds : List UInt8) (hw : w.length < 2 ^ 30) (h0 : AH) {R : X → Env → AH → Prop} : ∀ (d i : Nat) (o : AV) (l : List (Int × Int)) (h : AH), i + d = w.length → Own 2 h0 h o l.length (mcells l) → Pre h0 h → l.length ≤ i →
    (∀ o' h', Own 2 h0 h' o' (l ++ (List.range' i d).flatMap (moveB w kinds)).length (mcells (l ++ (List.range' i d).flatMap (moveB w kinds))) → Pre h0 h' → R (.exit 0) [(5, o')] h') →
    Cx (.loop lp105_0) [(0, .str w), (1, .str kinds), (5, o), (11, .int .i64 w.length), (12, .int .i64 i)] h R k k := by
  intro d
  induction d with
  | zero =>
    intro i o l h hi ho hp hl hR
    rw [w_loopb (c := lp105_0) (d := lb105_0) rfl]
    unfold lb105_0
    obtain rfl : i = w.length := by omega
    simp only [↓reduceIte, ↓zP, zW, WOp, evOp, evBin, binI, binSh, binS, evNil, keyIs, keyEq, mkv, AV.cells, AV.sc, optv, bnd, env, put, Env.get, Env.set, Env.del, Env.dels, Env.init, res1, resL, resV, fillP, splice, newRow, Nat.reduceEqDiff, Nat.reduceLT, Nat.reduceLeDiff, Nat.reduceAdd, Nat.reduceMul, Nat.reduceSub, Nat.reduceBEq, reduceCtorEq]
    exact hR o h (by simpa using ho) hp
  | succ d ih =>
    intro i o l h hi ho hp hl hR
    rw [w_loopb (c := lp105_0) (d := lb105_0) rfl]
    unfold lb105_0
    have hlt : (i : Int) < (w.length : Int) := by omega
    have hw1 : IntKind.i64.wrap ((i : Int) + 1) = ((i + 1 : Nat) : Int) := by rw [IntKind.wrap_i64]; omega
    have hb1 : ((i + 1 : Nat) : Int) ≤ (w.length : Int) := by omega
    have hb2 : (i : Int) ≤ ((i + 1 : Nat) : Int) := by omega
    simp only [↓reduceIte, ↓zP, zW, WOp, evOp, evBin, binI, binSh, binS, evNil, keyIs, keyEq, mkv, AV.cells, AV.sc, optv, bnd, env, put, Env.get, Env.set, Env.del, Env.dels, Env.init, res1, resL, resV, fillP, splice, newRow, Nat.reduceEqDiff, Nat.reduceLT, Nat.reduceLeDiff, Nat.reduceAdd, Nat.reduceMul, Nat.reduceSub, Nat.reduceBEq, reduceCtorEq, hlt]
    refine c_goal w i (by omega) (by omega) ?_
    have hm : moveB w kinds i = match goalB w i with
      | some t => if hasB kinds (w.getD i 0) then [((i : Int), t)] else []
      | none => [] := rfl
    unfold goalV
    have go : ∀ (o' : AV) (h' : AH) (l' : List (Int × Int)), l' = l ++ moveB w kinds i → l'.length ≤ i + 1 → Own 2 h0 h' o' l'.length (mcells l') → Pre h0 h' →
        Cx (.loop lp105_0) [(0, .str w), (1, .str kinds), (5, o'), (11, .int .i64 w.length), (12, .int .i64 ((i + 1 : Nat) : Int))] h' R k k := by
      rintro o' h' l' rfl hl' ho' hp'
      refine ih (i + 1) o' _ h' (by omega) ho' hp' hl' ?_
      intro o2 h2 ho2 hp2
      refine hR o2 h2 ?_ hp2
      rw [List.range'_succ, List.flatMap_cons, ← List.append_assoc]
      exact ho2
    cases hg : goalB w i with
    | none =>
      rw [hg] at hm
      simp only [↓reduceIte, ↓zP, zW, WOp, evOp, evBin, binI, binSh, binS, evNil, keyIs, keyEq, mkv, AV.cells, AV.sc, optv, bnd, env, put, Env.get, Env.set, Env.del, Env.dels, Env.init, res1, resL, resV, fillP, splice, newRow, Nat.reduceEqDiff, Nat.reduceLT, Nat.reduceLeDiff, Nat.reduceAdd, Nat.reduceMul, Nat.reduceSub, Nat.reduceBEq, reduceCtorEq, hw1]
      rw [w_loopn (c := lp105_0) rfl]
      simp only [↓reduceIte, ↓zP, zW, WOp, evOp, evBin, binI, binSh, binS, evNil, keyIs, keyEq, mkv, AV.cells, AV.sc, optv, bnd, env, put, Env.get, Env.set, Env.del, Env.dels, Env.init, res1, resL, resV, fillP, splice, newRow, Nat.reduceEqDiff, Nat.reduceLT, Nat.reduceLeDiff, Nat.reduceAdd, Nat.reduceMul, Nat.reduceSub, Nat.reduceBEq, reduceCtorEq]
      exact go o h l (by rw [hm]; simp) (by omega) ho hp
    | some t =>
      rw [hg] at hm
      simp only [↓reduceIte, ↓zP, zW, WOp, evOp, evBin, binI, binSh, binS, evNil, keyIs, keyEq, mkv, AV.cells, AV.sc, optv, bnd, env, put, Env.get, Env.set, Env.del, Env.dels, Env.init, res1, resL, resV, fillP, splice, newRow, Nat.reduceEqDiff, Nat.reduceLT, Nat.reduceLeDiff, Nat.reduceAdd, Nat.reduceMul, Nat.reduceSub, Nat.reduceBEq, reduceCtorEq, hw1, hb1, hb2, Int.natCast_nonneg, sub_one w i (by omega)]
      refine S_ext rfl rfl ?_
      cases hk : hasB kinds (w.getD i 0)
      · have hk' := hk
        unfold hasB at hk'
        simp only [↓reduceIte, ↓zP, zW, WOp, evOp, evBin, binI, binSh, binS, evNil, keyIs, keyEq, mkv, AV.cells, AV.sc, optv, bnd, env, put, Env.get, Env.set, Env.del, Env.dels, Env.init, res1, resL, resV, fillP, splice, newRow, Nat.reduceEqDiff, Nat.reduceLT, Nat.reduceLeDiff, Nat.reduceAdd, Nat.reduceMul, Nat.reduceSub, Nat.reduceBEq, reduceCtorEq, hk', hw1]
        rw [w_loopn (c := lp105_0) rfl]
        simp only [↓reduceIte, ↓zP, zW, WOp, evOp, evBin, binI, binSh, binS, evNil, keyIs, keyEq, mkv, AV.cells, AV.sc, optv, bnd, env, put, Env.get, Env.set, Env.del, Env.dels, Env.init, res1, resL, resV, fillP, splice, newRow, Nat.reduceEqDiff, Nat.reduceLT, Nat.reduceLeDiff, Nat.reduceAdd, Nat.reduceMul, Nat.reduceSub, Nat.reduceBEq, reduceCtorEq]
        exact go o h l (by rw [hm]; simp only [hk, Bool.false_eq_true, if_false, List.append_nil]) (by omega) ho hp
      · have hk' := hk
        unfold hasB at hk'
        simp only [↓reduceIte, ↓zP, zW, WOp, evOp, evBin, binI, binSh, binS, evNil, keyIs, keyEq, mkv, AV.cells, AV.sc, optv, bnd, env, put, Env.get, Env.set, Env.del, Env.dels, Env.init, res1, resL, resV, fillP, splice, newRow, Nat.reduceEqDiff, Nat.reduceLT, Nat.reduceLeDiff, Nat.reduceAdd, Nat.reduceMul, Nat.reduceSub, Nat.reduceBEq, reduceCtorEq, hk', hw1]
        obtain ⟨o', h', ha, hown, hpre⟩ := ap_own (ho.pre (Pre.push h (.row [.int .i64 i, .int .i64 t] 0 0 false))) (hp.trans (Pre.push _ _)) (q := 1) (vs := [.int .i64 i, .int .i64 t]) rfl rfl (by unfold room; omega)
        simp only [rdRow_push _ _ _ (show 2 = [AV.int .i64 (i : Int), AV.int .i64 t].length from rfl), ha, ↓reduceIte, ↓zP, zW, WOp, evOp, evBin, binI, binSh, binS, evNil, keyIs, keyEq, mkv, AV.cells, AV.sc, optv, bnd, env, put, Env.get, Env.set, Env.del, Env.dels, Env.init, res1, resL, resV, fillP, splice, newRow, Nat.reduceEqDiff, Nat.reduceLT, Nat.reduceLeDiff, Nat.reduceAdd, Nat.reduceMul, Nat.reduceSub, Nat.reduceBEq, reduceCtorEq, hw1]
        rw [w_loopn (c := lp105_0) rfl]
        simp only [↓reduceIte, ↓zP, zW, WOp, evOp, evBin, binI, binSh, binS, evNil, keyIs, keyEq, mkv, AV.cells, AV.sc, optv, bnd, env, put, Env.get, Env.set, Env.del, Env.dels, Env.init, res1, resL, resV, fillP, splice, newRow, Nat.reduceEqDiff, Nat.reduceLT, Nat.reduceLeDiff, Nat.reduceAdd, Nat.reduceMul, Nat.reduceSub, Nat.reduceBEq, reduceCtorEq]
        refine go o' h' (l ++ [((i : Int), t)]) (by rw [hm]; simp only [hk, if_true]) (by simp; omega) ?_ hpre
        rw [mcells_app, List.length_append]
        exact hown

theorem c_moves (w kinds : List UInt8) (hw : w.length < 2 ^ 30) {h : AH} {post : AV → AH → Prop} (hp : ∀ v h', Own 2 h h' v (movesB w kinds).length (mcells (movesB w kinds)) → Pre h h' → post v h') : S 105 [.str w, .str kinds] h post k := by
  refine S_of rfl T105 ?_
  unfold fi105
  simp only [↓reduceIte, ↓zP, zW, WOp, evOp, evBin, binI, binSh, binS, evNil, keyIs, keyEq, mkv, AV.cells, AV.sc, optv, bnd, env, put, Env.get, Env.set, Env.del, Env.dels, Env.init, res1, resL, resV, fillP, splice, newRow, Nat.reduceEqDiff, Nat.reduceLT, Nat.reduceLeDiff, Nat.reduceAdd, Nat.reduceMul, Nat.reduceSub, Nat.reduceBEq, reduceCtorEq]
  refine lp_moves w kinds hw h w.length 0 .empS [] h (by omega) (by simp [Own, mcells]) (Pre.refl h) (by simp) ?_
  intro o' h' ho hpre
  simp only [↓reduceIte, ↓zP, zW, WOp, evOp, evBin, binI, binSh, binS, evNil, keyIs, keyEq, mkv, AV.cells, AV.sc, optv, bnd, env, put, Env.get, Env.set, Env.del, Env.dels, Env.init, res1, resL, resV, fillP, splice, newRow, Nat.reduceEqDiff, Nat.reduceLT, Nat.reduceLeDiff, Nat.reduceAdd, Nat.reduceMul, Nat.reduceSub, Nat.reduceBEq, reduceCtorEq]
  refine hp o' h' ?_ hpre
  rw [List.nil_append, ← List.range_eq_range'] at ho
  exact ho
end Go.Proofs.YtnamhjdfegohbaaGreatDoor.Ab

/- LINES: counts, line tests. -/
namespace Go.Proofs.YtnamhjdfegohbaaGreatDoor.Ab
open Go
set_option maxRecDepth 100000
set_option maxHeartbeats 4000000

theorem c_count (w : List UInt8) {h : AH} {post : AV → AH → Prop} (hp : post (.tup [.int .i64 (w.count 84 : Nat), .int .i64 (w.count 46 : Nat), .int .i64 (w.count 70 : Nat)]) h) : S 189 [.str w] h post k := by
  refine S_of rfl T189 ?_
  unfold fi189
  simp only [↓reduceIte, ↓zP, zW, WOp, evOp, evBin, binI, binSh, binS, evNil, keyIs, keyEq, mkv, AV.cells, AV.sc, optv, bnd, env, put, Env.get, Env.set, Env.del, Env.dels, Env.init, res1, resL, resV, fillP, splice, newRow, Nat.reduceEqDiff, Nat.reduceLT, Nat.reduceLeDiff, Nat.reduceAdd, Nat.reduceMul, Nat.reduceSub, Nat.reduceBEq, reduceCtorEq]
  refine S_ext rfl rfl ?_
  simp only [↓reduceIte, ↓zP, zW, WOp, evOp, evBin, binI, binSh, binS, evNil, keyIs, keyEq, mkv, AV.cells, AV.sc, optv, bnd, env, put, Env.get, Env.set, Env.del, Env.dels, Env.init, res1, resL, resV, fillP, splice, newRow, Nat.reduceEqDiff, Nat.reduceLT, Nat.reduceLeDiff, Nat.reduceAdd, Nat.reduceMul, Nat.reduceSub, Nat.reduceBEq, reduceCtorEq]
  refine S_ext rfl rfl ?_
  simp only [↓reduceIte, ↓zP, zW, WOp, evOp, evBin, binI, binSh, binS, evNil, keyIs, keyEq, mkv, AV.cells, AV.sc, optv, bnd, env, put, Env.get, Env.set, Env.del, Env.dels, Env.init, res1, resL, resV, fillP, splice, newRow, Nat.reduceEqDiff, Nat.reduceLT, Nat.reduceLeDiff, Nat.reduceAdd, Nat.reduceMul, Nat.reduceSub, Nat.reduceBEq, reduceCtorEq]
  refine S_ext rfl rfl ?_
  simp only [↓reduceIte, ↓zP, zW, WOp, evOp, evBin, binI, binSh, binS, evNil, keyIs, keyEq, mkv, AV.cells, AV.sc, optv, bnd, env, put, Env.get, Env.set, Env.del, Env.dels, Env.init, res1, resL, resV, fillP, splice, newRow, Nat.reduceEqDiff, Nat.reduceLT, Nat.reduceLeDiff, Nat.reduceAdd, Nat.reduceMul, Nat.reduceSub, Nat.reduceBEq, reduceCtorEq]
  exact hp

theorem dw_nil {p : UInt8 → Bool} : ∀ l : List UInt8, l.dropWhile p = [] ↔ ∀ x ∈ l, p x = true
  | [] => by simp
  | a :: l => by
    rw [List.dropWhile_cons]
    cases h : p a
    · simp [h]
    · simp only [if_true, dw_nil l, List.mem_cons, forall_eq_or_imp, h, true_and]
theorem tw_mem {p : UInt8 → Bool} : ∀ (l : List UInt8) (x : UInt8), x ∈ l.takeWhile p → p x = true
  | [], x, h => by simp at h
  | a :: l, x, h => by
    rw [List.takeWhile_cons] at h
    cases ha : p a
    · simp [ha] at h
    · simp only [ha, if_true, List.mem_cons] at h
      rcases h with rfl | h
      · exact ha
      · exact tw_mem l x h
theorem trim_nil (s : List UInt8) : (Go.Lib.trimS s [46, 70, 84] == []) = s.all isSign := by
  have hp : ∀ b, ([46, 70, 84] : List UInt8).contains b = isSign b := by
    intro b
    simp only [List.contains_cons, List.contains_nil, Bool.or_false, isSign]
    cases b == 46 <;> cases b == 70 <;> cases b == 84 <;> rfl
  apply Bool.eq_iff_iff.2
  simp only [beq_iff_eq, List.all_eq_true, Go.Lib.trimS, Go.Lib.trimLeftS, Go.Lib.trimRightS, hp]
  constructor
  · intro h x hx
    rw [dw_nil] at h
    by_cases hs : isSign x = true
    · exact hs
    · have : x ∈ (List.dropWhile isSign s.reverse).reverse := by
        rw [List.mem_reverse]
        have := List.takeWhile_append_dropWhile (p := isSign) (l := s.reverse)
        have hx' : x ∈ s.reverse := by simpa using hx
        rw [← this, List.mem_append] at hx'
        rcases hx' with h1 | h1
        · exact absurd (tw_mem _ _ h1) hs
        · exact h1
      exact h x this
  · intro h
    have : List.dropWhile isSign s.reverse = [] := by
      rw [dw_nil]; intro x hx; exact h x (by simpa using hx)
    rw [this]; rfl

theorem c_isLineOf (s : List UInt8) (most : Int) (hm : most ≤ 1000) (hs : s.length < 2 ^ 60) {h : AH} {post : AV → AH → Prop} (hp : post (.bool (decide (1 ≤ (s.length : Int) ∧ (s.length : Int) ≤ most) && s.all isSign)) h) : S 82 [.str s, .int .i64 most] h post k := by
  refine S_of rfl T82 ?_
  unfold fi82
  simp only [↓reduceIte, ↓zP, zW, WOp, evOp, evBin, binI, binSh, binS, evNil, keyIs, keyEq, mkv, AV.cells, AV.sc, optv, bnd, env, put, Env.get, Env.set, Env.del, Env.dels, Env.init, res1, resL, resV, fillP, splice, newRow, Nat.reduceEqDiff, Nat.reduceLT, Nat.reduceLeDiff, Nat.reduceAdd, Nat.reduceMul, Nat.reduceSub, Nat.reduceBEq, reduceCtorEq]
  refine c_within _ _ _ ?_
  by_cases hl : 1 ≤ (s.length : Int) ∧ (s.length : Int) ≤ most
  · simp only [↓reduceIte, ↓zP, zW, WOp, evOp, evBin, binI, binSh, binS, evNil, keyIs, keyEq, mkv, AV.cells, AV.sc, optv, bnd, env, put, Env.get, Env.set, Env.del, Env.dels, Env.init, res1, resL, resV, fillP, splice, newRow, Nat.reduceEqDiff, Nat.reduceLT, Nat.reduceLeDiff, Nat.reduceAdd, Nat.reduceMul, Nat.reduceSub, Nat.reduceBEq, reduceCtorEq, hl]
    refine S_ext (r := .str (Go.Lib.trimS s [46, 70, 84])) rfl ?_ ?_
    · simp only [xTrim]; rw [if_pos ⟨by omega, by simp, by decide⟩]
    · simp only [↓reduceIte, ↓zP, zW, WOp, evOp, evBin, binI, binSh, binS, evNil, keyIs, keyEq, mkv, AV.cells, AV.sc, optv, bnd, env, put, Env.get, Env.set, Env.del, Env.dels, Env.init, res1, resL, resV, fillP, splice, newRow, Nat.reduceEqDiff, Nat.reduceLT, Nat.reduceLeDiff, Nat.reduceAdd, Nat.reduceMul, Nat.reduceSub, Nat.reduceBEq, reduceCtorEq, trim_nil]
      simpa [hl] using hp
  · simp only [↓reduceIte, ↓zP, zW, WOp, evOp, evBin, binI, binSh, binS, evNil, keyIs, keyEq, mkv, AV.cells, AV.sc, optv, bnd, env, put, Env.get, Env.set, Env.del, Env.dels, Env.init, res1, resL, resV, fillP, splice, newRow, Nat.reduceEqDiff, Nat.reduceLT, Nat.reduceLeDiff, Nat.reduceAdd, Nat.reduceMul, Nat.reduceSub, Nat.reduceBEq, reduceCtorEq, hl]
    simpa [hl] using hp

def pairsL : List UInt8 → Nat → Nat → Nat
  | [], _, sum => sum
  | b :: l, t, sum => if b == 84 then pairsL l (t + 1) sum else if b == 70 then pairsL l t (sum + t) else pairsL l t sum
def pairsB (w : List UInt8) : Nat := pairsL w 0 0

theorem lp_pairs (w : List UInt8) (hw : w.length < 1073741824) {h : AH} {R : X → Env → AH → Prop} : ∀ (d i t sum : Nat), i + d = w.length → t ≤ i → sum ≤ i * 1073741824 →
    R (.exit 0) [(3, .int .i64 (pairsL (w.drop i) t sum))] h →
    Cx (.loop lp191_0) [(0, .str w), (3, .int .i64 sum), (4, .int .i64 t), (7, .int .i64 w.length), (8, .int .i64 i)] h R k k := by
  intro d
  induction d with
  | zero =>
    intro i t sum hi ht hsum hR
    rw [w_loopb (c := lp191_0) (d := lb191_0) rfl]
    unfold lb191_0
    obtain rfl : i = w.length := by omega
    simp only [↓reduceIte, ↓zP, zW, WOp, evOp, evBin, binI, binSh, binS, evNil, keyIs, keyEq, mkv, AV.cells, AV.sc, optv, bnd, env, put, Env.get, Env.set, Env.del, Env.dels, Env.init, res1, resL, resV, fillP, splice, newRow, Nat.reduceEqDiff, Nat.reduceLT, Nat.reduceLeDiff, Nat.reduceAdd, Nat.reduceMul, Nat.reduceSub, Nat.reduceBEq, reduceCtorEq]
    simpa [pairsL] using hR
  | succ d ih =>
    intro i t sum hi ht hsum hR
    rw [w_loopb (c := lp191_0) (d := lb191_0) rfl]
    unfold lb191_0
    have hlt : (i : Int) < (w.length : Int) := by omega
    have hw1 : IntKind.i64.wrap ((i : Int) + 1) = ((i + 1 : Nat) : Int) := by rw [IntKind.wrap_i64]; omega
    have hw2 : IntKind.i64.wrap ((t : Int) + 1) = ((t + 1 : Nat) : Int) := by rw [IntKind.wrap_i64]; omega
    have hw3 : IntKind.i64.wrap ((sum : Int) + (t : Int)) = ((sum + t : Nat) : Int) := by
      rw [IntKind.wrap_i64]; omega
    have hdrop : w.drop i = w.getD i 0 :: w.drop (i + 1) := by
      rw [List.drop_eq_getElem_cons (by omega)]; simp [List.getD_eq_getElem?_getD, show i < w.length by omega]
    rw [hdrop] at hR
    generalize hb : w.getD i 0 = b at *
    have u1 := u8_eq b 84 (n := 84) rfl
    have u2 := u8_eq b 70 (n := 70) rfl
    cases e1 : (b == 84)
    · cases e2 : (b == 70)
      · simp only [↓reduceIte, ↓zP, zW, WOp, evOp, evBin, binI, binSh, binS, evNil, keyIs, keyEq, mkv, AV.cells, AV.sc, optv, bnd, env, put, Env.get, Env.set, Env.del, Env.dels, Env.init, res1, resL, resV, fillP, splice, newRow, Nat.reduceEqDiff, Nat.reduceLT, Nat.reduceLeDiff, Nat.reduceAdd, Nat.reduceMul, Nat.reduceSub, Nat.reduceBEq, reduceCtorEq, hlt, hb, u1, u2, e1, e2, hw1, hw2, hw3]
        rw [w_loopn (c := lp191_0) rfl]
        simp only [↓reduceIte, ↓zP, zW, WOp, evOp, evBin, binI, binSh, binS, evNil, keyIs, keyEq, mkv, AV.cells, AV.sc, optv, bnd, env, put, Env.get, Env.set, Env.del, Env.dels, Env.init, res1, resL, resV, fillP, splice, newRow, Nat.reduceEqDiff, Nat.reduceLT, Nat.reduceLeDiff, Nat.reduceAdd, Nat.reduceMul, Nat.reduceSub, Nat.reduceBEq, reduceCtorEq]
        simp only [pairsL, e1, e2, if_true, if_false, Bool.false_eq_true] at hR
        exact ih (i + 1) t sum (by omega) (by omega) (by rw [Nat.succ_mul]; exact Nat.le_trans hsum (Nat.le_add_right _ _)) hR
      · simp only [↓reduceIte, ↓zP, zW, WOp, evOp, evBin, binI, binSh, binS, evNil, keyIs, keyEq, mkv, AV.cells, AV.sc, optv, bnd, env, put, Env.get, Env.set, Env.del, Env.dels, Env.init, res1, resL, resV, fillP, splice, newRow, Nat.reduceEqDiff, Nat.reduceLT, Nat.reduceLeDiff, Nat.reduceAdd, Nat.reduceMul, Nat.reduceSub, Nat.reduceBEq, reduceCtorEq, hlt, hb, u1, u2, e1, e2, hw1, hw2, hw3]
        rw [w_loopn (c := lp191_0) rfl]
        simp only [↓reduceIte, ↓zP, zW, WOp, evOp, evBin, binI, binSh, binS, evNil, keyIs, keyEq, mkv, AV.cells, AV.sc, optv, bnd, env, put, Env.get, Env.set, Env.del, Env.dels, Env.init, res1, resL, resV, fillP, splice, newRow, Nat.reduceEqDiff, Nat.reduceLT, Nat.reduceLeDiff, Nat.reduceAdd, Nat.reduceMul, Nat.reduceSub, Nat.reduceBEq, reduceCtorEq]
        simp only [pairsL, e1, e2, if_true, if_false, Bool.false_eq_true] at hR
        exact ih (i + 1) t (sum + t) (by omega) (by omega) (by rw [Nat.succ_mul]; omega) hR
    · simp only [↓reduceIte, ↓zP, zW, WOp, evOp, evBin, binI, binSh, binS, evNil, keyIs, keyEq, mkv, AV.cells, AV.sc, optv, bnd, env, put, Env.get, Env.set, Env.del, Env.dels, Env.init, res1, resL, resV, fillP, splice, newRow, Nat.reduceEqDiff, Nat.reduceLT, Nat.reduceLeDiff, Nat.reduceAdd, Nat.reduceMul, Nat.reduceSub, Nat.reduceBEq, reduceCtorEq, hlt, hb, u1, u2, e1, hw1, hw2, hw3]
      rw [w_loopn (c := lp191_0) rfl]
      simp only [↓reduceIte, ↓zP, zW, WOp, evOp, evBin, binI, binSh, binS, evNil, keyIs, keyEq, mkv, AV.cells, AV.sc, optv, bnd, env, put, Env.get, Env.set, Env.del, Env.dels, Env.init, res1, resL, resV, fillP, splice, newRow, Nat.reduceEqDiff, Nat.reduceLT, Nat.reduceLeDiff, Nat.reduceAdd, Nat.reduceMul, Nat.reduceSub, Nat.reduceBEq, reduceCtorEq]
      simp only [pairsL, e1, if_true, if_false, Bool.false_eq_true] at hR
      exact ih (i + 1) (t + 1) sum (by omega) (by omega) (by rw [Nat.succ_mul]; exact Nat.le_trans hsum (Nat.le_add_right _ _)) hR

theorem c_pairs (w : List UInt8) (hw : w.length < 1073741824) {h : AH} {post : AV → AH → Prop} (hp : post (.int .i64 (pairsB w)) h) : S 191 [.str w] h post k := by
  refine S_of rfl T191 ?_
  unfold fi191
  simp only [↓reduceIte, ↓zP, zW, WOp, evOp, evBin, binI, binSh, binS, evNil, keyIs, keyEq, mkv, AV.cells, AV.sc, optv, bnd, env, put, Env.get, Env.set, Env.del, Env.dels, Env.init, res1, resL, resV, fillP, splice, newRow, Nat.reduceEqDiff, Nat.reduceLT, Nat.reduceLeDiff, Nat.reduceAdd, Nat.reduceMul, Nat.reduceSub, Nat.reduceBEq, reduceCtorEq]
  refine lp_pairs w hw w.length 0 0 0 (by omega) (by omega) (by omega) ?_
  simp only [↓reduceIte, ↓zP, zW, WOp, evOp, evBin, binI, binSh, binS, evNil, keyIs, keyEq, mkv, AV.cells, AV.sc, optv, bnd, env, put, Env.get, Env.set, Env.del, Env.dels, Env.init, res1, resL, resV, fillP, splice, newRow, Nat.reduceEqDiff, Nat.reduceLT, Nat.reduceLeDiff, Nat.reduceAdd, Nat.reduceMul, Nat.reduceSub, Nat.reduceBEq, reduceCtorEq]
  exact hp

end Go.Proofs.YtnamhjdfegohbaaGreatDoor.Ab

/- PLAIN: recursion along a relation that falls, by fuel and without. -/
namespace Go.Proofs.YtnamhjdfegohbaaGreatDoor.Ab

section
variable {σ α : Type} (next : σ → List σ) (step : σ → List α → α)
/-- By fuel. -/
def rcN : Nat → σ → α
  | 0, s => step s []
  | n + 1, s => step s ((next s).map (rcN n))
/-- By a measure. -/
def rc (mu : σ → Nat) (s : σ) : α := rcN next step (mu s) s
theorem rcN_stable {mu : σ → Nat} (hm : ∀ s, ∀ s' ∈ next s, mu s' < mu s) : ∀ (n m : Nat) (s : σ), mu s ≤ n → mu s ≤ m → rcN next step n s = rcN next step m s
  | 0, 0, _, _, _ => rfl
  | 0, m + 1, s, h, _ => by
    have : next s = [] := List.eq_nil_iff_forall_not_mem.2 fun s' hs => by have := hm s s' hs; omega
    simp [rcN, this]
  | n + 1, 0, s, _, h => by
    have : next s = [] := List.eq_nil_iff_forall_not_mem.2 fun s' hs => by have := hm s s' hs; omega
    simp [rcN, this]
  | n + 1, m + 1, s, h1, h2 => by
    simp only [rcN]
    congr 1
    apply List.map_congr_left
    intro s' hs
    have := hm s s' hs
    exact rcN_stable hm n m s' (by omega) (by omega)
theorem rc_eq {mu : σ → Nat} (hm : ∀ s, ∀ s' ∈ next s, mu s' < mu s) (s : σ) : rc next step mu s = step s ((next s).map (rc next step mu)) := by
  unfold rc
  rw [rcN_stable next step hm (mu s) (mu s + 1) s (Nat.le_refl _) (by omega)]
  simp only [rcN]
  congr 1
  apply List.map_congr_left
  intro s' hs
  have := hm s s' hs
  exact rcN_stable next step hm _ _ s' (by omega) (by omega)
end
end Go.Proofs.YtnamhjdfegohbaaGreatDoor.Ab

/- PLAIN LAWS of lines and moves: no program in sight. -/
namespace Go.Proofs.YtnamhjdfegohbaaGreatDoor.Ab

/-- What is still before an animal. -/
def fmu (n i : Nat) (b : UInt8) : Nat := if b == 84 then n - i else if b == 70 then i + 1 else 0
def muF (n : Nat) : Nat → List UInt8 → Nat
  | _, [] => 0
  | i, b :: l => fmu n i b + muF n (i + 1) l
def mu (w : List UInt8) : Nat := muF w.length 0 w
theorem muF_set (n : Nat) : ∀ (l : List UInt8) (i j : Nat) (b : UInt8), j < l.length → muF n i (l.set j b) + fmu n (i + j) (l.getD j 0) = muF n i l + fmu n (i + j) b
  | [], _, _, _, h => by simp at h
  | a :: l, i, 0, b, _ => by simp [muF]; omega
  | a :: l, i, j + 1, b, h => by
    have := muF_set n l (i + 1) j b (by simpa using h)
    simp only [List.set_cons_succ, muF, List.getD_cons_succ]
    rw [show i + (j + 1) = i + 1 + j by omega]
    omega
/-- The line behind a move. -/
def madeB (w : List UInt8) (i t : Nat) : List UInt8 := (w.set t (w.getD i 0)).set i 46
theorem madeB_length (w : List UInt8) (i t : Nat) : (madeB w i t).length = w.length := by simp [madeB]

theorem atB_in {w : List UInt8} {i : Nat} (h : i < w.length) : atB w (i : Int) = w.getD i 0 := by
  unfold atB; rw [if_pos (by omega)]; simp
theorem atB_ne {w : List UInt8} {i : Int} (h : atB w i ≠ 0) : 0 ≤ i ∧ i < w.length := by
  unfold atB at h; split at h
  · assumption
  · exact absurd rfl h
theorem atB_eq {w : List UInt8} {i : Int} {b : UInt8} (h : atB w i = b) (hb : b ≠ 0) : ∃ t : Nat, i = t ∧ t < w.length ∧ w.getD t 0 = b := by
  obtain ⟨h1, h2⟩ := atB_ne (w := w) (i := i) (by rw [h]; exact hb)
  refine ⟨i.toNat, by omega, by omega, ?_⟩
  unfold atB at h; rw [if_pos ⟨h1, h2⟩] at h; exact h

/-- A move: which animal, where to. -/
def Mv (w : List UInt8) (i t : Nat) : Prop := i < w.length ∧ t < w.length ∧ w.getD t 0 = 46 ∧
  ((w.getD i 0 = 84 ∧ (t = i + 1 ∨ (t = i + 2 ∧ w.getD (i + 1) 0 = 70))) ∨ (w.getD i 0 = 70 ∧ (t + 1 = i ∨ (t + 2 = i ∧ w.getD (i - 1) 0 = 84))))
theorem goalB_mv {w : List UInt8} {i : Nat} {t : Int} (hi : i < w.length) (h : goalB w i = some t) : ∃ t' : Nat, t = t' ∧ Mv w i t' := by
  have hs : w.getD i 0 = 84 ∨ w.getD i 0 = 70 ∨ stepB (w.getD i 0) = 0 := by
    unfold stepB
    by_cases h1 : w.getD i 0 = 84
    · exact .inl h1
    · by_cases h2 : w.getD i 0 = 70
      · exact .inr (.inl h2)
      · right; right; rw [if_neg (by simpa using h1), if_neg (by simpa using h2)]
  unfold goalB at h
  rcases hs with h0 | h0 | h0
  · rw [h0] at h
    simp only [show stepB 84 = 1 from rfl, show otherB 84 = 70 from rfl] at h
    split at h
    · rename_i hh; cases hh
    · split at h
      · rename_i h1
        obtain ⟨t', ht, h2, h3⟩ := atB_eq (beq_iff_eq.1 h1) (by decide)
        cases h
        exact ⟨t', ht, hi, h2, h3, .inl ⟨h0, .inl (by omega)⟩⟩
      · split at h
        · rename_i h1
          simp only [Bool.and_eq_true, beq_iff_eq] at h1
          obtain ⟨u, hu, h4, h5⟩ := atB_eq h1.1 (by decide)
          obtain ⟨t', ht, h2, h3⟩ := atB_eq h1.2 (by decide)
          cases h
          refine ⟨t', ht, hi, h2, h3, .inl ⟨h0, .inr ⟨by omega, ?_⟩⟩⟩
          rw [show i + 1 = u by omega]; exact h5
        · cases h
  · rw [h0] at h
    simp only [show stepB 70 = -1 from rfl, show otherB 70 = 84 from rfl] at h
    split at h
    · rename_i hh; cases hh
    · split at h
      · rename_i h1
        obtain ⟨t', ht, h2, h3⟩ := atB_eq (beq_iff_eq.1 h1) (by decide)
        cases h
        exact ⟨t', ht, hi, h2, h3, .inr ⟨h0, .inl (by omega)⟩⟩
      · split at h
        · rename_i h1
          simp only [Bool.and_eq_true, beq_iff_eq] at h1
          obtain ⟨u, hu, h4, h5⟩ := atB_eq h1.1 (by decide)
          obtain ⟨t', ht, h2, h3⟩ := atB_eq h1.2 (by decide)
          cases h
          refine ⟨t', ht, hi, h2, h3, .inr ⟨h0, .inr ⟨by omega, ?_⟩⟩⟩
          rw [show i - 1 = u by omega]; exact h5
        · cases h
  · rw [h0] at h
    simp at h

theorem Mv.fst {w : List UInt8} {i t : Nat} (h : Mv w i t) : i < w.length := h.1
theorem Mv.snd {w : List UInt8} {i t : Nat} (h : Mv w i t) : t < w.length := h.2.1
theorem mu_made {w : List UInt8} {i t : Nat} (h : Mv w i t) : mu (madeB w i t) < mu w := by
  obtain ⟨h1, h2, h3, h4⟩ := h
  have hne : t ≠ i := by
    rcases h4 with ⟨h5, _⟩ | ⟨h5, _⟩ <;> (rintro rfl; rw [h3] at h5; revert h5; decide)
  have e1 := muF_set w.length w 0 t (w.getD i 0) h2
  have e2 := muF_set w.length (w.set t (w.getD i 0)) 0 i 46 (by simpa using h1)
  have e3 : (w.set t (w.getD i 0)).getD i 0 = w.getD i 0 := by
    simp [List.getD_eq_getElem?_getD, List.getElem?_set, hne]
  rw [e3] at e2
  rw [h3] at e1
  unfold mu
  rw [madeB_length]
  unfold madeB
  simp only [Nat.zero_add] at e1 e2
  rcases h4 with ⟨h5, h6⟩ | ⟨h5, h6⟩
  · rw [h5] at e1 e2 ⊢
    simp only [fmu, show ((46 : UInt8) == 84) = false from rfl, show ((46 : UInt8) == 70) = false from rfl, show ((84 : UInt8) == 84) = true from rfl, if_true, Bool.false_eq_true, if_false] at e1 e2
    omega
  · rw [h5] at e1 e2 ⊢
    simp only [fmu, show ((46 : UInt8) == 84) = false from rfl, show ((46 : UInt8) == 70) = false from rfl, show ((70 : UInt8) == 84) = false from rfl, show ((70 : UInt8) == 70) = true from rfl, if_true, Bool.false_eq_true, if_false] at e1 e2
    omega

theorem movesB_mv {w kinds : List UInt8} {m : Int × Int} (h : m ∈ movesB w kinds) : ∃ i t : Nat, m = ((i : Int), (t : Int)) ∧ Mv w i t := by
  simp only [movesB, List.mem_flatMap, List.mem_range] at h
  obtain ⟨i, hi, h⟩ := h
  unfold moveB at h
  split at h
  · rename_i t hg
    split at h
    · obtain ⟨t', rfl, hm⟩ := goalB_mv hi hg
      simp at h
      exact ⟨i, t', h, hm⟩
    · simp at h
  · simp at h
theorem moveB_len (w kinds : List UInt8) (i : Nat) : (moveB w kinds i).length ≤ 1 := by
  unfold moveB
  split
  · split <;> simp
  · simp
theorem movesB_len (w kinds : List UInt8) : (movesB w kinds).length ≤ w.length := by
  have key : ∀ l : List Nat, (l.flatMap (moveB w kinds)).length ≤ l.length := by
    intro l
    induction l with
    | nil => simp
    | cons a l ih =>
      have := moveB_len w kinds a
      simp only [List.flatMap_cons, List.length_append, List.length_cons]
      omega
  have := key (List.range w.length)
  simpa [movesB] using this
/-- All lines behind a move. -/
def nextB (w kinds : List UInt8) : List (List UInt8) := (movesB w kinds).map fun m => madeB w m.1.toNat m.2.toNat
theorem nextB_mu {w kinds v : List UInt8} (h : v ∈ nextB w kinds) : mu v < mu w := by
  simp only [nextB, List.mem_map] at h
  obtain ⟨m, hm, rfl⟩ := h
  obtain ⟨i, t, rfl, hmv⟩ := movesB_mv hm
  exact mu_made hmv
def kindS (t : Bool) : List UInt8 := if t then [84] else [70]
def winNx (s : List UInt8 × Bool) : List (List UInt8 × Bool) := (nextB s.1 (kindS s.2)).map fun v => (v, !s.2)
def winSt (_ : List UInt8 × Bool) (l : List Bool) : Bool := l.any fun b => !b
def winB (w : List UInt8) (t : Bool) : Bool := rc winNx winSt (fun s => mu s.1) (w, t)
theorem winB_eq (w : List UInt8) (t : Bool) : winB w t = (movesB w (kindS t)).any fun m => !winB (madeB w m.1.toNat m.2.toNat) (!t) := by
  unfold winB
  have hm : ∀ s : List UInt8 × Bool, ∀ s' ∈ winNx s, mu s'.1 < mu s.1 := by
    intro s s' hs
    simp only [winNx, List.mem_map] at hs
    obtain ⟨v, hv, rfl⟩ := hs
    exact nextB_mu hv
  rw [rc_eq winNx winSt (mu := fun s => mu s.1) hm (w, t)]
  simp only [winSt, winNx, nextB, List.map_map, List.any_map, Function.comp_def]
end Go.Proofs.YtnamhjdfegohbaaGreatDoor.Ab

/- PLAIN LAWS of moves: what the reference lists is what the program lists. -/
namespace Go.Proofs.YtnamhjdfegohbaaGreatDoor.Ab

instance (w : List UInt8) (i t : Nat) : Decidable (Mv w i t) := by unfold Mv; infer_instance
/-- A move can be made. -/
def canB (w : List UInt8) (m : Int × Int) : Bool := decide (0 ≤ m.1 ∧ 0 ≤ m.2 ∧ Mv w m.1.toNat m.2.toNat)

theorem mv_goalB {w : List UInt8} {i t : Nat} (h : Mv w i t) : goalB w i = some (t : Int) := by
  obtain ⟨h1, h2, h3, h4⟩ := h
  unfold goalB
  rcases h4 with ⟨h5, h6⟩ | ⟨h5, h6⟩
  · rw [h5]
    simp only [show stepB 84 = 1 from rfl, show otherB 84 = 70 from rfl]
    rw [if_neg (by decide)]
    rcases h6 with rfl | ⟨rfl, h7⟩
    · rw [if_pos (by rw [show ((i : Int) + 1) = ((i + 1 : Nat) : Int) by omega, atB_in h2, h3]; rfl)]
      congr 1
    · rw [if_neg (by rw [show ((i : Int) + 1) = ((i + 1 : Nat) : Int) by omega, atB_in (by omega), h7]; decide)]
      rw [if_pos (by rw [show ((i : Int) + 1) = ((i + 1 : Nat) : Int) by omega, show ((i : Int) + 2 * 1) = ((i + 2 : Nat) : Int) by omega, atB_in (by omega), atB_in h2, h7, h3]; rfl)]
      congr 1
  · rw [h5]
    simp only [show stepB 70 = -1 from rfl, show otherB 70 = 84 from rfl]
    rw [if_neg (by decide)]
    rcases h6 with h6 | ⟨h6, h7⟩
    · rw [if_pos (by rw [show ((i : Int) + -1) = ((t : Nat) : Int) by omega, atB_in h2, h3]; rfl)]
      congr 1; omega
    · rw [if_neg (by rw [show ((i : Int) + -1) = ((i - 1 : Nat) : Int) by omega, atB_in (by omega), h7]; decide)]
      rw [if_pos (by rw [show ((i : Int) + -1) = ((i - 1 : Nat) : Int) by omega, show ((i : Int) + 2 * -1) = ((t : Nat) : Int) by omega, atB_in (by omega), atB_in h2, h7, h3]; rfl)]
      congr 1; omega
theorem canB_goal {w : List UInt8} {i : Nat} {t : Int} (hi : i < w.length) : canB w ((i : Int), t) = (goalB w i == some t) := by
  apply Bool.eq_iff_iff.2
  simp only [canB, decide_eq_true_eq, beq_iff_eq]
  constructor
  · rintro ⟨_, h2, h3⟩
    rw [mv_goalB (by simpa using h3)]
    congr 1; omega
  · intro h
    obtain ⟨t', rfl, hm⟩ := goalB_mv hi h
    exact ⟨by omega, by omega, by simpa using hm⟩
theorem goalB_near {w : List UInt8} {i : Nat} {t : Int} (hi : i < w.length) (h : goalB w i = some t) : t = i - 2 ∨ t = i - 1 ∨ t = i + 1 ∨ t = i + 2 := by
  obtain ⟨t', rfl, _, _, _, h4⟩ := goalB_mv hi h
  rcases h4 with ⟨_, h6⟩ | ⟨_, h6⟩ <;> omega

/-- What the reference lists from a cell. -/
def liMoveB (w : List UInt8) (toads frogs : Bool) (i : Nat) : List (Int × Int) :=
  if ((w.getD i 0 == 84) && !toads) || ((w.getD i 0 == 70) && !frogs) then [] else
  ([(i : Int) - 2, i - 1, i, i + 1, i + 2].filter fun t => canB w ((i : Int), t)).map fun t => ((i : Int), t)
def kindsS (toads frogs : Bool) : List UInt8 := (if toads then [84] else []) ++ (if frogs then [70] else [])
theorem hasB_kinds (t f : Bool) (b : UInt8) : hasB (kindsS t f) b = ((t && b == 84) || (f && b == 70)) := by
  have e1 : ((84 : UInt8) == b) = (b == 84) := by rw [Bool.eq_iff_iff]; simp only [beq_iff_eq]; exact eq_comm
  have e2 : ((70 : UInt8) == b) = (b == 70) := by rw [Bool.eq_iff_iff]; simp only [beq_iff_eq]; exact eq_comm
  unfold hasB kindsS
  cases t <;> cases f <;> cases h1 : (b == 84) <;> cases h2 : (b == 70) <;> simp [Go.Lib.indexByte, e1, e2, h1, h2]
theorem liMoveB_eq (w : List UInt8) (toads frogs : Bool) (i : Nat) (hi : i < w.length) : liMoveB w toads frogs i = moveB w (kindsS toads frogs) i := by
  unfold liMoveB moveB
  simp only [canB_goal hi, hasB_kinds]
  cases hg : goalB w i with
  | none => simp
  | some t =>
    have hn := goalB_near hi hg
    obtain ⟨t', ht, _, _, _, h4⟩ := goalB_mv hi hg
    have hk : w.getD i 0 = 84 ∨ w.getD i 0 = 70 := h4.imp And.left And.left
    have hf : ([(i : Int) - 2, i - 1, i, i + 1, i + 2].filter fun u => (some t == some u)) = [t] := by
      have e : ∀ u : Int, (some t == some u) = decide (t = u) := fun u => by
        apply Bool.eq_iff_iff.2; simp
      simp only [e]
      rcases hn with h | h | h | h
      · simp only [List.filter_cons, List.filter_nil, show (t = (i : Int) - 2) = True from eq_true h, show (t = (i : Int) - 1) = False from eq_false (by omega), show (t = (i : Int)) = False from eq_false (by omega), show (t = (i : Int) + 1) = False from eq_false (by omega), show (t = (i : Int) + 2) = False from eq_false (by omega)]
        simp [h]
      · simp only [List.filter_cons, List.filter_nil, show (t = (i : Int) - 2) = False from eq_false (by omega), show (t = (i : Int) - 1) = True from eq_true h, show (t = (i : Int)) = False from eq_false (by omega), show (t = (i : Int) + 1) = False from eq_false (by omega), show (t = (i : Int) + 2) = False from eq_false (by omega)]
        simp [h]
      · simp only [List.filter_cons, List.filter_nil, show (t = (i : Int) - 2) = False from eq_false (by omega), show (t = (i : Int) - 1) = False from eq_false (by omega), show (t = (i : Int)) = False from eq_false (by omega), show (t = (i : Int) + 1) = True from eq_true h, show (t = (i : Int) + 2) = False from eq_false (by omega)]
        simp [h]
      · simp only [List.filter_cons, List.filter_nil, show (t = (i : Int) - 2) = False from eq_false (by omega), show (t = (i : Int) - 1) = False from eq_false (by omega), show (t = (i : Int)) = False from eq_false (by omega), show (t = (i : Int) + 1) = False from eq_false (by omega), show (t = (i : Int) + 2) = True from eq_true h]
        simp [h]
    rw [hf]
    rcases hk with h | h <;> rw [h] <;> cases toads <;> cases frogs <;> simp
def liMovesB (w : List UInt8) (toads frogs : Bool) : List (Int × Int) := (List.range w.length).flatMap (liMoveB w toads frogs)
theorem flatMap_congr' {α β : Type} {f g : α → List β} : ∀ {l : List α}, (∀ x ∈ l, f x = g x) → l.flatMap f = l.flatMap g
  | [], _ => rfl
  | a :: l, h => by rw [List.flatMap_cons, List.flatMap_cons, h a (by simp), flatMap_congr' fun x hx => h x (by simp [hx])]
theorem liMovesB_eq (w : List UInt8) (toads frogs : Bool) : liMovesB w toads frogs = movesB w (kindsS toads frogs) :=
  flatMap_congr' fun i hi => liMoveB_eq w toads frogs i (List.mem_range.1 hi)
end Go.Proofs.YtnamhjdfegohbaaGreatDoor.Ab

/- MOVES made: the program's and the reference's. -/
namespace Go.Proofs.YtnamhjdfegohbaaGreatDoor.Ab
open Go
set_option maxRecDepth 100000
set_option maxHeartbeats 4000000

abbrev mvV (i t : Int) : AV := .agg [.int .i64 i, .int .i64 t]

theorem c_liPut (w : List UInt8) (i : Nat) (s : List UInt8) (hi : i < w.length) (hw : w.length < 2 ^ 30) (hs : s.length < 2 ^ 30) {h : AH} {post : AV → AH → Prop} (hp : post (.str (w.take i ++ s ++ w.drop (i + 1))) h) : S 108 [.str w, .int .i64 i, .str s] h post k := by
  refine S_of rfl T108 ?_; unfold fi108
  have e1 : ((i : Int) + 1).toNat = i + 1 := by omega
  simp (maxSteps := 1000000) (disch := first | omega | rfl | (simp only [zL, two63, room] <;> omega) | fail) only [↓reduceIte, ↓zP, zW, WOp, evOp, evBin, binI, binSh, binS, evNil, keyIs, keyEq, mkv, AV.cells, AV.sc, optv, bnd, env, put, Env.get, Env.set, Env.del, Env.dels, Env.init, res1, resL, resV, fillP, splice, newRow, Nat.reduceEqDiff, Nat.reduceLT, Nat.reduceLeDiff, Nat.reduceAdd, Nat.reduceMul, Nat.reduceSub, Nat.reduceBEq, reduceCtorEq, ↓zR, zQ, Tr, StA, StT, e1]
  exact hp
theorem c_made (w : List UInt8) (i t : Nat) (hi : i < w.length) (ht : t < w.length) (hw : w.length < 2 ^ 30) {h : AH} {post : AV → AH → Prop} (hp : ∀ h', Pre h h' → post (.str (madeB w i t)) h') : S 61 [.str w, mvV i t] h post k := by
  refine S_of rfl T61 ?_; unfold fi61
  have hr : w.length ≤ room := by unfold room; omega
  simp (maxSteps := 1000000) (disch := first | omega | rfl | (simp only [zL, two63, room] <;> omega) | fail) only [↓reduceIte, ↓zP, zW, WOp, evOp, evBin, binI, binSh, binS, evNil, keyIs, keyEq, mkv, AV.cells, AV.sc, optv, bnd, env, put, Env.get, Env.set, Env.del, Env.dels, Env.init, res1, resL, resV, fillP, splice, newRow, Nat.reduceEqDiff, Nat.reduceLT, Nat.reduceLeDiff, Nat.reduceAdd, Nat.reduceMul, Nat.reduceSub, Nat.reduceBEq, reduceCtorEq, ↓zR, zQ, Tr, StA, StT, sc_bytes, List.length_map, hr]
  refine w_drw ?_
  simp (maxSteps := 1000000) (disch := first | omega | rfl | (simp only [zL, two63, room] <;> omega) | fail) only [↓reduceIte, ↓zP, zW, WOp, evOp, evBin, binI, binSh, binS, evNil, keyIs, keyEq, mkv, AV.cells, AV.sc, optv, bnd, env, put, Env.get, Env.set, Env.del, Env.dels, Env.init, res1, resL, resV, fillP, splice, newRow, Nat.reduceEqDiff, Nat.reduceLT, Nat.reduceLeDiff, Nat.reduceAdd, Nat.reduceMul, Nat.reduceSub, Nat.reduceBEq, reduceCtorEq, ↓zR, zQ, Tr, StA, StT, List.length_map, hr]
  exact hp _ ((Pre.push _ _).trans (Pre.push _ _))

theorem e_l1In (n lo hi : Int) {h : AH} {post : AV → AH → Prop} : S 77 [.int .i64 n, .int .i64 lo, .int .i64 hi] h post k = post (.bool (decide (lo ≤ n ∧ n ≤ hi))) h := S_eq fun _ => c_l1In n lo hi
theorem e_within (n lo hi : Int) {h : AH} {post : AV → AH → Prop} : S 74 [.int .i64 n, .int .i64 lo, .int .i64 hi] h post k = post (.bool (decide (lo ≤ n ∧ n ≤ hi))) h := S_eq fun _ => c_within n lo hi

theorem c_liCan (w : List UInt8) (i t : Int) (hw : w.length < 2 ^ 30) {h : AH} {post : AV → AH → Prop} (hp : ∀ h', Pre h h' → post (.bool (canB w (i, t))) h') : S 130 [.str w, mvV i t] h post k := by
  have hq : ∀ b, canB w (i, t) = b → post (.bool b) (h ++ [AO.row [AV.int .i64 i, AV.int .i64 t] 0 0 false]) := fun b hb => by rw [← hb]; exact hp _ (Pre.push _ _)
  refine S_of rfl T130 ?_; unfold fi130
  by_cases hi : 0 ≤ i ∧ i < w.length
  case neg =>
    have h1 : (0 ≤ i ∧ i ≤ (w.length : Int) - 1) = False := eq_false (by omega)
    simp (maxSteps := 1000000) (disch := first | omega | rfl | (simp only [zL, two63, room] <;> omega) | fail) only [↓reduceIte, ↓zP, zW, WOp, evOp, evBin, binI, binSh, binS, evNil, keyIs, keyEq, mkv, AV.cells, AV.sc, optv, bnd, env, put, Env.get, Env.set, Env.del, Env.dels, Env.init, res1, resL, resV, fillP, splice, newRow, Nat.reduceEqDiff, Nat.reduceLT, Nat.reduceLeDiff, Nat.reduceAdd, Nat.reduceMul, Nat.reduceSub, Nat.reduceBEq, reduceCtorEq, ↓zR, zQ, Tr, StA, StT, e_l1In, h1]
    exact hq _ (decide_eq_false (by rintro ⟨x1, x2, x3, _⟩; simp only at x1 x2 x3; omega))
  have h1 : (0 ≤ i ∧ i ≤ (w.length : Int) - 1) = True := eq_true (by omega)
  by_cases ht : 0 ≤ t ∧ t < w.length
  case neg =>
    have h2 : (0 ≤ t ∧ t ≤ (w.length : Int) - 1) = False := eq_false (by omega)
    simp (maxSteps := 1000000) (disch := first | omega | rfl | (simp only [zL, two63, room] <;> omega) | fail) only [↓reduceIte, ↓zP, zW, WOp, evOp, evBin, binI, binSh, binS, evNil, keyIs, keyEq, mkv, AV.cells, AV.sc, optv, bnd, env, put, Env.get, Env.set, Env.del, Env.dels, Env.init, res1, resL, resV, fillP, splice, newRow, Nat.reduceEqDiff, Nat.reduceLT, Nat.reduceLeDiff, Nat.reduceAdd, Nat.reduceMul, Nat.reduceSub, Nat.reduceBEq, reduceCtorEq, ↓zR, zQ, Tr, StA, StT, e_l1In, h1, h2]
    exact hq _ (decide_eq_false (by rintro ⟨x1, x2, x3, x4, _⟩; simp only at x1 x2 x3 x4; omega))
  have h2 : (0 ≤ t ∧ t ≤ (w.length : Int) - 1) = True := eq_true (by omega)
  obtain ⟨i, rfl⟩ := Int.eq_ofNat_of_zero_le hi.1
  obtain ⟨t, rfl⟩ := Int.eq_ofNat_of_zero_le ht.1
  have hi' : i < w.length := by omega
  have ht' : t < w.length := by omega
  have c1 : ((i : Int) + 1).toNat = i + 1 := by omega
  have c2 : ((i : Int) + -1).toNat = i - 1 := by omega
  have hb : ∀ b : UInt8, (b == 84) = true → (b == 70) = false := fun b hb => by rw [beq_iff_eq] at hb; subst hb; rfl
  cases e0 : (w.getD t 0 == 46)
  · simp (maxSteps := 1000000) (disch := first | omega | rfl | (simp only [zL, two63, room] <;> omega) | fail) only [↓reduceIte, ↓zP, zW, WOp, evOp, evBin, binI, binSh, binS, evNil, keyIs, keyEq, mkv, AV.cells, AV.sc, optv, bnd, env, put, Env.get, Env.set, Env.del, Env.dels, Env.init, res1, resL, resV, fillP, splice, newRow, Nat.reduceEqDiff, Nat.reduceLT, Nat.reduceLeDiff, Nat.reduceAdd, Nat.reduceMul, Nat.reduceSub, Nat.reduceBEq, reduceCtorEq, ↓zR, zQ, Tr, StA, StT, e_l1In, h1, h2, e0]
    exact hq _ (decide_eq_false (by rintro ⟨x1, x2, x3, x4, x5, _⟩; simp only [Int.toNat_natCast] at x5; rw [x5] at e0; cases e0))
  have k0 := beq_iff_eq.1 e0
  cases e1 : (w.getD i 0 == 84)
  · cases e2 : (w.getD i 0 == 70)
    · simp (maxSteps := 1000000) (disch := first | omega | rfl | (simp only [zL, two63, room] <;> omega) | fail) only [↓reduceIte, ↓zP, zW, WOp, evOp, evBin, binI, binSh, binS, evNil, keyIs, keyEq, mkv, AV.cells, AV.sc, optv, bnd, env, put, Env.get, Env.set, Env.del, Env.dels, Env.init, res1, resL, resV, fillP, splice, newRow, Nat.reduceEqDiff, Nat.reduceLT, Nat.reduceLeDiff, Nat.reduceAdd, Nat.reduceMul, Nat.reduceSub, Nat.reduceBEq, reduceCtorEq, ↓zR, zQ, Tr, StA, StT, e_l1In, h1, h2, e0, e1, e2]
      refine hq _ (decide_eq_false ?_)
      rintro ⟨x1, x2, x3, x4, x5, x6⟩
      simp only [Int.toNat_natCast] at x6
      rcases x6 with ⟨x6, _⟩ | ⟨x6, _⟩
      · rw [x6] at e1; cases e1
      · rw [x6] at e2; cases e2
    · have k2 := beq_iff_eq.1 e2
      by_cases t1 : t + 1 = i
      · simp (maxSteps := 1000000) (disch := first | omega | rfl | (simp only [zL, two63, room] <;> omega) | fail) only [↓reduceIte, ↓zP, zW, WOp, evOp, evBin, binI, binSh, binS, evNil, keyIs, keyEq, mkv, AV.cells, AV.sc, optv, bnd, env, put, Env.get, Env.set, Env.del, Env.dels, Env.init, res1, resL, resV, fillP, splice, newRow, Nat.reduceEqDiff, Nat.reduceLT, Nat.reduceLeDiff, Nat.reduceAdd, Nat.reduceMul, Nat.reduceSub, Nat.reduceBEq, reduceCtorEq, ↓zR, zQ, Tr, StA, StT, e_l1In, h1, h2, e0, e1, e2]
        exact hq _ (decide_eq_true (by simp only [Int.toNat_natCast, Mv]; exact ⟨by omega, by omega, hi', ht', k0, .inr ⟨k2, .inl t1⟩⟩))
      by_cases t2 : t + 2 = i
      · cases e3 : (w.getD (i - 1) 0 == 84)
        · simp (maxSteps := 1000000) (disch := first | omega | rfl | (simp only [zL, two63, room] <;> omega) | fail) only [↓reduceIte, ↓zP, zW, WOp, evOp, evBin, binI, binSh, binS, evNil, keyIs, keyEq, mkv, AV.cells, AV.sc, optv, bnd, env, put, Env.get, Env.set, Env.del, Env.dels, Env.init, res1, resL, resV, fillP, splice, newRow, Nat.reduceEqDiff, Nat.reduceLT, Nat.reduceLeDiff, Nat.reduceAdd, Nat.reduceMul, Nat.reduceSub, Nat.reduceBEq, reduceCtorEq, ↓zR, zQ, Tr, StA, StT, e_l1In, h1, h2, e0, e1, e2, c2, e3]
          refine hq _ (decide_eq_false ?_)
          rintro ⟨x1, x2, x3, x4, x5, x6⟩
          simp only [Int.toNat_natCast] at x6
          rcases x6 with ⟨x6, _⟩ | ⟨_, x6 | x6⟩
          · rw [x6] at e1; cases e1
          · omega
          · rw [x6.2] at e3; cases e3
        · simp (maxSteps := 1000000) (disch := first | omega | rfl | (simp only [zL, two63, room] <;> omega) | fail) only [↓reduceIte, ↓zP, zW, WOp, evOp, evBin, binI, binSh, binS, evNil, keyIs, keyEq, mkv, AV.cells, AV.sc, optv, bnd, env, put, Env.get, Env.set, Env.del, Env.dels, Env.init, res1, resL, resV, fillP, splice, newRow, Nat.reduceEqDiff, Nat.reduceLT, Nat.reduceLeDiff, Nat.reduceAdd, Nat.reduceMul, Nat.reduceSub, Nat.reduceBEq, reduceCtorEq, ↓zR, zQ, Tr, StA, StT, e_l1In, h1, h2, e0, e1, e2, c2, e3]
          exact hq _ (decide_eq_true (by simp only [Int.toNat_natCast, Mv]; exact ⟨by omega, by omega, hi', ht', k0, .inr ⟨k2, .inr ⟨t2, beq_iff_eq.1 e3⟩⟩⟩))
      · simp (maxSteps := 1000000) (disch := first | omega | rfl | (simp only [zL, two63, room] <;> omega) | fail) only [↓reduceIte, ↓zP, zW, WOp, evOp, evBin, binI, binSh, binS, evNil, keyIs, keyEq, mkv, AV.cells, AV.sc, optv, bnd, env, put, Env.get, Env.set, Env.del, Env.dels, Env.init, res1, resL, resV, fillP, splice, newRow, Nat.reduceEqDiff, Nat.reduceLT, Nat.reduceLeDiff, Nat.reduceAdd, Nat.reduceMul, Nat.reduceSub, Nat.reduceBEq, reduceCtorEq, ↓zR, zQ, Tr, StA, StT, e_l1In, h1, h2, e0, e1, e2]
        refine hq _ (decide_eq_false ?_)
        rintro ⟨x1, x2, x3, x4, x5, x6⟩
        simp only [Int.toNat_natCast] at x6
        rcases x6 with ⟨x6, _⟩ | ⟨_, x6 | x6⟩
        · rw [x6] at e1; cases e1
        · omega
        · omega
  · have k1 := beq_iff_eq.1 e1
    have e2 := hb _ e1
    by_cases t1 : t = i + 1
    · simp (maxSteps := 1000000) (disch := first | omega | rfl | (simp only [zL, two63, room] <;> omega) | fail) only [↓reduceIte, ↓zP, zW, WOp, evOp, evBin, binI, binSh, binS, evNil, keyIs, keyEq, mkv, AV.cells, AV.sc, optv, bnd, env, put, Env.get, Env.set, Env.del, Env.dels, Env.init, res1, resL, resV, fillP, splice, newRow, Nat.reduceEqDiff, Nat.reduceLT, Nat.reduceLeDiff, Nat.reduceAdd, Nat.reduceMul, Nat.reduceSub, Nat.reduceBEq, reduceCtorEq, ↓zR, zQ, Tr, StA, StT, e_l1In, h1, h2, e0, e1, e2]
      exact hq _ (decide_eq_true (by simp only [Int.toNat_natCast, Mv]; exact ⟨by omega, by omega, hi', ht', k0, .inl ⟨k1, .inl t1⟩⟩))
    by_cases t2 : t = i + 2
    · cases e3 : (w.getD (i + 1) 0 == 70)
      · simp (maxSteps := 1000000) (disch := first | omega | rfl | (simp only [zL, two63, room] <;> omega) | fail) only [↓reduceIte, ↓zP, zW, WOp, evOp, evBin, binI, binSh, binS, evNil, keyIs, keyEq, mkv, AV.cells, AV.sc, optv, bnd, env, put, Env.get, Env.set, Env.del, Env.dels, Env.init, res1, resL, resV, fillP, splice, newRow, Nat.reduceEqDiff, Nat.reduceLT, Nat.reduceLeDiff, Nat.reduceAdd, Nat.reduceMul, Nat.reduceSub, Nat.reduceBEq, reduceCtorEq, ↓zR, zQ, Tr, StA, StT, e_l1In, h1, h2, e0, e1, e2, c1, e3]
        refine hq _ (decide_eq_false ?_)
        rintro ⟨x1, x2, x3, x4, x5, x6⟩
        simp only [Int.toNat_natCast] at x6
        rcases x6 with ⟨_, x6 | x6⟩ | ⟨x6, _⟩
        · omega
        · rw [x6.2] at e3; cases e3
        · rw [x6] at e2; cases e2
      · simp (maxSteps := 1000000) (disch := first | omega | rfl | (simp only [zL, two63, room] <;> omega) | fail) only [↓reduceIte, ↓zP, zW, WOp, evOp, evBin, binI, binSh, binS, evNil, keyIs, keyEq, mkv, AV.cells, AV.sc, optv, bnd, env, put, Env.get, Env.set, Env.del, Env.dels, Env.init, res1, resL, resV, fillP, splice, newRow, Nat.reduceEqDiff, Nat.reduceLT, Nat.reduceLeDiff, Nat.reduceAdd, Nat.reduceMul, Nat.reduceSub, Nat.reduceBEq, reduceCtorEq, ↓zR, zQ, Tr, StA, StT, e_l1In, h1, h2, e0, e1, e2, c1, e3]
        exact hq _ (decide_eq_true (by simp only [Int.toNat_natCast, Mv]; exact ⟨by omega, by omega, hi', ht', k0, .inl ⟨k1, .inr ⟨t2, beq_iff_eq.1 e3⟩⟩⟩))
    · simp (maxSteps := 1000000) (disch := first | omega | rfl | (simp only [zL, two63, room] <;> omega) | fail) only [↓reduceIte, ↓zP, zW, WOp, evOp, evBin, binI, binSh, binS, evNil, keyIs, keyEq, mkv, AV.cells, AV.sc, optv, bnd, env, put, Env.get, Env.set, Env.del, Env.dels, Env.init, res1, resL, resV, fillP, splice, newRow, Nat.reduceEqDiff, Nat.reduceLT, Nat.reduceLeDiff, Nat.reduceAdd, Nat.reduceMul, Nat.reduceSub, Nat.reduceBEq, reduceCtorEq, ↓zR, zQ, Tr, StA, StT, e_l1In, h1, h2, e0, e1, e2]
      refine hq _ (decide_eq_false ?_)
      rintro ⟨x1, x2, x3, x4, x5, x6⟩
      simp only [Int.toNat_natCast] at x6
      rcases x6 with ⟨_, x6 | x6⟩ | ⟨x6, _⟩
      · omega
      · omega
      · rw [x6] at e2; cases e2
end Go.Proofs.YtnamhjdfegohbaaGreatDoor.Ab

/- MOVES of a line: what the reference lists. -/
namespace Go.Proofs.YtnamhjdfegohbaaGreatDoor.Ab
open Go
set_option maxRecDepth 100000
set_option maxHeartbeats 4000000

theorem dec_low {s : List UInt8} {pos : Nat} (h : pos < s.length) (ha : (s.getD pos 0).toNat < 128) : dec s pos = (((s.getD pos 0).toNat : Int), 1) := by
  have e : s.getD pos 0 = s[pos] := by simp [List.getD_eq_getElem?_getD, h]
  rw [e] at ha ⊢
  unfold dec
  have hg : (⟨s.toArray⟩ : ByteArray)[pos]'h = s[pos] := rfl
  have := decode_ascii ⟨s.toArray⟩ pos h (by rw [hg]; exact ha)
  rw [this, hg]
theorem sign_low {b : UInt8} (h : isSign b = true) : b.toNat < 128 := by
  simp only [isSign, Bool.or_eq_true, beq_iff_eq] at h
  rcases h with (rfl | rfl) | rfl <;> decide
theorem sign_at {w : List UInt8} (h : w.all isSign = true) {i : Nat} (hi : i < w.length) : isSign (w.getD i 0) = true := by
  have e : w.getD i 0 = w[i] := by simp [List.getD_eq_getElem?_getD, hi]
  rw [e]; exact List.all_eq_true.1 h _ (List.getElem_mem hi)

def innerB (w : List UInt8) (i : Nat) : Int → Nat → List (Int × Int)
  | _, 0 => []
  | tq, d + 1 => (if canB w ((i : Int), tq) then [((i : Int), tq)] else []) ++ innerB w i (tq + 1) d
theorem innerB_eq (w : List UInt8) (i : Nat) : innerB w i ((i : Int) - 2) 5 = ([(i : Int) - 2, i - 1, i, i + 1, i + 2].filter fun t => canB w ((i : Int), t)).map fun t => ((i : Int), t) := by
  simp only [innerB]
  rw [show (i : Int) - 2 + 1 = i - 1 by omega, show (i : Int) - 1 + 1 = i by omega, show (i : Int) + 1 + 1 = i + 2 by omega]
  simp only [List.filter_cons, List.filter_nil]
  cases canB w ((i : Int), (i : Int) - 2) <;> cases canB w ((i : Int), (i : Int) - 1) <;> cases canB w ((i : Int), (i : Int)) <;> cases canB w ((i : Int), (i : Int) + 1) <;> cases canB w ((i : Int), (i : Int) + 2) <;> rfl

theorem lp_liMoves1 (w : List UInt8) (i : Nat) (hi : i < w.length) (hw : w.length < 2 ^ 30) (tf ff : Bool) (b : AH) (c : Nat) {R : X → Env → AH → Prop} : ∀ (d : Nat) (tq : Int) (o : AV) (l : List (Int × Int)) (h : AH), tq + d = i + 3 → OwL 2 encM b h o l → b.length ≤ h.length → l.length + d ≤ 2 ^ 33 →
    (∀ o' h', OwL 2 encM b h' o' (l ++ innerB w i tq d) → Ag b.length h h' → R (.exit 2) [(0, .str w), (1, .bool tf), (2, .bool ff), (7, o'), (12, .iter c)] h') →
    d ≤ 5 → Cx (.loop lp119_1) [(0, .str w), (1, .bool tf), (2, .bool ff), (7, o), (8, .int .i64 i), (9, .int .i64 tq), (12, .iter c)] h R k k
  | 0, tq, o, l, h, hd, ho, hb, hl, hR, _ => by
    rw [w_loopb (c := lp119_1) (d := lb119_1) rfl]; unfold lb119_1
    simp (maxSteps := 1000000) (disch := first | omega | rfl | (simp only [zL, two63, room] <;> omega) | fail) only [↓reduceIte, ↓zP, zW, WOp, evOp, evBin, binI, binSh, binS, evNil, keyIs, keyEq, mkv, AV.cells, AV.sc, optv, bnd, env, put, Env.get, Env.set, Env.del, Env.dels, Env.init, res1, resL, resV, fillP, splice, newRow, Nat.reduceEqDiff, Nat.reduceLT, Nat.reduceLeDiff, Nat.reduceAdd, Nat.reduceMul, Nat.reduceSub, Nat.reduceBEq, reduceCtorEq, ↓zR, zQ, Tr, StA, StT]
    exact hR o h (by simpa [innerB] using ho) (Ag.refl _ _)
  | d + 1, tq, o, l, h, hd, ho, hb, hl, hR, h5 => by
    have ih := lp_liMoves1 w i hi hw tf ff b c (R := R) d (tq + 1)
    rw [w_loopb (c := lp119_1) (d := lb119_1) rfl]; unfold lb119_1
    simp (maxSteps := 1000000) (disch := first | omega | rfl | (simp only [zL, two63, room] <;> omega) | fail) only [↓reduceIte, ↓zP, zW, WOp, evOp, evBin, binI, binSh, binS, evNil, keyIs, keyEq, mkv, AV.cells, AV.sc, optv, bnd, env, put, Env.get, Env.set, Env.del, Env.dels, Env.init, res1, resL, resV, fillP, splice, newRow, Nat.reduceEqDiff, Nat.reduceLT, Nat.reduceLeDiff, Nat.reduceAdd, Nat.reduceMul, Nat.reduceSub, Nat.reduceBEq, reduceCtorEq, ↓zR, zQ, Tr, StA, StT]
    refine c_liCan w i tq hw ?_
    intro h2 hp2
    have hp1 := (Pre.push h (AO.row [.int .i64 i, .int .i64 tq] 0 0 false)).trans hp2
    have q := rdRow_pre hp2 (show rdRow (h ++ [AO.row [.int .i64 i, .int .i64 tq] 0 0 false]) h.length 0 0 2 = some [.int .i64 i, .int .i64 tq] by simp (maxSteps := 1000000) (disch := first | omega | rfl | (simp only [zL, two63, room] <;> omega) | fail) only [↓reduceIte, ↓zP, zW, WOp, evOp, evBin, binI, binSh, binS, evNil, keyIs, keyEq, mkv, AV.cells, AV.sc, optv, bnd, env, put, Env.get, Env.set, Env.del, Env.dels, Env.init, res1, resL, resV, fillP, splice, newRow, Nat.reduceEqDiff, Nat.reduceLT, Nat.reduceLeDiff, Nat.reduceAdd, Nat.reduceMul, Nat.reduceSub, Nat.reduceBEq, reduceCtorEq, ↓zR, zQ, Tr, StA, StT])
    have q' := rd_lt q
    have e1 : (i : Int) + -2 = i - 2 := by omega
    cases e : canB w ((i : Int), tq)
    · simp (maxSteps := 1000000) (disch := first | omega | rfl | (simp only [zL, two63, room] <;> omega) | fail) only [↓reduceIte, ↓zP, zW, WOp, evOp, evBin, binI, binSh, binS, evNil, keyIs, keyEq, mkv, AV.cells, AV.sc, optv, bnd, env, put, Env.get, Env.set, Env.del, Env.dels, Env.init, res1, resL, resV, fillP, splice, newRow, Nat.reduceEqDiff, Nat.reduceLT, Nat.reduceLeDiff, Nat.reduceAdd, Nat.reduceMul, Nat.reduceSub, Nat.reduceBEq, reduceCtorEq, ↓zR, zQ, Tr, StA, StT, e]
      rw [w_loopn (c := lp119_1) rfl]
      simp (maxSteps := 1000000) (disch := first | omega | rfl | (simp only [zL, two63, room] <;> omega) | fail) only [↓reduceIte, ↓zP, zW, WOp, evOp, evBin, binI, binSh, binS, evNil, keyIs, keyEq, mkv, AV.cells, AV.sc, optv, bnd, env, put, Env.get, Env.set, Env.del, Env.dels, Env.init, res1, resL, resV, fillP, splice, newRow, Nat.reduceEqDiff, Nat.reduceLT, Nat.reduceLeDiff, Nat.reduceAdd, Nat.reduceMul, Nat.reduceSub, Nat.reduceBEq, reduceCtorEq, ↓zR, zQ, Tr, StA, StT]
      refine ih o l h2 (by omega) (ho.pre hp1) (Nat.le_trans hb hp1.1) (by omega) ?_ (by omega)
      intro o' h' ho' ha
      exact hR o' h' (by simpa [innerB, e] using ho') ((hp1.ag hb).trans ha)
    · obtain ⟨o2, h3, ha, ho3, hag⟩ := apA hlM scM ((ho.pre hp1).pre (Pre.push h2 (AO.row [.int .i64 i, .int .i64 tq] 0 0 false))) (Nat.le_trans hb (Nat.le_trans hp1.1 (Pre.push h2 _).1)) ((i : Int), tq) (by omega)
      simp (maxSteps := 1000000) (disch := first | omega | rfl | (simp only [zL, two63, room] <;> omega) | fail) only [↓reduceIte, ↓zP, zW, WOp, evOp, evBin, binI, binSh, binS, evNil, keyIs, keyEq, mkv, AV.cells, AV.sc, optv, bnd, env, put, Env.get, Env.set, Env.del, Env.dels, Env.init, res1, resL, resV, fillP, splice, newRow, Nat.reduceEqDiff, Nat.reduceLT, Nat.reduceLeDiff, Nat.reduceAdd, Nat.reduceMul, Nat.reduceSub, Nat.reduceBEq, reduceCtorEq, ↓zR, zQ, Tr, StA, StT, e, q, ha]
      rw [w_loopn (c := lp119_1) rfl]
      simp (maxSteps := 1000000) (disch := first | omega | rfl | (simp only [zL, two63, room] <;> omega) | fail) only [↓reduceIte, ↓zP, zW, WOp, evOp, evBin, binI, binSh, binS, evNil, keyIs, keyEq, mkv, AV.cells, AV.sc, optv, bnd, env, put, Env.get, Env.set, Env.del, Env.dels, Env.init, res1, resL, resV, fillP, splice, newRow, Nat.reduceEqDiff, Nat.reduceLT, Nat.reduceLeDiff, Nat.reduceAdd, Nat.reduceMul, Nat.reduceSub, Nat.reduceBEq, reduceCtorEq, ↓zR, zQ, Tr, StA, StT]
      have hag2 : Ag b.length h h3 := (hp1.ag hb).trans (((Pre.push h2 (AO.row [.int .i64 i, .int .i64 tq] 0 0 false)).ag (Nat.le_trans hb hp1.1)).trans hag)
      refine ih o2 _ h3 (by omega) ho3 (Nat.le_trans hb hag2.1) (by simp; omega) ?_ (by omega)
      intro o' h' ho' ha'
      exact hR o' h' (by simpa [innerB, e] using ho') (hag2.trans ha')

theorem lp_liMoves (w : List UInt8) (hg : w.all isSign = true) (hw : w.length < 2 ^ 30) (tf ff : Bool) (b : AH) (c : Nat) (hcb : c < b.length) {R : X → Env → AH → Prop} : ∀ (d i : Nat) (o : AV) (l : List (Int × Int)) (h : AH), i + d = w.length → OwL 2 encM b h o l → b.length ≤ h.length → h[c]? = some (.iter w i) → l.length ≤ 5 * i →
    (∀ o' h', OwL 2 encM b h' o' (l ++ (List.range' i d).flatMap (liMoveB w tf ff)) → Ag c h h' → b.length ≤ h'.length → R (.exit 0) [(7, o')] h') →
    Cx (.loop lp119_0) [(0, .str w), (1, .bool tf), (2, .bool ff), (7, o), (12, .iter c)] h R k k
  | 0, i, o, l, h, hd, ho, hb, hc, hl, hR => by
    rw [w_loopb (c := lp119_0) (d := lb119_0) rfl]; unfold lb119_0
    have hlt : ¬ i < w.length := by omega
    simp (maxSteps := 1000000) (disch := first | omega | rfl | (simp only [zL, two63, room] <;> omega) | fail) only [↓reduceIte, ↓zP, zW, WOp, evOp, evBin, binI, binSh, binS, evNil, keyIs, keyEq, mkv, AV.cells, AV.sc, optv, bnd, env, put, Env.get, Env.set, Env.del, Env.dels, Env.init, res1, resL, resV, fillP, splice, newRow, Nat.reduceEqDiff, Nat.reduceLT, Nat.reduceLeDiff, Nat.reduceAdd, Nat.reduceMul, Nat.reduceSub, Nat.reduceBEq, reduceCtorEq, ↓zR, zQ, Tr, StA, StT, hc, hlt]
    exact hR o h (by simpa using ho) (Ag.refl _ _) hb
  | d + 1, i, o, l, h, hd, ho, hb, hc, hl, hR => by
    have ih := lp_liMoves w hg hw tf ff b c hcb (R := R) d (i + 1)
    have hlt : i < w.length := by omega
    have hdec := dec_low hlt (sign_low (sign_at hg hlt))
    have hd1 : (dec w i).1 = ((w.getD i 0).toNat : Int) := by rw [hdec]
    have hd2 : (dec w i).2 = 1 := by rw [hdec]
    have hlen : (liMoveB w tf ff i).length ≤ 5 := by
      unfold liMoveB
      split
      · simp
      · rw [List.length_map]; exact Nat.le_trans (List.length_filter_le _ _) (by simp)
    have hc' : (h.set c (.iter w (i + 1)))[c]? = some (.iter w (i + 1)) := by rw [List.getElem?_set, if_pos rfl, if_pos (by omega)]
    have hb' : b.length ≤ (h.set c (.iter w (i + 1))).length := by simpa using hb
    rw [w_loopb (c := lp119_0) (d := lb119_0) rfl]; unfold lb119_0
    have hR' : ∀ o2 h2, OwL 2 encM b h2 o2 (l ++ liMoveB w tf ff i) → Ag b.length (h.set c (.iter w (i + 1))) h2 → Cx (.loop lp119_0) [(0, .str w), (1, .bool tf), (2, .bool ff), (7, o2), (12, .iter c)] h2 R k k := by
      intro o2 h2 ho2 hag
      refine ih o2 _ h2 (by omega) ho2 (Nat.le_trans hb' hag.1) (by rw [hag.2 c hcb, hc']) (by simp; omega) ?_
      intro o' h' ho' hag' hb2
      refine hR o' h' ?_ ?_ hb2
      · rw [List.range'_succ, List.flatMap_cons, ← List.append_assoc]; exact ho'
      · exact ((Ag.refl c h).set (Nat.le_refl _)).trans ((hag.mono (by omega)).trans hag')
    have key : Cx (.loop lp119_1) [(0, .str w), (1, .bool tf), (2, .bool ff), (7, o), (8, .int .i64 i), (9, .int .i64 ((i : Int) - 2)), (12, .iter c)] (h.set c (.iter w (i + 1))) (fun x e' h' => x = .exit 2 ∧ ∃ o', e' = [(0, .str w), (1, .bool tf), (2, .bool ff), (7, o'), (12, .iter c)] ∧ OwL 2 encM b h' o' (l ++ innerB w i ((i : Int) - 2) 5) ∧ Ag b.length (h.set c (.iter w (i + 1))) h') k k := by
      refine lp_liMoves1 w i hlt hw tf ff b c 5 ((i : Int) - 2) o l _ (by omega) (own_set ho hcb) hb' (by omega) ?_ (by omega)
      intro o' h' ho' hag
      exact ⟨rfl, o', rfl, ho', hag⟩
    have skip : (((w.getD i 0 == 84) && !tf) || ((w.getD i 0 == 70) && !ff)) = true → Cx (.loop lp119_0) [(0, .str w), (1, .bool tf), (2, .bool ff), (7, o), (12, .iter c)] (h.set c (.iter w (i + 1))) R k k := by
      intro hs
      refine hR' o _ ?_ (Ag.refl _ _)
      unfold liMoveB
      rw [if_pos hs, List.append_nil]
      exact own_set ho hcb
    have go : (((w.getD i 0 == 84) && !tf) || ((w.getD i 0 == 70) && !ff)) = false → ∀ R2 : X → Env → AH → Prop, (∀ o2 h2, OwL 2 encM b h2 o2 (l ++ liMoveB w tf ff i) → Ag b.length (h.set c (.iter w (i + 1))) h2 → R2 (.exit 2) [(0, .str w), (1, .bool tf), (2, .bool ff), (7, o2), (12, .iter c)] h2) →
        Cx (.loop lp119_1) [(0, .str w), (1, .bool tf), (2, .bool ff), (7, o), (8, .int .i64 i), (9, .int .i64 ((i : Int) - 2)), (12, .iter c)] (h.set c (.iter w (i + 1))) R2 k k := by
      intro hs R2 h2
      refine Cx_mono key ?_
      rintro x e' h' ⟨rfl, o', rfl, ho', hag⟩
      refine h2 o' h' ?_ hag
      unfold liMoveB
      rw [if_neg (by rw [hs]; simp), ← innerB_eq]
      exact ho'
    cases e1 : (w.getD i 0 == 84) <;> cases e2 : (w.getD i 0 == 70) <;> cases tf <;> cases ff <;> simp only [e1, e2] at skip go <;> simp (maxSteps := 1000000) (disch := first | omega | rfl | (simp only [zL, two63, room] <;> omega) | fail) only [↓reduceIte, ↓zP, zW, WOp, evOp, evBin, binI, binSh, binS, evNil, keyIs, keyEq, mkv, AV.cells, AV.sc, optv, bnd, env, put, Env.get, Env.set, Env.del, Env.dels, Env.init, res1, resL, resV, fillP, splice, newRow, Nat.reduceEqDiff, Nat.reduceLT, Nat.reduceLeDiff, Nat.reduceAdd, Nat.reduceMul, Nat.reduceSub, Nat.reduceBEq, reduceCtorEq, ↓zR, zQ, Tr, StA, StT, hc, hlt, hd1, hd2, e1, e2]
    all_goals first
      | exact skip rfl
      | (refine go rfl _ ?_
         intro o2 h2 ho2 hag
         simp (maxSteps := 1000000) (disch := first | omega | rfl | (simp only [zL, two63, room] <;> omega) | fail) only [↓reduceIte, ↓zP, zW, WOp, evOp, evBin, binI, binSh, binS, evNil, keyIs, keyEq, mkv, AV.cells, AV.sc, optv, bnd, env, put, Env.get, Env.set, Env.del, Env.dels, Env.init, res1, resL, resV, fillP, splice, newRow, Nat.reduceEqDiff, Nat.reduceLT, Nat.reduceLeDiff, Nat.reduceAdd, Nat.reduceMul, Nat.reduceSub, Nat.reduceBEq, reduceCtorEq, ↓zR, zQ, Tr, StA, StT]
         exact hR' o2 h2 ho2 hag)
theorem c_liMoves (w : List UInt8) (hg : w.all isSign = true) (hw : w.length < 2 ^ 30) (tf ff : Bool) {h : AH} {post : AV → AH → Prop} (hp : ∀ v h', OwL 2 encM h h' v (liMovesB w tf ff) → Pre h h' → post v h') : S 119 [.str w, .bool tf, .bool ff] h post k := by
  refine S_of rfl T119 ?_; unfold fi119
  simp (maxSteps := 1000000) (disch := first | omega | rfl | (simp only [zL, two63, room] <;> omega) | fail) only [↓reduceIte, ↓zP, zW, WOp, evOp, evBin, binI, binSh, binS, evNil, keyIs, keyEq, mkv, AV.cells, AV.sc, optv, bnd, env, put, Env.get, Env.set, Env.del, Env.dels, Env.init, res1, resL, resV, fillP, splice, newRow, Nat.reduceEqDiff, Nat.reduceLT, Nat.reduceLeDiff, Nat.reduceAdd, Nat.reduceMul, Nat.reduceSub, Nat.reduceBEq, reduceCtorEq, ↓zR, zQ, Tr, StA, StT]
  refine lp_liMoves w hg hw tf ff (h ++ [.iter w 0]) h.length (by simp) w.length 0 .nilS [] _ (by omega) OwL.nil (Nat.le_refl _) (by simp) (by simp) ?_
  intro o' h' ho' hag hb
  simp (maxSteps := 1000000) (disch := first | omega | rfl | (simp only [zL, two63, room] <;> omega) | fail) only [↓reduceIte, ↓zP, zW, WOp, evOp, evBin, binI, binSh, binS, evNil, keyIs, keyEq, mkv, AV.cells, AV.sc, optv, bnd, env, put, Env.get, Env.set, Env.del, Env.dels, Env.init, res1, resL, resV, fillP, splice, newRow, Nat.reduceEqDiff, Nat.reduceLT, Nat.reduceLeDiff, Nat.reduceAdd, Nat.reduceMul, Nat.reduceSub, Nat.reduceBEq, reduceCtorEq, ↓zR, zQ, Tr, StA, StT]
  refine hp o' h' ?_ ?_
  · rw [List.nil_append, ← List.range_eq_range'] at ho'
    exact own_base ho' (by simp)
  · exact (Pre.push h (.iter w 0)).trans' hag
end Go.Proofs.YtnamhjdfegohbaaGreatDoor.Ab

/- PLAIN: sums of lines, who wins them. -/
namespace Go.Proofs.YtnamhjdfegohbaaGreatDoor.Ab

/-- All sums behind a move in one of the lines of rest. -/
def nextZ (kd : List UInt8) : List (List UInt8) → List (List UInt8) → List (List (List UInt8))
  | _, [] => []
  | pre, w :: rest => (nextB w kd).map (fun v => pre ++ v :: rest) ++ nextZ kd (pre ++ [w]) rest
def muL (ls : List (List UInt8)) : Nat := (ls.map mu).sum
theorem nextZ_mu {kd : List UInt8} : ∀ {rest pre x : List (List UInt8)}, x ∈ nextZ kd pre rest → muL x < muL (pre ++ rest)
  | [], _, _, h => by simp [nextZ] at h
  | w :: rest, pre, x, h => by
    simp only [nextZ, List.mem_append, List.mem_map] at h
    rcases h with ⟨v, hv, rfl⟩ | h
    · have := nextB_mu hv
      simp only [muL, List.map_append, List.map_cons, List.sum_append, List.sum_cons]
      omega
    · have := nextZ_mu h
      simpa using this
def lsNx (s : List (List UInt8) × Bool) : List (List (List UInt8) × Bool) := (nextZ (kindS s.2) [] s.1).map fun ls => (ls, !s.2)
def lsSt (_ : List (List UInt8) × Bool) (l : List Bool) : Bool := l.any fun b => !b
def winL (ls : List (List UInt8)) (t : Bool) : Bool := rc lsNx lsSt (fun s => muL s.1) (ls, t)
theorem winL_eq (ls : List (List UInt8)) (t : Bool) : winL ls t = (nextZ (kindS t) [] ls).any fun x => !winL x (!t) := by
  unfold winL
  have hm : ∀ s : List (List UInt8) × Bool, ∀ s' ∈ lsNx s, muL s'.1 < muL s.1 := by
    intro s s' hs
    simp only [lsNx, List.mem_map] at hs
    obtain ⟨v, hv, rfl⟩ := hs
    simpa using nextZ_mu hv
  rw [rc_eq lsNx lsSt (mu := fun s => muL s.1) hm (ls, t)]
  simp only [lsSt, lsNx, List.map_map, List.any_map, Function.comp_def]
theorem any_congr' {α : Type} {p q : α → Bool} {l : List α} (h : ∀ x ∈ l, p x = q x) : l.any p = l.any q := by
  induction l with
  | nil => rfl
  | cons a l ih => rw [List.any_cons, List.any_cons, h a (by simp), ih fun x hx => h x (by simp [hx])]
theorem winL_one : ∀ (n : Nat) (w : List UInt8) (t : Bool), mu w < n → winL [w] t = winB w t
  | 0, _, _, h => by omega
  | n + 1, w, t, h => by
    rw [winL_eq, winB_eq]
    simp only [nextZ, List.append_nil, List.nil_append, List.any_map, nextB, Function.comp_def]
    apply any_congr'
    intro m hm
    obtain ⟨i, t', rfl, hmv⟩ := movesB_mv hm
    have := mu_made hmv
    rw [winL_one n _ _ (by simp; omega)]

/-! ### Keys of sums -/
def gaTail (ls : List (List UInt8)) : List UInt8 := ls.flatMap fun w => 47 :: w
def gaK (s : List (List UInt8) × Bool) : List UInt8 := (if s.2 then 116 else 102) :: gaTail s.1
def signs (w : List UInt8) : Prop := w.all isSign = true
theorem sign_ne {b : UInt8} (h : isSign b = true) : b ≠ 47 := by rintro rfl; cases h
theorem split_eq : ∀ {w w' r r' : List UInt8}, signs w → signs w' → (r = [] ∨ ∃ x, r = 47 :: x) → (r' = [] ∨ ∃ x, r' = 47 :: x) → w ++ r = w' ++ r' → w = w' ∧ r = r'
  | [], [], _, _, _, _, _, _, h => ⟨rfl, h⟩
  | [], b :: w', r, r', _, h2, h3, _, h => by
    simp only [signs, List.all_cons, Bool.and_eq_true] at h2
    rcases h3 with rfl | ⟨x, rfl⟩
    · simp at h
    · simp at h; exact absurd h.1.symm (sign_ne h2.1)
  | b :: w, [], r, r', h1, _, _, h4, h => by
    simp only [signs, List.all_cons, Bool.and_eq_true] at h1
    rcases h4 with rfl | ⟨x, rfl⟩
    · simp at h
    · simp at h; exact absurd h.1 (sign_ne h1.1)
  | b :: w, b' :: w', r, r', h1, h2, h3, h4, h => by
    simp only [signs, List.all_cons, Bool.and_eq_true] at h1 h2
    simp only [List.cons_append, List.cons.injEq] at h
    obtain ⟨h5, h6⟩ := split_eq (w := w) (w' := w') h1.2 h2.2 h3 h4 h.2
    exact ⟨by rw [h.1, h5], h6⟩
theorem gaTail_hd : ∀ ls : List (List UInt8), gaTail ls = [] ∨ ∃ x, gaTail ls = 47 :: x
  | [] => .inl rfl
  | w :: ls => .inr ⟨w ++ gaTail ls, by simp [gaTail]⟩
theorem gaTail_inj : ∀ {a b : List (List UInt8)}, (∀ w ∈ a, signs w) → (∀ w ∈ b, signs w) → gaTail a = gaTail b → a = b
  | [], [], _, _, _ => rfl
  | [], w :: b, _, _, h => by simp [gaTail] at h
  | w :: a, [], _, _, h => by simp [gaTail] at h
  | w :: a, w' :: b, h1, h2, h => by
    have e : ∀ (w : List UInt8) (l : List (List UInt8)), gaTail (w :: l) = 47 :: (w ++ gaTail l) := fun w l => by simp [gaTail]
    rw [e, e, List.cons.injEq] at h
    obtain ⟨h3, h4⟩ := split_eq (h1 w (by simp)) (h2 w' (by simp)) (gaTail_hd a) (gaTail_hd b) h.2
    rw [h3, gaTail_inj (fun x hx => h1 x (by simp [hx])) (fun x hx => h2 x (by simp [hx])) h4]
theorem gaK_inj {s s' : List (List UInt8) × Bool} (h1 : ∀ w ∈ s.1, signs w) (h2 : ∀ w ∈ s'.1, signs w) (h : gaK s = gaK s') : s = s' := by
  obtain ⟨a, t⟩ := s
  obtain ⟨b, u⟩ := s'
  simp only [gaK, List.cons.injEq] at h
  have := gaTail_inj h1 h2 h.2
  subst this
  cases t <;> cases u <;> simp at h ⊢

/-! ### How many texts there are -/
def allStr (A : List UInt8) : Nat → List (List UInt8)
  | 0 => [[]]
  | n + 1 => A.flatMap fun b => (allStr A n).map (b :: ·)
theorem allStr_length (A : List UInt8) : ∀ n, (allStr A n).length = A.length ^ n
  | 0 => rfl
  | n + 1 => by
    simp only [allStr]
    rw [List.length_flatMap]
    simp only [List.length_map, allStr_length A n]
    rw [List.map_const', List.sum_replicate_nat, Nat.pow_succ, Nat.mul_comm]
theorem allStr_mem {A : List UInt8} : ∀ {x : List UInt8}, (∀ b ∈ x, b ∈ A) → x ∈ allStr A x.length
  | [], _ => by simp [allStr]
  | b :: x, h => by
    simp only [allStr, List.length_cons, List.mem_flatMap, List.mem_map]
    exact ⟨b, h b (by simp), x, allStr_mem fun c hc => h c (by simp [hc]), rfl⟩
theorem nodup_bound {A : List UInt8} {n : Nat} {K : List (List UInt8)} (hn : K.Nodup) (h : ∀ x ∈ K, x.length = n ∧ ∀ b ∈ x, b ∈ A) : K.length ≤ A.length ^ n := by
  rw [← allStr_length A n]
  apply List.Nodup.length_le_of_subset hn
  intro x hx
  obtain ⟨h1, h2⟩ := h x hx
  rw [← h1]
  exact allStr_mem h2
end Go.Proofs.YtnamhjdfegohbaaGreatDoor.Ab

/- GAMES of the reference: small functions. -/
namespace Go.Proofs.YtnamhjdfegohbaaGreatDoor.Ab
open Go
set_option maxRecDepth 100000
set_option maxHeartbeats 4000000

theorem put_put (w : List UInt8) (i t : Nat) (hi : i < w.length) (ht : t < w.length) (hne : i ≠ t) : (w.take i ++ [46] ++ w.drop (i + 1)).take t ++ [w.getD i 0] ++ (w.take i ++ [46] ++ w.drop (i + 1)).drop (t + 1) = madeB w i t := by
  have e1 : w.take i ++ [46] ++ w.drop (i + 1) = w.set i 46 := by
    rw [List.set_eq_take_append_cons_drop, if_pos hi]; simp
  rw [e1]
  have e2 : ∀ (l : List UInt8) (x : UInt8), t < l.length → l.take t ++ [x] ++ l.drop (t + 1) = l.set t x := by
    intro l x hl
    rw [List.set_eq_take_append_cons_drop, if_pos hl]; simp
  rw [e2 _ _ (by simpa using ht)]
  unfold madeB
  exact List.set_comm _ _ hne
theorem c_liMake (w : List UInt8) (i t : Nat) (hi : i < w.length) (ht : t < w.length) (hne : i ≠ t) (hw : w.length < 2 ^ 30) {h : AH} {post : AV → AH → Prop} (hp : ∀ h', Pre h h' → post (.str (madeB w i t)) h') : S 66 [.str w, mvV i t] h post k := by
  refine S_of rfl T66 ?_; unfold fi66
  have e1 : ((i : Int) + 1).toNat = i + 1 := by omega
  have e2 : (w.drop i).take (i + 1 - i) = [w.getD i 0] := sub_one w i hi
  simp (maxSteps := 1000000) (disch := first | omega | rfl | (simp only [zL, two63, room] <;> omega) | fail) only [↓reduceIte, ↓zP, zW, WOp, evOp, evBin, binI, binSh, binS, evNil, keyIs, keyEq, mkv, AV.cells, AV.sc, optv, bnd, env, put, Env.get, Env.set, Env.del, Env.dels, Env.init, res1, resL, resV, fillP, splice, newRow, Nat.reduceEqDiff, Nat.reduceLT, Nat.reduceLeDiff, Nat.reduceAdd, Nat.reduceMul, Nat.reduceSub, Nat.reduceBEq, reduceCtorEq, ↓zR, zQ, Tr, StA, StT, e1, e2]
  refine w_drw ?_
  have l1 : (w.take i ++ [46] ++ w.drop (i + 1)).length = w.length := by simp; omega
  simp (maxSteps := 1000000) (disch := first | omega | rfl | (simp only [zL, two63, room] <;> omega) | fail) only [↓reduceIte, ↓zP, zW, WOp, evOp, evBin, binI, binSh, binS, evNil, keyIs, keyEq, mkv, AV.cells, AV.sc, optv, bnd, env, put, Env.get, Env.set, Env.del, Env.dels, Env.init, res1, resL, resV, fillP, splice, newRow, Nat.reduceEqDiff, Nat.reduceLT, Nat.reduceLeDiff, Nat.reduceAdd, Nat.reduceMul, Nat.reduceSub, Nat.reduceBEq, reduceCtorEq, ↓zR, zQ, Tr, StA, StT, e1, e2]
  refine c_liPut w i [46] hi hw (by simp) ?_
  simp (maxSteps := 1000000) (disch := first | omega | rfl | (simp only [zL, two63, room] <;> omega) | fail) only [↓reduceIte, ↓zP, zW, WOp, evOp, evBin, binI, binSh, binS, evNil, keyIs, keyEq, mkv, AV.cells, AV.sc, optv, bnd, env, put, Env.get, Env.set, Env.del, Env.dels, Env.init, res1, resL, resV, fillP, splice, newRow, Nat.reduceEqDiff, Nat.reduceLT, Nat.reduceLeDiff, Nat.reduceAdd, Nat.reduceMul, Nat.reduceSub, Nat.reduceBEq, reduceCtorEq, ↓zR, zQ, Tr, StA, StT]
  refine c_liPut _ t _ (by rw [l1]; exact ht) (by rw [l1]; exact hw) (by simp) ?_
  rw [put_put w i t hi ht hne]
  simp (maxSteps := 1000000) (disch := first | omega | rfl | (simp only [zL, two63, room] <;> omega) | fail) only [↓reduceIte, ↓zP, zW, WOp, evOp, evBin, binI, binSh, binS, evNil, keyIs, keyEq, mkv, AV.cells, AV.sc, optv, bnd, env, put, Env.get, Env.set, Env.del, Env.dels, Env.init, res1, resL, resV, fillP, splice, newRow, Nat.reduceEqDiff, Nat.reduceLT, Nat.reduceLeDiff, Nat.reduceAdd, Nat.reduceMul, Nat.reduceSub, Nat.reduceBEq, reduceCtorEq, ↓zR, zQ, Tr, StA, StT]
  exact hp _ (Pre.push _ _)

theorem lp_gaKey {R : X → Env → AH → Prop} {v : AV} {L : List (List UInt8)} {h : AH} (hs : Slc 1 encS h v L) (hL : L.length < 2 ^ 30) : ∀ (rest pre : List (List UInt8)) (o : List UInt8), L = pre ++ rest → o.length + (gaTail rest).length < 2 ^ 50 →
    R (.exit 0) [(5, .str (o ++ gaTail rest))] h → Cx (.loop lp203_0) [(5, .str o), (9, v), (10, .int .i64 L.length), (11, .int .i64 pre.length)] h R k k
  | [], pre, o, hpre, ho, hR => by
    subst hpre
    rw [w_loopb (c := lp203_0) (d := lb203_0) rfl]; unfold lb203_0
    simp only [List.append_nil]
    simp (maxSteps := 1000000) (disch := first | omega | rfl | (simp only [zL, two63, room] <;> omega) | fail) only [↓reduceIte, ↓zP, zW, WOp, evOp, evBin, binI, binSh, binS, evNil, keyIs, keyEq, mkv, AV.cells, AV.sc, optv, bnd, env, put, Env.get, Env.set, Env.del, Env.dels, Env.init, res1, resL, resV, fillP, splice, newRow, Nat.reduceEqDiff, Nat.reduceLT, Nat.reduceLeDiff, Nat.reduceAdd, Nat.reduceMul, Nat.reduceSub, Nat.reduceBEq, reduceCtorEq, ↓zR, zQ, Tr, StA, StT]
    simpa [gaTail] using hR
  | x :: rest, pre, o, hpre, ho, hR => by
    have ih := lp_gaKey (R := R) hs hL rest (pre ++ [x])
    subst hpre
    obtain ⟨c, kk, off, rfl, hr⟩ := hs.at hlS
    have hlen : (pre ++ x :: rest).length = pre.length + 1 + rest.length := by simp; omega
    have e : gaTail (x :: rest) = 47 :: (x ++ gaTail rest) := by simp [gaTail]
    rw [e] at ho hR
    simp only [List.length_cons, List.length_append] at ho
    rw [hlen] at ih hL ⊢
    rw [w_loopb (c := lp203_0) (d := lb203_0) rfl]; unfold lb203_0
    have hlt : (pre.length : Int) < ((pre.length + 1 + rest.length : Nat) : Int) := by omega
    have hw : (pre.length : Int) + 1 = ((pre ++ [x]).length : Int) := by simp
    simp (maxSteps := 1000000) (disch := first | omega | rfl | (simp only [zL, two63, room] <;> omega) | fail) only [↓reduceIte, ↓zP, zW, WOp, evOp, evBin, binI, binSh, binS, evNil, keyIs, keyEq, mkv, AV.cells, AV.sc, optv, bnd, env, put, Env.get, Env.set, Env.del, Env.dels, Env.init, res1, resL, resV, fillP, splice, newRow, Nat.reduceEqDiff, Nat.reduceLT, Nat.reduceLeDiff, Nat.reduceAdd, Nat.reduceMul, Nat.reduceSub, Nat.reduceBEq, reduceCtorEq, ↓zR, zQ, Tr, StA, StT, hlt, hr, hw]
    rw [w_loopn (c := lp203_0) rfl]
    simp (maxSteps := 1000000) (disch := first | omega | rfl | (simp only [zL, two63, room] <;> omega) | fail) only [↓reduceIte, ↓zP, zW, WOp, evOp, evBin, binI, binSh, binS, evNil, keyIs, keyEq, mkv, AV.cells, AV.sc, optv, bnd, env, put, Env.get, Env.set, Env.del, Env.dels, Env.init, res1, resL, resV, fillP, splice, newRow, Nat.reduceEqDiff, Nat.reduceLT, Nat.reduceLeDiff, Nat.reduceAdd, Nat.reduceMul, Nat.reduceSub, Nat.reduceBEq, reduceCtorEq, ↓zR, zQ, Tr, StA, StT]
    refine ih (o ++ 47 :: x) (by simp) (by simp only [List.length_append, List.length_cons]; omega) ?_
    simpa using hR
theorem c_gaKey {v : AV} {L : List (List UInt8)} (t : Bool) {h : AH} (hs : Slc 1 encS h v L) (hL : L.length < 2 ^ 30) (ht : (gaTail L).length < 2 ^ 40) {post : AV → AH → Prop} (hp : post (.str (gaK (L, t))) h) : S 203 [v, .bool t] h post k := by
  refine S_of rfl T203 ?_; unfold fi203
  have hv := fun g => Slc.lenV (hs) (g := g) (ρ := fun _ => _) (x := .t 0) rfl; simp only [evOp] at hv
  cases t
  · simp (maxSteps := 1000000) (disch := first | omega | rfl | (simp only [zL, two63, room] <;> omega) | fail) only [↓reduceIte, ↓zP, zW, WOp, evOp, evBin, binI, binSh, binS, evNil, keyIs, keyEq, mkv, AV.cells, AV.sc, optv, bnd, env, put, Env.get, Env.set, Env.del, Env.dels, Env.init, res1, resL, resV, fillP, splice, newRow, Nat.reduceEqDiff, Nat.reduceLT, Nat.reduceLeDiff, Nat.reduceAdd, Nat.reduceMul, Nat.reduceSub, Nat.reduceBEq, reduceCtorEq, ↓zR, zQ, Tr, StA, StT, hv]
    refine lp_gaKey hs hL L [] _ rfl (by simp; omega) ?_
    simp (maxSteps := 1000000) (disch := first | omega | rfl | (simp only [zL, two63, room] <;> omega) | fail) only [↓reduceIte, ↓zP, zW, WOp, evOp, evBin, binI, binSh, binS, evNil, keyIs, keyEq, mkv, AV.cells, AV.sc, optv, bnd, env, put, Env.get, Env.set, Env.del, Env.dels, Env.init, res1, resL, resV, fillP, splice, newRow, Nat.reduceEqDiff, Nat.reduceLT, Nat.reduceLeDiff, Nat.reduceAdd, Nat.reduceMul, Nat.reduceSub, Nat.reduceBEq, reduceCtorEq, ↓zR, zQ, Tr, StA, StT]
    exact hp
  · simp (maxSteps := 1000000) (disch := first | omega | rfl | (simp only [zL, two63, room] <;> omega) | fail) only [↓reduceIte, ↓zP, zW, WOp, evOp, evBin, binI, binSh, binS, evNil, keyIs, keyEq, mkv, AV.cells, AV.sc, optv, bnd, env, put, Env.get, Env.set, Env.del, Env.dels, Env.init, res1, resL, resV, fillP, splice, newRow, Nat.reduceEqDiff, Nat.reduceLT, Nat.reduceLeDiff, Nat.reduceAdd, Nat.reduceMul, Nat.reduceSub, Nat.reduceBEq, reduceCtorEq, ↓zR, zQ, Tr, StA, StT, hv]
    refine lp_gaKey hs hL L [] _ rfl (by simp; omega) ?_
    simp (maxSteps := 1000000) (disch := first | omega | rfl | (simp only [zL, two63, room] <;> omega) | fail) only [↓reduceIte, ↓zP, zW, WOp, evOp, evBin, binI, binSh, binS, evNil, keyIs, keyEq, mkv, AV.cells, AV.sc, optv, bnd, env, put, Env.get, Env.set, Env.del, Env.dels, Env.init, res1, resL, resV, fillP, splice, newRow, Nat.reduceEqDiff, Nat.reduceLT, Nat.reduceLeDiff, Nat.reduceAdd, Nat.reduceMul, Nat.reduceSub, Nat.reduceBEq, reduceCtorEq, ↓zR, zQ, Tr, StA, StT]
    exact hp
theorem c_l1OwnS {v : AV} {L : List (List UInt8)} {h : AH} (hs : Slc 1 encS h v L) (hL : L.length < 2 ^ 30) {post : AV → AH → Prop} (hp : ∀ v' h', OwL 1 encS h h' v' L → Pre h h' → post v' h') : S 206 [v] h post k := by
  refine S_of rfl T206 ?_; unfold fi206
  rcases hs.cases with ⟨rfl, rfl⟩ | ⟨rfl, rfl⟩ | ⟨c, kk, off, rfl⟩
  · simp (maxSteps := 1000000) (disch := first | omega | rfl | (simp only [zL, two63, room] <;> omega) | fail) only [↓reduceIte, ↓zP, zW, WOp, evOp, evBin, binI, binSh, binS, evNil, keyIs, keyEq, mkv, AV.cells, AV.sc, optv, bnd, env, put, Env.get, Env.set, Env.del, Env.dels, Env.init, res1, resL, resV, fillP, splice, newRow, Nat.reduceEqDiff, Nat.reduceLT, Nat.reduceLeDiff, Nat.reduceAdd, Nat.reduceMul, Nat.reduceSub, Nat.reduceBEq, reduceCtorEq, ↓zR, zQ, Tr, StA, StT, apRow, apRow1]
    exact hp _ _ OwL.emp (Pre.refl _)
  · simp (maxSteps := 1000000) (disch := first | omega | rfl | (simp only [zL, two63, room] <;> omega) | fail) only [↓reduceIte, ↓zP, zW, WOp, evOp, evBin, binI, binSh, binS, evNil, keyIs, keyEq, mkv, AV.cells, AV.sc, optv, bnd, env, put, Env.get, Env.set, Env.del, Env.dels, Env.init, res1, resL, resV, fillP, splice, newRow, Nat.reduceEqDiff, Nat.reduceLT, Nat.reduceLeDiff, Nat.reduceAdd, Nat.reduceMul, Nat.reduceSub, Nat.reduceBEq, reduceCtorEq, ↓zR, zQ, Tr, StA, StT, apRow, apRow1]
    exact hp _ _ OwL.emp (Pre.refl _)
  · obtain ⟨h1, h2, hr⟩ := hs.all
    obtain ⟨v', h', ha, hown, hag⟩ := ap_ag (esz := 1) (b := h) (h := h) (v := .empS) (n := 0) (cs := []) ⟨rfl, rfl⟩ (Nat.le_refl _) (q := L.length) (vs := L.flatMap encS) (by rw [flat_len hlS]) (by simp [AV.sc]) (by unfold room; omega)
    simp (maxSteps := 1000000) (disch := first | omega | rfl | (simp only [zL, two63, room] <;> omega) | fail) only [↓reduceIte, ↓zP, zW, WOp, evOp, evBin, binI, binSh, binS, evNil, keyIs, keyEq, mkv, AV.cells, AV.sc, optv, bnd, env, put, Env.get, Env.set, Env.del, Env.dels, Env.init, res1, resL, resV, fillP, splice, newRow, Nat.reduceEqDiff, Nat.reduceLT, Nat.reduceLeDiff, Nat.reduceAdd, Nat.reduceMul, Nat.reduceSub, Nat.reduceBEq, reduceCtorEq, ↓zR, zQ, Tr, StA, StT, hr, ha]
    refine hp v' h' ?_ (hag.pre (Nat.le_refl _))
    unfold OwL
    simpa using hown
theorem c_gaWith {v : AV} {pre : List (List UInt8)} {x : List UInt8} {rest : List (List UInt8)} {h : AH} (hs : Slc 1 encS h v (pre ++ x :: rest)) (hL : (pre ++ x :: rest).length < 2 ^ 30) (w : List UInt8) {post : AV → AH → Prop} (hp : ∀ v' h', OwL 1 encS h h' v' (pre ++ w :: rest) → Pre h h' → post v' h') : S 204 [v, .int .i64 pre.length, .str w] h post k := by
  refine S_of rfl T204 ?_; unfold fi204
  simp (maxSteps := 1000000) (disch := first | omega | rfl | (simp only [zL, two63, room] <;> omega) | fail) only [↓reduceIte, ↓zP, zW, WOp, evOp, evBin, binI, binSh, binS, evNil, keyIs, keyEq, mkv, AV.cells, AV.sc, optv, bnd, env, put, Env.get, Env.set, Env.del, Env.dels, Env.init, res1, resL, resV, fillP, splice, newRow, Nat.reduceEqDiff, Nat.reduceLT, Nat.reduceLeDiff, Nat.reduceAdd, Nat.reduceMul, Nat.reduceSub, Nat.reduceBEq, reduceCtorEq, ↓zR, zQ, Tr, StA, StT]
  refine c_l1OwnS hs hL ?_
  intro v2 h2 ho hp2
  obtain ⟨c, kk, off, h3, rfl, hw, ho3, hb, hlen, hag⟩ := ho.store hlS scS w
  have hlt : (pre.length : Int) < ((pre ++ x :: rest).length : Int) := by simp; omega
  simp (maxSteps := 1000000) (disch := first | omega | rfl | (simp only [zL, two63, room] <;> omega) | fail) only [↓reduceIte, ↓zP, zW, WOp, evOp, evBin, binI, binSh, binS, evNil, keyIs, keyEq, mkv, AV.cells, AV.sc, optv, bnd, env, put, Env.get, Env.set, Env.del, Env.dels, Env.init, res1, resL, resV, fillP, splice, newRow, Nat.reduceEqDiff, Nat.reduceLT, Nat.reduceLeDiff, Nat.reduceAdd, Nat.reduceMul, Nat.reduceSub, Nat.reduceBEq, reduceCtorEq, ↓zR, zQ, Tr, StA, StT, hlt, hw]
  exact hp _ _ ho3 ⟨by rw [hlen]; exact hp2.1, fun i hi => by rw [hag i (by omega), hp2.2 i hi]⟩
end Go.Proofs.YtnamhjdfegohbaaGreatDoor.Ab

/- GAMES of the reference: who wins a sum, by what is known already. -/
namespace Go.Proofs.YtnamhjdfegohbaaGreatDoor.Ab
open Go
set_option maxRecDepth 100000
set_option maxHeartbeats 4000000

def rowOf : AV → Option Nat
  | .slice c _ _ _ _ => some c
  | _ => none
/-- Rows that belong to what is known. -/
def gr (c : Nat) (h : AH) (i : Nat) : Prop := i = c ∨ ∃ v1 v2, h[c]? = some (.row [v1, v2] 0 0 false) ∧ (rowOf v1 = some i ∨ rowOf v2 = some i)
def FrG (c : Nat) (h h' : AH) : Prop := h.length ≤ h'.length ∧ ∀ i, i < h.length → ¬ gr c h i → h'[i]? = h[i]? ∧ ¬ gr c h' i
theorem FrG.refl (c : Nat) (h : AH) : FrG c h h := ⟨Nat.le_refl _, fun _ _ hg => ⟨rfl, hg⟩⟩
theorem FrG.trans {c : Nat} {x y z : AH} (p : FrG c x y) (q : FrG c y z) : FrG c x z := ⟨Nat.le_trans p.1 q.1, fun i hi hg => by
  obtain ⟨h1, h2⟩ := p.2 i hi hg
  obtain ⟨h3, h4⟩ := q.2 i (Nat.lt_of_lt_of_le hi p.1) h2
  exact ⟨by rw [h3, h1], h4⟩⟩
theorem gr_pre {c : Nat} {h h' : AH} (hp : Pre h h') (hc : c < h.length) (i : Nat) : gr c h' i ↔ gr c h i := by
  unfold gr; rw [hp.2 c hc]
theorem Pre.frg {c : Nat} {h h' : AH} (hp : Pre h h') (hc : c < h.length) : FrG c h h' := ⟨hp.1, fun i hi hg => ⟨hp.2 i hi, by rw [gr_pre hp hc]; exact hg⟩⟩
def alph : List UInt8 := [116, 102, 47, 46, 70, 84]
def OkS (N : Nat) (s : List (List UInt8) × Bool) : Prop := (∀ w ∈ s.1, signs w) ∧ (gaK s).length = N
def KN (N c : Nat) (h : AH) (K : List (List UInt8)) : Prop := ∃ v1 v2 W, h[c]? = some (.row [v1, v2] 0 0 false) ∧ OwL 1 encS [] h v1 K ∧ OwL 1 encB [] h v2 W ∧ rowOf v1 ≠ some c ∧ rowOf v2 ≠ some c ∧ (∀ r, rowOf v1 = some r → rowOf v2 ≠ some r) ∧
  K.length = W.length ∧ K.Nodup ∧ (∀ x ∈ K, x.length = N ∧ ∀ b ∈ x, b ∈ alph) ∧ ∀ (i : Nat) x b, K[i]? = some x → W[i]? = some b → ∀ s, OkS N s → x = gaK s → b = winL s.1 s.2
theorem KN.lt {N c : Nat} {h : AH} {K : List (List UInt8)} (hk : KN N c h K) : c < h.length := by
  obtain ⟨_, _, _, h1, _⟩ := hk
  exact (List.getElem?_eq_some_iff.1 h1).1
theorem own_lt {esz : Nat} {b h : AH} {v : AV} {n : Nat} {cs : List AV} (ho : Own esz b h v n cs) {r : Nat} (hr : rowOf v = some r) : r < h.length := by
  unfold Own at ho
  cases v <;> simp only [rowOf] at hr ho <;> first
    | (cases hr; done)
    | (cases hr; obtain ⟨_, _, _, _, cells, fl, h5, _⟩ := ho; exact (List.getElem?_eq_some_iff.1 h5).1)
theorem own_ge {esz : Nat} {b h : AH} {v : AV} {n : Nat} {cs : List AV} (ho : Own esz b h v n cs) {r : Nat} (hr : rowOf v = some r) : b.length ≤ r := by
  unfold Own at ho
  cases v <;> simp only [rowOf] at hr ho <;> first
    | (cases hr; done)
    | (cases hr; exact ho.2.2.2.1)
theorem KN.gr_lt {N c : Nat} {h : AH} {K : List (List UInt8)} (hk : KN N c h K) {i : Nat} (hg : gr c h i) : i < h.length := by
  have hlt := hk.lt
  obtain ⟨v1, v2, W, h1, h2, h3, _⟩ := hk
  rcases hg with rfl | ⟨u1, u2, h4, h5⟩
  · exact hlt
  · rw [h1] at h4
    simp only [Option.some.injEq, AO.row.injEq, List.cons.injEq, and_true, true_and] at h4
    obtain ⟨rfl, rfl⟩ := h4
    rcases h5 with h5 | h5
    · exact own_lt h2 h5
    · exact own_lt h3 h5
theorem KN.pre {N c : Nat} {h h' : AH} {K : List (List UInt8)} (hk : KN N c h K) (hp : Pre h h') : KN N c h' K := by
  have hlt := hk.lt
  obtain ⟨v1, v2, W, h1, h2, h3, h4⟩ := hk
  exact ⟨v1, v2, W, by rw [hp.2 c hlt]; exact h1, h2.pre hp, h3.pre hp, h4⟩
theorem KN.fresh {N c : Nat} {h h' : AH} {K : List (List UInt8)} (hk : KN N c h K) (hp : Pre h h') {r : Nat} (hr : h.length ≤ r) : ¬ gr c h' r := by
  rw [gr_pre hp hk.lt]
  intro hg
  have := hk.gr_lt hg
  omega
/-- A slice that is read, and does not belong to what is known. -/
def SlcG {α : Type} (esz : Nat) (enc : α → List AV) (c : Nat) (h : AH) (v : AV) (L : List α) : Prop := Slc esz enc h v L ∧ ∀ r, rowOf v = some r → ¬ gr c h r
theorem rd_fr {c : Nat} {h h' : AH} (hf : FrG c h h') {r k o n : Nat} {cs : List AV} (hg : ¬ gr c h r) (hr : rdRow h r k o n = some cs) : rdRow h' r k o n = some cs := by
  have := rd_lt hr
  unfold rdRow at hr ⊢
  rw [(hf.2 r this hg).1]; exact hr
theorem SlcG.fr {α : Type} {esz : Nat} {enc : α → List AV} {c : Nat} {h h' : AH} {v : AV} {L : List α} (hs : SlcG esz enc c h v L) (hf : FrG c h h') : SlcG esz enc c h' v L := by
  obtain ⟨h1, h2⟩ := hs
  unfold SlcG Slc Sl at *
  cases v <;> simp only [rowOf] at * <;> first
    | (exact ⟨h1, fun r hr => by cases hr⟩)
    | (obtain ⟨k1, k2, k3, k4⟩ := h1
       exact ⟨⟨k1, k2, k3, rd_fr hf (h2 _ rfl) k4⟩, fun r hr => by cases hr; exact (hf.2 _ (rd_lt k4) (h2 _ rfl)).2⟩)
theorem OwL.slcG {α : Type} {esz : Nat} {enc : α → List AV} {N c : Nat} {h h' : AH} {v : AV} {L : List α} {K : List (List UInt8)} (ho : OwL esz enc h h' v L) (hk : KN N c h K) (hp : Pre h h') : SlcG esz enc c h' v L :=
  ⟨ho.slc, fun _ hr => hk.fresh hp (own_ge ho hr)⟩

theorem kindsS_not (t : Bool) : kindsS t (!t) = kindS t := by cases t <;> rfl
theorem gaTail_len (ls : List (List UInt8)) : (gaTail ls).length = (ls.map fun w => w.length + 1).sum := by
  induction ls with
  | nil => rfl
  | cons w ls ih => simp only [gaTail, List.flatMap_cons, List.length_append, List.length_cons, List.map_cons, List.sum_cons] at ih ⊢; rw [ih]
theorem OkS.step {N : Nat} {pre : List (List UInt8)} {w : List UInt8} {rest : List (List UInt8)} {t : Bool} (ho : OkS N (pre ++ w :: rest, t)) (i t' : Nat) (hi : i < w.length) : OkS N (pre ++ madeB w i t' :: rest, !t) := by
  obtain ⟨h1, h2⟩ := ho
  refine ⟨?_, ?_⟩
  · intro x hx
    simp only [List.mem_append, List.mem_cons] at hx
    rcases hx with hx | rfl | hx
    · exact h1 x (by simp [hx])
    · have hw := h1 w (by simp)
      have hb := sign_at hw hi
      unfold signs madeB
      rw [List.all_eq_true] at *
      intro b hb'
      rcases List.mem_or_eq_of_mem_set hb' with h3 | rfl
      · rcases List.mem_or_eq_of_mem_set h3 with h4 | rfl
        · exact (List.all_eq_true.1 hw) b h4
        · exact hb
      · rfl
    · exact h1 x (by simp [hx])
  · rw [← h2]
    simp only [gaK, List.length_cons, gaTail_len, List.map_append, List.map_cons, List.sum_append, List.sum_cons, madeB_length]
theorem OkS.bounds {N : Nat} {ls : List (List UInt8)} {t : Bool} (ho : OkS N (ls, t)) : ls.length ≤ N ∧ (gaTail ls).length < N ∧ ∀ w ∈ ls, w.length < N := by
  obtain ⟨_, h2⟩ := ho
  have h3 : (gaTail ls).length + 1 = N := by rw [← h2]; simp [gaK]
  have key : ∀ l : List (List UInt8), l.length ≤ (gaTail l).length ∧ ∀ w ∈ l, w.length < (gaTail l).length := by
    intro l
    induction l with
    | nil => simp
    | cons a l ih =>
      rw [gaTail_len] at ih ⊢
      simp only [List.map_cons, List.sum_cons, List.length_cons]
      refine ⟨by omega, ?_⟩
      intro w hw
      rcases List.mem_cons.1 hw with rfl | hw
      · omega
      · have := ih.2 w hw; omega
  have := key ls
  exact ⟨by omega, by omega, fun w hw => by have := this.2 w hw; omega⟩
theorem OkS.alph {N : Nat} {s : List (List UInt8) × Bool} (ho : OkS N s) : ∀ b ∈ gaK s, b ∈ Ab.alph := by
  obtain ⟨ls, t⟩ := s
  intro b hb
  simp only [gaK, List.mem_cons] at hb
  rcases hb with rfl | hb
  · cases t
    · exact (by decide : (102 : UInt8) ∈ Ab.alph)
    · exact (by decide : (116 : UInt8) ∈ Ab.alph)
  · simp only [gaTail, List.mem_flatMap, List.mem_cons] at hb
    obtain ⟨w, hw, hb⟩ := hb
    rcases hb with rfl | hb
    · decide
    · have := List.all_eq_true.1 (ho.1 w hw) b hb
      simp only [isSign, Bool.or_eq_true, beq_iff_eq] at this
      rcases this with (rfl | rfl) | rfl <;> decide
theorem own_row {esz : Nat} {b h h' : AH} {v : AV} {n : Nat} {cs : List AV} (ho : Own esz b h v n cs) (hh : ∀ r, rowOf v = some r → h'[r]? = h[r]?) : Own esz b h' v n cs := by
  unfold Own at ho ⊢
  cases v <;> simp only [rowOf] at ho hh ⊢ <;> first
    | exact ho
    | (obtain ⟨h1, h2, h3, h4, cells, fl, h5, h6⟩ := ho
       exact ⟨h1, h2, h3, h4, cells, fl, by rw [hh _ rfl]; exact h5, h6⟩)
theorem OwL.sc1 {α : Type} {esz : Nat} {enc : α → List AV} {b h : AH} {v : AV} {L : List α} (ho : OwL esz enc b h v L) : v.sc = true := by
  unfold OwL Own at ho
  cases v <;> simp only at ho <;> first
    | rfl
    | (exact ho.elim)
theorem OwL.cells {α : Type} {esz : Nat} {enc : α → List AV} {b h : AH} {v : AV} {L : List α} (ho : OwL esz enc b h v L) : v.cells = [v] := by
  unfold OwL Own at ho
  cases v <;> simp only at ho <;> first
    | rfl
    | (exact ho.elim)
theorem apRow_fr {h h' : AH} {esz q : Nat} {v v' : AV} {vs : List AV} (ha : apRow h esz v q vs = some (v', h')) : (∀ i, i < h.length → rowOf v ≠ some i → h'[i]? = h[i]?) ∧ h.length ≤ h'.length ∧ ∀ r, rowOf v' = some r → (rowOf v = some r ∨ r = h.length) := by
  have fresh : ∀ u, (if q = 0 then some (u, h) else if q ≤ room then (newRow h vs).map fun (c, h') => (AV.slice c 0 0 q esz, h') else none) = some (v', h') → rowOf u = none → (∀ i, i < h.length → h'[i]? = h[i]?) ∧ h.length ≤ h'.length ∧ ∀ r, rowOf v' = some r → r = h.length := by
    intro u ha hu
    split at ha
    · cases ha
      exact ⟨fun _ _ => rfl, Nat.le_refl _, fun r hr => by rw [hu] at hr; cases hr⟩
    · split at ha
      · unfold newRow at ha
        split at ha
        · simp only [Option.map_some, Option.some.injEq, Prod.mk.injEq] at ha
          obtain ⟨rfl, rfl⟩ := ha
          exact ⟨fun i hi => List.getElem?_append_left hi, by simp, fun r hr => by simp only [rowOf, Option.some.injEq] at hr; exact hr.symm⟩
        · cases ha
      · cases ha
  unfold apRow at ha
  cases v <;> simp only [apRow1] at ha <;> first
    | (cases ha; done)
    | (obtain ⟨h1, h2, h3⟩ := fresh _ ha rfl
       exact ⟨fun i hi _ => h1 i hi, h2, fun r hr => .inr (h3 r hr)⟩)
    | (split at ha
       · split at ha
         · cases ha
           refine ⟨fun i _ hr => ?_, by simp, fun r hr => .inl hr⟩
           rw [List.getElem?_set, if_neg (fun e => hr (by simp [rowOf, e]))]
         · split at ha
           · cases ha
             refine ⟨fun i _ hr => ?_, by simp, fun r hr => .inl hr⟩
             rw [List.getElem?_set, if_neg (fun e => hr (by simp [rowOf, e]))]
           · cases ha
       · cases ha)
/-- Keys that came by a call. -/
def Came (N n : Nat) (K K' : List (List UInt8)) : Prop := ∀ x ∈ K', x ∈ K ∨ ∃ s, OkS N s ∧ muL s.1 < n ∧ x = gaK s
theorem Came.refl (N n : Nat) (K : List (List UInt8)) : Came N n K K := fun _ h => .inl h
theorem Came.trans {N n : Nat} {a b c : List (List UInt8)} (x : Came N n a b) (y : Came N n b c) : Came N n a c := fun k hk => by
  rcases y k hk with h | h
  · exact x k h
  · exact .inr h
theorem Came.mono {N n m : Nat} {a b : List (List UInt8)} (x : Came N n a b) (hm : n ≤ m) : Came N m a b := fun k hk => by
  rcases x k hk with h | ⟨s, h1, h2, h3⟩
  · exact .inl h
  · exact .inr ⟨s, h1, by omega, h3⟩
/-- The search among what is known. -/
theorem lp_gaWin0 {c : Nat} {h : AH} {v1 v2 : AV} {K : List (List UInt8)} {W : List Bool} (hrow : h[c]? = some (.row [v1, v2] 0 0 false)) (h1 : Slc 1 encS h v1 K) (h2 : Slc 1 encB h v2 W) (hlen : K.length = W.length) (hK : K.length < 2 ^ 39) (lv : AV) (t : Bool) (key : List UInt8) {R : X → Env → AH → Prop} :
    ∀ (rest pre : List (List UInt8)), K = pre ++ rest → (∀ (i : Nat) b, K[i]? = some key → W[i]? = some b → R .ret [(6, .bool b)] h) → (key ∉ rest → R (.exit 0) [(0, .ptr c 0 0 2), (1, lv), (2, .bool t), (7, .str key)] h) →
    Cx (.loop lp199_0) [(0, .ptr c 0 0 2), (1, lv), (2, .bool t), (7, .str key), (21, v1), (22, .int .i64 K.length), (23, .int .i64 pre.length)] h R k k
  | [], pre, hpre, hf, hR => by
    subst hpre
    rw [w_loopb (c := lp199_0) (d := lb199_0) rfl]; unfold lb199_0
    simp only [List.append_nil]
    simp (maxSteps := 1000000) (disch := first | omega | rfl | (simp only [zL, two63, room] <;> omega) | fail) only [↓reduceIte, ↓zP, zW, WOp, evOp, evBin, binI, binSh, binS, evNil, keyIs, keyEq, mkv, AV.cells, AV.sc, optv, bnd, env, put, Env.get, Env.set, Env.del, Env.dels, Env.init, res1, resL, resV, fillP, splice, newRow, Nat.reduceEqDiff, Nat.reduceLT, Nat.reduceLeDiff, Nat.reduceAdd, Nat.reduceMul, Nat.reduceSub, Nat.reduceBEq, reduceCtorEq, ↓zR, zQ, Tr, StA, StT]
    exact hR (by simp)
  | x :: rest, pre, hpre, hf, hR => by
    have ih := lp_gaWin0 hrow h1 h2 hlen hK lv t key (R := R) rest (pre ++ [x])
    have hrd : rdRow h c 0 1 1 = some [v2] := by simp [rdRow, hrow]
    subst hpre
    obtain ⟨r1, k1, o1, rfl, hr⟩ := h1.at hlS
    have hl : (pre ++ x :: rest).length = pre.length + 1 + rest.length := by simp; omega
    obtain ⟨b, hb⟩ : ∃ b, W[pre.length]? = some b := ⟨W[pre.length]'(by omega), by simp⟩
    have hW : W = W.take pre.length ++ b :: W.drop (pre.length + 1) := by
      have hlt : pre.length < W.length := by omega
      have := List.getElem_of_getElem? hb
      obtain ⟨_, e⟩ := this
      rw [← e, ← List.drop_eq_getElem_cons, List.take_append_drop]
    have hwl : (W.take pre.length).length = pre.length := by simp; omega
    rw [hW] at h2
    obtain ⟨r2, k2, o2, rfl, hr2⟩ := h2.at hlB
    rw [hwl] at hr2
    have hlW : W.length = pre.length + 1 + rest.length := by omega
    rw [← hW, hlW] at hrd
    rw [hl] at ih hK ⊢
    rw [w_loopb (c := lp199_0) (d := lb199_0) rfl]; unfold lb199_0
    have hlt : (pre.length : Int) < ((pre.length + 1 + rest.length : Nat) : Int) := by omega
    have hw : (pre.length : Int) + 1 = ((pre ++ [x]).length : Int) := by simp
    cases e : (x == key)
    · simp (maxSteps := 1000000) (disch := first | omega | rfl | (simp only [zL, two63, room] <;> omega) | fail) only [↓reduceIte, ↓zP, zW, WOp, evOp, evBin, binI, binSh, binS, evNil, keyIs, keyEq, mkv, AV.cells, AV.sc, optv, bnd, env, put, Env.get, Env.set, Env.del, Env.dels, Env.init, res1, resL, resV, fillP, splice, newRow, Nat.reduceEqDiff, Nat.reduceLT, Nat.reduceLeDiff, Nat.reduceAdd, Nat.reduceMul, Nat.reduceSub, Nat.reduceBEq, reduceCtorEq, ↓zR, zQ, Tr, StA, StT, hlt, hr, e, hw]
      rw [w_loopn (c := lp199_0) rfl]
      simp (maxSteps := 1000000) (disch := first | omega | rfl | (simp only [zL, two63, room] <;> omega) | fail) only [↓reduceIte, ↓zP, zW, WOp, evOp, evBin, binI, binSh, binS, evNil, keyIs, keyEq, mkv, AV.cells, AV.sc, optv, bnd, env, put, Env.get, Env.set, Env.del, Env.dels, Env.init, res1, resL, resV, fillP, splice, newRow, Nat.reduceEqDiff, Nat.reduceLT, Nat.reduceLeDiff, Nat.reduceAdd, Nat.reduceMul, Nat.reduceSub, Nat.reduceBEq, reduceCtorEq, ↓zR, zQ, Tr, StA, StT]
      refine ih (by simp) hf ?_
      intro hn
      refine hR ?_
      rw [List.mem_cons]
      rintro (rfl | hn')
      · simp at e
      · exact hn hn'
    · simp (maxSteps := 1000000) (disch := first | omega | rfl | (simp only [zL, two63, room] <;> omega) | fail) only [↓reduceIte, ↓zP, zW, WOp, evOp, evBin, binI, binSh, binS, evNil, keyIs, keyEq, mkv, AV.cells, AV.sc, optv, bnd, env, put, Env.get, Env.set, Env.del, Env.dels, Env.init, res1, resL, resV, fillP, splice, newRow, Nat.reduceEqDiff, Nat.reduceLT, Nat.reduceLeDiff, Nat.reduceAdd, Nat.reduceMul, Nat.reduceSub, Nat.reduceBEq, reduceCtorEq, ↓zR, zQ, Tr, StA, StT, hlt, hr, e, hrd, hr2]
      refine hf pre.length b ?_ hb
      rw [beq_iff_eq] at e
      subst e; simp

def GWin (N n : Nat) : Prop := ∀ (ls : List (List UInt8)) (t : Bool) (c : Nat) (v : AV) (h : AH) (K : List (List UInt8)), muL ls < n → OkS N (ls, t) → KN N c h K → SlcG 1 encS c h v ls → ∀ post : AV → AH → Prop,
  (∀ h' K', FrG c h h' → KN N c h' K' → Came N (muL ls + 1) K K' → post (.bool (winL ls t)) h') → S 199 [.ptr c 0 0 2, v, .bool t] h post k
/-- Over the moves of one line. -/
theorem lp_gaWin2 {N n : Nat} (ih : GWin N n) {c : Nat} {pre : List (List UInt8)} {w : List UInt8} {rest : List (List UInt8)} {t : Bool} (hn : muL (pre ++ w :: rest) < n + 1) (hN : N ≤ 15) (hok : OkS N (pre ++ w :: rest, t)) (v vm : AV) (key : AV) (L39 : AV) (n40 : AV) {h0 : AH} {K0 : List (List UInt8)} {R : X → Env → AH → Prop} :
    ∀ (mr mp : List (Int × Int)) (h : AH) (K : List (List UInt8)), movesB w (kindS t) = mp ++ mr → FrG c h0 h → KN N c h K → Came N (muL (pre ++ w :: rest)) K0 K → SlcG 1 encS c h v (pre ++ w :: rest) → SlcG 2 encM c h vm (movesB w (kindS t)) →
    (∀ h' K', FrG c h0 h' → KN N c h' K' → Came N (muL (pre ++ w :: rest)) K0 K' → SlcG 1 encS c h' v (pre ++ w :: rest) → R (.exit 4) [(0, .ptr c 0 0 2), (1, v), (2, .bool t), (7, key), (10, .bool (mr.any fun m => !winL (pre ++ madeB w m.1.toNat m.2.toNat :: rest) (!t))), (39, L39), (40, n40), (41, .int .i64 pre.length)] h') →
    Cx (.loop lp199_2) [(0, .ptr c 0 0 2), (1, v), (2, .bool t), (7, key), (10, .bool false), (11, .int .i64 pre.length), (12, .str w), (39, L39), (40, n40), (41, .int .i64 pre.length), (50, vm), (51, .int .i64 (movesB w (kindS t)).length), (52, .int .i64 mp.length)] h R k k
  | [], mp, h, K, hmp, hf, hk, hc, hs, hsm, hR => by
    rw [w_loopb (c := lp199_2) (d := lb199_2) rfl]; unfold lb199_2
    have hl : (movesB w (kindS t)).length = mp.length := by rw [hmp]; simp
    rw [hl]
    simp (maxSteps := 1000000) (disch := first | omega | rfl | (simp only [zL, two63, room] <;> omega) | fail) only [↓reduceIte, ↓zP, zW, WOp, evOp, evBin, binI, binSh, binS, evNil, keyIs, keyEq, mkv, AV.cells, AV.sc, optv, bnd, env, put, Env.get, Env.set, Env.del, Env.dels, Env.init, res1, resL, resV, fillP, splice, newRow, Nat.reduceEqDiff, Nat.reduceLT, Nat.reduceLeDiff, Nat.reduceAdd, Nat.reduceMul, Nat.reduceSub, Nat.reduceBEq, reduceCtorEq, ↓zR, zQ, Tr, StA, StT]
    have := hR h K hf hk hc hs
    simpa using this
  | m :: mr, mp, h, K, hmp, hf, hk, hc, hs, hsm, hR => by
    have ihl := lp_gaWin2 ih hn hN hok v vm key L39 n40 (c := c) (h0 := h0) (K0 := K0) (R := R) mr (mp ++ [m])
    have hmm : m ∈ movesB w (kindS t) := by rw [hmp]; simp
    obtain ⟨i, t', rfl, hmv⟩ := movesB_mv hmm
    have hwl : w.length < N := hok.bounds.2.2 w (by simp)
    have hlen := movesB_len w (kindS t)
    have hml : (movesB w (kindS t)).length = mp.length + 1 + mr.length := by rw [hmp]; simp; omega
    have hsm' := hsm
    rw [hmp] at hsm'
    obtain ⟨r1, k1, o1, hv1, hr⟩ := hsm'.1.at hlM
    rw [← hmp, hml] at hv1
    subst hv1
    rw [hml] at ihl ⊢
    have hlt : (mp.length : Int) < ((mp.length + 1 + mr.length : Nat) : Int) := by omega
    have hw1 : (mp.length : Int) + 1 = ((mp ++ [((i : Int), (t' : Int))]).length : Int) := by simp
    rw [w_loopb (c := lp199_2) (d := lb199_2) rfl]; unfold lb199_2
    simp (maxSteps := 1000000) (disch := first | omega | rfl | (simp only [zL, two63, room] <;> omega) | fail) only [↓reduceIte, ↓zP, zW, WOp, evOp, evBin, binI, binSh, binS, evNil, keyIs, keyEq, mkv, AV.cells, AV.sc, optv, bnd, env, put, Env.get, Env.set, Env.del, Env.dels, Env.init, res1, resL, resV, fillP, splice, newRow, Nat.reduceEqDiff, Nat.reduceLT, Nat.reduceLeDiff, Nat.reduceAdd, Nat.reduceMul, Nat.reduceSub, Nat.reduceBEq, reduceCtorEq, ↓zR, zQ, Tr, StA, StT, hlt, hr]
    refine c_liMake w i t' hmv.fst hmv.snd ?_ (by omega) ?_
    · rintro rfl
      have := mu_made hmv
      obtain ⟨_, _, h3, h4⟩ := hmv
      rcases h4 with ⟨h4, h5⟩ | ⟨h4, h5⟩ <;> omega
    intro h2 hp2
    have hp1 := (Pre.push h (AO.row (encM ((i : Int), (t' : Int))) 0 0 false)).trans hp2
    have hf1 : FrG c h h2 := hp1.frg hk.lt
    have hk2 := hk.pre hp1
    have hs2 := hs.fr hf1
    have hsm2 := hsm.fr hf1
    simp (maxSteps := 1000000) (disch := first | omega | rfl | (simp only [zL, two63, room] <;> omega) | fail) only [↓reduceIte, ↓zP, zW, WOp, evOp, evBin, binI, binSh, binS, evNil, keyIs, keyEq, mkv, AV.cells, AV.sc, optv, bnd, env, put, Env.get, Env.set, Env.del, Env.dels, Env.init, res1, resL, resV, fillP, splice, newRow, Nat.reduceEqDiff, Nat.reduceLT, Nat.reduceLeDiff, Nat.reduceAdd, Nat.reduceMul, Nat.reduceSub, Nat.reduceBEq, reduceCtorEq, ↓zR, zQ, Tr, StA, StT]
    refine c_gaWith hs2.1 (by have := hok.bounds.1; omega) _ ?_
    intro v3 h3 ho3 hp3
    have hok' : OkS N (pre ++ madeB w i t' :: rest, !t) := hok.step i t' hmv.fst
    have hmu : muL (pre ++ madeB w i t' :: rest) < muL (pre ++ w :: rest) := by
      have := mu_made hmv
      simp only [muL, List.map_append, List.map_cons, List.sum_append, List.sum_cons]; omega
    simp (maxSteps := 1000000) (disch := first | omega | rfl | (simp only [zL, two63, room] <;> omega) | fail) only [↓reduceIte, ↓zP, zW, WOp, evOp, evBin, binI, binSh, binS, evNil, keyIs, keyEq, mkv, AV.cells, AV.sc, optv, bnd, env, put, Env.get, Env.set, Env.del, Env.dels, Env.init, res1, resL, resV, fillP, splice, newRow, Nat.reduceEqDiff, Nat.reduceLT, Nat.reduceLeDiff, Nat.reduceAdd, Nat.reduceMul, Nat.reduceSub, Nat.reduceBEq, reduceCtorEq, ↓zR, zQ, Tr, StA, StT]
    refine ih _ _ _ _ _ _ (by omega) hok' (hk2.pre hp3) (ho3.slcG hk2 hp3) _ ?_
    intro h4 K4 hf4 hk4 hc4
    have hf03 : FrG c h h4 := (hf1.trans (hp3.frg hk2.lt)).trans hf4
    have hcc : Came N (muL (pre ++ w :: rest)) K0 K4 := hc.trans (hc4.mono (by omega))
    cases e : winL (pre ++ madeB w i t' :: rest) (!t)
    · simp (maxSteps := 1000000) (disch := first | omega | rfl | (simp only [zL, two63, room] <;> omega) | fail) only [↓reduceIte, ↓zP, zW, WOp, evOp, evBin, binI, binSh, binS, evNil, keyIs, keyEq, mkv, AV.cells, AV.sc, optv, bnd, env, put, Env.get, Env.set, Env.del, Env.dels, Env.init, res1, resL, resV, fillP, splice, newRow, Nat.reduceEqDiff, Nat.reduceLT, Nat.reduceLeDiff, Nat.reduceAdd, Nat.reduceMul, Nat.reduceSub, Nat.reduceBEq, reduceCtorEq, ↓zR, zQ, Tr, StA, StT]
      exact hR h4 K4 (hf.trans hf03) hk4 hcc (hs.fr hf03) |> fun hh => by simpa [e] using hh
    · simp (maxSteps := 1000000) (disch := first | omega | rfl | (simp only [zL, two63, room] <;> omega) | fail) only [↓reduceIte, ↓zP, zW, WOp, evOp, evBin, binI, binSh, binS, evNil, keyIs, keyEq, mkv, AV.cells, AV.sc, optv, bnd, env, put, Env.get, Env.set, Env.del, Env.dels, Env.init, res1, resL, resV, fillP, splice, newRow, Nat.reduceEqDiff, Nat.reduceLT, Nat.reduceLeDiff, Nat.reduceAdd, Nat.reduceMul, Nat.reduceSub, Nat.reduceBEq, reduceCtorEq, ↓zR, zQ, Tr, StA, StT, hw1]
      rw [w_loopn (c := lp199_2) rfl]
      simp (maxSteps := 1000000) (disch := first | omega | rfl | (simp only [zL, two63, room] <;> omega) | fail) only [↓reduceIte, ↓zP, zW, WOp, evOp, evBin, binI, binSh, binS, evNil, keyIs, keyEq, mkv, AV.cells, AV.sc, optv, bnd, env, put, Env.get, Env.set, Env.del, Env.dels, Env.init, res1, resL, resV, fillP, splice, newRow, Nat.reduceEqDiff, Nat.reduceLT, Nat.reduceLeDiff, Nat.reduceAdd, Nat.reduceMul, Nat.reduceSub, Nat.reduceBEq, reduceCtorEq, ↓zR, zQ, Tr, StA, StT]
      refine ihl h4 K4 (by rw [hmp]; simp) (hf.trans hf03) hk4 hcc (hs.fr hf03) (hsm.fr hf03) ?_
      intro h' K' q1 q2 q3 q4
      have := hR h' K' q1 q2 q3 q4
      simpa [e] using this

/-- Over the lines of a sum. -/
theorem lp_gaWin1 {N n : Nat} (ih : GWin N n) {c : Nat} {ls : List (List UInt8)} {t : Bool} (hn : muL ls < n + 1) (hN : N ≤ 15) (hok : OkS N (ls, t)) (v : AV) (key : AV) {h0 : AH} {K0 : List (List UInt8)} {R : X → Env → AH → Prop} :
    ∀ (rest pre : List (List UInt8)) (h : AH) (K : List (List UInt8)), ls = pre ++ rest → FrG c h0 h → KN N c h K → Came N (muL ls) K0 K → SlcG 1 encS c h v ls →
    (∀ h' K', FrG c h0 h' → KN N c h' K' → Came N (muL ls) K0 K' → R (.exit 2) [(0, .ptr c 0 0 2), (7, key), (10, .bool ((nextZ (kindS t) pre rest).any fun x => !winL x (!t)))] h') →
    Cx (.loop lp199_1) [(0, .ptr c 0 0 2), (1, v), (2, .bool t), (7, key), (10, .bool false), (39, v), (40, .int .i64 ls.length), (41, .int .i64 pre.length)] h R k k
  | [], pre, h, K, hls, hf, hk, hc, hs, hR => by
    rw [w_loopb (c := lp199_1) (d := lb199_1) rfl]; unfold lb199_1
    have hl : ls.length = pre.length := by rw [hls]; simp
    rw [hl]
    simp (maxSteps := 1000000) (disch := first | omega | rfl | (simp only [zL, two63, room] <;> omega) | fail) only [↓reduceIte, ↓zP, zW, WOp, evOp, evBin, binI, binSh, binS, evNil, keyIs, keyEq, mkv, AV.cells, AV.sc, optv, bnd, env, put, Env.get, Env.set, Env.del, Env.dels, Env.init, res1, resL, resV, fillP, splice, newRow, Nat.reduceEqDiff, Nat.reduceLT, Nat.reduceLeDiff, Nat.reduceAdd, Nat.reduceMul, Nat.reduceSub, Nat.reduceBEq, reduceCtorEq, ↓zR, zQ, Tr, StA, StT]
    have := hR h K hf hk hc
    simpa [nextZ] using this
  | w :: rest, pre, h, K, hls, hf, hk, hc, hs, hR => by
    have ihl := lp_gaWin1 ih hn hN hok v key (c := c) (h0 := h0) (K0 := K0) (R := R) rest (pre ++ [w])
    have hb := hok.bounds
    have hsg := hok.1 w (by rw [hls]; simp)
    have hwl := hb.2.2 w (by rw [hls]; simp)
    have hll : ls.length = pre.length + 1 + rest.length := by rw [hls]; simp; omega
    have hs' := hs
    rw [hls] at hs'
    obtain ⟨r1, k1, o1, hv1, hr⟩ := hs'.1.at hlS
    rw [← hls, hll] at hv1
    subst hv1
    rw [hll] at ihl ⊢
    have hlt : (pre.length : Int) < ((pre.length + 1 + rest.length : Nat) : Int) := by omega
    have hw1 : (pre.length : Int) + 1 = ((pre ++ [w]).length : Int) := by simp
    rw [w_loopb (c := lp199_1) (d := lb199_1) rfl]; unfold lb199_1
    simp (maxSteps := 1000000) (disch := first | omega | rfl | (simp only [zL, two63, room] <;> omega) | fail) only [↓reduceIte, ↓zP, zW, WOp, evOp, evBin, binI, binSh, binS, evNil, keyIs, keyEq, mkv, AV.cells, AV.sc, optv, bnd, env, put, Env.get, Env.set, Env.del, Env.dels, Env.init, res1, resL, resV, fillP, splice, newRow, Nat.reduceEqDiff, Nat.reduceLT, Nat.reduceLeDiff, Nat.reduceAdd, Nat.reduceMul, Nat.reduceSub, Nat.reduceBEq, reduceCtorEq, ↓zR, zQ, Tr, StA, StT, hlt, hr]
    refine c_liMoves w hsg (by omega) t (!t) ?_
    intro vm h2 ho2 hp2
    rw [liMovesB_eq, kindsS_not] at ho2
    have hsm := ho2.slcG hk hp2
    have hf2 := hp2.frg (c := c) hk.lt
    have hlen := movesB_len w (kindS t)
    have hv2 := fun g => Slc.lenV (hsm.1) (g := g) (ρ := fun _ => _) (x := .t 0) rfl; simp only [evOp] at hv2
    simp (maxSteps := 1000000) (disch := first | omega | rfl | (simp only [zL, two63, room] <;> omega) | fail) only [↓reduceIte, ↓zP, zW, WOp, evOp, evBin, binI, binSh, binS, evNil, keyIs, keyEq, mkv, AV.cells, AV.sc, optv, bnd, env, put, Env.get, Env.set, Env.del, Env.dels, Env.init, res1, resL, resV, fillP, splice, newRow, Nat.reduceEqDiff, Nat.reduceLT, Nat.reduceLeDiff, Nat.reduceAdd, Nat.reduceMul, Nat.reduceSub, Nat.reduceBEq, reduceCtorEq, ↓zR, zQ, Tr, StA, StT, hv2]
    subst hls
    refine lp_gaWin2 ih hn hN hok _ vm key _ _ (h0 := h0) (K0 := K0) (movesB w (kindS t)) [] h2 K rfl (hf.trans hf2) (hk.pre hp2) hc (hs.fr hf2) hsm ?_
    intro h3 K3 hf3 hk3 hc3 hs3
    have hz : (nextZ (kindS t) pre (w :: rest)).any (fun x => !winL x (!t)) = (((movesB w (kindS t)).any fun m => !winL (pre ++ madeB w m.1.toNat m.2.toNat :: rest) (!t)) || (nextZ (kindS t) (pre ++ [w]) rest).any (fun x => !winL x (!t))) := by
      simp only [nextZ, List.any_append, nextB, List.any_map, Function.comp_def]
    rw [hz] at hR
    cases e : (movesB w (kindS t)).any fun m => !winL (pre ++ madeB w m.1.toNat m.2.toNat :: rest) (!t)
    · simp (maxSteps := 1000000) (disch := first | omega | rfl | (simp only [zL, two63, room] <;> omega) | fail) only [↓reduceIte, ↓zP, zW, WOp, evOp, evBin, binI, binSh, binS, evNil, keyIs, keyEq, mkv, AV.cells, AV.sc, optv, bnd, env, put, Env.get, Env.set, Env.del, Env.dels, Env.init, res1, resL, resV, fillP, splice, newRow, Nat.reduceEqDiff, Nat.reduceLT, Nat.reduceLeDiff, Nat.reduceAdd, Nat.reduceMul, Nat.reduceSub, Nat.reduceBEq, reduceCtorEq, ↓zR, zQ, Tr, StA, StT, hw1]
      rw [w_loopn (c := lp199_1) rfl]
      simp (maxSteps := 1000000) (disch := first | omega | rfl | (simp only [zL, two63, room] <;> omega) | fail) only [↓reduceIte, ↓zP, zW, WOp, evOp, evBin, binI, binSh, binS, evNil, keyIs, keyEq, mkv, AV.cells, AV.sc, optv, bnd, env, put, Env.get, Env.set, Env.del, Env.dels, Env.init, res1, resL, resV, fillP, splice, newRow, Nat.reduceEqDiff, Nat.reduceLT, Nat.reduceLeDiff, Nat.reduceAdd, Nat.reduceMul, Nat.reduceSub, Nat.reduceBEq, reduceCtorEq, ↓zR, zQ, Tr, StA, StT]
      refine ihl h3 K3 (by simp) hf3 hk3 hc3 hs3 ?_
      intro h' K' q1 q2 q3
      have := hR h' K' q1 q2 q3
      simpa [e] using this
    · simp (maxSteps := 1000000) (disch := first | omega | rfl | (simp only [zL, two63, room] <;> omega) | fail) only [↓reduceIte, ↓zP, zW, WOp, evOp, evBin, binI, binSh, binS, evNil, keyIs, keyEq, mkv, AV.cells, AV.sc, optv, bnd, env, put, Env.get, Env.set, Env.del, Env.dels, Env.init, res1, resL, resV, fillP, splice, newRow, Nat.reduceEqDiff, Nat.reduceLT, Nat.reduceLeDiff, Nat.reduceAdd, Nat.reduceMul, Nat.reduceSub, Nat.reduceBEq, reduceCtorEq, ↓zR, zQ, Tr, StA, StT]
      have := hR h3 K3 hf3 hk3 hc3
      simpa [e] using this

theorem c_gaWin {N : Nat} (hN : N ≤ 14) : ∀ n : Nat, GWin N n
  | 0 => fun ls t c v h K hn _ _ _ _ _ => by omega
  | n + 1 => by
    intro ls t c v h K hn hok hk hs post hp
    have ih := c_gaWin hN n
    have hb := hok.bounds
    have hKb : ∀ h K, KN N c h K → K.length < 2 ^ 39 := by
      rintro h K ⟨_, _, _, _, _, _, _, _, _, _, hnd, hal, _⟩
      have h1 := nodup_bound hnd hal
      have h2 : (6 : Nat) ^ N ≤ 6 ^ 14 := Nat.pow_le_pow_right (by omega) hN
      have h3 : alph.length = 6 := rfl
      rw [h3] at h1
      have h4 : (6 : Nat) ^ 14 < 2 ^ 39 := by decide
      omega
    have hK := hKb h K hk
    have hk0 := hk
    obtain ⟨v1, v2, W, hrow, ho1, ho2, n1, n2, n3, hlen, hnd, hal, hgood⟩ := hk
    have hrd : rdRow h c 0 0 1 = some [v1] := by simp [rdRow, hrow]
    refine S_of rfl T199 ?_; unfold fi199
    simp (maxSteps := 1000000) (disch := first | omega | rfl | (simp only [zL, two63, room] <;> omega) | fail) only [↓reduceIte, ↓zP, zW, WOp, evOp, evBin, binI, binSh, binS, evNil, keyIs, keyEq, mkv, AV.cells, AV.sc, optv, bnd, env, put, Env.get, Env.set, Env.del, Env.dels, Env.init, res1, resL, resV, fillP, splice, newRow, Nat.reduceEqDiff, Nat.reduceLT, Nat.reduceLeDiff, Nat.reduceAdd, Nat.reduceMul, Nat.reduceSub, Nat.reduceBEq, reduceCtorEq, ↓zR, zQ, Tr, StA, StT]
    refine c_gaKey t hs.1 (by omega) (by omega) ?_
    have hv1 := fun g => Slc.lenV (ho1.slc) (g := g) (ρ := fun _ => _) (x := .t 0) rfl; simp only [evOp] at hv1
    simp (maxSteps := 1000000) (disch := first | omega | rfl | (simp only [zL, two63, room] <;> omega) | fail) only [↓reduceIte, ↓zP, zW, WOp, evOp, evBin, binI, binSh, binS, evNil, keyIs, keyEq, mkv, AV.cells, AV.sc, optv, bnd, env, put, Env.get, Env.set, Env.del, Env.dels, Env.init, res1, resL, resV, fillP, splice, newRow, Nat.reduceEqDiff, Nat.reduceLT, Nat.reduceLeDiff, Nat.reduceAdd, Nat.reduceMul, Nat.reduceSub, Nat.reduceBEq, reduceCtorEq, ↓zR, zQ, Tr, StA, StT, hrd, hv1]
    refine lp_gaWin0 hrow ho1.slc ho2.slc hlen hK v t (gaK (ls, t)) K [] rfl ?_ ?_
    · intro i b h1 h2
      obtain rfl := hgood i _ b h1 h2 (ls, t) hok rfl
      simp (maxSteps := 1000000) (disch := first | omega | rfl | (simp only [zL, two63, room] <;> omega) | fail) only [↓reduceIte, ↓zP, zW, WOp, evOp, evBin, binI, binSh, binS, evNil, keyIs, keyEq, mkv, AV.cells, AV.sc, optv, bnd, env, put, Env.get, Env.set, Env.del, Env.dels, Env.init, res1, resL, resV, fillP, splice, newRow, Nat.reduceEqDiff, Nat.reduceLT, Nat.reduceLeDiff, Nat.reduceAdd, Nat.reduceMul, Nat.reduceSub, Nat.reduceBEq, reduceCtorEq, ↓zR, zQ, Tr, StA, StT]
      exact hp h K (FrG.refl _ _) hk0 (Came.refl _ _ _)
    · intro hnot
      have hv2 := fun g => Slc.lenV (hs.1) (g := g) (ρ := fun _ => _) (x := .t 0) rfl; simp only [evOp] at hv2
      simp (maxSteps := 1000000) (disch := first | omega | rfl | (simp only [zL, two63, room] <;> omega) | fail) only [↓reduceIte, ↓zP, zW, WOp, evOp, evBin, binI, binSh, binS, evNil, keyIs, keyEq, mkv, AV.cells, AV.sc, optv, bnd, env, put, Env.get, Env.set, Env.del, Env.dels, Env.init, res1, resL, resV, fillP, splice, newRow, Nat.reduceEqDiff, Nat.reduceLT, Nat.reduceLeDiff, Nat.reduceAdd, Nat.reduceMul, Nat.reduceSub, Nat.reduceBEq, reduceCtorEq, ↓zR, zQ, Tr, StA, StT, hv2]
      refine lp_gaWin1 ih hn (by omega) hok v (.str (gaK (ls, t))) (h0 := h) (K0 := K) ls [] h K rfl (FrG.refl _ _) hk0 (Came.refl _ _ _) hs ?_
      intro h2 K2 hf2 hk2 hc2'
      rw [← winL_eq]
      have hnot2 : gaK (ls, t) ∉ K2 := by
        intro hin
        rcases hc2' _ hin with h1 | ⟨s, h1, h3, h4⟩
        · exact hnot h1
        · have := gaK_inj (s := (ls, t)) (s' := s) hok.1 h1.1 h4
          subst this
          exact Nat.lt_irrefl _ h3
      have hK2 := hKb h2 K2 hk2
      obtain ⟨u1, u2, W2, hrow2, po1, po2, m1, m2, m3, hlen2, hnd2, hal2, hgood2⟩ := hk2
      have hrd2 : rdRow h2 c 0 0 1 = some [u1] := by simp [rdRow, hrow2]
      have hrd3 : rdRow h2 c 0 1 1 = some [u2] := by simp [rdRow, hrow2]
      simp (maxSteps := 1000000) (disch := first | omega | rfl | (simp only [zL, two63, room] <;> omega) | fail) only [↓reduceIte, ↓zP, zW, WOp, evOp, evBin, binI, binSh, binS, evNil, keyIs, keyEq, mkv, AV.cells, AV.sc, optv, bnd, env, put, Env.get, Env.set, Env.del, Env.dels, Env.init, res1, resL, resV, fillP, splice, newRow, Nat.reduceEqDiff, Nat.reduceLT, Nat.reduceLeDiff, Nat.reduceAdd, Nat.reduceMul, Nat.reduceSub, Nat.reduceBEq, reduceCtorEq, ↓zR, zQ, Tr, StA, StT, hrd2]
      generalize hA : h2 ++ [AO.row [.str (gaK (ls, t))] 0 0 false] = gA
      have pA : Pre h2 gA := hA ▸ Pre.push _ _
      have lA : gA.length = h2.length + 1 := by rw [← hA]; simp
      have rA : rdRow gA h2.length 0 0 1 = some [.str (gaK (ls, t))] := by rw [← hA]; simp (maxSteps := 1000000) (disch := first | omega | rfl | (simp only [zL, two63, room] <;> omega) | fail) only [↓reduceIte, ↓zP, zW, WOp, evOp, evBin, binI, binSh, binS, evNil, keyIs, keyEq, mkv, AV.cells, AV.sc, optv, bnd, env, put, Env.get, Env.set, Env.del, Env.dels, Env.init, res1, resL, resV, fillP, splice, newRow, Nat.reduceEqDiff, Nat.reduceLT, Nat.reduceLeDiff, Nat.reduceAdd, Nat.reduceMul, Nat.reduceSub, Nat.reduceBEq, reduceCtorEq, ↓zR, zQ, Tr, StA, StT]
      obtain ⟨w1, gB, apB, owB, _⟩ := apA hlS scS (b := []) (po1.pre pA) (by simp) (gaK (ls, t)) (by omega)
      obtain ⟨fB1, fB2, fB3⟩ := apRow_fr apB
      have hc2 := (List.getElem?_eq_some_iff.1 hrow2).1
      have rcB : gB[c]? = some (.row [u1, u2] 0 0 false) := by rw [fB1 c (by omega) m1, pA.2 c hc2, hrow2]
      have qB := owB.cells
      simp only [AV.cells] at qB
      have wB : wrRow gB c 0 0 [w1] = some (gB.set c (.row [w1, u2] 0 0 false)) := by simp [wrRow, rcB, splice, owB.sc1]
      have hlc : c < gB.length := by omega
      simp (maxSteps := 1000000) (disch := first | omega | rfl | (simp only [zL, two63, room] <;> omega) | fail) only [↓reduceIte, ↓zP, zW, WOp, evOp, evBin, binI, binSh, binS, evNil, keyIs, keyEq, mkv, AV.cells, AV.sc, optv, bnd, env, put, Env.get, Env.set, Env.del, Env.dels, Env.init, res1, resL, resV, fillP, splice, newRow, Nat.reduceEqDiff, Nat.reduceLT, Nat.reduceLeDiff, Nat.reduceAdd, Nat.reduceMul, Nat.reduceSub, Nat.reduceBEq, reduceCtorEq, ↓zR, zQ, Tr, StA, StT, rA, apB, wB, qB]
      generalize hC : gB.set c (.row [w1, u2] 0 0 false) = gC
      have lC : gC.length = gB.length := by rw [← hC]; simp
      have rcC : gC[c]? = some (.row [w1, u2] 0 0 false) := by rw [← hC, List.getElem?_set, if_pos rfl, if_pos hlc]
      have oC : ∀ i, i ≠ c → gC[i]? = gB[i]? := fun i hi => by rw [← hC, List.getElem?_set, if_neg (Ne.symm hi)]
      have rdC : rdRow gC c 0 1 1 = some [u2] := by simp [rdRow, rcC]
      try (simp (maxSteps := 1000000) (disch := first | omega | rfl | (simp only [zL, two63, room] <;> omega) | fail) only [↓reduceIte, ↓zP, zW, WOp, evOp, evBin, binI, binSh, binS, evNil, keyIs, keyEq, mkv, AV.cells, AV.sc, optv, bnd, env, put, Env.get, Env.set, Env.del, Env.dels, Env.init, res1, resL, resV, fillP, splice, newRow, Nat.reduceEqDiff, Nat.reduceLT, Nat.reduceLeDiff, Nat.reduceAdd, Nat.reduceMul, Nat.reduceSub, Nat.reduceBEq, reduceCtorEq, ↓zR, zQ, Tr, StA, StT, rdC])
      generalize hD : gC ++ [AO.row [.bool (winL ls t)] 0 0 false] = gD
      have pD : Pre gC gD := hD ▸ Pre.push _ _
      have lD : gD.length = gC.length + 1 := by rw [← hD]; simp
      have rD : rdRow gD gC.length 0 0 1 = some [.bool (winL ls t)] := by rw [← hD]; simp (maxSteps := 1000000) (disch := first | omega | rfl | (simp only [zL, two63, room] <;> omega) | fail) only [↓reduceIte, ↓zP, zW, WOp, evOp, evBin, binI, binSh, binS, evNil, keyIs, keyEq, mkv, AV.cells, AV.sc, optv, bnd, env, put, Env.get, Env.set, Env.del, Env.dels, Env.init, res1, resL, resV, fillP, splice, newRow, Nat.reduceEqDiff, Nat.reduceLT, Nat.reduceLeDiff, Nat.reduceAdd, Nat.reduceMul, Nat.reduceSub, Nat.reduceBEq, reduceCtorEq, ↓zR, zQ, Tr, StA, StT]
      have l2 : ∀ r, rowOf u2 = some r → r < h2.length := fun r hr => own_lt po2 hr
      have l1 : ∀ r, rowOf u1 = some r → r < h2.length := fun r hr => own_lt po1 hr
      have po2C : OwL 1 encB [] gC u2 W2 := by
        refine own_row po2 fun r hr => ?_
        have h1 := l2 r hr
        rw [oC r (fun e => m2 (e ▸ hr)), fB1 r (by omega) (fun e => m3 r e hr), pA.2 r h1]
      obtain ⟨w2, gE, apE, owE, _⟩ := apA hlB scB (b := []) (po2C.pre pD) (by simp) (winL ls t) (by omega)
      obtain ⟨fE1, fE2, fE3⟩ := apRow_fr apE
      have rcE : gE[c]? = some (.row [w1, u2] 0 0 false) := by rw [fE1 c (by omega) m2, pD.2 c (by omega), rcC]
      have qE := owE.cells
      simp only [AV.cells] at qE
      have wE : wrRow gE c 0 1 [w2] = some (gE.set c (.row [w1, w2] 0 0 false)) := by simp [wrRow, rcE, splice, owE.sc1]
      have hlE : c < gE.length := by omega
      simp (maxSteps := 1000000) (disch := first | omega | rfl | (simp only [zL, two63, room] <;> omega) | fail) only [↓reduceIte, ↓zP, zW, WOp, evOp, evBin, binI, binSh, binS, evNil, keyIs, keyEq, mkv, AV.cells, AV.sc, optv, bnd, env, put, Env.get, Env.set, Env.del, Env.dels, Env.init, res1, resL, resV, fillP, splice, newRow, Nat.reduceEqDiff, Nat.reduceLT, Nat.reduceLeDiff, Nat.reduceAdd, Nat.reduceMul, Nat.reduceSub, Nat.reduceBEq, reduceCtorEq, ↓zR, zQ, Tr, StA, StT, rD, apE, wE, qE]
      have d1 : ∀ r, rowOf w1 = some r → (rowOf u1 = some r ∨ r = gA.length) := fB3
      have d2 : ∀ r, rowOf w2 = some r → (rowOf u2 = some r ∨ r = gD.length) := fE3
      have c1 : rowOf w1 ≠ some c := fun e => by
        rcases d1 c e with h1 | h1
        · exact m1 h1
        · omega
      have c2 : rowOf w2 ≠ some c := fun e => by
        rcases d2 c e with h1 | h1
        · exact m2 h1
        · omega
      have x1 : ∀ r, rowOf w1 = some r → gE[r]? = gB[r]? := fun r hr => by
        have h3 : r ≠ c := fun e => c1 (e ▸ hr)
        have h4 : r < gB.length := own_lt owB hr
        have h5 : rowOf u2 ≠ some r := by
          intro e
          have := l2 r e
          rcases d1 r hr with h1 | h1
          · exact m3 r h1 e
          · omega
        rw [fE1 r (by omega) h5, pD.2 r (by omega), oC r h3]
      refine hp (gE.set c (.row [w1, w2] 0 0 false)) (K2 ++ [gaK (ls, t)]) (hf2.trans ?_) ?_ ?_
      · refine ⟨by simp; omega, fun i hi hg => ?_⟩
        have g1 : i ≠ c := fun e => hg (.inl e)
        have g2 : rowOf u1 ≠ some i := fun e => hg (.inr ⟨u1, u2, hrow2, .inl e⟩)
        have g3 : rowOf u2 ≠ some i := fun e => hg (.inr ⟨u1, u2, hrow2, .inr e⟩)
        refine ⟨?_, ?_⟩
        · rw [List.getElem?_set, if_neg (Ne.symm g1), fE1 i (by omega) g3, pD.2 i (by omega), oC i g1, fB1 i (by omega) g2, pA.2 i hi]
        · rintro (e | ⟨y1, y2, e1, e2⟩)
          · exact g1 e
          · rw [List.getElem?_set, if_pos rfl, if_pos hlE] at e1
            simp only [Option.some.injEq, AO.row.injEq, List.cons.injEq, and_true, true_and] at e1
            obtain ⟨rfl, rfl⟩ := e1
            rcases e2 with e2 | e2
            · rcases d1 i e2 with h1 | h1
              · exact g2 h1
              · omega
            · rcases d2 i e2 with h1 | h1
              · exact g3 h1
              · omega
      · refine ⟨w1, w2, W2 ++ [winL ls t], by rw [List.getElem?_set, if_pos rfl, if_pos hlE], ?_, ?_, c1, c2, ?_, by simp [hlen2], ?_, ?_, ?_⟩
        · refine own_row owB fun r hr => ?_
          rw [List.getElem?_set, if_neg (by intro e; subst e; exact c1 hr), x1 r hr]
        · refine own_row owE fun r hr => ?_
          rw [List.getElem?_set, if_neg (by intro e; subst e; exact c2 hr)]
        · intro r h1 h3
          rcases d1 r h1 with h4 | h4 <;> rcases d2 r h3 with h5 | h5
          · exact m3 r h4 h5
          · have := l1 r h4; omega
          · have := l2 r h5; omega
          · omega
        · rw [List.nodup_append]
          exact ⟨hnd2, by simp, fun a ha b hb' => by simp at hb'; subst hb'; rintro rfl; exact hnot2 ha⟩
        · intro x hx
          rcases List.mem_append.1 hx with hx | hx
          · exact hal2 x hx
          · simp at hx; subst hx; exact ⟨hok.2, hok.alph⟩
        · intro i x b hx hb' s hs' hxs
          by_cases hi : i < K2.length
          · rw [List.getElem?_append_left hi] at hx
            rw [List.getElem?_append_left (by omega)] at hb'
            exact hgood2 i x b hx hb' s hs' hxs
          · have hi2 : i = K2.length := by
              have := (List.getElem?_eq_some_iff.1 hx).1
              simp at this; omega
            subst hi2
            rw [List.getElem?_append_right (Nat.le_refl _)] at hx
            rw [List.getElem?_append_right (by omega)] at hb'
            simp at hx
            rw [show K2.length - W2.length = 0 by omega] at hb'
            simp at hb'
            subst hb'
            have := gaK_inj (s := (ls, t)) (s' := s) hok.1 hs'.1 (hx.trans hxs)
            subst this; rfl
      · intro x hx
        rcases List.mem_append.1 hx with hx | hx
        · exact (hc2'.mono (by omega)) x hx
        · simp at hx; subst hx; exact .inr ⟨(ls, t), hok, by simp, rfl⟩

def outcS (a b : Bool) : List UInt8 := if a && b then [49] else if a then [84] else if b then [70] else [50]
theorem KN.new {N : Nat} {h : AH} : KN N h.length (h ++ [.row [.nilS, .nilS] 0 0 false]) [] :=
  ⟨.nilS, .nilS, [], by simp, OwL.nil, OwL.nil, by simp [rowOf], by simp [rowOf], by simp [rowOf], rfl, List.nodup_nil, fun x hx => (List.not_mem_nil hx).elim, fun i x b hx => by simp at hx⟩
theorem c_gaOutcome {ls : List (List UInt8)} {v : AV} {h : AH} (hs : Slc 1 encS h v ls) (hg : ∀ w ∈ ls, signs w) (hN : (gaTail ls).length ≤ 13) {post : AV → AH → Prop} (hp : ∀ h', h.length ≤ h'.length → (∀ i, i < h.length → h'[i]? = h[i]?) → post (.str (outcS (winL ls true) (winL ls false))) h') : S 197 [v] h post k := by
  have ok : ∀ t, OkS ((gaTail ls).length + 1) (ls, t) := fun t => ⟨hg, by simp [gaK]⟩
  have hpre := Pre.push h (AO.row [.nilS, .nilS] 0 0 false)
  have hk0 : KN ((gaTail ls).length + 1) h.length (h ++ [.row [.nilS, .nilS] 0 0 false]) [] := KN.new
  have hng : ∀ r, r < h.length → ¬ gr h.length (h ++ [.row [.nilS, .nilS] 0 0 false]) r := by
    rintro r hr (rfl | ⟨v1, v2, e1, e2⟩)
    · exact Nat.lt_irrefl _ hr
    · simp at e1
      obtain ⟨rfl, rfl⟩ := e1
      simp [rowOf] at e2
  have hs1 : SlcG 1 encS h.length (h ++ [.row [.nilS, .nilS] 0 0 false]) v ls := by
    refine ⟨hs.pre hpre, fun r hr => hng r ?_⟩
    unfold Slc Sl at hs
    cases v <;> simp only [rowOf] at hr hs <;> first
      | (cases hr; done)
      | (cases hr; exact rd_lt hs.2.2.2)
  refine S_of rfl T197 ?_; unfold fi197
  simp (maxSteps := 1000000) (disch := first | omega | rfl | (simp only [zL, two63, room] <;> omega) | fail) only [↓reduceIte, ↓zP, zW, WOp, evOp, evBin, binI, binSh, binS, evNil, keyIs, keyEq, mkv, AV.cells, AV.sc, optv, bnd, env, put, Env.get, Env.set, Env.del, Env.dels, Env.init, res1, resL, resV, fillP, splice, newRow, Nat.reduceEqDiff, Nat.reduceLT, Nat.reduceLeDiff, Nat.reduceAdd, Nat.reduceMul, Nat.reduceSub, Nat.reduceBEq, reduceCtorEq, ↓zR, zQ, Tr, StA, StT]
  refine c_gaWin (N := (gaTail ls).length + 1) (by omega) _ ls true _ _ _ _ (Nat.lt_succ_self _) (ok true) hk0 hs1 _ ?_
  intro h2 K2 hf2 hk2 _
  simp (maxSteps := 1000000) (disch := first | omega | rfl | (simp only [zL, two63, room] <;> omega) | fail) only [↓reduceIte, ↓zP, zW, WOp, evOp, evBin, binI, binSh, binS, evNil, keyIs, keyEq, mkv, AV.cells, AV.sc, optv, bnd, env, put, Env.get, Env.set, Env.del, Env.dels, Env.init, res1, resL, resV, fillP, splice, newRow, Nat.reduceEqDiff, Nat.reduceLT, Nat.reduceLeDiff, Nat.reduceAdd, Nat.reduceMul, Nat.reduceSub, Nat.reduceBEq, reduceCtorEq, ↓zR, zQ, Tr, StA, StT]
  refine c_gaWin (N := (gaTail ls).length + 1) (by omega) _ ls false _ _ _ _ (Nat.lt_succ_self _) (ok false) hk2 (hs1.fr hf2) _ ?_
  intro h3 K3 hf3 hk3 _
  have hff := hf2.trans hf3
  have hq := hp h3 (by have := hff.1; simp at this; omega) (fun i hi => by rw [(hff.2 i (by simp; omega) (hng i hi)).1, hpre.2 i hi])
  cases e1 : winL ls true <;> cases e2 : winL ls false <;> simp only [e1, e2, outcS, Bool.and_true, Bool.and_false, if_true, if_false, Bool.false_eq_true] at hq <;> simp (maxSteps := 1000000) (disch := first | omega | rfl | (simp only [zL, two63, room] <;> omega) | fail) only [↓reduceIte, ↓zP, zW, WOp, evOp, evBin, binI, binSh, binS, evNil, keyIs, keyEq, mkv, AV.cells, AV.sc, optv, bnd, env, put, Env.get, Env.set, Env.del, Env.dels, Env.init, res1, resL, resV, fillP, splice, newRow, Nat.reduceEqDiff, Nat.reduceLT, Nat.reduceLeDiff, Nat.reduceAdd, Nat.reduceMul, Nat.reduceSub, Nat.reduceBEq, reduceCtorEq, ↓zR, zQ, Tr, StA, StT] <;> exact hq
end Go.Proofs.YtnamhjdfegohbaaGreatDoor.Ab

/- MAPS that know what a function answers. -/
namespace Go.Proofs.YtnamhjdfegohbaaGreatDoor.Ab
open Go
set_option maxRecDepth 100000
set_option maxHeartbeats 4000000

/-- All keys are texts. -/
def StrK (es : List (AV × AV)) : Prop := ∀ kv ∈ es, ∃ s, kv.1 = .str s
theorem StrK.nil : StrK [] := fun _ h => by cases h
theorem mfind_some {es : List (AV × AV)} (hk : StrK es) (x : List UInt8) : ∃ o, mfind (.str x) es = some o := by
  induction es with
  | nil => exact ⟨none, rfl⟩
  | cons kv es ih =>
    obtain ⟨a, v⟩ := kv
    obtain ⟨s, hs⟩ := hk (a, v) (by simp)
    simp only at hs
    subst hs
    obtain ⟨o, ho⟩ := ih fun kv h => hk kv (by simp [h])
    simp only [mfind, keyEq]
    cases x == s
    · exact ⟨o, ho⟩
    · exact ⟨some v, rfl⟩
theorem mfind_mput {es : List (AV × AV)} (hk : StrK es) (x y : List UInt8) (v : AV) : mfind (.str y) (mput (.str x) v es) = if y == x then some (some v) else mfind (.str y) es := by
  induction es with
  | nil =>
    simp only [mput, mfind, keyEq]
    cases y == x <;> rfl
  | cons kv es ih =>
    obtain ⟨a, u⟩ := kv
    obtain ⟨s, hs⟩ := hk (a, u) (by simp)
    simp only at hs
    subst hs
    have ih := ih fun kv h => hk kv (by simp [h])
    cases e : x == s
    · have e1 : mput (.str x) v ((.str s, u) :: es) = (.str s, u) :: mput (.str x) v es := by simp only [mput, keyEq, e]
      rw [e1]
      simp only [mfind, keyEq, ih]
      cases e2 : y == s
      · rfl
      · have : (y == x) = false := by
          rw [beq_eq_false_iff_ne] at e ⊢
          rw [beq_iff_eq] at e2
          subst e2; exact fun h => e h.symm
        simp [this]
    · have e1 : mput (.str x) v ((.str s, u) :: es) = (.str x, v) :: es := by simp only [mput, keyEq, e]
      rw [e1]
      rw [beq_iff_eq] at e
      subst e
      simp only [mfind, keyEq]
      cases y == x <;> rfl
theorem StrK.mput {es : List (AV × AV)} (hk : StrK es) (x : List UInt8) (v : AV) : StrK (mput (.str x) v es) := by
  induction es with
  | nil => intro kv h; simp only [Ab.mput, List.mem_singleton] at h; subst h; exact ⟨x, rfl⟩
  | cons kv es ih =>
    obtain ⟨a, u⟩ := kv
    have ih := ih fun kv h => hk kv (by simp [h])
    have ha := hk (a, u) (by simp)
    intro kv h
    simp only [Ab.mput] at h
    split at h
    · rcases List.mem_cons.1 h with rfl | h
      · exact ⟨x, rfl⟩
      · exact hk kv (by simp [h])
    · rcases List.mem_cons.1 h with rfl | h
      · exact ha
      · exact ih kv h

/-- The map at c knows right answers. -/
def Mh {σ : Type} (key : σ → List UInt8) (val : σ → AV) (c : Nat) (h : AH) : Prop := ∃ es, h[c]? = some (.map es) ∧ StrK es ∧ ∀ s v, mfind (.str (key s)) es = some (some v) → v = val s
section
variable {σ : Type} {key : σ → List UInt8} {val : σ → AV} {c : Nat} {h : AH}
theorem Mh.lt (hm : Mh key val c h) : c < h.length := by
  obtain ⟨es, h1, _⟩ := hm
  exact (List.getElem?_eq_some_iff.1 h1).1
theorem Mh.pre {h' : AH} (hm : Mh key val c h) (hp : Pre h h') : Mh key val c h' := by
  have := hm.lt
  obtain ⟨es, h1, h2⟩ := hm
  exact ⟨es, by rw [hp.2 c this]; exact h1, h2⟩
theorem Mh.new : Mh key val h.length (h ++ [.map []]) := ⟨[], by simp, StrK.nil, fun s v hv => by simp [mfind] at hv⟩
theorem Mh.new' {n : Nat} (hn : n = h.length) : Mh key val n (h ++ [.map []]) := hn ▸ Mh.new
/-- A new answer. -/
theorem Mh.put (hm : Mh key val c h) (hk : ∀ s s', key s = key s' → val s = val s') (s : σ) : ∃ es, h[c]? = some (.map es) ∧ (∃ o, mfind (.str (key s)) es = some o) ∧ Mh key val c (h.set c (.map (mput (.str (key s)) (val s) es))) := by
  have hlt := hm.lt
  obtain ⟨es, h1, h2, h3⟩ := hm
  refine ⟨es, h1, mfind_some h2 _, _, by rw [List.getElem?_set, if_pos rfl, if_pos hlt], h2.mput _ _, ?_⟩
  intro s' v hv
  rw [mfind_mput h2] at hv
  split at hv
  · rename_i he
    cases hv
    exact hk s s' (beq_iff_eq.1 he).symm
  · exact h3 s' v hv
end
end Go.Proofs.YtnamhjdfegohbaaGreatDoor.Ab

/- GAMES of the program: who wins a sum. -/
namespace Go.Proofs.YtnamhjdfegohbaaGreatDoor.Ab
open Go
set_option maxRecDepth 100000
set_option maxHeartbeats 4000000

theorem e_kindOf (t : Bool) {h : AH} {post : AV → AH → Prop} : S 200 [.bool t] h post k = post (.str (kindS t)) h := S_eq fun _ hp => c_kindOf t hp
theorem kindS_len (t : Bool) : (kindS t).length = 1 := by cases t <;> rfl
def winK (s : List UInt8 × Bool) : List UInt8 := kindS s.2 ++ s.1
def winV (s : List UInt8 × Bool) : AV := .bool (winB s.1 s.2)
theorem winK_inj (s s' : List UInt8 × Bool) (h : winK s = winK s') : winV s = winV s' := by
  obtain ⟨w, t⟩ := s
  obtain ⟨w', t'⟩ := s'
  cases t <;> cases t' <;> simp [winK, kindS] at h ⊢ <;> subst h <;> rfl

theorem c_newGames {h : AH} {post : AV → AH → Prop} (hp : ∀ c h', Pre h h' → h.length ≤ c → Mh winK winV c h' → post (.agg [.map c]) h') : S 192 [] h post k := by
  refine S_of rfl T192 ?_; unfold fi192
  simp (maxSteps := 1000000) (disch := first | omega | rfl | (simp only [zL, two63, room] <;> omega) | fail) only [↓reduceIte, ↓zP, zW, WOp, evOp, evBin, binI, binSh, binS, evNil, keyIs, keyEq, mkv, AV.cells, AV.sc, optv, bnd, env, put, Env.get, Env.set, Env.del, Env.dels, Env.init, res1, resL, resV, fillP, splice, newRow, Nat.reduceEqDiff, Nat.reduceLT, Nat.reduceLeDiff, Nat.reduceAdd, Nat.reduceMul, Nat.reduceSub, Nat.reduceBEq, reduceCtorEq, ↓zR, zQ, Tr, StA, StT]
  exact hp _ _ (((Pre.push _ _).trans (Pre.push _ _))) (by simp) (Mh.new' (by simp))

def WinAt (n : Nat) : Prop := ∀ (w : List UInt8) (t : Bool) (c : Nat) (h : AH), mu w < n → w.length < 2 ^ 30 → Mh winK winV c h → ∀ post : AV → AH → Prop, (∀ h', PreX c h h' → Mh winK winV c h' → post (.bool (winB w t)) h') → S 198 [.agg [.map c], .str w, .bool t] h post k
theorem c_win1 {n : Nat} (ih : WinAt n) {w : List UInt8} {t : Bool} (hn : mu w < n + 1) (hw : w.length < 2 ^ 30) {c c3 c4 c5 : Nat} {h : AH} (hm : Mh winK winV c h) (r3 : rdRow h c3 0 0 1 = some [.map c]) (r4 : rdRow h c4 0 0 1 = some [.str w]) (r5 : rdRow h c5 0 0 1 = some [.bool t])
    {m : Int × Int} (hmm : m ∈ movesB w (kindS t)) {post : AV → AH → Prop} (hp : ∀ h', PreX c h h' → Mh winK winV c h' → post (.bool (!winB (madeB w m.1.toNat m.2.toNat) (!t))) h') :
    S 201 [.agg (encM m), .ptr c3 0 0 1, .ptr c4 0 0 1, .ptr c5 0 0 1] h post k := by
  obtain ⟨i, t', rfl, hmv⟩ := movesB_mv hmm
  refine S_of rfl T201 ?_; unfold fi201
  have hlt3 : c3 < h.length := rd_lt r3
  have hlt4 : c4 < h.length := rd_lt r4
  have hlt5 : c5 < h.length := rd_lt r5
  simp (maxSteps := 1000000) (disch := first | omega | rfl | (simp only [zL, two63, room] <;> omega) | fail) only [↓reduceIte, ↓zP, zW, WOp, evOp, evBin, binI, binSh, binS, evNil, keyIs, keyEq, mkv, AV.cells, AV.sc, optv, bnd, env, put, Env.get, Env.set, Env.del, Env.dels, Env.init, res1, resL, resV, fillP, splice, newRow, Nat.reduceEqDiff, Nat.reduceLT, Nat.reduceLeDiff, Nat.reduceAdd, Nat.reduceMul, Nat.reduceSub, Nat.reduceBEq, reduceCtorEq, ↓zR, zQ, Tr, StA, StT, r3, r4, r5]
  refine w_drw ?_
  simp (maxSteps := 1000000) (disch := first | omega | rfl | (simp only [zL, two63, room] <;> omega) | fail) only [↓reduceIte, ↓zP, zW, WOp, evOp, evBin, binI, binSh, binS, evNil, keyIs, keyEq, mkv, AV.cells, AV.sc, optv, bnd, env, put, Env.get, Env.set, Env.del, Env.dels, Env.init, res1, resL, resV, fillP, splice, newRow, Nat.reduceEqDiff, Nat.reduceLT, Nat.reduceLeDiff, Nat.reduceAdd, Nat.reduceMul, Nat.reduceSub, Nat.reduceBEq, reduceCtorEq, ↓zR, zQ, Tr, StA, StT, r3, r4, r5]
  refine c_made w i t' hmv.fst hmv.snd hw ?_
  intro h2 hp2
  have hp1 := (Pre.push h (AO.row (encM ((i : Int), (t' : Int))) 0 0 false)).trans hp2
  have q5 := rdRow_pre hp1 r5
  have q3 := rdRow_pre hp1 r3
  simp (maxSteps := 1000000) (disch := first | omega | rfl | (simp only [zL, two63, room] <;> omega) | fail) only [↓reduceIte, ↓zP, zW, WOp, evOp, evBin, binI, binSh, binS, evNil, keyIs, keyEq, mkv, AV.cells, AV.sc, optv, bnd, env, put, Env.get, Env.set, Env.del, Env.dels, Env.init, res1, resL, resV, fillP, splice, newRow, Nat.reduceEqDiff, Nat.reduceLT, Nat.reduceLeDiff, Nat.reduceAdd, Nat.reduceMul, Nat.reduceSub, Nat.reduceBEq, reduceCtorEq, ↓zR, zQ, Tr, StA, StT, r3, r4, r5, q3, q5]
  refine ih _ _ _ _ ?_ ?_ (hm.pre hp1) _ ?_
  · have := mu_made hmv; omega
  · rw [madeB_length]; exact hw
  intro h3 hp3 hm3
  simp (maxSteps := 1000000) (disch := first | omega | rfl | (simp only [zL, two63, room] <;> omega) | fail) only [↓reduceIte, ↓zP, zW, WOp, evOp, evBin, binI, binSh, binS, evNil, keyIs, keyEq, mkv, AV.cells, AV.sc, optv, bnd, env, put, Env.get, Env.set, Env.del, Env.dels, Env.init, res1, resL, resV, fillP, splice, newRow, Nat.reduceEqDiff, Nat.reduceLT, Nat.reduceLeDiff, Nat.reduceAdd, Nat.reduceMul, Nat.reduceSub, Nat.reduceBEq, reduceCtorEq, ↓zR, zQ, Tr, StA, StT, r3, r4, r5, q3, q5]
  exact hp _ ((hp1.x c).trans hp3) hm3

theorem c_win : ∀ n : Nat, WinAt n
  | 0 => fun w t c h hn _ _ _ _ => by omega
  | n + 1 => by
    intro w t c h hn hw hm post hp
    have ih := c_win n
    refine S_of rfl T198 ?_; unfold fi198
    have hk := kindS_len t
    have hlt := hm.lt
    have hm0 := hm
    obtain ⟨es, he, hks, hgood⟩ := hm
    have hp1 : Pre h (h ++ [AO.row [.map c] 0 0 false] ++ [AO.row [.str w] 0 0 false] ++ [AO.row [.bool t] 0 0 false]) := (Pre.push h _).trans ((Pre.push _ _).trans (Pre.push _ _))
    have hm1 : (h ++ [AO.row [.map c] 0 0 false] ++ [AO.row [.str w] 0 0 false] ++ [AO.row [.bool t] 0 0 false])[c]? = some (.map es) := by rw [hp1.2 c hlt, he]
    simp (maxSteps := 1000000) (disch := first | omega | rfl | (simp only [zL, two63, room] <;> omega) | fail) only [↓reduceIte, ↓zP, zW, WOp, evOp, evBin, binI, binSh, binS, evNil, keyIs, keyEq, mkv, AV.cells, AV.sc, optv, bnd, env, put, Env.get, Env.set, Env.del, Env.dels, Env.init, res1, resL, resV, fillP, splice, newRow, Nat.reduceEqDiff, Nat.reduceLT, Nat.reduceLeDiff, Nat.reduceAdd, Nat.reduceMul, Nat.reduceSub, Nat.reduceBEq, reduceCtorEq, ↓zR, zQ, Tr, StA, StT]
    refine w_drw ?_
    obtain ⟨o, ho⟩ := mfind_some hks (kindS t ++ w)
    cases o with
    | some v =>
      obtain rfl : v = .bool (winB w t) := hgood (w, t) v ho
      simp (maxSteps := 1000000) (disch := first | omega | rfl | (simp only [zL, two63, room] <;> omega) | fail) only [↓reduceIte, ↓zP, zW, WOp, evOp, evBin, binI, binSh, binS, evNil, keyIs, keyEq, mkv, AV.cells, AV.sc, optv, bnd, env, put, Env.get, Env.set, Env.del, Env.dels, Env.init, res1, resL, resV, fillP, splice, newRow, Nat.reduceEqDiff, Nat.reduceLT, Nat.reduceLeDiff, Nat.reduceAdd, Nat.reduceMul, Nat.reduceSub, Nat.reduceBEq, reduceCtorEq, ↓zR, zQ, Tr, StA, StT, e_kindOf, hm1, ho]
      exact hp _ (hp1.x c) (hm0.pre hp1)
    | none =>
      simp (maxSteps := 1000000) (disch := first | omega | rfl | (simp only [zL, two63, room] <;> omega) | fail) only [↓reduceIte, ↓zP, zW, WOp, evOp, evBin, binI, binSh, binS, evNil, keyIs, keyEq, mkv, AV.cells, AV.sc, optv, bnd, env, put, Env.get, Env.set, Env.del, Env.dels, Env.init, res1, resL, resV, fillP, splice, newRow, Nat.reduceEqDiff, Nat.reduceLT, Nat.reduceLeDiff, Nat.reduceAdd, Nat.reduceMul, Nat.reduceSub, Nat.reduceBEq, reduceCtorEq, ↓zR, zQ, Tr, StA, StT, e_kindOf, hm1, ho]
      refine w_drw ?_
      simp (maxSteps := 1000000) (disch := first | omega | rfl | (simp only [zL, two63, room] <;> omega) | fail) only [↓reduceIte, ↓zP, zW, WOp, evOp, evBin, binI, binSh, binS, evNil, keyIs, keyEq, mkv, AV.cells, AV.sc, optv, bnd, env, put, Env.get, Env.set, Env.del, Env.dels, Env.init, res1, resL, resV, fillP, splice, newRow, Nat.reduceEqDiff, Nat.reduceLT, Nat.reduceLeDiff, Nat.reduceAdd, Nat.reduceMul, Nat.reduceSub, Nat.reduceBEq, reduceCtorEq, ↓zR, zQ, Tr, StA, StT, e_kindOf, hm1, ho]
      have q3 : rdRow (h ++ [AO.row [.map c] 0 0 false] ++ [AO.row [.str w] 0 0 false] ++ [AO.row [.bool t] 0 0 false]) h.length 0 0 1 = some [.map c] := by simp (maxSteps := 1000000) (disch := first | omega | rfl | (simp only [zL, two63, room] <;> omega) | fail) only [↓reduceIte, ↓zP, zW, WOp, evOp, evBin, binI, binSh, binS, evNil, keyIs, keyEq, mkv, AV.cells, AV.sc, optv, bnd, env, put, Env.get, Env.set, Env.del, Env.dels, Env.init, res1, resL, resV, fillP, splice, newRow, Nat.reduceEqDiff, Nat.reduceLT, Nat.reduceLeDiff, Nat.reduceAdd, Nat.reduceMul, Nat.reduceSub, Nat.reduceBEq, reduceCtorEq, ↓zR, zQ, Tr, StA, StT]
      have q4 : rdRow (h ++ [AO.row [.map c] 0 0 false] ++ [AO.row [.str w] 0 0 false] ++ [AO.row [.bool t] 0 0 false]) (h ++ [AO.row [.map c] 0 0 false]).length 0 0 1 = some [.str w] := by simp (maxSteps := 1000000) (disch := first | omega | rfl | (simp only [zL, two63, room] <;> omega) | fail) only [↓reduceIte, ↓zP, zW, WOp, evOp, evBin, binI, binSh, binS, evNil, keyIs, keyEq, mkv, AV.cells, AV.sc, optv, bnd, env, put, Env.get, Env.set, Env.del, Env.dels, Env.init, res1, resL, resV, fillP, splice, newRow, Nat.reduceEqDiff, Nat.reduceLT, Nat.reduceLeDiff, Nat.reduceAdd, Nat.reduceMul, Nat.reduceSub, Nat.reduceBEq, reduceCtorEq, ↓zR, zQ, Tr, StA, StT]
      have q5 : rdRow (h ++ [AO.row [.map c] 0 0 false] ++ [AO.row [.str w] 0 0 false] ++ [AO.row [.bool t] 0 0 false]) (h ++ [AO.row [.map c] 0 0 false] ++ [AO.row [.str w] 0 0 false]).length 0 0 1 = some [.bool t] := by simp (maxSteps := 1000000) (disch := first | omega | rfl | (simp only [zL, two63, room] <;> omega) | fail) only [↓reduceIte, ↓zP, zW, WOp, evOp, evBin, binI, binSh, binS, evNil, keyIs, keyEq, mkv, AV.cells, AV.sc, optv, bnd, env, put, Env.get, Env.set, Env.del, Env.dels, Env.init, res1, resL, resV, fillP, splice, newRow, Nat.reduceEqDiff, Nat.reduceLT, Nat.reduceLeDiff, Nat.reduceAdd, Nat.reduceMul, Nat.reduceSub, Nat.reduceBEq, reduceCtorEq, ↓zR, zQ, Tr, StA, StT]
      generalize hg : h ++ [AO.row [.map c] 0 0 false] ++ [AO.row [.str w] 0 0 false] ++ [AO.row [.bool t] 0 0 false] = h1 at *
      generalize hc4 : (h ++ [AO.row [.map c] 0 0 false]).length = c4 at *
      generalize hc5 : (h ++ [AO.row [.map c] 0 0 false] ++ [AO.row [.str w] 0 0 false]).length = c5 at *
      refine c_moves w (kindS t) hw ?_
      intro v h2 ho2 hp2
      simp (maxSteps := 1000000) (disch := first | omega | rfl | (simp only [zL, two63, room] <;> omega) | fail) only [↓reduceIte, ↓zP, zW, WOp, evOp, evBin, binI, binSh, binS, evNil, keyIs, keyEq, mkv, AV.cells, AV.sc, optv, bnd, env, put, Env.get, Env.set, Env.del, Env.dels, Env.init, res1, resL, resV, fillP, splice, newRow, Nat.reduceEqDiff, Nat.reduceLT, Nat.reduceLeDiff, Nat.reduceAdd, Nat.reduceMul, Nat.reduceSub, Nat.reduceBEq, reduceCtorEq, ↓zR, zQ, Tr, StA, StT, q3, q4, q5]
      have hs2 : Slc 2 encM h2 v (movesB w (kindS t)) := ho2.sl
      refine c_ContainsFuncM (v := v) (L := movesB w (kindS t)) _ _ (fun m => !winB (madeB w m.1.toNat m.2.toNat) (!t)) (fun h' => PreX c h2 h' ∧ Mh winK winV c h') ?_ ?_ ?_ ⟨PreX.refl _ _, hm0.pre (hp1.trans hp2)⟩ ?_
      · have := movesB_len w (kindS t); omega
      · intro h' hh; exact OwL.slc_prex (h0 := h1) ho2 hh.1 (Nat.lt_of_lt_of_le hlt hp1.1)
      · intro m hm h' hh post hpost
        have hpx := (hp2.x c).trans hh.1
        refine c_win1 ih hn hw hh.2 (rdRow_prex hpx ?_ q3) (rdRow_prex hpx ?_ q4) (rdRow_prex hpx ?_ q5) hm ?_
        · omega
        · subst hc4; simp; omega
        · subst hc5; simp; omega
        · intro h3 hp3 hm3
          exact hpost h3 ⟨hh.1.trans hp3, hm3⟩
      · intro h3 hh3
        have k3 := rdRow_prex ((hp2.x c).trans hh3.1) (by omega) q3
        obtain ⟨es3, e1, ⟨o3, e2⟩, hm4⟩ := hh3.2.put winK_inj (w, t)
        unfold winK at e2
        simp (maxSteps := 1000000) (disch := first | omega | rfl | (simp only [zL, two63, room] <;> omega) | fail) only [↓reduceIte, ↓zP, zW, WOp, evOp, evBin, binI, binSh, binS, evNil, keyIs, keyEq, mkv, AV.cells, AV.sc, optv, bnd, env, put, Env.get, Env.set, Env.del, Env.dels, Env.init, res1, resL, resV, fillP, splice, newRow, Nat.reduceEqDiff, Nat.reduceLT, Nat.reduceLeDiff, Nat.reduceAdd, Nat.reduceMul, Nat.reduceSub, Nat.reduceBEq, reduceCtorEq, ↓zR, zQ, Tr, StA, StT, k3, e1, e2]
        have hv : ((movesB w (kindS t)).any fun m => !winB (madeB w m.fst.toNat m.snd.toNat) !t) = winB w t := (winB_eq w t).symm
        rw [hv]
        exact hp _ (((hp1.trans hp2).x c).trans (hh3.1.trans (PreX.refl c h3).set)) hm4
end Go.Proofs.YtnamhjdfegohbaaGreatDoor.Ab
