/- Part 6 of the proof of a law of the given program: the rules that it leans on, and what the functions that it reaches answer; the conditions stand with each theorem. -/
import Derived.Test.YtnamhjdfegohbaaGreatDoorQ4
set_option linter.unusedSimpArgs false
set_option linter.unusedVariables false
/- THE WAY that all have to go, the pairs, the moves from the other side: what moves make of them. -/
namespace Go.Proofs.YtnamhjdfegohbaaGreatDoor.Ab
open Go

def inw (f : UInt8 → UInt8 → Nat) : List UInt8 → Nat
  | [] => 0
  | a :: l => (l.map (f a)).sum + inw f l
def crossB (f : UInt8 → UInt8 → Nat) (A B : List UInt8) : Nat := (A.map fun a => (B.map (f a)).sum).sum
theorem inv_append (f : UInt8 → UInt8 → Nat) : ∀ A B : List UInt8, inw f (A ++ B) = inw f A + inw f B + crossB f A B
  | [], B => by simp [inw, crossB]
  | a :: A, B => by
    simp only [List.cons_append, inw, inv_append f A B, List.map_append, List.sum_append, crossB, List.map_cons, List.sum_cons]
    omega
theorem inv_rev (f : UInt8 → UInt8 → Nat) : ∀ l : List UInt8, inw f l.reverse = inw (fun a b => f b a) l
  | [] => rfl
  | a :: l => by
    rw [List.reverse_cons, inv_append, inv_rev f l]
    have : crossB f l.reverse [a] = (l.map fun b => f b a).sum := by
      simp [crossB, List.map_reverse, List.sum_reverse]
    rw [this]
    simp only [inw, List.map_nil, List.sum_nil]
    omega
def vW (a b : UInt8) : Nat := if a = 84 then (if b = 70 then 2 else if b = 46 then 1 else 0) else if a = 46 then (if b = 70 then 1 else 0) else 0
def vP (a b : UInt8) : Nat := if a = 84 then (if b = 70 then 1 else 0) else 0
def wayN (w : List UInt8) : Nat := inw vW w

theorem sumW46 : ∀ l : List UInt8, (l.map (vW 46)).sum = l.count 70
  | [] => rfl
  | b :: l => by
    rw [List.map_cons, List.sum_cons, sumW46 l]
    by_cases h1 : b = 70
    · subst h1; simp [vW, List.count_cons]; omega
    · simp [vW, List.count_cons, h1]
theorem sum_z {α : Type} : ∀ l : List α, (l.map fun _ => 0).sum = 0
  | [] => rfl
  | _ :: l => by simpa using sum_z l
theorem sumP84 : ∀ l : List UInt8, (l.map (vP 84)).sum = l.count 70
  | [] => rfl
  | b :: l => by
    rw [List.map_cons, List.sum_cons, sumP84 l]
    by_cases h1 : b = 70
    · subst h1; simp [vP, List.count_cons]; omega
    · simp [vP, List.count_cons, h1]
theorem sumPx {a : UInt8} (ha : a ≠ 84) (l : List UInt8) : (l.map (vP a)).sum = 0 := by
  have : l.map (vP a) = l.map fun _ => 0 := List.map_congr_left fun b _ => by simp [vP, ha]
  rw [this, sum_z]
theorem pairsL_inv : ∀ (l : List UInt8) (t s : Nat), pairsL l t s = s + t * l.count 70 + inw vP l
  | [], t, s => by simp [pairsL, inw]
  | b :: l, t, s => by
    simp only [pairsL, inw]
    by_cases h1 : b = 84
    · subst h1
      simp only [beq_self_eq_true, if_true, pairsL_inv l, sumP84]
      have : (84 :: l : List UInt8).count 70 = l.count 70 := by simp [List.count_cons]
      rw [this, Nat.succ_mul]; omega
    · have e1 : (b == 84) = false := by simpa using h1
      by_cases h2 : b = 70
      · subst h2
        have : (70 :: l : List UInt8).count 70 = l.count 70 + 1 := by simp [List.count_cons]
        simp only [e1, beq_self_eq_true, if_true, Bool.false_eq_true, if_false, pairsL_inv l, sumPx h1, this, Nat.mul_succ]
        omega
      · have e2 : (b == 70) = false := by simpa using h2
        have : (b :: l : List UInt8).count 70 = l.count 70 := by simp [List.count_cons, h2]
        simp only [e1, e2, Bool.false_eq_true, if_false, pairsL_inv l, sumPx h1, this]
        omega
theorem pairsB_inv (w : List UInt8) : pairsB w = inw vP w := by
  unfold pairsB; rw [pairsL_inv]; omega

/-! ### Moves -/
def isJ (i t : Nat) : Bool := decide (t = i + 2 ∨ t + 2 = i)
def wayL : List UInt8 → Int → Int → Int → Int → Int
  | [], _, _, _, s => s
  | b :: l, t, f, i, s => if b == 84 then wayL l (t + 1) f (i + 1) (s + (t - i)) else if b == 70 then wayL l t (f + 1) (i + 1) (s + (i - f)) else wayL l t f (i + 1) s
def psB (b : UInt8) : Nat → List UInt8 → Nat
  | _, [] => 0
  | k, x :: l => (if x = b then k else 0) + psB b (k + 1) l
def tri : Nat → Nat
  | 0 => 0
  | m + 1 => tri m + m
def lastB (w : List UInt8) : List UInt8 := List.replicate (w.count 70) 70 ++ List.replicate (w.count 46) 46 ++ List.replicate (w.count 84) 84
end Go.Proofs.YtnamhjdfegohbaaGreatDoor.Ab

/- PLAIN: a clue that a line tells is a clue, and the line goes with it. -/
namespace Go.Proofs.YtnamhjdfegohbaaGreatDoor.Ab
open Go

theorem inv_few : ∀ l : List UInt8, 2 * inw vP l ≤ l.length * (l.length - 1)
  | [] => by simp [inw]
  | a :: l => by
    have ih := inv_few l
    have h1 : (l.map (vP a)).sum ≤ l.length := by
      by_cases h : a = 84
      · subst h; rw [sumP84]; exact List.count_le_length
      · rw [sumPx h]; omega
    simp only [inw, List.length_cons, Nat.add_sub_cancel]
    cases hl : l.length with
    | zero => rw [hl] at ih h1; simp at ih; omega
    | succ n =>
      rw [hl] at ih h1
      simp only [Nat.add_sub_cancel] at ih
      have e1 : (n + 1 + 1) * (n + 1) = (n + 1) * n + (2 * n + 2) := by
        rw [Nat.succ_mul, Nat.mul_succ]; omega
      rw [e1]; omega
theorem pairs_ten {w : List UInt8} (h : w.length ≤ 5) : pairsB w ≤ 10 := by
  have h1 := inv_few w
  rw [pairsB_inv]
  have h2 : w.length * (w.length - 1) ≤ 5 * 4 := Nat.mul_le_mul h (by omega)
  omega
theorem ix3 {b : UInt8} (h : isSign b = true) : 0 ≤ Go.Lib.indexByte [46, 70, 84] b ∧ Go.Lib.indexByte [46, 70, 84] b ≤ 2 := by
  unfold isSign at h
  simp only [Bool.or_eq_true, beq_iff_eq] at h
  rcases h with (h | h) | h <;> subst h <;> decide +kernel
theorem ix4 (a b : Bool) : 0 ≤ Go.Lib.indexByte [49, 50, 70, 84] ((outcS a b).getD 0 0) ∧ Go.Lib.indexByte [49, 50, 70, 84] ((outcS a b).getD 0 0) ≤ 3 := by
  cases a <;> cases b <;> decide +kernel
theorem pzI_ix {s : List UInt8} {b : UInt8} (h : 0 ≤ Go.Lib.indexByte s b) : pzI s b = Go.Lib.indexByte s b := by
  unfold pzI
  rw [if_neg (by omega)]
theorem clueB_ok {w : List UInt8} (hs : ∀ i, i < w.length → isSign (w.getD i 0) = true) (h5 : w.length ≤ 5) (kd cell : Int) (hk : 0 ≤ kd ∧ kd ≤ 5) (hc : kd = 0 → 0 ≤ cell ∧ cell < w.length) : clueOk w.length (clueB kd cell w) = true ∧ fitB (clueB kd cell w) w = true := by
  have c1 : w.count 84 ≤ w.length := List.count_le_length
  have c2 : w.count 70 ≤ w.length := List.count_le_length
  have c3 := movesB_len w [84, 70]
  have c4 := pairs_ten h5
  have c5 := ix4 (winB w true) (winB w false)
  obtain rfl | rfl | rfl | rfl | rfl | rfl : kd = 0 ∨ kd = 1 ∨ kd = 2 ∨ kd = 3 ∨ kd = 4 ∨ kd = 5 := by omega
  · obtain ⟨a, b⟩ := hc rfl
    have c0 := ix3 (hs cell.toNat (by omega))
    refine ⟨?_, ?_⟩
    · simp only [clueOk, clueB, if_true, Bool.and_eq_true, decide_eq_true_eq]
      exact ⟨by omega, c0⟩
    · simp only [fitB, clueB, valB, if_true, pzI_ix c0.1, beq_self_eq_true]
  · refine ⟨?_, ?_⟩
    · simp [clueOk, clueB]; omega
    · simp [fitB, clueB, valB]
  · refine ⟨?_, ?_⟩
    · simp [clueOk, clueB]; omega
    · simp [fitB, clueB, valB]
  · refine ⟨?_, ?_⟩
    · simp [clueOk, clueB]; omega
    · simp [fitB, clueB, valB]
  · refine ⟨?_, ?_⟩
    · simp [clueOk, clueB]; omega
    · simp [fitB, clueB, valB]
  · refine ⟨?_, ?_⟩
    · simp only [clueOk, clueB]
      simpa using c5
    · have := pzI_ix c5.1
      simp only [fitB, clueB, valB]
      simpa using this
end Go.Proofs.YtnamhjdfegohbaaGreatDoor.Ab

/- PLAIN: made puzzles are fit by their line. -/
namespace Go.Proofs.YtnamhjdfegohbaaGreatDoor.Ab
open Go
set_option maxRecDepth 100000

def nxZ (z : Nat) : Nat := (167 * z + 2281) % 10007
theorem nxZ_lt (z : Nat) : nxZ z < 10007 := Nat.mod_lt _ (by omega)
/-- The clues that are made of a line, one after the other. -/
def mkZ (w : List UInt8) : Nat → Nat → List Clu
  | 0, _ => []
  | k + 1, z => if nxZ z % 6 = 0 then clueB 0 ((nxZ (nxZ z) % w.length : Nat) : Int) w :: mkZ w k (nxZ (nxZ z)) else clueB ((nxZ z % 6 : Nat) : Int) 0 w :: mkZ w k (nxZ z)
theorem mkZ_len (w : List UInt8) : ∀ k z, (mkZ w k z).length = k
  | 0, _ => rfl
  | k + 1, z => by
    unfold mkZ
    split <;> rw [List.length_cons, mkZ_len w k]
theorem mkZ_ok {w : List UInt8} (hs : ∀ i, i < w.length → isSign (w.getD i 0) = true) (h1 : 1 ≤ w.length) (h5 : w.length ≤ 5) : ∀ k z, ∀ c ∈ mkZ w k z, clueOk w.length c = true ∧ fitB c w = true
  | 0, _, c, h => by simp [mkZ] at h
  | k + 1, z, c, h => by
    unfold mkZ at h
    have hl : nxZ (nxZ z) % w.length < w.length := Nat.mod_lt _ (by omega)
    have h6 : nxZ z % 6 < 6 := Nat.mod_lt _ (by omega)
    generalize nxZ z = z1 at *
    generalize nxZ z1 = z2 at *
    split at h
    · rcases List.mem_cons.1 h with h | h
      · subst h
        exact clueB_ok hs h5 0 _ (by omega) (fun _ => by omega)
      · exact mkZ_ok hs h1 h5 k _ c h
    · rename_i hne
      rcases List.mem_cons.1 h with h | h
      · subst h
        exact clueB_ok hs h5 _ 0 (by omega) (fun e => by omega)
      · exact mkZ_ok hs h1 h5 k _ c h
theorem mem_allL : ∀ (n : Nat) (w : List UInt8), w.length = n → w.all isSign = true → w ∈ allL n
  | 0, w, hl, _ => by
    obtain rfl : w = [] := List.eq_nil_of_length_eq_zero hl
    simp [allL]
  | n + 1, w, hl, hs => by
    have hne : w ≠ [] := by rintro rfl; simp at hl
    have hw := (List.dropLast_concat_getLast hne).symm
    rw [hw, List.all_append, Bool.and_eq_true] at hs
    have ih := mem_allL n w.dropLast (by rw [List.length_dropLast, hl]; rfl) hs.1
    simp only [allL, List.mem_flatMap]
    refine ⟨w.dropLast, ih, ?_⟩
    have h2 := hs.2
    simp only [List.all_cons, List.all_nil, Bool.and_true] at h2
    generalize w.getLast hne = b at *
    rw [hw]
    unfold isSign at h2
    simp only [Bool.or_eq_true, beq_iff_eq] at h2
    rcases h2 with (h2 | h2) | h2 <;> subst h2 <;> simp [ext3]
/-- The line of a made puzzle is one of its solutions. -/
theorem mk_sol {w : List UInt8} (hg : w.all isSign = true) (hs : ∀ i, i < w.length → isSign (w.getD i 0) = true) (h1 : 1 ≤ w.length) (h5 : w.length ≤ 5) (k z : Nat) : w ∈ fitL w.length (mkZ w k z) := by
  unfold fitL
  rw [List.mem_filter, List.all_eq_true]
  exact ⟨mem_allL _ w rfl hg, fun c hc => (mkZ_ok hs h1 h5 k z c hc).2⟩
theorem mk_good {w : List UInt8} (hs : ∀ i, i < w.length → isSign (w.getD i 0) = true) (h1 : 1 ≤ w.length) (h5 : w.length ≤ 5) {k : Nat} (hk : k ≤ 6) (z : Nat) : goodP w.length (mkZ w k z) = true := by
  unfold goodP
  rw [Bool.and_eq_true, Bool.and_eq_true, decide_eq_true_eq, decide_eq_true_eq, List.all_eq_true]
  exact ⟨by omega, by rw [mkZ_len]; exact hk, fun c hc => (mkZ_ok hs h1 h5 k z c hc).1⟩
end Go.Proofs.YtnamhjdfegohbaaGreatDoor.Ab

/- FRAMES: a map and a cell with its slices may turn, all else stays. -/
namespace Go.Proofs.YtnamhjdfegohbaaGreatDoor.Ab
open Go
set_option maxRecDepth 100000
set_option maxHeartbeats 4000000

def FrW (c r : Nat) (h h' : AH) : Prop := h.length ≤ h'.length ∧ ∀ i, i < h.length → i ≠ c → ¬ grc r h i → h'[i]? = h[i]? ∧ ¬ grc r h' i
section
variable {c r : Nat} {h h' : AH}
theorem FrW.refl : FrW c r h h := ⟨Nat.le_refl _, fun _ _ _ hg => ⟨rfl, hg⟩⟩
theorem FrW.trans {x y z : AH} (p : FrW c r x y) (q : FrW c r y z) : FrW c r x z := ⟨Nat.le_trans p.1 q.1, fun i hi hc hg => by
  obtain ⟨h1, h2⟩ := p.2 i hi hc hg
  obtain ⟨h3, h4⟩ := q.2 i (Nat.lt_of_lt_of_le hi p.1) hc h2
  exact ⟨by rw [h3, h1], h4⟩⟩
theorem rd_frw (hf : FrW c r h h') {i k o n : Nat} {cs : List AV} (hc : i ≠ c) (hg : ¬ grc r h i) (hr : rdRow h i k o n = some cs) : rdRow h' i k o n = some cs := by
  have := rd_lt hr
  unfold rdRow at hr ⊢
  rw [(hf.2 i this hc hg).1]; exact hr
def SlcW {α : Type} (esz : Nat) (enc : α → List AV) (c r : Nat) (h : AH) (v : AV) (L : List α) : Prop := Slc esz enc h v L ∧ ∀ i, rowOf v = some i → i ≠ c ∧ ¬ grc r h i
theorem SlcW.fr {α : Type} {esz : Nat} {enc : α → List AV} {v : AV} {L : List α} (hs : SlcW esz enc c r h v L) (hf : FrW c r h h') : SlcW esz enc c r h' v L := by
  obtain ⟨h1, h2⟩ := hs
  unfold SlcW Slc Sl at *
  cases v <;> simp only [rowOf] at * <;> first
    | (exact ⟨h1, fun r hr => by cases hr⟩)
    | (obtain ⟨k1, k2, k3, k4⟩ := h1
       obtain ⟨g1, g2⟩ := h2 _ rfl
       exact ⟨⟨k1, k2, k3, rd_frw hf g1 g2 k4⟩, fun r hr => by cases hr; exact ⟨g1, (hf.2 _ (rd_lt k4) g1 g2).2⟩⟩)
end
end Go.Proofs.YtnamhjdfegohbaaGreatDoor.Ab

/- PLAIN LAWS of reaching: lines in order, layer by layer, and plays counted. -/
namespace Go.Proofs.YtnamhjdfegohbaaGreatDoor.Ab
open Go

abbrev Ln := List UInt8
theorem ln_irrefl (x : Ln) : ¬ x < x := List.lt_irrefl x
theorem ln_trans {x y z : Ln} (h : x < y) (h' : y < z) : x < z := List.lt_trans h h'
theorem ln_tri {x y : Ln} (h : ¬ x < y) (hn : x ≠ y) : y < x := by
  rcases List.le_total x y with h1 | h1
  · rcases (List.le_iff_lt_or_eq).1 h1 with h2 | h2
    · exact absurd h2 h
    · exact absurd h2 hn
  · rcases (List.le_iff_lt_or_eq).1 h1 with h2 | h2
    · exact h2
    · exact absurd h2.symm hn
abbrev Srt (l : List Ln) : Prop := l.Pairwise (· < ·)
theorem Srt.nodup {l : List Ln} (h : Srt l) : l.Nodup := h.imp fun hlt e => by subst e; exact ln_irrefl _ hlt
/-- Sorted lists of the same members are one. -/
theorem Srt.ext : ∀ {l l' : List Ln}, Srt l → Srt l' → (∀ x, x ∈ l ↔ x ∈ l') → l = l'
  | [], [], _, _, _ => rfl
  | [], b :: t, _, _, h => by have := (h b).2 (by simp); simp at this
  | a :: s, [], _, _, h => by have := (h a).1 (by simp); simp at this
  | a :: s, b :: t, h1, h2, h => by
    unfold Srt at h1 h2
    rw [List.pairwise_cons] at h1 h2
    obtain rfl : a = b := by
      have ha := (h a).1 (by simp)
      have hb := (h b).2 (by simp)
      rw [List.mem_cons] at ha hb
      rcases ha with rfl | ha
      · rfl
      · rcases hb with rfl | hb
        · rfl
        · exact absurd (ln_trans (h1.1 _ hb) (h2.1 _ ha)) (ln_irrefl _)
    congr 1
    refine Srt.ext h1.2 h2.2 fun x => ?_
    have hx := h x
    rw [List.mem_cons, List.mem_cons] at hx
    constructor
    · intro hm
      rcases hx.1 (.inr hm) with rfl | h3
      · exact absurd (h1.1 _ hm) (ln_irrefl _)
      · exact h3
    · intro hm
      rcases hx.2 (.inr hm) with rfl | h3
      · exact absurd (h2.1 _ hm) (ln_irrefl _)
      · exact h3
def lowB (x : Ln) : List Ln → Nat
  | [] => 0
  | a :: t => if a < x then lowB x t + 1 else 0
def insS (x : Ln) : List Ln → List Ln
  | [] => [x]
  | a :: t => if a < x then a :: insS x t else if a = x then a :: t else x :: a :: t
theorem insS_mem (x y : Ln) : ∀ l : List Ln, y ∈ insS x l ↔ y = x ∨ y ∈ l
  | [] => by simp [insS]
  | a :: t => by
    unfold insS
    split
    · rw [List.mem_cons, insS_mem x y t, List.mem_cons]
      constructor
      · rintro (h | h | h) <;> simp [h]
      · rintro (h | h | h) <;> simp [h]
    · split
      · rename_i e; subst e
        simp
      · simp
theorem insS_srt (x : Ln) : ∀ {l : List Ln}, Srt l → Srt (insS x l)
  | [], _ => by simp [insS]
  | a :: t, hs => by
    have hs0 := hs
    unfold Srt at hs
    rw [List.pairwise_cons] at hs
    unfold insS
    split
    · rename_i h
      rw [Srt, List.pairwise_cons]
      refine ⟨fun y hy => ?_, insS_srt x hs.2⟩
      rcases (insS_mem x y t).1 hy with rfl | hy
      · exact h
      · exact hs.1 y hy
    · split
      · exact hs0
      · rename_i h e
        have hx := ln_tri h e
        rw [Srt, List.pairwise_cons]
        refine ⟨fun y hy => ?_, hs0⟩
        rcases List.mem_cons.1 hy with rfl | hy
        · exact hx
        · exact ln_trans hx (hs.1 y hy)
def addS (l acc : List Ln) : List Ln := l.foldl (fun a x => insS x a) acc
/-- Lines behind one move. -/
def nx (w : Ln) : List Ln := nextB w [84, 70]
def stepL (l : List Ln) : List Ln := addS (l.flatMap nx) []
def lay (w : Ln) : Nat → List Ln
  | 0 => [w]
  | j + 1 => stepL (lay w j)
def cntP : Nat → Ln → Nat
  | 0, _ => 1
  | j + 1, w => ((nx w).map (cntP j)).sum
def pcs (L : List Ln) (p : Ln → Nat) (v : Ln) : Nat := (L.map fun u => (nx u).count v * p u).sum
def pc (w : Ln) : Nat → Ln → Nat
  | 0, _ => 1
  | j + 1, v => pcs (lay w j) (pc w j) v
def oneGap (w : Ln) : Prop := w.all isSign = true ∧ w.count 46 = 1
end Go.Proofs.YtnamhjdfegohbaaGreatDoor.Ab

/- PLAIN LAWS of words: in a line with one gap a toad has one move at most, and so a frog. -/
namespace Go.Proofs.YtnamhjdfegohbaaGreatDoor.Ab
open Go

theorem count_set {b x : UInt8} : ∀ {l : Ln} {i : Nat}, i < l.length → (l.set i b).count x + (if l.getD i 0 = x then 1 else 0) = l.count x + (if b = x then 1 else 0)
  | [], i, h => by simp at h
  | a :: l, 0, _ => by
    simp only [List.set_cons_zero, List.count_cons, List.getD_cons_zero, beq_iff_eq]
    omega
  | a :: l, i + 1, h => by
    have := count_set (b := b) (x := x) (l := l) (i := i) (by simpa using h)
    simp only [List.set_cons_succ, List.count_cons, List.getD_cons_succ]
    omega
theorem Mv.ne {w : Ln} {i t : Nat} (h : Mv w i t) : i ≠ t := by
  obtain ⟨_, _, h3, h4⟩ := h
  rintro rfl
  rcases h4 with ⟨h5, _⟩ | ⟨h5, _⟩ <;> rw [h5] at h3 <;> cases h3
theorem Mv.sign {w : Ln} {i t : Nat} (h : Mv w i t) : w.getD i 0 = 84 ∨ w.getD i 0 = 70 := by
  obtain ⟨_, _, _, h4⟩ := h
  rcases h4 with ⟨h5, _⟩ | ⟨h5, _⟩
  · exact .inl h5
  · exact .inr h5
theorem getD_setL {l : Ln} {i j : Nat} {b : UInt8} (h : i < l.length) : (l.set i b).getD j 0 = if i = j then b else l.getD j 0 := by
  simp only [List.getD_eq_getElem?_getD, List.getElem?_set]
  by_cases e : i = j
  · subst e; simp [h]
  · simp [e]
theorem count_made {w : Ln} {i t : Nat} (h : Mv w i t) : (madeB w i t).count 46 = w.count 46 := by
  have hne := h.ne
  have hs := h.sign
  obtain ⟨h1, h2, h3, h4⟩ := h
  have e1 := count_set (b := w.getD i 0) (x := 46) (l := w) (i := t) h2
  have e2 := count_set (b := 46) (x := 46) (l := w.set t (w.getD i 0)) (i := i) (by simpa using h1)
  rw [getD_setL h2, if_neg (Ne.symm hne)] at e2
  unfold madeB
  have hb : w.getD i 0 ≠ 46 := by rcases hs with h | h <;> rw [h] <;> decide
  rw [h3] at e1
  simp only [if_true, if_neg hb] at e1 e2
  omega
theorem signs_made {w : Ln} {i t : Nat} (h : Mv w i t) (hs : w.all isSign = true) : (madeB w i t).all isSign = true := by
  rw [List.all_eq_true] at hs ⊢
  unfold madeB
  intro x hx
  rcases List.mem_or_eq_of_mem_set hx with hx | rfl
  · rcases List.mem_or_eq_of_mem_set hx with hx | rfl
    · exact hs x hx
    · rcases h.sign with h | h <;> rw [h] <;> rfl
  · rfl
theorem nextB_mv {w kinds v : Ln} (h : v ∈ nextB w kinds) : ∃ i t : Nat, ((i : Int), (t : Int)) ∈ movesB w kinds ∧ Mv w i t ∧ v = madeB w i t := by
  obtain ⟨m, hm, rfl⟩ := List.mem_map.1 h
  obtain ⟨i, t, rfl, hv⟩ := movesB_mv hm
  exact ⟨i, t, hm, hv, by simp⟩
theorem oneGap.next {w kinds v : Ln} (h : oneGap w) (hv : v ∈ nextB w kinds) : oneGap v := by
  obtain ⟨i, t, _, hm, rfl⟩ := nextB_mv hv
  exact ⟨signs_made hm h.1, (count_made hm).trans h.2⟩
def words : Nat → Ln → List Ln
  | 0, _ => [[]]
  | j + 1, w => ((nextB w [70]).flatMap fun v => (words j v).map (70 :: ·)) ++ ((nextB w [84]).flatMap fun v => (words j v).map (84 :: ·))
end Go.Proofs.YtnamhjdfegohbaaGreatDoor.Ab

/- REACHING, the reference's side: texts in order with one more, layers of lines. -/
namespace Go.Proofs.YtnamhjdfegohbaaGreatDoor.Ab
open Go
set_option maxRecDepth 100000
set_option maxHeartbeats 4000000

def fewB (s : Ln) : Bool := goodLine s && decide ((s.length : Int) ≤ 10)
end Go.Proofs.YtnamhjdfegohbaaGreatDoor.Ab

/- REACHING, the reference's side: layers of lines. -/
namespace Go.Proofs.YtnamhjdfegohbaaGreatDoor.Ab
open Go
set_option maxRecDepth 100000
set_option maxHeartbeats 4000000

def GoodL (n : Nat) (A : List Ln) : Prop := Srt A ∧ ∀ x ∈ A, x.length = n ∧ x.all isSign = true
theorem GoodL.len {n : Nat} {A : List Ln} (h : GoodL n A) (hn : n ≤ 10) : A.length ≤ 59049 := by
  have := nodup_bound (A := [46, 70, 84]) (n := n) h.1.nodup (fun x hx => ⟨(h.2 x hx).1, fun b hb => by
    have := List.all_eq_true.1 (h.2 x hx).2 b hb
    unfold isSign at this
    simp at this ⊢
    rcases this with h | h
    · rcases h with h | h <;> simp [h]
    · simp [h]⟩)
  exact Nat.le_trans this (Nat.le_trans (Nat.pow_le_pow_right (by simp) hn) (by decide))
theorem GoodL.nil {n : Nat} : GoodL n [] := ⟨List.Pairwise.nil, fun x hx => by simp at hx⟩
theorem GoodL.ins {n : Nat} {A : List Ln} (h : GoodL n A) {x : Ln} (hx : x.length = n ∧ x.all isSign = true) : GoodL n (insS x A) :=
  ⟨insS_srt x h.1, fun y hy => by
    rcases (insS_mem x y A).1 hy with rfl | hy
    · exact hx
    · exact h.2 y hy⟩
theorem GoodL.add {n : Nat} : ∀ {l A : List Ln}, GoodL n A → (∀ x ∈ l, x.length = n ∧ x.all isSign = true) → GoodL n (addS l A)
  | [], _, h, _ => h
  | x :: l, A, h, hx => GoodL.add (l := l) (h.ins (hx x (by simp))) fun y hy => hx y (by simp [hy])
def mkM (w : Ln) (m : Int × Int) : Ln := madeB w m.1.toNat m.2.toNat
/-- A value that fills one cell. -/
abbrev SV := {v : AV // v.sc = true}
def encV (x : SV) : List AV := [x.1]
def LL (h : AH) (o : AV) (vs : List SV) (Ls : List (List Ln)) : Prop := vs.length = Ls.length ∧ ∀ (i : Nat) (v : SV) (L : List Ln), vs[i]? = some v → Ls[i]? = some L → Slc 1 encS h v.1 L ∧ ∀ r, rowOf v.1 = some r → rowOf o ≠ some r
theorem Slc.lt {α : Type} {esz : Nat} {enc : α → List AV} {h : AH} {v : AV} {L : List α} (hs : Slc esz enc h v L) {r : Nat} (hr : rowOf v = some r) : r < h.length := by
  cases v <;> simp only [rowOf] at hr <;> try (cases hr; done)
  cases hr
  exact hs.row_lt _ _ _ _ _ rfl
theorem Slc.stay {α : Type} {esz : Nat} {enc : α → List AV} {h h' : AH} {v : AV} {L : List α} (hs : Slc esz enc h v L) (hr : ∀ r, rowOf v = some r → h'[r]? = h[r]?) : Slc esz enc h' v L := by
  unfold Slc Sl at *
  cases v <;> simp only [rowOf] at * <;> first
    | exact hs
    | (obtain ⟨k1, k2, k3, k4⟩ := hs
       refine ⟨k1, k2, k3, ?_⟩
       unfold rdRow at k4 ⊢
       rw [hr _ rfl]; exact k4)
theorem LL.pre {h h' : AH} {o : AV} {vs : List SV} {Ls : List (List Ln)} (hl : LL h o vs Ls) (hp : Pre h h') : LL h' o vs Ls := ⟨hl.1, fun i v L h1 h2 => ⟨(hl.2 i v L h1 h2).1.pre hp, (hl.2 i v L h1 h2).2⟩⟩
/-- Behind an append to the outer slice. -/
theorem LL.app {h h3 : AH} {o o3 : AV} {vs : List SV} {Ls : List (List Ln)} (hl : LL h o vs Ls) {w : SV} {M : List Ln} (hw : Slc 1 encS h w.1 M) (hn : ∀ r, rowOf w.1 = some r → rowOf o ≠ some r)
    (f1 : ∀ i, i < h.length → rowOf o ≠ some i → h3[i]? = h[i]?) (f3 : ∀ r, rowOf o3 = some r → rowOf o = some r ∨ h.length ≤ r) : LL h3 o3 (vs ++ [w]) (Ls ++ [M]) := by
  have one : ∀ {v : SV} {L : List Ln}, Slc 1 encS h v.1 L → (∀ r, rowOf v.1 = some r → rowOf o ≠ some r) → Slc 1 encS h3 v.1 L ∧ ∀ r, rowOf v.1 = some r → rowOf o3 ≠ some r := by
    intro v L hs hd
    refine ⟨hs.stay fun r hr => f1 r (hs.lt hr) (hd r hr), fun r hr e => ?_⟩
    rcases f3 r e with h1 | h1
    · exact hd r hr h1
    · have := hs.lt hr; omega
  refine ⟨by simp [hl.1], fun i u N h1 h2 => ?_⟩
  have h0 := hl.1
  rcases Nat.lt_trichotomy i vs.length with hi | hi | hi
  · rw [List.getElem?_append_left hi] at h1
    rw [List.getElem?_append_left (by omega)] at h2
    obtain ⟨g1, g2⟩ := hl.2 i u N h1 h2
    exact one g1 g2
  · subst hi
    rw [List.getElem?_append_right (Nat.le_refl _)] at h1
    rw [List.getElem?_append_right (by omega), ← h0] at h2
    simp at h1 h2
    subst h1; subst h2; exact one hw hn
  · rw [List.getElem?_eq_none (by simp; omega)] at h1; cases h1
def lays (w : Ln) (n : Nat) : List (List Ln) := (List.range n).map (lay w)
end Go.Proofs.YtnamhjdfegohbaaGreatDoor.Ab

/- CHOICES that are drawn from bytes: of what is drawn, only the bounds are told. -/
namespace Go.Proofs.YtnamhjdfegohbaaGreatDoor.Ab
open Go
set_option maxRecDepth 100000
set_option maxHeartbeats 4000000

/-- A reader of bytes, made in b; so many bytes at most have been taken. -/
def Cur (b : AH) (cv : AV) (bs : List UInt8) (K : Nat) (h : AH) : Prop := Slc 1 encU b cv bs ∧ bs.length < 2 ^ 40 ∧ Pre b h ∧ ∃ (a : Nat) (s : Int), a ≤ K ∧ h[b.length]? = some (.row [cv, .int .i64 a, .int .u64 s] 0 0 false)
theorem Cur.le {b : AH} {cv : AV} {bs : List UInt8} {K K' : Nat} {h : AH} (hc : Cur b cv bs K h) (hk : K ≤ K') : Cur b cv bs K' h := by
  obtain ⟨h1, h2, h3, a, s, h4, h5⟩ := hc
  exact ⟨h1, h2, h3, a, s, by omega, h5⟩
theorem Cur.lt {b : AH} {cv : AV} {bs : List UInt8} {K : Nat} {h : AH} (hc : Cur b cv bs K h) : b.length < h.length := by
  obtain ⟨h1, h2, h3, a, s, h4, h5⟩ := hc
  exact (List.getElem?_eq_some_iff.1 h5).1
theorem Cur.pre {b : AH} {cv : AV} {bs : List UInt8} {K : Nat} {h h' : AH} (hc : Cur b cv bs K h) (hp : Pre h h') : Cur b cv bs K h' := by
  have hl := hc.lt
  obtain ⟨h1, h2, h3, a, s, h4, h5⟩ := hc
  exact ⟨h1, h2, h3.trans hp, a, s, h4, by rw [hp.2 _ hl]; exact h5⟩
theorem Cur.new {b : AH} {cv : AV} {bs : List UInt8} (hs : Slc 1 encU b cv bs) (hb : bs.length < 2 ^ 40) : Cur b cv bs 0 (b ++ [.row [cv, .int .i64 0, .int .u64 0] 0 0 false]) :=
  ⟨hs, hb, Pre.push _ _, 0, 0, Nat.le_refl _, by simp⟩
theorem Cur.done {b : AH} {cv : AV} {bs : List UInt8} {K : Nat} {h : AH} (hc : Cur b cv bs K h) : Pre b h := hc.2.2.1

theorem bits255 (x : Int) : ∃ n : Nat, n < 256 ∧ bits .and .u64 x 255 = n := by
  refine ⟨(BitVec.ofInt 64 x &&& BitVec.ofInt 64 255).toNat, ?_, ?_⟩
  · rw [BitVec.toNat_and]
    refine Nat.lt_of_le_of_lt Nat.and_le_right ?_
    decide
  · have h1 : (BitVec.ofInt 64 x &&& BitVec.ofInt 64 255).toNat < 256 := by
      rw [BitVec.toNat_and]
      refine Nat.lt_of_le_of_lt Nat.and_le_right ?_
      decide
    unfold bits
    show IntKind.u64.wrap ((BitVec.ofInt 64 x &&& BitVec.ofInt 64 255).toNat : Int) = _
    rw [IntKind.wrap_u64]
    omega

section
variable {b : AH} {cv : AV} {bs : List UInt8} {K : Nat} {h : AH} {post : AV → AH → Prop}

theorem c_next (hc : Cur b cv bs K h) (hK : K < 2 ^ 50) (hp : ∀ (x : Nat) h', x < 256 → Cur b cv bs (K + 1) h' → PreX b.length h h' → post (.int .i64 x) h') : S 107 [.ptr b.length 0 0 3] h post k := by
  have hl := hc.lt
  obtain ⟨hs, hbs, hpre, a, s, ha, hr⟩ := hc
  have r0 : rdRow h b.length 0 0 1 = some [cv] := by simp [rdRow, hr]
  have r1 : rdRow h b.length 0 1 1 = some [.int .i64 a] := by simp [rdRow, hr]
  have hset : ∀ o, (h.set b.length o)[b.length]? = some o := fun o => by rw [List.getElem?_set, if_pos rfl, if_pos hl]
  have w1 : ∀ v, wrRow h b.length 0 1 [.int .i64 v] = some (h.set b.length (.row [cv, .int .i64 v, .int .u64 s] 0 0 false)) := fun v => by simp [wrRow, hr, splice, AV.sc]
  have w2 : ∀ v y, wrRow (h.set b.length (.row [cv, y, .int .u64 s] 0 0 false)) b.length 0 2 [.int .u64 v] = some (h.set b.length (.row [cv, y, .int .u64 v] 0 0 false)) := fun v y => by simp [wrRow, hset, splice, AV.sc]
  have q0 : ∀ x y z, rdRow (h.set b.length (.row [x, y, z] 0 0 false)) b.length 0 0 1 = some [x] := fun x y z => by simp [rdRow, hset]
  have q1 : ∀ x y z, rdRow (h.set b.length (.row [x, y, z] 0 0 false)) b.length 0 1 1 = some [y] := fun x y z => by simp [rdRow, hset]
  have q2 : ∀ x y z, rdRow (h.set b.length (.row [x, y, z] 0 0 false)) b.length 0 2 1 = some [z] := fun x y z => by simp [rdRow, hset]
  have s2 : rdRow h b.length 0 2 1 = some [.int .u64 s] := by simp [rdRow, hr]
  have hw : IntKind.i64.wrap ((a : Int) + 1) = ((a + 1 : Nat) : Int) := by rw [IntKind.wrap_i64]; omega
  have fin0 : ∀ (x : Nat) (t : Int), x < 256 → post (.int .i64 x) (h.set b.length (.row [cv, .int .i64 ((a + 1 : Nat) : Int), .int .u64 t] 0 0 false)) := by
    intro x t hx
    refine hp x _ hx ⟨hs, hbs, hpre.set (Nat.le_refl _), a + 1, t, by omega, hset _⟩ (PreX.refl _ _).set
  have fin : ∀ (q t : Int), post (.int .i64 (IntKind.i64.wrap (bits .and .u64 q 255))) (h.set b.length (.row [cv, .int .i64 ((a + 1 : Nat) : Int), .int .u64 t] 0 0 false)) := by
    intro q t
    obtain ⟨n, hn, e⟩ := bits255 q
    rw [e, show IntKind.i64.wrap (n : Int) = n by rw [IntKind.wrap_i64]; omega]
    exact fin0 n t hn
  refine S_of rfl T107 ?_; unfold fi107
  rcases hs.cases with ⟨rfl, rfl⟩ | ⟨rfl, rfl⟩ | ⟨c, kk, off, hv⟩
  · have n1 : ¬ ((a : Int) < 0) := by omega
    have n2 : ¬ (((a + 1 : Nat) : Int) ≤ 0) := by omega
    simp (maxSteps := 1000000) (disch := first | omega | rfl | (simp only [zL, two63, room] <;> omega) | fail) only [↓reduceIte, ↓zP, zW, WOp, evOp, evBin, binI, binSh, binS, evNil, keyIs, keyEq, mkv, AV.cells, AV.sc, optv, bnd, env, put, Env.get, Env.set, Env.del, Env.dels, Env.init, res1, resL, resV, fillP, splice, newRow, Nat.reduceEqDiff, Nat.reduceLT, Nat.reduceLeDiff, Nat.reduceAdd, Nat.reduceMul, Nat.reduceSub, Nat.reduceBEq, reduceCtorEq, ↓zR, zQ, Tr, StA, StT, r0, r1, n1, n2, w1, w2, q0, q1, q2, s2, hw]
    exact fin _ _
  · have n1 : ¬ ((a : Int) < 0) := by omega
    have n2 : ¬ (((a + 1 : Nat) : Int) ≤ 0) := by omega
    simp (maxSteps := 1000000) (disch := first | omega | rfl | (simp only [zL, two63, room] <;> omega) | fail) only [↓reduceIte, ↓zP, zW, WOp, evOp, evBin, binI, binSh, binS, evNil, keyIs, keyEq, mkv, AV.cells, AV.sc, optv, bnd, env, put, Env.get, Env.set, Env.del, Env.dels, Env.init, res1, resL, resV, fillP, splice, newRow, Nat.reduceEqDiff, Nat.reduceLT, Nat.reduceLeDiff, Nat.reduceAdd, Nat.reduceMul, Nat.reduceSub, Nat.reduceBEq, reduceCtorEq, ↓zR, zQ, Tr, StA, StT, r0, r1, n1, n2, w1, w2, q0, q1, q2, s2, hw]
    exact fin _ _
  · by_cases hlt : a < bs.length
    · have hL : bs = bs.take a ++ bs[a] :: bs.drop (a + 1) := by
        have := (List.take_append_drop a bs).symm
        rwa [List.drop_eq_getElem_cons hlt] at this
      have hs2 := hs
      rw [hv, hL] at hs2
      have hrd := rdRow_pre hpre (hs2.rd hlU)
      rw [List.length_take, show min a bs.length = a by omega] at hrd
      subst hv
      have n1 : (a : Int) < (bs.length : Int) := by omega
      have n2 : ((a + 1 : Nat) : Int) ≤ (bs.length : Int) := by omega
      have hx : (bs[a]).toNat < 256 := bs[a].toNat_lt
      have hrd' : rdRow h c kk (off + a * 1) 1 = some [.int .u8 (bs[a]).toNat] := hrd
      generalize (bs[a]).toNat = x at hrd' hx
      have hwx : IntKind.i64.wrap (x : Int) = x := by rw [IntKind.wrap_i64]; omega
      simp (maxSteps := 1000000) (disch := first | omega | rfl | (simp only [zL, two63, room] <;> omega) | fail) only [↓reduceIte, ↓zP, zW, WOp, evOp, evBin, binI, binSh, binS, evNil, keyIs, keyEq, mkv, AV.cells, AV.sc, optv, bnd, env, put, Env.get, Env.set, Env.del, Env.dels, Env.init, res1, resL, resV, fillP, splice, newRow, Nat.reduceEqDiff, Nat.reduceLT, Nat.reduceLeDiff, Nat.reduceAdd, Nat.reduceMul, Nat.reduceSub, Nat.reduceBEq, reduceCtorEq, ↓zR, zQ, Tr, StA, StT, r0, r1, n1, n2, w1, w2, q0, q1, q2, s2, hw, hrd', hwx]
      exact fin0 x _ hx
    · subst hv
      have n1 : ¬ ((a : Int) < (bs.length : Int)) := by omega
      have n2 : ¬ (((a + 1 : Nat) : Int) ≤ (bs.length : Int)) := by omega
      simp (maxSteps := 1000000) (disch := first | omega | rfl | (simp only [zL, two63, room] <;> omega) | fail) only [↓reduceIte, ↓zP, zW, WOp, evOp, evBin, binI, binSh, binS, evNil, keyIs, keyEq, mkv, AV.cells, AV.sc, optv, bnd, env, put, Env.get, Env.set, Env.del, Env.dels, Env.init, res1, resL, resV, fillP, splice, newRow, Nat.reduceEqDiff, Nat.reduceLT, Nat.reduceLeDiff, Nat.reduceAdd, Nat.reduceMul, Nat.reduceSub, Nat.reduceBEq, reduceCtorEq, ↓zR, zQ, Tr, StA, StT, r0, r1, n1, n2, w1, w2, q0, q1, q2, s2, hw]
      exact fin _ _

/-- pick: less than n. -/
theorem c_pick (hc : Cur b cv bs K h) (hK : K < 2 ^ 49) (n : Nat) (hn : n < 2 ^ 40) (hp : ∀ (x : Nat) h', (x < n ∨ x = 0) → Cur b cv bs (K + 2) h' → PreX b.length h h' → post (.int .i64 x) h') : S 63 [.ptr b.length 0 0 3, .int .i64 n] h post k := by
  refine S_of rfl T63 ?_; unfold fi63
  by_cases h1 : n ≤ 1
  · have n1 : (n : Int) ≤ 1 := by omega
    simp (maxSteps := 1000000) (disch := first | omega | rfl | (simp only [zL, two63, room] <;> omega) | fail) only [↓reduceIte, ↓zP, zW, WOp, evOp, evBin, binI, binSh, binS, evNil, keyIs, keyEq, mkv, AV.cells, AV.sc, optv, bnd, env, put, Env.get, Env.set, Env.del, Env.dels, Env.init, res1, resL, resV, fillP, splice, newRow, Nat.reduceEqDiff, Nat.reduceLT, Nat.reduceLeDiff, Nat.reduceAdd, Nat.reduceMul, Nat.reduceSub, Nat.reduceBEq, reduceCtorEq, ↓zR, zQ, Tr, StA, StT, n1]
    exact hp 0 h (.inr rfl) (hc.le (by omega)) (PreX.refl _ _)
  have n1 : ¬ ((n : Int) ≤ 1) := by omega
  have fin : ∀ (x : Nat) h', Cur b cv bs (K + 2) h' → PreX b.length h h' → post (.int .i64 ((x : Int).tmod n)) h' := by
    intro x h' hc' hx
    have : (x : Int).tmod n = ((x % n : Nat) : Int) := by rw [Int.tmod_eq_emod_of_nonneg (by omega)]; omega
    rw [this]
    exact hp _ h' (.inl (Nat.mod_lt _ (by omega))) hc' hx
  have n0 : ((n : Int) == 0) = false := by simp; omega
  have n0' : ¬ ((n : Int) = 0) := by omega
  simp (maxSteps := 1000000) (disch := first | omega | rfl | (simp only [zL, two63, room] <;> omega) | fail) only [↓reduceIte, ↓zP, zW, WOp, evOp, evBin, binI, binSh, binS, evNil, keyIs, keyEq, mkv, AV.cells, AV.sc, optv, bnd, env, put, Env.get, Env.set, Env.del, Env.dels, Env.init, res1, resL, resV, fillP, splice, newRow, Nat.reduceEqDiff, Nat.reduceLT, Nat.reduceLeDiff, Nat.reduceAdd, Nat.reduceMul, Nat.reduceSub, Nat.reduceBEq, reduceCtorEq, ↓zR, zQ, Tr, StA, StT, n1]
  refine c_next hc (by omega) ?_
  intro x h2 hx hc2 hp2
  by_cases h3 : 200 < n
  · have n2 : (n : Int) > 200 := by omega
    have w1 : IntKind.i64.wrap ((x : Int) * 256) = ((x * 256 : Nat) : Int) := by rw [IntKind.wrap_i64]; omega
    simp (maxSteps := 1000000) (disch := first | omega | rfl | (simp only [zL, two63, room] <;> omega) | fail) only [↓reduceIte, ↓zP, zW, WOp, evOp, evBin, binI, binSh, binS, evNil, keyIs, keyEq, mkv, AV.cells, AV.sc, optv, bnd, env, put, Env.get, Env.set, Env.del, Env.dels, Env.init, res1, resL, resV, fillP, splice, newRow, Nat.reduceEqDiff, Nat.reduceLT, Nat.reduceLeDiff, Nat.reduceAdd, Nat.reduceMul, Nat.reduceSub, Nat.reduceBEq, reduceCtorEq, ↓zR, zQ, Tr, StA, StT, n2, w1]
    refine c_next hc2 (by omega) ?_
    intro y h3 hy hc3 hp3
    have w2 : IntKind.i64.wrap (((x * 256 : Nat) : Int) + (y : Int)) = ((x * 256 + y : Nat) : Int) := by rw [IntKind.wrap_i64]; omega
    simp (maxSteps := 1000000) (disch := first | omega | rfl | (simp only [zL, two63, room] <;> omega) | fail) only [↓reduceIte, ↓zP, zW, WOp, evOp, evBin, binI, binSh, binS, evNil, keyIs, keyEq, mkv, AV.cells, AV.sc, optv, bnd, env, put, Env.get, Env.set, Env.del, Env.dels, Env.init, res1, resL, resV, fillP, splice, newRow, Nat.reduceEqDiff, Nat.reduceLT, Nat.reduceLeDiff, Nat.reduceAdd, Nat.reduceMul, Nat.reduceSub, Nat.reduceBEq, reduceCtorEq, ↓zR, zQ, Tr, StA, StT, w2, n0, n0']
    exact fin _ _ hc3 (hp2.trans hp3)
  · have n2 : ¬ ((n : Int) > 200) := by omega
    simp (maxSteps := 1000000) (disch := first | omega | rfl | (simp only [zL, two63, room] <;> omega) | fail) only [↓reduceIte, ↓zP, zW, WOp, evOp, evBin, binI, binSh, binS, evNil, keyIs, keyEq, mkv, AV.cells, AV.sc, optv, bnd, env, put, Env.get, Env.set, Env.del, Env.dels, Env.init, res1, resL, resV, fillP, splice, newRow, Nat.reduceEqDiff, Nat.reduceLT, Nat.reduceLeDiff, Nat.reduceAdd, Nat.reduceMul, Nat.reduceSub, Nat.reduceBEq, reduceCtorEq, ↓zR, zQ, Tr, StA, StT, n2, n0, n0']
    exact fin _ _ (hc2.le (by omega)) hp2
theorem c_one (hc : Cur b cv bs K h) (hK : K < 2 ^ 49) (n : Nat) (hn : n < 2 ^ 40) (hp : ∀ (x : Bool) h', Cur b cv bs (K + 2) h' → PreX b.length h h' → post (.bool x) h') : S 64 [.ptr b.length 0 0 3, .int .i64 n] h post k := by
  refine S_of rfl T64 ?_; unfold fi64
  simp (maxSteps := 1000000) (disch := first | omega | rfl | (simp only [zL, two63, room] <;> omega) | fail) only [↓reduceIte, ↓zP, zW, WOp, evOp, evBin, binI, binSh, binS, evNil, keyIs, keyEq, mkv, AV.cells, AV.sc, optv, bnd, env, put, Env.get, Env.set, Env.del, Env.dels, Env.init, res1, resL, resV, fillP, splice, newRow, Nat.reduceEqDiff, Nat.reduceLT, Nat.reduceLeDiff, Nat.reduceAdd, Nat.reduceMul, Nat.reduceSub, Nat.reduceBEq, reduceCtorEq, ↓zR, zQ, Tr, StA, StT]
  refine c_pick hc hK n hn ?_
  intro x h' _ hc' hp'
  simp (maxSteps := 1000000) (disch := first | omega | rfl | (simp only [zL, two63, room] <;> omega) | fail) only [↓reduceIte, ↓zP, zW, WOp, evOp, evBin, binI, binSh, binS, evNil, keyIs, keyEq, mkv, AV.cells, AV.sc, optv, bnd, env, put, Env.get, Env.set, Env.del, Env.dels, Env.init, res1, resL, resV, fillP, splice, newRow, Nat.reduceEqDiff, Nat.reduceLT, Nat.reduceLeDiff, Nat.reduceAdd, Nat.reduceMul, Nat.reduceSub, Nat.reduceBEq, reduceCtorEq, ↓zR, zQ, Tr, StA, StT]
  exact hp _ h' hc' hp'
/-- An element of a list. -/
theorem c_of (hc : Cur b cv bs K h) (hK : K < 2 ^ 49) {lv : AV} {L : List (List UInt8)} (hs : Slc 1 encS h lv L) (hne : ∀ r, rowOf lv = some r → r ≠ b.length) (h0 : 0 < L.length) (hL : L.length < 2 ^ 40)
    (hp : ∀ x ∈ L, ∀ h', Cur b cv bs (K + 2) h' → PreX b.length h h' → post (.str x) h') : S 71 [.ptr b.length 0 0 3, lv] h post k := by
  rcases hs.cases with ⟨rfl, rfl⟩ | ⟨rfl, rfl⟩ | ⟨c, kk, off, rfl⟩
  · simp at h0
  · simp at h0
  refine S_of rfl T71 ?_; unfold fi71
  simp (maxSteps := 1000000) (disch := first | omega | rfl | (simp only [zL, two63, room] <;> omega) | fail) only [↓reduceIte, ↓zP, zW, WOp, evOp, evBin, binI, binSh, binS, evNil, keyIs, keyEq, mkv, AV.cells, AV.sc, optv, bnd, env, put, Env.get, Env.set, Env.del, Env.dels, Env.init, res1, resL, resV, fillP, splice, newRow, Nat.reduceEqDiff, Nat.reduceLT, Nat.reduceLeDiff, Nat.reduceAdd, Nat.reduceMul, Nat.reduceSub, Nat.reduceBEq, reduceCtorEq, ↓zR, zQ, Tr, StA, StT]
  refine c_pick hc hK L.length hL ?_
  intro x h2 hx hc2 hp2
  have hlt : x < L.length := by omega
  have hLe : L = L.take x ++ L[x] :: L.drop (x + 1) := by
    have := (List.take_append_drop x L).symm
    rwa [List.drop_eq_getElem_cons hlt] at this
  have hs2 := hs
  rw [hLe] at hs2
  have hrd := rdRow_prex hp2 (hne c rfl) (hs2.rd hlS)
  rw [List.length_take, show min x L.length = x by omega] at hrd
  have hrd' : rdRow h2 c kk (off + x * 1) 1 = some [.str L[x]] := hrd
  have n1 : (x : Int) < (L.length : Int) := by omega
  simp (maxSteps := 1000000) (disch := first | omega | rfl | (simp only [zL, two63, room] <;> omega) | fail) only [↓reduceIte, ↓zP, zW, WOp, evOp, evBin, binI, binSh, binS, evNil, keyIs, keyEq, mkv, AV.cells, AV.sc, optv, bnd, env, put, Env.get, Env.set, Env.del, Env.dels, Env.init, res1, resL, resV, fillP, splice, newRow, Nat.reduceEqDiff, Nat.reduceLT, Nat.reduceLeDiff, Nat.reduceAdd, Nat.reduceMul, Nat.reduceSub, Nat.reduceBEq, reduceCtorEq, ↓zR, zQ, Tr, StA, StT, n1, hrd']
  exact hp _ (List.getElem_mem hlt) h2 hc2 hp2
/-- A number of a list. -/
theorem c_among (hc : Cur b cv bs K h) (hK : K < 2 ^ 49) {lv : AV} {L : List Int} (hs : Slc 1 encI h lv L) (hne : ∀ r, rowOf lv = some r → r ≠ b.length) (h0 : 0 < L.length) (hL : L.length < 2 ^ 40)
    (hp : ∀ x ∈ L, ∀ h', Cur b cv bs (K + 2) h' → PreX b.length h h' → post (.int .i64 x) h') : S 62 [.ptr b.length 0 0 3, lv] h post k := by
  rcases hs.cases with ⟨rfl, rfl⟩ | ⟨rfl, rfl⟩ | ⟨c, kk, off, rfl⟩
  · simp at h0
  · simp at h0
  refine S_of rfl T62 ?_; unfold fi62
  simp (maxSteps := 1000000) (disch := first | omega | rfl | (simp only [zL, two63, room] <;> omega) | fail) only [↓reduceIte, ↓zP, zW, WOp, evOp, evBin, binI, binSh, binS, evNil, keyIs, keyEq, mkv, AV.cells, AV.sc, optv, bnd, env, put, Env.get, Env.set, Env.del, Env.dels, Env.init, res1, resL, resV, fillP, splice, newRow, Nat.reduceEqDiff, Nat.reduceLT, Nat.reduceLeDiff, Nat.reduceAdd, Nat.reduceMul, Nat.reduceSub, Nat.reduceBEq, reduceCtorEq, ↓zR, zQ, Tr, StA, StT]
  refine c_pick hc hK L.length hL ?_
  intro x h2 hx hc2 hp2
  have hlt : x < L.length := by omega
  have hLe : L = L.take x ++ L[x] :: L.drop (x + 1) := by
    have := (List.take_append_drop x L).symm
    rwa [List.drop_eq_getElem_cons hlt] at this
  have hs2 := hs
  rw [hLe] at hs2
  have hrd := rdRow_prex hp2 (hne c rfl) (hs2.rd hlI)
  rw [List.length_take, show min x L.length = x by omega] at hrd
  have hrd' : rdRow h2 c kk (off + x * 1) 1 = some [.int .i64 L[x]] := hrd
  have n1 : (x : Int) < (L.length : Int) := by omega
  simp (maxSteps := 1000000) (disch := first | omega | rfl | (simp only [zL, two63, room] <;> omega) | fail) only [↓reduceIte, ↓zP, zW, WOp, evOp, evBin, binI, binSh, binS, evNil, keyIs, keyEq, mkv, AV.cells, AV.sc, optv, bnd, env, put, Env.get, Env.set, Env.del, Env.dels, Env.init, res1, resL, resV, fillP, splice, newRow, Nat.reduceEqDiff, Nat.reduceLT, Nat.reduceLeDiff, Nat.reduceAdd, Nat.reduceMul, Nat.reduceSub, Nat.reduceBEq, reduceCtorEq, ↓zR, zQ, Tr, StA, StT, n1, hrd']
  exact hp _ (List.getElem_mem hlt) h2 hc2 hp2
end
theorem slc_litS (h : AH) (L : List (List UInt8)) : Slc 1 encS (h ++ [.row (L.map AV.str) 0 0 false]) (.slice h.length 0 0 L.length 1) L := by
  have e : L.flatMap encS = L.map AV.str := by
    induction L with
    | nil => rfl
    | cons a L ih => rw [List.flatMap_cons, ih]; rfl
  unfold Slc Sl
  refine ⟨rfl, rfl, by simp [e], ?_⟩
  rw [e]
  exact rdRow_push h _ false (by simp)
theorem slc_litI (h : AH) (L : List Int) : Slc 1 encI (h ++ [.row (L.map (AV.int .i64)) 0 0 false]) (.slice h.length 0 0 L.length 1) L := by
  have e : L.flatMap encI = L.map (AV.int .i64) := by
    induction L with
    | nil => rfl
    | cons a L ih => rw [List.flatMap_cons, ih]; rfl
  unfold Slc Sl
  refine ⟨rfl, rfl, by simp [e], ?_⟩
  rw [e]
  exact rdRow_push h _ false (by simp)
theorem Pre.x2 {h h1 h2 : AH} {c : Nat} (hp : Pre h h1) (hx : PreX c h1 h2) : PreX c h h2 := (hp.x c).trans hx

/-! ### Lines -/
theorem lp_liTimesG (b : UInt8) {h : AH} {R : X → Env → AH → Prop} : ∀ (n : Nat) (out : List UInt8), out.length + n ≤ 1000 → R (.exit 0) [(5, .str (out ++ List.replicate n b))] h →
    Cx (.loop lp124_0) [(0, .str [b]), (1, .int .i64 n), (5, .str out)] h R k k
  | 0, out, hn, hR => by
    rw [w_loopb (c := lp124_0) (d := lb124_0) rfl]; unfold lb124_0
    simp (maxSteps := 1000000) (disch := first | omega | rfl | (simp only [zL, two63, room] <;> omega) | fail) only [↓reduceIte, ↓zP, zW, WOp, evOp, evBin, binI, binSh, binS, evNil, keyIs, keyEq, mkv, AV.cells, AV.sc, optv, bnd, env, put, Env.get, Env.set, Env.del, Env.dels, Env.init, res1, resL, resV, fillP, splice, newRow, Nat.reduceEqDiff, Nat.reduceLT, Nat.reduceLeDiff, Nat.reduceAdd, Nat.reduceMul, Nat.reduceSub, Nat.reduceBEq, reduceCtorEq, ↓zR, zQ, Tr, StA, StT]
    simpa using hR
  | n + 1, out, hn, hR => by
    have ih := lp_liTimesG b (h := h) (R := R) n (out ++ [b])
    have hg : ((n + 1 : Nat) : Int) > 0 := by omega
    have hs : ((n + 1 : Nat) : Int) - 1 = (n : Int) := by omega
    have hl : out.length + [b].length ≤ two63 := by simp only [two63, List.length_cons, List.length_nil]; omega
    rw [w_loopb (c := lp124_0) (d := lb124_0) rfl]; unfold lb124_0
    simp (maxSteps := 1000000) (disch := first | omega | rfl | (simp only [zL, two63, room] <;> omega) | fail) only [↓reduceIte, ↓zP, zW, WOp, evOp, evBin, binI, binSh, binS, evNil, keyIs, keyEq, mkv, AV.cells, AV.sc, optv, bnd, env, put, Env.get, Env.set, Env.del, Env.dels, Env.init, res1, resL, resV, fillP, splice, newRow, Nat.reduceEqDiff, Nat.reduceLT, Nat.reduceLeDiff, Nat.reduceAdd, Nat.reduceMul, Nat.reduceSub, Nat.reduceBEq, reduceCtorEq, ↓zR, zQ, Tr, StA, StT, hg, hs, hl]
    rw [w_loopn (c := lp124_0) rfl]
    simp (maxSteps := 1000000) (disch := first | omega | rfl | (simp only [zL, two63, room] <;> omega) | fail) only [↓reduceIte, ↓zP, zW, WOp, evOp, evBin, binI, binSh, binS, evNil, keyIs, keyEq, mkv, AV.cells, AV.sc, optv, bnd, env, put, Env.get, Env.set, Env.del, Env.dels, Env.init, res1, resL, resV, fillP, splice, newRow, Nat.reduceEqDiff, Nat.reduceLT, Nat.reduceLeDiff, Nat.reduceAdd, Nat.reduceMul, Nat.reduceSub, Nat.reduceBEq, reduceCtorEq, ↓zR, zQ, Tr, StA, StT]
    refine ih (by simp; omega) ?_
    rw [List.append_assoc, List.singleton_append, ← List.replicate_succ]
    exact hR
theorem e_liTimesG (b : UInt8) (n : Nat) (hn : n ≤ 1000) {h : AH} {post : AV → AH → Prop} : S 124 [.str [b], .int .i64 n] h post k = post (.str (List.replicate n b)) h := by
  refine S_eq fun post hp => ?_
  refine S_of rfl T124 ?_; unfold fi124
  simp (maxSteps := 1000000) (disch := first | omega | rfl | (simp only [zL, two63, room] <;> omega) | fail) only [↓reduceIte, ↓zP, zW, WOp, evOp, evBin, binI, binSh, binS, evNil, keyIs, keyEq, mkv, AV.cells, AV.sc, optv, bnd, env, put, Env.get, Env.set, Env.del, Env.dels, Env.init, res1, resL, resV, fillP, splice, newRow, Nat.reduceEqDiff, Nat.reduceLT, Nat.reduceLeDiff, Nat.reduceAdd, Nat.reduceMul, Nat.reduceSub, Nat.reduceBEq, reduceCtorEq, ↓zR, zQ, Tr, StA, StT]
  refine lp_liTimesG b n [] (by simpa using hn) ?_
  simp (maxSteps := 1000000) (disch := first | omega | rfl | (simp only [zL, two63, room] <;> omega) | fail) only [↓reduceIte, ↓zP, zW, WOp, evOp, evBin, binI, binSh, binS, evNil, keyIs, keyEq, mkv, AV.cells, AV.sc, optv, bnd, env, put, Env.get, Env.set, Env.del, Env.dels, Env.init, res1, resL, resV, fillP, splice, newRow, Nat.reduceEqDiff, Nat.reduceLT, Nat.reduceLeDiff, Nat.reduceAdd, Nat.reduceMul, Nat.reduceSub, Nat.reduceBEq, reduceCtorEq, ↓zR, zQ, Tr, StA, StT]
  exact hp
theorem e_liFirstG (t g f : Nat) (ht : t ≤ 100) (hg : g ≤ 100) (hf : f ≤ 100) {h : AH} {post : AV → AH → Prop} : S 100 [.int .i64 t, .int .i64 g, .int .i64 f] h post k = post (.str (List.replicate t 84 ++ List.replicate g 46 ++ List.replicate f 70)) h := by
  refine S_eq fun post hp => ?_
  refine S_of rfl T100 ?_; unfold fi100
  have l1 : (List.replicate t (84 : UInt8)).length + (List.replicate g (46 : UInt8)).length ≤ two63 := by simp [two63]; omega
  have l2 : (List.replicate t (84 : UInt8) ++ List.replicate g 46).length + (List.replicate f (70 : UInt8)).length ≤ two63 := by simp [two63]; omega
  simp (maxSteps := 1000000) (disch := first | omega | rfl | (simp only [zL, two63, room] <;> omega) | fail) only [↓reduceIte, ↓zP, zW, WOp, evOp, evBin, binI, binSh, binS, evNil, keyIs, keyEq, mkv, AV.cells, AV.sc, optv, bnd, env, put, Env.get, Env.set, Env.del, Env.dels, Env.init, res1, resL, resV, fillP, splice, newRow, Nat.reduceEqDiff, Nat.reduceLT, Nat.reduceLeDiff, Nat.reduceAdd, Nat.reduceMul, Nat.reduceSub, Nat.reduceBEq, reduceCtorEq, ↓zR, zQ, Tr, StA, StT, e_liTimesG 84 t (by omega), e_liTimesG 46 g (by omega), e_liTimesG 70 f (by omega), l1, l2]
  exact hp

section
variable {b : AH} {cv : AV} {bs : List UInt8} {post : AV → AH → Prop}
theorem lp_sure {R : X → Env → AH → Prop} : ∀ (d : Nat) (w : List UInt8) (K : Nat) (h : AH), Cur b cv bs K h → K + 2 * d < 2 ^ 49 → w.length + d < 2 ^ 30 → signs w →
    (∀ w' h', w'.length = w.length + d → signs w' → Cur b cv bs (K + 2 * d) h' → PreX b.length h h' → R (.exit 0) [(0, .ptr b.length 0 0 3), (5, .str w')] h') →
    Cx (.loop lp99_0) [(0, .ptr b.length 0 0 3), (5, .str w), (6, .int .i64 d)] h R k k
  | 0, w, K, h, hc, hK, hw, hg, hR => by
    have n1 : ¬ (((0 : Nat) : Int) > 0) := by omega
    rw [w_loopb (c := lp99_0) (d := lb99_0) rfl]; unfold lb99_0
    simp (maxSteps := 1000000) (disch := first | omega | rfl | (simp only [zL, two63, room] <;> omega) | fail) only [↓reduceIte, ↓zP, zW, WOp, evOp, evBin, binI, binSh, binS, evNil, keyIs, keyEq, mkv, AV.cells, AV.sc, optv, bnd, env, put, Env.get, Env.set, Env.del, Env.dels, Env.init, res1, resL, resV, fillP, splice, newRow, Nat.reduceEqDiff, Nat.reduceLT, Nat.reduceLeDiff, Nat.reduceAdd, Nat.reduceMul, Nat.reduceSub, Nat.reduceBEq, reduceCtorEq, ↓zR, zQ, Tr, StA, StT, n1]
    exact hR w h rfl hg hc (PreX.refl _ _)
  | d + 1, w, K, h, hc, hK, hw, hg, hR => by
    have ih := lp_sure (R := R) d
    have n1 : ((d + 1 : Nat) : Int) > 0 := by omega
    have hs : ((d + 1 : Nat) : Int) - 1 = (d : Int) := by omega
    have hwr : IntKind.i64.wrap (d : Int) = (d : Int) := wrap_i (by omega)
    rw [w_loopb (c := lp99_0) (d := lb99_0) rfl]; unfold lb99_0
    simp (maxSteps := 1000000) (disch := first | omega | rfl | (simp only [zL, two63, room] <;> omega) | fail) only [↓reduceIte, ↓zP, zW, WOp, evOp, evBin, binI, binSh, binS, evNil, keyIs, keyEq, mkv, AV.cells, AV.sc, optv, bnd, env, put, Env.get, Env.set, Env.del, Env.dels, Env.init, res1, resL, resV, fillP, splice, newRow, Nat.reduceEqDiff, Nat.reduceLT, Nat.reduceLeDiff, Nat.reduceAdd, Nat.reduceMul, Nat.reduceSub, Nat.reduceBEq, reduceCtorEq, ↓zR, zQ, Tr, StA, StT, n1]
    refine c_of (hc.pre (Pre.push _ _)) (by omega) (slc_litS h [[84], [70], [46], [84], [70]]) (fun r hr => by cases hr; have := hc.lt; omega) (by simp) (by simp) ?_
    intro x hx h2 hc2 hp2
    have hx1 : x.length = 1 := by
      simp only [List.mem_cons, List.not_mem_nil, or_false] at hx
      rcases hx with rfl | rfl | rfl | rfl | rfl <;> rfl
    have hxg : signs x := by
      simp only [List.mem_cons, List.not_mem_nil, or_false] at hx
      rcases hx with rfl | rfl | rfl | rfl | rfl <;> rfl
    have hl : w.length + x.length ≤ two63 := by simp only [two63]; omega
    simp (maxSteps := 1000000) (disch := first | omega | rfl | (simp only [zL, two63, room] <;> omega) | fail) only [↓reduceIte, ↓zP, zW, WOp, evOp, evBin, binI, binSh, binS, evNil, keyIs, keyEq, mkv, AV.cells, AV.sc, optv, bnd, env, put, Env.get, Env.set, Env.del, Env.dels, Env.init, res1, resL, resV, fillP, splice, newRow, Nat.reduceEqDiff, Nat.reduceLT, Nat.reduceLeDiff, Nat.reduceAdd, Nat.reduceMul, Nat.reduceSub, Nat.reduceBEq, reduceCtorEq, ↓zR, zQ, Tr, StA, StT, hl, hs, hwr]
    rw [w_loopn (c := lp99_0) rfl]
    simp (maxSteps := 1000000) (disch := first | omega | rfl | (simp only [zL, two63, room] <;> omega) | fail) only [↓reduceIte, ↓zP, zW, WOp, evOp, evBin, binI, binSh, binS, evNil, keyIs, keyEq, mkv, AV.cells, AV.sc, optv, bnd, env, put, Env.get, Env.set, Env.del, Env.dels, Env.init, res1, resL, resV, fillP, splice, newRow, Nat.reduceEqDiff, Nat.reduceLT, Nat.reduceLeDiff, Nat.reduceAdd, Nat.reduceMul, Nat.reduceSub, Nat.reduceBEq, reduceCtorEq, ↓zR, zQ, Tr, StA, StT]
    refine ih (w ++ x) (K + 2) h2 hc2 (by omega) (by simp; omega) ?_ ?_
    · unfold signs at *
      rw [List.all_append, hg, hxg]; rfl
    · intro w' h' h1 h3 h4 h5
      refine hR w' h' (by simp at h1; omega) h3 (h4.le (by omega)) ((Pre.push _ _).x2 (hp2.trans h5))
variable {K : Nat} {h : AH}
theorem put_signs {w : List UInt8} (hg : signs w) (i : Nat) : signs (w.take i ++ [46] ++ w.drop (i + 1)) := by
  unfold signs at *
  rw [List.all_eq_true] at *
  intro x hx
  simp only [List.mem_append, List.mem_singleton] at hx
  rcases hx with (hx | rfl) | hx
  · exact hg x (List.mem_of_mem_take hx)
  · rfl
  · exact hg x (List.mem_of_mem_drop hx)
theorem c_sureLine (hc : Cur b cv bs K h) (n : Nat) (hn : n < 2 ^ 20) (h0 : 0 < n) (hK : K < 2 ^ 48) (hp : ∀ w h', 1 ≤ w.length → w.length ≤ n → signs w → Cur b cv bs (K + 2 * n + 6) h' → PreX b.length h h' → post (.str w) h') :
    S 99 [.ptr b.length 0 0 3, .int .i64 n] h post k := by
  refine S_of rfl T99 ?_; unfold fi99
  simp (maxSteps := 1000000) (disch := first | omega | rfl | (simp only [zL, two63, room] <;> omega) | fail) only [↓reduceIte, ↓zP, zW, WOp, evOp, evBin, binI, binSh, binS, evNil, keyIs, keyEq, mkv, AV.cells, AV.sc, optv, bnd, env, put, Env.get, Env.set, Env.del, Env.dels, Env.init, res1, resL, resV, fillP, splice, newRow, Nat.reduceEqDiff, Nat.reduceLT, Nat.reduceLeDiff, Nat.reduceAdd, Nat.reduceMul, Nat.reduceSub, Nat.reduceBEq, reduceCtorEq, ↓zR, zQ, Tr, StA, StT]
  refine c_pick hc (by omega) n (by omega) ?_
  intro x h2 hx hc2 hp2
  have hw : IntKind.i64.wrap (1 + (x : Int)) = ((x + 1 : Nat) : Int) := by rw [IntKind.wrap_i64]; omega
  simp (maxSteps := 1000000) (disch := first | omega | rfl | (simp only [zL, two63, room] <;> omega) | fail) only [↓reduceIte, ↓zP, zW, WOp, evOp, evBin, binI, binSh, binS, evNil, keyIs, keyEq, mkv, AV.cells, AV.sc, optv, bnd, env, put, Env.get, Env.set, Env.del, Env.dels, Env.init, res1, resL, resV, fillP, splice, newRow, Nat.reduceEqDiff, Nat.reduceLT, Nat.reduceLeDiff, Nat.reduceAdd, Nat.reduceMul, Nat.reduceSub, Nat.reduceBEq, reduceCtorEq, ↓zR, zQ, Tr, StA, StT, hw]
  refine lp_sure (x + 1) [] (K + 2) h2 hc2 (by omega) (by simp; omega) (by rfl) ?_
  intro w h3 hl hg hc3 hp3
  have hl' : w.length = x + 1 := by simpa using hl
  have hp23 := hp2.trans hp3
  have stop : ∀ K' h', K' ≤ K + 2 * n + 6 → Cur b cv bs K' h' → PreX b.length h h' → post (.str w) h' := fun K' h' h1 h4 h5 => hp w h' (by omega) (by omega) hg (h4.le h1) h5
  by_cases h46 : w.count 46 = 0
  · have n1 : ((w.count 46 : Nat) : Int) = 0 := by omega
    have n1' : (((w.count 46 : Nat) : Int) == 0) = true := by simp [h46]
    simp (maxSteps := 1000000) (disch := first | omega | rfl | (simp only [zL, two63, room] <;> omega) | fail) only [↓reduceIte, ↓zP, zW, WOp, evOp, evBin, binI, binSh, binS, evNil, keyIs, keyEq, mkv, AV.cells, AV.sc, optv, bnd, env, put, Env.get, Env.set, Env.del, Env.dels, Env.init, res1, resL, resV, fillP, splice, newRow, Nat.reduceEqDiff, Nat.reduceLT, Nat.reduceLeDiff, Nat.reduceAdd, Nat.reduceMul, Nat.reduceSub, Nat.reduceBEq, reduceCtorEq, ↓zR, zQ, Tr, StA, StT, e_liCountD w (by omega), n1', h46]
    refine c_one hc3 (by omega) 8 (by omega) ?_
    intro o h4 hc4 hp4
    cases o
    · simp (maxSteps := 1000000) (disch := first | omega | rfl | (simp only [zL, two63, room] <;> omega) | fail) only [↓reduceIte, ↓zP, zW, WOp, evOp, evBin, binI, binSh, binS, evNil, keyIs, keyEq, mkv, AV.cells, AV.sc, optv, bnd, env, put, Env.get, Env.set, Env.del, Env.dels, Env.init, res1, resL, resV, fillP, splice, newRow, Nat.reduceEqDiff, Nat.reduceLT, Nat.reduceLeDiff, Nat.reduceAdd, Nat.reduceMul, Nat.reduceSub, Nat.reduceBEq, reduceCtorEq, ↓zR, zQ, Tr, StA, StT]
      refine c_pick hc4 (by omega) w.length (by omega) ?_
      intro y h5 hy hc5 hp5
      have hyl : y < w.length := by omega
      simp (maxSteps := 1000000) (disch := first | omega | rfl | (simp only [zL, two63, room] <;> omega) | fail) only [↓reduceIte, ↓zP, zW, WOp, evOp, evBin, binI, binSh, binS, evNil, keyIs, keyEq, mkv, AV.cells, AV.sc, optv, bnd, env, put, Env.get, Env.set, Env.del, Env.dels, Env.init, res1, resL, resV, fillP, splice, newRow, Nat.reduceEqDiff, Nat.reduceLT, Nat.reduceLeDiff, Nat.reduceAdd, Nat.reduceMul, Nat.reduceSub, Nat.reduceBEq, reduceCtorEq, ↓zR, zQ, Tr, StA, StT]
      refine c_liPut w y [46] hyl (by omega) (by simp) ?_
      simp (maxSteps := 1000000) (disch := first | omega | rfl | (simp only [zL, two63, room] <;> omega) | fail) only [↓reduceIte, ↓zP, zW, WOp, evOp, evBin, binI, binSh, binS, evNil, keyIs, keyEq, mkv, AV.cells, AV.sc, optv, bnd, env, put, Env.get, Env.set, Env.del, Env.dels, Env.init, res1, resL, resV, fillP, splice, newRow, Nat.reduceEqDiff, Nat.reduceLT, Nat.reduceLeDiff, Nat.reduceAdd, Nat.reduceMul, Nat.reduceSub, Nat.reduceBEq, reduceCtorEq, ↓zR, zQ, Tr, StA, StT]
      refine hp _ h5 ?_ ?_ (put_signs hg y) (hc5.le (by omega)) (hp23.trans (hp4.trans hp5))
      · simp; omega
      · simp; omega
    · simp (maxSteps := 1000000) (disch := first | omega | rfl | (simp only [zL, two63, room] <;> omega) | fail) only [↓reduceIte, ↓zP, zW, WOp, evOp, evBin, binI, binSh, binS, evNil, keyIs, keyEq, mkv, AV.cells, AV.sc, optv, bnd, env, put, Env.get, Env.set, Env.del, Env.dels, Env.init, res1, resL, resV, fillP, splice, newRow, Nat.reduceEqDiff, Nat.reduceLT, Nat.reduceLeDiff, Nat.reduceAdd, Nat.reduceMul, Nat.reduceSub, Nat.reduceBEq, reduceCtorEq, ↓zR, zQ, Tr, StA, StT]
      exact stop _ h4 (by omega) hc4 (hp23.trans hp4)
  · have n1' : (((w.count 46 : Nat) : Int) == 0) = false := by simp; omega
    simp (maxSteps := 1000000) (disch := first | omega | rfl | (simp only [zL, two63, room] <;> omega) | fail) only [↓reduceIte, ↓zP, zW, WOp, evOp, evBin, binI, binSh, binS, evNil, keyIs, keyEq, mkv, AV.cells, AV.sc, optv, bnd, env, put, Env.get, Env.set, Env.del, Env.dels, Env.init, res1, resL, resV, fillP, splice, newRow, Nat.reduceEqDiff, Nat.reduceLT, Nat.reduceLeDiff, Nat.reduceAdd, Nat.reduceMul, Nat.reduceSub, Nat.reduceBEq, reduceCtorEq, ↓zR, zQ, Tr, StA, StT, e_liCountD w (by omega), n1']
    exact stop _ h3 (by omega) hc3 hp23
theorem c_line (hc : Cur b cv bs K h) (hK : K < 2 ^ 47) (hp : ∀ w h', w.length ≤ 13 → Cur b cv bs (K + 40) h' → PreX b.length h h' → post (.str w) h') : S 101 [.ptr b.length 0 0 3] h post k := by
  refine S_of rfl T101 ?_; unfold fi101
  simp (maxSteps := 1000000) (disch := first | omega | rfl | (simp only [zL, two63, room] <;> omega) | fail) only [↓reduceIte, ↓zP, zW, WOp, evOp, evBin, binI, binSh, binS, evNil, keyIs, keyEq, mkv, AV.cells, AV.sc, optv, bnd, env, put, Env.get, Env.set, Env.del, Env.dels, Env.init, res1, resL, resV, fillP, splice, newRow, Nat.reduceEqDiff, Nat.reduceLT, Nat.reduceLeDiff, Nat.reduceAdd, Nat.reduceMul, Nat.reduceSub, Nat.reduceBEq, reduceCtorEq, ↓zR, zQ, Tr, StA, StT]
  refine c_pick hc (by omega) 16 (by omega) ?_
  intro x h2 hx hc2 hp2
  by_cases hx0 : x = 0
  · subst hx0
    simp (maxSteps := 1000000) (disch := first | omega | rfl | (simp only [zL, two63, room] <;> omega) | fail) only [↓reduceIte, ↓zP, zW, WOp, evOp, evBin, binI, binSh, binS, evNil, keyIs, keyEq, mkv, AV.cells, AV.sc, optv, bnd, env, put, Env.get, Env.set, Env.del, Env.dels, Env.init, res1, resL, resV, fillP, splice, newRow, Nat.reduceEqDiff, Nat.reduceLT, Nat.reduceLeDiff, Nat.reduceAdd, Nat.reduceMul, Nat.reduceSub, Nat.reduceBEq, reduceCtorEq, ↓zR, zQ, Tr, StA, StT]
    refine c_of (hc2.pre (Pre.push _ _)) (by omega) (slc_litS h2 [[], [120], [84, 32, 70], [84, 46, 70, 46, 84, 46, 70, 46, 84, 46, 70, 46, 84], [116, 46, 102]]) (fun r hr => by cases hr; have := hc2.lt; omega) (by simp) (by simp) ?_
    intro x hx h3 hc3 hp3
    simp (maxSteps := 1000000) (disch := first | omega | rfl | (simp only [zL, two63, room] <;> omega) | fail) only [↓reduceIte, ↓zP, zW, WOp, evOp, evBin, binI, binSh, binS, evNil, keyIs, keyEq, mkv, AV.cells, AV.sc, optv, bnd, env, put, Env.get, Env.set, Env.del, Env.dels, Env.init, res1, resL, resV, fillP, splice, newRow, Nat.reduceEqDiff, Nat.reduceLT, Nat.reduceLeDiff, Nat.reduceAdd, Nat.reduceMul, Nat.reduceSub, Nat.reduceBEq, reduceCtorEq, ↓zR, zQ, Tr, StA, StT]
    refine hp x h3 ?_ (hc3.le (by omega)) (hp2.trans ((Pre.push _ _).x2 hp3))
    simp only [List.mem_cons, List.not_mem_nil, or_false] at hx
    rcases hx with rfl | rfl | rfl | rfl | rfl <;> simp
  by_cases hx3 : x ≤ 3
  · have ww : ∀ y : Nat, y ≤ 2 → IntKind.i64.wrap (1 + (y : Int)) = ((y + 1 : Nat) : Int) := fun y hy => by rw [IntKind.wrap_i64]; omega
    have fin : ∀ (y1 y2 y3 : Nat) g, y1 ≤ 2 → y2 ≤ 2 → y3 ≤ 2 → Cur b cv bs (K + 8) g → PreX b.length h g → post (.str (List.replicate (y1 + 1) 84 ++ List.replicate (y2 + 1) 46 ++ List.replicate (y3 + 1) 70)) g := by
      intro y1 y2 y3 g h1 h2 h3 h4 h5
      exact hp _ g (by simp; omega) (h4.le (by omega)) h5
    obtain rfl | rfl | rfl : x = 1 ∨ x = 2 ∨ x = 3 := by omega
    all_goals
      simp (maxSteps := 1000000) (disch := first | omega | rfl | (simp only [zL, two63, room] <;> omega) | fail) only [↓reduceIte, ↓zP, zW, WOp, evOp, evBin, binI, binSh, binS, evNil, keyIs, keyEq, mkv, AV.cells, AV.sc, optv, bnd, env, put, Env.get, Env.set, Env.del, Env.dels, Env.init, res1, resL, resV, fillP, splice, newRow, Nat.reduceEqDiff, Nat.reduceLT, Nat.reduceLeDiff, Nat.reduceAdd, Nat.reduceMul, Nat.reduceSub, Nat.reduceBEq, reduceCtorEq, ↓zR, zQ, Tr, StA, StT]
      refine c_pick hc2 (by omega) 3 (by omega) ?_
      intro y1 g1 hy1 hg1 hpg1
      have y1' : y1 ≤ 2 := by omega
      simp (maxSteps := 1000000) (disch := first | omega | rfl | (simp only [zL, two63, room] <;> omega) | fail) only [↓reduceIte, ↓zP, zW, WOp, evOp, evBin, binI, binSh, binS, evNil, keyIs, keyEq, mkv, AV.cells, AV.sc, optv, bnd, env, put, Env.get, Env.set, Env.del, Env.dels, Env.init, res1, resL, resV, fillP, splice, newRow, Nat.reduceEqDiff, Nat.reduceLT, Nat.reduceLeDiff, Nat.reduceAdd, Nat.reduceMul, Nat.reduceSub, Nat.reduceBEq, reduceCtorEq, ↓zR, zQ, Tr, StA, StT, ww y1 y1']
      refine c_pick hg1 (by omega) 2 (by omega) ?_
      intro y2 g2 hy2 hg2 hpg2
      have y2' : y2 ≤ 2 := by omega
      simp (maxSteps := 1000000) (disch := first | omega | rfl | (simp only [zL, two63, room] <;> omega) | fail) only [↓reduceIte, ↓zP, zW, WOp, evOp, evBin, binI, binSh, binS, evNil, keyIs, keyEq, mkv, AV.cells, AV.sc, optv, bnd, env, put, Env.get, Env.set, Env.del, Env.dels, Env.init, res1, resL, resV, fillP, splice, newRow, Nat.reduceEqDiff, Nat.reduceLT, Nat.reduceLeDiff, Nat.reduceAdd, Nat.reduceMul, Nat.reduceSub, Nat.reduceBEq, reduceCtorEq, ↓zR, zQ, Tr, StA, StT, ww y2 y2']
      refine c_pick hg2 (by omega) 3 (by omega) ?_
      intro y3 g3 hy3 hg3 hpg3
      have y3' : y3 ≤ 2 := by omega
      simp (maxSteps := 1000000) (disch := first | omega | rfl | (simp only [zL, two63, room] <;> omega) | fail) only [↓reduceIte, ↓zP, zW, WOp, evOp, evBin, binI, binSh, binS, evNil, keyIs, keyEq, mkv, AV.cells, AV.sc, optv, bnd, env, put, Env.get, Env.set, Env.del, Env.dels, Env.init, res1, resL, resV, fillP, splice, newRow, Nat.reduceEqDiff, Nat.reduceLT, Nat.reduceLeDiff, Nat.reduceAdd, Nat.reduceMul, Nat.reduceSub, Nat.reduceBEq, reduceCtorEq, ↓zR, zQ, Tr, StA, StT, ww y3 y3', e_liFirstG (y1 + 1) (y2 + 1) (y3 + 1) (by omega) (by omega) (by omega)]
      exact fin y1 y2 y3 g3 y1' y2' y3' (hg3.le (by omega)) (hp2.trans (hpg1.trans (hpg2.trans hpg3)))
  · have n0 : ((x : Int) == 0) = false := by simp; omega
    have n1 : ((x : Int) == 1) = false := by simp; omega
    have n2 : ((x : Int) == 2) = false := by simp; omega
    have n3 : ((x : Int) == 3) = false := by simp; omega
    simp (maxSteps := 1000000) (disch := first | omega | rfl | (simp only [zL, two63, room] <;> omega) | fail) only [↓reduceIte, ↓zP, zW, WOp, evOp, evBin, binI, binSh, binS, evNil, keyIs, keyEq, mkv, AV.cells, AV.sc, optv, bnd, env, put, Env.get, Env.set, Env.del, Env.dels, Env.init, res1, resL, resV, fillP, splice, newRow, Nat.reduceEqDiff, Nat.reduceLT, Nat.reduceLeDiff, Nat.reduceAdd, Nat.reduceMul, Nat.reduceSub, Nat.reduceBEq, reduceCtorEq, ↓zR, zQ, Tr, StA, StT, n0, n1, n2, n3]
    refine c_sureLine hc2 9 (by omega) (by omega) (by omega) ?_
    intro w h3 h1 h4 _ hc3 hp3
    simp (maxSteps := 1000000) (disch := first | omega | rfl | (simp only [zL, two63, room] <;> omega) | fail) only [↓reduceIte, ↓zP, zW, WOp, evOp, evBin, binI, binSh, binS, evNil, keyIs, keyEq, mkv, AV.cells, AV.sc, optv, bnd, env, put, Env.get, Env.set, Env.del, Env.dels, Env.init, res1, resL, resV, fillP, splice, newRow, Nat.reduceEqDiff, Nat.reduceLT, Nat.reduceLeDiff, Nat.reduceAdd, Nat.reduceMul, Nat.reduceSub, Nat.reduceBEq, reduceCtorEq, ↓zR, zQ, Tr, StA, StT]
    exact hp w h3 (by omega) (hc3.le (by omega)) (hp2.trans hp3)
end
end Go.Proofs.YtnamhjdfegohbaaGreatDoor.Ab

/- WHAT BOTH SIDES' functions of lines answer: moves, ways, pairs, jumps. -/
namespace Go.Proofs.YtnamhjdfegohbaaGreatDoor.Ab
open Go
set_option maxRecDepth 100000
set_option maxHeartbeats 4000000

theorem good_all {w : List UInt8} (h : goodLine w = true) : 1 ≤ w.length ∧ w.length ≤ 12 ∧ signs w := by
  unfold goodLine at h
  simp only [Bool.and_eq_true, decide_eq_true_eq] at h
  exact ⟨h.1.1, h.1.2, h.2⟩
theorem c_IsLine (s : List UInt8) (hs : s.length < 2 ^ 60) {h : AH} {post : AV → AH → Prop} (hp : post (.bool (goodLine s)) h) : S 106 [.str s] h post k := by
  refine S_of rfl T106 ?_; unfold fi106
  simp (maxSteps := 1000000) (disch := first | omega | rfl | (simp only [zL, two63, room] <;> omega) | fail) only [↓reduceIte, ↓zP, zW, WOp, evOp, evBin, binI, binSh, binS, evNil, keyIs, keyEq, mkv, AV.cells, AV.sc, optv, bnd, env, put, Env.get, Env.set, Env.del, Env.dels, Env.init, res1, resL, resV, fillP, splice, newRow, Nat.reduceEqDiff, Nat.reduceLT, Nat.reduceLeDiff, Nat.reduceAdd, Nat.reduceMul, Nat.reduceSub, Nat.reduceBEq, reduceCtorEq, ↓zR, zQ, Tr, StA, StT]
  refine c_isLineOf s 12 (by omega) hs ?_
  have : (decide (1 ≤ (s.length : Int) ∧ (s.length : Int) ≤ 12) && s.all isSign) = goodLine s := by
    unfold goodLine
    congr 1
    exact decide_eq_decide.2 (by omega)
  rw [this]
  simp (maxSteps := 1000000) (disch := first | omega | rfl | (simp only [zL, two63, room] <;> omega) | fail) only [↓reduceIte, ↓zP, zW, WOp, evOp, evBin, binI, binSh, binS, evNil, keyIs, keyEq, mkv, AV.cells, AV.sc, optv, bnd, env, put, Env.get, Env.set, Env.del, Env.dels, Env.init, res1, resL, resV, fillP, splice, newRow, Nat.reduceEqDiff, Nat.reduceLT, Nat.reduceLeDiff, Nat.reduceAdd, Nat.reduceMul, Nat.reduceSub, Nat.reduceBEq, reduceCtorEq, ↓zR, zQ, Tr, StA, StT]
  exact hp
theorem e_IsLine (s : List UInt8) (hs : s.length < 2 ^ 60) {h : AH} {post : AV → AH → Prop} : S 106 [.str s] h post k = post (.bool (goodLine s)) h := S_eq fun _ => c_IsLine s hs
theorem e_liGoodG (s : List UInt8) (hs : s.length < 2 ^ 60) {h : AH} {post : AV → AH → Prop} : S 104 [.str s] h post k = post (.bool (goodLine s)) h := S_eq fun _ hp => c_liGood s hs hp
def mvG (kd w : List UInt8) : List (Int × Int) := if goodLine w then movesB w kd else []
theorem c_movesIn (w kd : List UInt8) (hw : w.length < 2 ^ 60) {h : AH} {post : AV → AH → Prop} (hp : ∀ v h', OwL 2 encM h h' v (mvG kd w) → Pre h h' → post (.tup [v, .bool (goodLine w)]) h') : S 59 [.str w, .str kd] h post k := by
  refine S_of rfl T59 ?_; unfold fi59
  unfold mvG at hp
  cases hg : goodLine w <;> rw [hg] at hp
  · simp (maxSteps := 1000000) (disch := first | omega | rfl | (simp only [zL, two63, room] <;> omega) | fail) only [↓reduceIte, ↓zP, zW, WOp, evOp, evBin, binI, binSh, binS, evNil, keyIs, keyEq, mkv, AV.cells, AV.sc, optv, bnd, env, put, Env.get, Env.set, Env.del, Env.dels, Env.init, res1, resL, resV, fillP, splice, newRow, Nat.reduceEqDiff, Nat.reduceLT, Nat.reduceLeDiff, Nat.reduceAdd, Nat.reduceMul, Nat.reduceSub, Nat.reduceBEq, reduceCtorEq, ↓zR, zQ, Tr, StA, StT, e_IsLine w hw, hg]
    exact hp .nilS h OwL.nil (Pre.refl h)
  · have hl := good_all hg
    simp (maxSteps := 1000000) (disch := first | omega | rfl | (simp only [zL, two63, room] <;> omega) | fail) only [↓reduceIte, ↓zP, zW, WOp, evOp, evBin, binI, binSh, binS, evNil, keyIs, keyEq, mkv, AV.cells, AV.sc, optv, bnd, env, put, Env.get, Env.set, Env.del, Env.dels, Env.init, res1, resL, resV, fillP, splice, newRow, Nat.reduceEqDiff, Nat.reduceLT, Nat.reduceLeDiff, Nat.reduceAdd, Nat.reduceMul, Nat.reduceSub, Nat.reduceBEq, reduceCtorEq, ↓zR, zQ, Tr, StA, StT, e_IsLine w hw, hg]
    refine c_moves w kd (by omega) ?_
    intro v h' ho hp'
    simp (maxSteps := 1000000) (disch := first | omega | rfl | (simp only [zL, two63, room] <;> omega) | fail) only [↓reduceIte, ↓zP, zW, WOp, evOp, evBin, binI, binSh, binS, evNil, keyIs, keyEq, mkv, AV.cells, AV.sc, optv, bnd, env, put, Env.get, Env.set, Env.del, Env.dels, Env.init, res1, resL, resV, fillP, splice, newRow, Nat.reduceEqDiff, Nat.reduceLT, Nat.reduceLeDiff, Nat.reduceAdd, Nat.reduceMul, Nat.reduceSub, Nat.reduceBEq, reduceCtorEq, ↓zR, zQ, Tr, StA, StT]
    exact hp v h' ho hp'
theorem c_MovesOf (w : List UInt8) (hw : w.length < 2 ^ 60) {h : AH} {post : AV → AH → Prop} (hp : ∀ v h', OwL 2 encM h h' v (mvG [84, 70] w) → Pre h h' → post (.tup [v, .bool (goodLine w)]) h') : S 19 [.str w] h post k := by
  refine S_of rfl T19 ?_; unfold fi19
  simp (maxSteps := 1000000) (disch := first | omega | rfl | (simp only [zL, two63, room] <;> omega) | fail) only [↓reduceIte, ↓zP, zW, WOp, evOp, evBin, binI, binSh, binS, evNil, keyIs, keyEq, mkv, AV.cells, AV.sc, optv, bnd, env, put, Env.get, Env.set, Env.del, Env.dels, Env.init, res1, resL, resV, fillP, splice, newRow, Nat.reduceEqDiff, Nat.reduceLT, Nat.reduceLeDiff, Nat.reduceAdd, Nat.reduceMul, Nat.reduceSub, Nat.reduceBEq, reduceCtorEq, ↓zR, zQ, Tr, StA, StT]
  refine c_movesIn w [84, 70] hw ?_
  intro v h' ho hp'
  simp (maxSteps := 1000000) (disch := first | omega | rfl | (simp only [zL, two63, room] <;> omega) | fail) only [↓reduceIte, ↓zP, zW, WOp, evOp, evBin, binI, binSh, binS, evNil, keyIs, keyEq, mkv, AV.cells, AV.sc, optv, bnd, env, put, Env.get, Env.set, Env.del, Env.dels, Env.init, res1, resL, resV, fillP, splice, newRow, Nat.reduceEqDiff, Nat.reduceLT, Nat.reduceLeDiff, Nat.reduceAdd, Nat.reduceMul, Nat.reduceSub, Nat.reduceBEq, reduceCtorEq, ↓zR, zQ, Tr, StA, StT]
  exact hp v h' ho hp'
def wayG (w : List UInt8) : Int := if goodLine w then (wayN w : Nat) else 0
def pairsG (w : List UInt8) : Int := if goodLine w then (pairsB w : Nat) else 0
theorem e_PairsToPass (w : List UInt8) (hw : w.length < 2 ^ 60) {h : AH} {post : AV → AH → Prop} : S 381 [.str w] h post k = post (.tup [.int .i64 (pairsG w), .bool (goodLine w)]) h := S_eq fun _ hp => by
  unfold pairsG at hp
  refine S_of rfl T381 ?_; unfold fi381
  cases hg : goodLine w <;> rw [hg] at hp
  · simp (maxSteps := 1000000) (disch := first | omega | rfl | (simp only [zL, two63, room] <;> omega) | fail) only [↓reduceIte, ↓zP, zW, WOp, evOp, evBin, binI, binSh, binS, evNil, keyIs, keyEq, mkv, AV.cells, AV.sc, optv, bnd, env, put, Env.get, Env.set, Env.del, Env.dels, Env.init, res1, resL, resV, fillP, splice, newRow, Nat.reduceEqDiff, Nat.reduceLT, Nat.reduceLeDiff, Nat.reduceAdd, Nat.reduceMul, Nat.reduceSub, Nat.reduceBEq, reduceCtorEq, ↓zR, zQ, Tr, StA, StT, e_IsLine w hw, hg]
    exact hp
  · have hl := good_all hg
    simp (maxSteps := 1000000) (disch := first | omega | rfl | (simp only [zL, two63, room] <;> omega) | fail) only [↓reduceIte, ↓zP, zW, WOp, evOp, evBin, binI, binSh, binS, evNil, keyIs, keyEq, mkv, AV.cells, AV.sc, optv, bnd, env, put, Env.get, Env.set, Env.del, Env.dels, Env.init, res1, resL, resV, fillP, splice, newRow, Nat.reduceEqDiff, Nat.reduceLT, Nat.reduceLeDiff, Nat.reduceAdd, Nat.reduceMul, Nat.reduceSub, Nat.reduceBEq, reduceCtorEq, ↓zR, zQ, Tr, StA, StT, e_IsLine w hw, hg, e_pairs w (by omega)]
    exact hp
def blkG (w : List UInt8) : Bool := goodLine w && (movesB w [84, 70]).isEmpty
def othG (w : List UInt8) : List UInt8 := if goodLine w then otherL w else []
end Go.Proofs.YtnamhjdfegohbaaGreatDoor.Ab

/- CLUES asked for, added and dropped; whether a line fits: both sides. -/
namespace Go.Proofs.YtnamhjdfegohbaaGreatDoor.Ab
open Go
set_option maxRecDepth 100000
set_option maxHeartbeats 4000000

theorem c_IsClueA (n : Int) (c : Clu) {h : AH} {post : AV → AH → Prop} (hp : ∀ h', Pre h h' → post (.bool (decide (1 ≤ n ∧ n ≤ 5) && clueOk n c)) h') : S 183 [.int .i64 n, .agg (encC c)] h post k := by
  obtain ⟨kd, a, b⟩ := c
  by_cases hn : 0 ≤ n ∧ n ≤ 1000
  · exact c_IsClue n kd a b hn hp
  have h5 : ¬ (1 ≤ n ∧ n ≤ 5) := by omega
  have hq := hp _ (Pre.push h (AO.row [.int .i64 kd, .int .i64 a, .int .i64 b] 0 0 false))
  clear hp
  refine S_of rfl T183 ?_; unfold fi183
  simp (maxSteps := 1000000) (disch := first | omega | rfl | (simp only [zL, two63, room] <;> omega) | fail) only [↓reduceIte, ↓zP, zW, WOp, evOp, evBin, binI, binSh, binS, evNil, keyIs, keyEq, mkv, AV.cells, AV.sc, optv, bnd, env, put, Env.get, Env.set, Env.del, Env.dels, Env.init, res1, resL, resV, fillP, splice, newRow, Nat.reduceEqDiff, Nat.reduceLT, Nat.reduceLeDiff, Nat.reduceAdd, Nat.reduceMul, Nat.reduceSub, Nat.reduceBEq, reduceCtorEq, ↓zR, zQ, Tr, StA, StT, e_within, h5]
  simpa [h5] using hq
theorem c_sIsClue (n : Int) (c : Clu) {h : AH} {post : AV → AH → Prop} (hp : ∀ h', Pre h h' → post (.bool (decide (1 ≤ n ∧ n ≤ 5) && clueOk n c)) h') : S 550 [.int .i64 n, .agg (encC c)] h post k := by
  obtain ⟨kd, a, b⟩ := c
  have hq := Pre.push h (AO.row [.int .i64 kd, .int .i64 a, .int .i64 b] 0 0 false)
  refine S_of rfl T550 ?_; unfold fi550
  by_cases h5 : 1 ≤ n ∧ n ≤ 5
  case neg =>
    simp (maxSteps := 1000000) (disch := first | omega | rfl | (simp only [zL, two63, room] <;> omega) | fail) only [↓reduceIte, ↓zP, zW, WOp, evOp, evBin, binI, binSh, binS, evNil, keyIs, keyEq, mkv, AV.cells, AV.sc, optv, bnd, env, put, Env.get, Env.set, Env.del, Env.dels, Env.init, res1, resL, resV, fillP, splice, newRow, Nat.reduceEqDiff, Nat.reduceLT, Nat.reduceLeDiff, Nat.reduceAdd, Nat.reduceMul, Nat.reduceSub, Nat.reduceBEq, reduceCtorEq, ↓zR, zQ, Tr, StA, StT, e_pzCells, h5]
    simpa [h5] using hp _ hq
  simp (maxSteps := 1000000) (disch := first | omega | rfl | (simp only [zL, two63, room] <;> omega) | fail) only [↓reduceIte, ↓zP, zW, WOp, evOp, evBin, binI, binSh, binS, evNil, keyIs, keyEq, mkv, AV.cells, AV.sc, optv, bnd, env, put, Env.get, Env.set, Env.del, Env.dels, Env.init, res1, resL, resV, fillP, splice, newRow, Nat.reduceEqDiff, Nat.reduceLT, Nat.reduceLeDiff, Nat.reduceAdd, Nat.reduceMul, Nat.reduceSub, Nat.reduceBEq, reduceCtorEq, ↓zR, zQ, Tr, StA, StT, e_pzCells, h5]
  refine c_pzClue n kd a b (by omega) ?_
  intro h2 hp2
  simp (maxSteps := 1000000) (disch := first | omega | rfl | (simp only [zL, two63, room] <;> omega) | fail) only [↓reduceIte, ↓zP, zW, WOp, evOp, evBin, binI, binSh, binS, evNil, keyIs, keyEq, mkv, AV.cells, AV.sc, optv, bnd, env, put, Env.get, Env.set, Env.del, Env.dels, Env.init, res1, resL, resV, fillP, splice, newRow, Nat.reduceEqDiff, Nat.reduceLT, Nat.reduceLeDiff, Nat.reduceAdd, Nat.reduceMul, Nat.reduceSub, Nat.reduceBEq, reduceCtorEq, ↓zR, zQ, Tr, StA, StT]
  simpa [h5] using hp _ (hq.trans hp2)

/-! ### Whether a line fits -/
def h5B (w : List UInt8) : Bool := decide (1 ≤ w.length ∧ w.length ≤ 5) && w.all isSign
def dfOk (c : Clu) (w : List UInt8) : Bool := h5B w && clueOk w.length c
def dfB (c : Clu) (w : List UInt8) : Bool := dfOk c w && fitB c w
theorem h5B_iff {w : List UInt8} (h : h5B w = true) : (1 ≤ w.length ∧ w.length ≤ 5) ∧ w.all isSign = true := by
  unfold h5B at h
  rwa [Bool.and_eq_true, decide_eq_true_eq] at h
theorem e_isLine5 (w : List UInt8) (hw : w.length < 2 ^ 60) {h : AH} {post : AV → AH → Prop} : S 82 [.str w, .int .i64 5] h post k = post (.bool (h5B w)) h := S_eq fun post hp => by
  refine c_isLineOf w 5 (by omega) hw ?_
  have : decide (1 ≤ (w.length : Int) ∧ (w.length : Int) ≤ 5) = decide (1 ≤ w.length ∧ w.length ≤ 5) := by
    rw [decide_eq_decide]; omega
  rw [this]
  exact hp
theorem e_pzLine (w : List UInt8) (hw : w.length < 2 ^ 60) {h : AH} {post : AV → AH → Prop} : S 594 [.str w] h post k = post (.bool (h5B w)) h := S_eq fun post hp => by
  refine S_of rfl T594 ?_; unfold fi594
  cases hg : goodLine w
  · have e : h5B w = false := by
      unfold goodLine at hg
      unfold h5B
      rw [Bool.and_eq_false_iff, decide_eq_false_iff_not] at hg ⊢
      rcases hg with hg | hg
      · exact .inl (by omega)
      · exact .inr hg
    simp (maxSteps := 1000000) (disch := first | omega | rfl | (simp only [zL, two63, room] <;> omega) | fail) only [↓reduceIte, ↓zP, zW, WOp, evOp, evBin, binI, binSh, binS, evNil, keyIs, keyEq, mkv, AV.cells, AV.sc, optv, bnd, env, put, Env.get, Env.set, Env.del, Env.dels, Env.init, res1, resL, resV, fillP, splice, newRow, Nat.reduceEqDiff, Nat.reduceLT, Nat.reduceLeDiff, Nat.reduceAdd, Nat.reduceMul, Nat.reduceSub, Nat.reduceBEq, reduceCtorEq, ↓zR, zQ, Tr, StA, StT, e_liGoodG w hw, hg]
    rwa [e] at hp
  · obtain ⟨l1, l2, l3⟩ := good_all hg
    by_cases hl : w.length ≤ 5
    · have e : h5B w = true := by
        unfold h5B
        rw [Bool.and_eq_true, decide_eq_true_eq]
        exact ⟨⟨l1, hl⟩, l3⟩
      have n1 : (w.length : Int) ≤ 5 := by omega
      simp (maxSteps := 1000000) (disch := first | omega | rfl | (simp only [zL, two63, room] <;> omega) | fail) only [↓reduceIte, ↓zP, zW, WOp, evOp, evBin, binI, binSh, binS, evNil, keyIs, keyEq, mkv, AV.cells, AV.sc, optv, bnd, env, put, Env.get, Env.set, Env.del, Env.dels, Env.init, res1, resL, resV, fillP, splice, newRow, Nat.reduceEqDiff, Nat.reduceLT, Nat.reduceLeDiff, Nat.reduceAdd, Nat.reduceMul, Nat.reduceSub, Nat.reduceBEq, reduceCtorEq, ↓zR, zQ, Tr, StA, StT, e_liGoodG w hw, hg, n1]
      rwa [e] at hp
    · have e : h5B w = false := by
        unfold h5B
        rw [Bool.and_eq_false_iff, decide_eq_false_iff_not]
        exact .inl (by omega)
      have n1 : ¬ ((w.length : Int) ≤ 5) := by omega
      simp (maxSteps := 1000000) (disch := first | omega | rfl | (simp only [zL, two63, room] <;> omega) | fail) only [↓reduceIte, ↓zP, zW, WOp, evOp, evBin, binI, binSh, binS, evNil, keyIs, keyEq, mkv, AV.cells, AV.sc, optv, bnd, env, put, Env.get, Env.set, Env.del, Env.dels, Env.init, res1, resL, resV, fillP, splice, newRow, Nat.reduceEqDiff, Nat.reduceLT, Nat.reduceLeDiff, Nat.reduceAdd, Nat.reduceMul, Nat.reduceSub, Nat.reduceBEq, reduceCtorEq, ↓zR, zQ, Tr, StA, StT, e_liGoodG w hw, hg, n1]
      rwa [e] at hp
theorem c_DoesFitA (c : Clu) (w : List UInt8) (hw : w.length < 2 ^ 60) {h : AH} {post : AV → AH → Prop} (hp : ∀ h', Pre h h' → post (.tup [.bool (dfB c w), .bool (dfOk c w)]) h') : S 185 [.agg (encC c), .str w] h post k := by
  have P1 := Pre.push h (AO.row (encC c) 0 0 false)
  have r1 : rdRow (h ++ [AO.row (encC c) 0 0 false]) h.length 0 0 3 = some (encC c) := by rw [rd_last, if_pos (by simp)]; simp
  unfold dfB dfOk at hp
  cases e5 : h5B w
  · rw [e5] at hp
    generalize hg : h ++ [AO.row (encC c) 0 0 false] = g at *
    refine S_of rfl T185 ?_; unfold fi185
    simp (maxSteps := 1000000) (disch := first | omega | rfl | (simp only [zL, two63, room] <;> omega) | fail) only [↓reduceIte, ↓zP, zW, WOp, evOp, evBin, binI, binSh, binS, evNil, keyIs, keyEq, mkv, AV.cells, AV.sc, optv, bnd, env, put, Env.get, Env.set, Env.del, Env.dels, Env.init, res1, resL, resV, fillP, splice, newRow, Nat.reduceEqDiff, Nat.reduceLT, Nat.reduceLeDiff, Nat.reduceAdd, Nat.reduceMul, Nat.reduceSub, Nat.reduceBEq, reduceCtorEq, ↓zR, zQ, Tr, StA, StT, hg, e_isLine5 w hw, e5]
    exact hp _ P1
  · rw [e5] at hp
    obtain ⟨hl, hs⟩ := h5B_iff e5
    cases ec : clueOk w.length c
    · rw [ec] at hp
      generalize hg : h ++ [AO.row (encC c) 0 0 false] = g at *
      refine S_of rfl T185 ?_; unfold fi185
      simp (maxSteps := 1000000) (disch := first | omega | rfl | (simp only [zL, two63, room] <;> omega) | fail) only [↓reduceIte, ↓zP, zW, WOp, evOp, evBin, binI, binSh, binS, evNil, keyIs, keyEq, mkv, AV.cells, AV.sc, optv, bnd, env, put, Env.get, Env.set, Env.del, Env.dels, Env.init, res1, resL, resV, fillP, splice, newRow, Nat.reduceEqDiff, Nat.reduceLT, Nat.reduceLeDiff, Nat.reduceAdd, Nat.reduceMul, Nat.reduceSub, Nat.reduceBEq, reduceCtorEq, ↓zR, zQ, Tr, StA, StT, hg, e_isLine5 w hw, e5, r1]
      refine c_IsClueA w.length c ?_
      intro h2 p2
      rw [ec, Bool.and_false]
      simp (maxSteps := 1000000) (disch := first | omega | rfl | (simp only [zL, two63, room] <;> omega) | fail) only [↓reduceIte, ↓zP, zW, WOp, evOp, evBin, binI, binSh, binS, evNil, keyIs, keyEq, mkv, AV.cells, AV.sc, optv, bnd, env, put, Env.get, Env.set, Env.del, Env.dels, Env.init, res1, resL, resV, fillP, splice, newRow, Nat.reduceEqDiff, Nat.reduceLT, Nat.reduceLeDiff, Nat.reduceAdd, Nat.reduceMul, Nat.reduceSub, Nat.reduceBEq, reduceCtorEq, ↓zR, zQ, Tr, StA, StT]
      exact hp _ (P1.trans p2)
    · rw [ec] at hp
      obtain ⟨kd, a, b⟩ := c
      exact c_DoesFit kd a b w hs hl ec fun h' p => hp h' p
theorem c_sDoesFit (c : Clu) (w : List UInt8) (hw : w.length < 2 ^ 60) {h : AH} {post : AV → AH → Prop} (hp : ∀ h', Pre h h' → post (.tup [.bool (dfB c w), .bool (dfOk c w)]) h') : S 549 [.agg (encC c), .str w] h post k := by
  have P1 := Pre.push h (AO.row (encC c) 0 0 false)
  have r1 : rdRow (h ++ [AO.row (encC c) 0 0 false]) h.length 0 0 3 = some (encC c) := by rw [rd_last, if_pos (by simp)]; simp
  generalize hg : h ++ [AO.row (encC c) 0 0 false] = g at *
  obtain ⟨kd, a, b⟩ := c
  unfold dfB dfOk at hp
  refine S_of rfl T549 ?_; unfold fi549
  cases e5 : h5B w
  · rw [e5] at hp
    simp (maxSteps := 1000000) (disch := first | omega | rfl | (simp only [zL, two63, room] <;> omega) | fail) only [↓reduceIte, ↓zP, zW, WOp, evOp, evBin, binI, binSh, binS, evNil, keyIs, keyEq, mkv, AV.cells, AV.sc, optv, bnd, env, put, Env.get, Env.set, Env.del, Env.dels, Env.init, res1, resL, resV, fillP, splice, newRow, Nat.reduceEqDiff, Nat.reduceLT, Nat.reduceLeDiff, Nat.reduceAdd, Nat.reduceMul, Nat.reduceSub, Nat.reduceBEq, reduceCtorEq, ↓zR, zQ, Tr, StA, StT, hg, e_pzLine w hw, e5]
    exact hp _ P1
  · rw [e5] at hp
    obtain ⟨hl, hs⟩ := h5B_iff e5
    simp (maxSteps := 1000000) (disch := first | omega | rfl | (simp only [zL, two63, room] <;> omega) | fail) only [↓reduceIte, ↓zP, zW, WOp, evOp, evBin, binI, binSh, binS, evNil, keyIs, keyEq, mkv, AV.cells, AV.sc, optv, bnd, env, put, Env.get, Env.set, Env.del, Env.dels, Env.init, res1, resL, resV, fillP, splice, newRow, Nat.reduceEqDiff, Nat.reduceLT, Nat.reduceLeDiff, Nat.reduceAdd, Nat.reduceMul, Nat.reduceSub, Nat.reduceBEq, reduceCtorEq, ↓zR, zQ, Tr, StA, StT, hg, e_pzLine w hw, e5, r1]
    refine c_pzClue w.length kd a b (by omega) ?_
    intro h2 p2
    have r2 := rdRow_pre p2 r1
    cases ec : clueOk w.length (kd, a, b)
    · rw [ec] at hp
      simp (maxSteps := 1000000) (disch := first | omega | rfl | (simp only [zL, two63, room] <;> omega) | fail) only [↓reduceIte, ↓zP, zW, WOp, evOp, evBin, binI, binSh, binS, evNil, keyIs, keyEq, mkv, AV.cells, AV.sc, optv, bnd, env, put, Env.get, Env.set, Env.del, Env.dels, Env.init, res1, resL, resV, fillP, splice, newRow, Nat.reduceEqDiff, Nat.reduceLT, Nat.reduceLeDiff, Nat.reduceAdd, Nat.reduceMul, Nat.reduceSub, Nat.reduceBEq, reduceCtorEq, ↓zR, zQ, Tr, StA, StT]
      exact hp _ (P1.trans p2)
    · rw [ec] at hp
      have hcell : kd = 0 → 0 ≤ a ∧ a < w.length := by
        rintro rfl
        simp only [clueOk, if_true, Bool.and_eq_true, decide_eq_true_eq] at ec
        omega
      simp (maxSteps := 1000000) (disch := first | omega | rfl | (simp only [zL, two63, room] <;> omega) | fail) only [↓reduceIte, ↓zP, zW, WOp, evOp, evBin, binI, binSh, binS, evNil, keyIs, keyEq, mkv, AV.cells, AV.sc, optv, bnd, env, put, Env.get, Env.set, Env.del, Env.dels, Env.init, res1, resL, resV, fillP, splice, newRow, Nat.reduceEqDiff, Nat.reduceLT, Nat.reduceLeDiff, Nat.reduceAdd, Nat.reduceMul, Nat.reduceSub, Nat.reduceBEq, reduceCtorEq, ↓zR, zQ, Tr, StA, StT, r2]
      refine c_pzFits kd a b w hs (by omega) hcell ?_
      intro h3 p3
      simp (maxSteps := 1000000) (disch := first | omega | rfl | (simp only [zL, two63, room] <;> omega) | fail) only [↓reduceIte, ↓zP, zW, WOp, evOp, evBin, binI, binSh, binS, evNil, keyIs, keyEq, mkv, AV.cells, AV.sc, optv, bnd, env, put, Env.get, Env.set, Env.del, Env.dels, Env.init, res1, resL, resV, fillP, splice, newRow, Nat.reduceEqDiff, Nat.reduceLT, Nat.reduceLeDiff, Nat.reduceAdd, Nat.reduceMul, Nat.reduceSub, Nat.reduceBEq, reduceCtorEq, ↓zR, zQ, Tr, StA, StT]
      exact hp _ (P1.trans (p2.trans p3))

/-! ### Clues added and dropped -/
def adB (n : Int) (cs : List Clu) (c : Clu) : Bool := goodP n cs && (clueOk n c && !decide (cs.length = 6))
def adC (n : Int) (cs : List Clu) (c : Clu) : List Clu := if adB n cs c then cs ++ [c] else []
def adN (n : Int) (cs : List Clu) (c : Clu) : Int := if adB n cs c then n else 0
def drB (n : Int) (cs : List Clu) (j : Int) : Bool := goodP n cs && decide (0 ≤ j ∧ j ≤ (cs.length : Int) - 1)
def drC (n : Int) (cs : List Clu) (j : Int) : List Clu := if drB n cs j then wo cs j.toNat else []
def drN (n : Int) (cs : List Clu) (j : Int) : Int := if drB n cs j then n else 0
theorem rowP (h : AH) (n : Int) (v : AV) : rdRow (h ++ [AO.row [.int .i64 n, v] 0 0 false]) h.length 0 0 2 = some [.int .i64 n, v] ∧ rdRow (h ++ [AO.row [.int .i64 n, v] 0 0 false]) h.length 0 0 1 = some [.int .i64 n] ∧ rdRow (h ++ [AO.row [.int .i64 n, v] 0 0 false]) h.length 0 1 1 = some [v] := by
  simp [rd_last]
theorem rowC (h : AH) (c : Clu) : rdRow (h ++ [AO.row (encC c) 0 0 false]) h.length 0 0 3 = some (encC c) := by rw [rd_last, if_pos (by simp)]; simp
theorem zrow (h : AH) (o : AO) : (h ++ [o])[h.length]? = some o := by simp
theorem c_AddClue (n : Int) (c : Clu) {v : AV} {cs : List Clu} (hlen : cs.length < 2 ^ 63) {h : AH} (hs : Slc 3 encC h v cs) {post : AV → AH → Prop} (hp : ∀ v' h', OwL 3 encC h h' v' (adC n cs c) → Pre h h' → post (.tup [pzV (adN n cs c) v', .bool (adB n cs c)]) h') : S 545 [pzV n v, .agg (encC c)] h post k := by
  have hsc := (sl_cells hs).2
  unfold AV.sc at hsc
  have hv0 := fun g => Slc.lenV (hs) (g := g) (ρ := fun _ => _) (x := .t 0) rfl; simp only [evOp] at hv0
  have P1 := Pre.push h (AO.row [.int .i64 n, v] 0 0 false)
  obtain ⟨r1, r11, r1v⟩ := rowP h n v
  generalize hg1 : h ++ [AO.row [.int .i64 n, v] 0 0 false] = g1 at *
  have P2 := Pre.push g1 (AO.row (encC c) 0 0 false)
  have rc := rowC g1 c
  generalize hg2 : g1 ++ [AO.row (encC c) 0 0 false] = g2 at *
  have P3 := Pre.push g2 (AO.row [.int .i64 0, .nilS] 0 0 false)
  have z3 := zrow g2 (AO.row [.int .i64 0, .nilS] 0 0 false)
  have l3 : g2.length < (g2 ++ [AO.row [.int .i64 0, .nilS] 0 0 false]).length := by simp
  generalize hg3 : g2 ++ [AO.row [.int .i64 0, .nilS] 0 0 false] = g3 at *
  have P := P1.trans (P2.trans P3)
  have r3 := rdRow_pre (P2.trans P3) r1
  have r31 := rdRow_pre (P2.trans P3) r11
  have r3v := rdRow_pre (P2.trans P3) r1v
  have r3c := rdRow_pre P3 rc
  refine S_of rfl T545 ?_; unfold fi545
  simp (maxSteps := 1000000) (disch := first | omega | rfl | (simp only [zL, two63, room] <;> omega) | fail) only [↓reduceIte, ↓zP, zW, WOp, evOp, evBin, binI, binSh, binS, evNil, keyIs, keyEq, mkv, AV.cells, AV.sc, optv, bnd, env, put, Env.get, Env.set, Env.del, Env.dels, Env.init, res1, resL, resV, fillP, splice, newRow, Nat.reduceEqDiff, Nat.reduceLT, Nat.reduceLeDiff, Nat.reduceAdd, Nat.reduceMul, Nat.reduceSub, Nat.reduceBEq, reduceCtorEq, ↓zR, zQ, Tr, StA, StT, hsc, hg1, hg2, hg3, r3]
  refine c_IsPuzzleA n hlen (hs.pre P) ?_
  intro h4 p4
  have c4 : h4[g2.length]? = some (AO.row [.int .i64 0, .nilS] 0 0 false) := by rw [p4.2 _ l3]; exact z3
  have l4 : g2.length < h4.length := by have := p4.1; omega
  have gl : h.length < g2.length := by have := P2.1; have := P1.1; rw [← hg1] at *; simp at *; omega
  cases e : goodP n cs
  · have e1 : adB n cs c = false := by unfold adB; rw [e]; rfl
    unfold adC adN at hp
    rw [e1] at hp
    simp (maxSteps := 1000000) (disch := first | omega | rfl | (simp only [zL, two63, room] <;> omega) | fail) only [↓reduceIte, ↓zP, zW, WOp, evOp, evBin, binI, binSh, binS, evNil, keyIs, keyEq, mkv, AV.cells, AV.sc, optv, bnd, env, put, Env.get, Env.set, Env.del, Env.dels, Env.init, res1, resL, resV, fillP, splice, newRow, Nat.reduceEqDiff, Nat.reduceLT, Nat.reduceLeDiff, Nat.reduceAdd, Nat.reduceMul, Nat.reduceSub, Nat.reduceBEq, reduceCtorEq, ↓zR, zQ, Tr, StA, StT, wr_of c4, List.length_set, l4]
    exact hp .nilS _ OwL.nil ((P.trans p4).set (by omega))
  obtain ⟨m, rfl, m1, m5, m6, mok⟩ := goodP_iff e
  have hn5 : (1 : Int) ≤ (m : Int) ∧ (m : Int) ≤ 5 := by omega
  have q41 := rdRow_pre p4 r31
  have q4v := rdRow_pre p4 r3v
  have r4c := rdRow_pre p4 r3c
  have hb1 : (decide ((1 : Int) ≤ (m : Int) ∧ (m : Int) ≤ 5) && clueOk (m : Int) c) = clueOk (m : Int) c := by rw [decide_eq_true hn5]; rfl
  have hb2 : clueOk (m : Int) (c.1, c.2.1, c.2.2) = clueOk (m : Int) c := rfl
  simp (maxSteps := 1000000) (disch := first | omega | rfl | (simp only [zL, two63, room] <;> omega) | fail) only [↓reduceIte, ↓zP, zW, WOp, evOp, evBin, binI, binSh, binS, evNil, keyIs, keyEq, mkv, AV.cells, AV.sc, optv, bnd, env, put, Env.get, Env.set, Env.del, Env.dels, Env.init, res1, resL, resV, fillP, splice, newRow, Nat.reduceEqDiff, Nat.reduceLT, Nat.reduceLeDiff, Nat.reduceAdd, Nat.reduceMul, Nat.reduceSub, Nat.reduceBEq, reduceCtorEq, ↓zR, zQ, Tr, StA, StT, q41, r4c]
  refine c_IsClueA m c ?_
  intro h5 p5
  rw [hb1]
  have c5 : h5[g2.length]? = some (AO.row [.int .i64 0, .nilS] 0 0 false) := by rw [p5.2 _ l4]; exact c4
  have l5 : g2.length < h5.length := by have := p5.1; omega
  cases ec : clueOk (m : Int) c
  · have e1 : adB m cs c = false := by unfold adB; rw [e, ec]; rfl
    unfold adC adN at hp
    rw [e1] at hp
    simp (maxSteps := 1000000) (disch := first | omega | rfl | (simp only [zL, two63, room] <;> omega) | fail) only [↓reduceIte, ↓zP, zW, WOp, evOp, evBin, binI, binSh, binS, evNil, keyIs, keyEq, mkv, AV.cells, AV.sc, optv, bnd, env, put, Env.get, Env.set, Env.del, Env.dels, Env.init, res1, resL, resV, fillP, splice, newRow, Nat.reduceEqDiff, Nat.reduceLT, Nat.reduceLeDiff, Nat.reduceAdd, Nat.reduceMul, Nat.reduceSub, Nat.reduceBEq, reduceCtorEq, ↓zR, zQ, Tr, StA, StT, wr_of c5, List.length_set, l5]
    exact hp .nilS _ OwL.nil ((P.trans (p4.trans p5)).set (by omega))
  have q51 := rdRow_pre p5 q41
  have q5v := rdRow_pre p5 q4v
  have r5c := rdRow_pre p5 r4c
  by_cases h6 : cs.length = 6
  · have e1 : adB m cs c = false := by unfold adB; rw [e, ec, decide_eq_true h6]; rfl
    unfold adC adN at hp
    rw [e1] at hp
    have n6 : ((cs.length : Int) == 6) = true := by rw [h6]; rfl
    simp (maxSteps := 1000000) (disch := first | omega | rfl | (simp only [zL, two63, room] <;> omega) | fail) only [↓reduceIte, ↓zP, zW, WOp, evOp, evBin, binI, binSh, binS, evNil, keyIs, keyEq, mkv, AV.cells, AV.sc, optv, bnd, env, put, Env.get, Env.set, Env.del, Env.dels, Env.init, res1, resL, resV, fillP, splice, newRow, Nat.reduceEqDiff, Nat.reduceLT, Nat.reduceLeDiff, Nat.reduceAdd, Nat.reduceMul, Nat.reduceSub, Nat.reduceBEq, reduceCtorEq, ↓zR, zQ, Tr, StA, StT, q5v, hv0, n6, wr_of c5, List.length_set, l5]
    exact hp .nilS _ OwL.nil ((P.trans (p4.trans p5)).set (by omega))
  · have e1 : adB m cs c = true := by unfold adB; rw [e, ec, decide_eq_false h6]; rfl
    unfold adC adN at hp
    rw [e1] at hp
    simp only [if_true] at hp
    have n6 : ((cs.length : Int) == 6) = false := by simp; omega
    have hs5 := hs.pre (P.trans (p4.trans p5))
    simp (maxSteps := 1000000) (disch := first | omega | rfl | (simp only [zL, two63, room] <;> omega) | fail) only [↓reduceIte, ↓zP, zW, WOp, evOp, evBin, binI, binSh, binS, evNil, keyIs, keyEq, mkv, AV.cells, AV.sc, optv, bnd, env, put, Env.get, Env.set, Env.del, Env.dels, Env.init, res1, resL, resV, fillP, splice, newRow, Nat.reduceEqDiff, Nat.reduceLT, Nat.reduceLeDiff, Nat.reduceAdd, Nat.reduceMul, Nat.reduceSub, Nat.reduceBEq, reduceCtorEq, ↓zR, zQ, Tr, StA, StT, q5v, hv0, n6, q51]
    refine w_drw ?_
    simp (maxSteps := 1000000) (disch := first | omega | rfl | (simp only [zL, two63, room] <;> omega) | fail) only [↓reduceIte, ↓zP, zW, WOp, evOp, evBin, binI, binSh, binS, evNil, keyIs, keyEq, mkv, AV.cells, AV.sc, optv, bnd, env, put, Env.get, Env.set, Env.del, Env.dels, Env.init, res1, resL, resV, fillP, splice, newRow, Nat.reduceEqDiff, Nat.reduceLT, Nat.reduceLeDiff, Nat.reduceAdd, Nat.reduceMul, Nat.reduceSub, Nat.reduceBEq, reduceCtorEq, ↓zR, zQ, Tr, StA, StT, q51, q5v]
    refine c_CloneC (by omega) hs5 ?_
    intro v6 h6 o6 p6
    have ha := q51
    have hd := q51
    obtain ⟨v7, h7, ha7, ho7, hp7⟩ := apL hlC scC ((o6.pre (Pre.push h6 (AO.row (encC c) 0 0 false))).old (Nat.le_refl _)) (p6.trans (Pre.push h6 (AO.row (encC c) 0 0 false))) c (by omega)
    have c7 : h7[g2.length]? = some (AO.row [.int .i64 0, .nilS] 0 0 false) := by rw [hp7.2 _ l5]; exact c5
    have l7 : g2.length < h7.length := by have := hp7.1; omega
    have w1 := (sl_cells ho7.slc).1
    have w2 := (sl_cells ho7.slc).2
    simp only [AV.cells] at w1
    unfold AV.sc at w2
    have q61 := rdRow_pre p6 q51
    have q6v := rdRow_pre p6 q5v
    have r6c := rdRow_pre p6 r5c
    have q71 := rdRow_pre hp7 q51
    have q7v := rdRow_pre hp7 q5v
    have r7c := rdRow_pre hp7 r5c
    have lh6 := rd_lt q61
    have lg6 := rd_lt r6c
    simp (maxSteps := 1000000) (disch := first | omega | rfl | (simp only [zL, two63, room] <;> omega) | fail) only [↓reduceIte, ↓zP, zW, WOp, evOp, evBin, binI, binSh, binS, evNil, keyIs, keyEq, mkv, AV.cells, AV.sc, optv, bnd, env, put, Env.get, Env.set, Env.del, Env.dels, Env.init, res1, resL, resV, fillP, splice, newRow, Nat.reduceEqDiff, Nat.reduceLT, Nat.reduceLeDiff, Nat.reduceAdd, Nat.reduceMul, Nat.reduceSub, Nat.reduceBEq, reduceCtorEq, ↓zR, zQ, Tr, StA, StT, q51, q5v, q61, q6v, q71, q7v, r5c, r6c, r7c, ha, hd, ha7, wr_of c7, List.length_set, l7, w1, w2]
    exact hp v7 _ (own_base (own_set (b := h5) ho7 (by omega)) (by have := P.1; have := p4.1; have := p5.1; omega)) (((P.trans p4).trans (p5.trans hp7)).set (by omega))
theorem c_sAddClue (n : Int) (c : Clu) {v : AV} {cs : List Clu} (hlen : cs.length < 2 ^ 63) {h : AH} (hs : Slc 3 encC h v cs) {post : AV → AH → Prop} (hp : ∀ v' h', OwL 3 encC h h' v' (adC n cs c) → Pre h h' → post (.tup [pzV (adN n cs c) v', .bool (adB n cs c)]) h') : S 546 [pzV n v, .agg (encC c)] h post k := by
  have hsc := (sl_cells hs).2
  unfold AV.sc at hsc
  have hv0 := fun g => Slc.lenV (hs) (g := g) (ρ := fun _ => _) (x := .t 0) rfl; simp only [evOp] at hv0
  have P1 := Pre.push h (AO.row [.int .i64 n, v] 0 0 false)
  obtain ⟨r1, r11, r1v⟩ := rowP h n v
  generalize hg1 : h ++ [AO.row [.int .i64 n, v] 0 0 false] = g1 at *
  have P2 := Pre.push g1 (AO.row (encC c) 0 0 false)
  have rc := rowC g1 c
  generalize hg2 : g1 ++ [AO.row (encC c) 0 0 false] = g2 at *
  have P3 := Pre.push g2 (AO.row [.int .i64 0, .nilS] 0 0 false)
  have z3 := zrow g2 (AO.row [.int .i64 0, .nilS] 0 0 false)
  have l3 : g2.length < (g2 ++ [AO.row [.int .i64 0, .nilS] 0 0 false]).length := by simp
  generalize hg3 : g2 ++ [AO.row [.int .i64 0, .nilS] 0 0 false] = g3 at *
  have P := P1.trans (P2.trans P3)
  have r3 := rdRow_pre (P2.trans P3) r1
  have r31 := rdRow_pre (P2.trans P3) r11
  have r3v := rdRow_pre (P2.trans P3) r1v
  have r3c := rdRow_pre P3 rc
  refine S_of rfl T546 ?_; unfold fi546
  simp (maxSteps := 1000000) (disch := first | omega | rfl | (simp only [zL, two63, room] <;> omega) | fail) only [↓reduceIte, ↓zP, zW, WOp, evOp, evBin, binI, binSh, binS, evNil, keyIs, keyEq, mkv, AV.cells, AV.sc, optv, bnd, env, put, Env.get, Env.set, Env.del, Env.dels, Env.init, res1, resL, resV, fillP, splice, newRow, Nat.reduceEqDiff, Nat.reduceLT, Nat.reduceLeDiff, Nat.reduceAdd, Nat.reduceMul, Nat.reduceSub, Nat.reduceBEq, reduceCtorEq, ↓zR, zQ, Tr, StA, StT, hsc, hg1, hg2, hg3, r3]
  refine c_pzGoodA n hlen (hs.pre P) ?_
  intro h4 p4
  have c4 : h4[g2.length]? = some (AO.row [.int .i64 0, .nilS] 0 0 false) := by rw [p4.2 _ l3]; exact z3
  have l4 : g2.length < h4.length := by have := p4.1; omega
  have gl : h.length < g2.length := by have := P2.1; have := P1.1; rw [← hg1] at *; simp at *; omega
  cases e : goodP n cs
  · have e1 : adB n cs c = false := by unfold adB; rw [e]; rfl
    unfold adC adN at hp
    rw [e1] at hp
    simp (maxSteps := 1000000) (disch := first | omega | rfl | (simp only [zL, two63, room] <;> omega) | fail) only [↓reduceIte, ↓zP, zW, WOp, evOp, evBin, binI, binSh, binS, evNil, keyIs, keyEq, mkv, AV.cells, AV.sc, optv, bnd, env, put, Env.get, Env.set, Env.del, Env.dels, Env.init, res1, resL, resV, fillP, splice, newRow, Nat.reduceEqDiff, Nat.reduceLT, Nat.reduceLeDiff, Nat.reduceAdd, Nat.reduceMul, Nat.reduceSub, Nat.reduceBEq, reduceCtorEq, ↓zR, zQ, Tr, StA, StT, wr_of c4, List.length_set, l4]
    exact hp .nilS _ OwL.nil ((P.trans p4).set (by omega))
  obtain ⟨m, rfl, m1, m5, m6, mok⟩ := goodP_iff e
  have hn5 : (1 : Int) ≤ (m : Int) ∧ (m : Int) ≤ 5 := by omega
  have q41 := rdRow_pre p4 r31
  have q4v := rdRow_pre p4 r3v
  have r4c := rdRow_pre p4 r3c
  have hb1 : (decide ((1 : Int) ≤ (m : Int) ∧ (m : Int) ≤ 5) && clueOk (m : Int) c) = clueOk (m : Int) c := by rw [decide_eq_true hn5]; rfl
  have hb2 : clueOk (m : Int) (c.1, c.2.1, c.2.2) = clueOk (m : Int) c := rfl
  simp (maxSteps := 1000000) (disch := first | omega | rfl | (simp only [zL, two63, room] <;> omega) | fail) only [↓reduceIte, ↓zP, zW, WOp, evOp, evBin, binI, binSh, binS, evNil, keyIs, keyEq, mkv, AV.cells, AV.sc, optv, bnd, env, put, Env.get, Env.set, Env.del, Env.dels, Env.init, res1, resL, resV, fillP, splice, newRow, Nat.reduceEqDiff, Nat.reduceLT, Nat.reduceLeDiff, Nat.reduceAdd, Nat.reduceMul, Nat.reduceSub, Nat.reduceBEq, reduceCtorEq, ↓zR, zQ, Tr, StA, StT, q41, r4c]
  refine c_pzClue m c.1 c.2.1 c.2.2 (by omega) ?_
  intro h5 p5
  rw [hb2]
  have c5 : h5[g2.length]? = some (AO.row [.int .i64 0, .nilS] 0 0 false) := by rw [p5.2 _ l4]; exact c4
  have l5 : g2.length < h5.length := by have := p5.1; omega
  cases ec : clueOk (m : Int) c
  · have e1 : adB m cs c = false := by unfold adB; rw [e, ec]; rfl
    unfold adC adN at hp
    rw [e1] at hp
    simp (maxSteps := 1000000) (disch := first | omega | rfl | (simp only [zL, two63, room] <;> omega) | fail) only [↓reduceIte, ↓zP, zW, WOp, evOp, evBin, binI, binSh, binS, evNil, keyIs, keyEq, mkv, AV.cells, AV.sc, optv, bnd, env, put, Env.get, Env.set, Env.del, Env.dels, Env.init, res1, resL, resV, fillP, splice, newRow, Nat.reduceEqDiff, Nat.reduceLT, Nat.reduceLeDiff, Nat.reduceAdd, Nat.reduceMul, Nat.reduceSub, Nat.reduceBEq, reduceCtorEq, ↓zR, zQ, Tr, StA, StT, wr_of c5, List.length_set, l5]
    exact hp .nilS _ OwL.nil ((P.trans (p4.trans p5)).set (by omega))
  have q51 := rdRow_pre p5 q41
  have q5v := rdRow_pre p5 q4v
  have r5c := rdRow_pre p5 r4c
  by_cases h6 : cs.length = 6
  · have e1 : adB m cs c = false := by unfold adB; rw [e, ec, decide_eq_true h6]; rfl
    unfold adC adN at hp
    rw [e1] at hp
    have n6 : ((cs.length : Int) == 6) = true := by rw [h6]; rfl
    simp (maxSteps := 1000000) (disch := first | omega | rfl | (simp only [zL, two63, room] <;> omega) | fail) only [↓reduceIte, ↓zP, zW, WOp, evOp, evBin, binI, binSh, binS, evNil, keyIs, keyEq, mkv, AV.cells, AV.sc, optv, bnd, env, put, Env.get, Env.set, Env.del, Env.dels, Env.init, res1, resL, resV, fillP, splice, newRow, Nat.reduceEqDiff, Nat.reduceLT, Nat.reduceLeDiff, Nat.reduceAdd, Nat.reduceMul, Nat.reduceSub, Nat.reduceBEq, reduceCtorEq, ↓zR, zQ, Tr, StA, StT, q5v, hv0, n6, wr_of c5, List.length_set, l5]
    exact hp .nilS _ OwL.nil ((P.trans (p4.trans p5)).set (by omega))
  · have e1 : adB m cs c = true := by unfold adB; rw [e, ec, decide_eq_false h6]; rfl
    unfold adC adN at hp
    rw [e1] at hp
    simp only [if_true] at hp
    have n6 : ((cs.length : Int) == 6) = false := by simp; omega
    have hs5 := hs.pre (P.trans (p4.trans p5))
    rcases hs5.cases with ⟨rfl, rfl⟩ | ⟨rfl, rfl⟩ | ⟨cc, kk, off, rfl⟩
    · have ha : apRow h5 3 .empS 0 [] = some (.empS, h5) := rfl
      have o6 : OwL 3 encC h5 h5 .empS ([] : List Clu) := OwL.emp
      have p6 := Pre.refl h5
      have hd := q51
      simp (maxSteps := 1000000) (disch := first | omega | rfl | (simp only [zL, two63, room] <;> omega) | fail) only [↓reduceIte, ↓zP, zW, WOp, evOp, evBin, binI, binSh, binS, evNil, keyIs, keyEq, mkv, AV.cells, AV.sc, optv, bnd, env, put, Env.get, Env.set, Env.del, Env.dels, Env.init, res1, resL, resV, fillP, splice, newRow, Nat.reduceEqDiff, Nat.reduceLT, Nat.reduceLeDiff, Nat.reduceAdd, Nat.reduceMul, Nat.reduceSub, Nat.reduceBEq, reduceCtorEq, ↓zR, zQ, Tr, StA, StT, q5v, n6, q51]
      refine w_drw ?_
      obtain ⟨v7, h7, ha7, ho7, hp7⟩ := apL hlC scC ((o6.pre (Pre.push h5 (AO.row (encC c) 0 0 false))).old (Nat.le_refl _)) (p6.trans (Pre.push h5 (AO.row (encC c) 0 0 false))) c (by omega)
      have c7 : h7[g2.length]? = some (AO.row [.int .i64 0, .nilS] 0 0 false) := by rw [hp7.2 _ l5]; exact c5
      have l7 : g2.length < h7.length := by have := hp7.1; omega
      have w1 := (sl_cells ho7.slc).1
      have w2 := (sl_cells ho7.slc).2
      simp only [AV.cells] at w1
      unfold AV.sc at w2
      have q61 := rdRow_pre p6 q51
      have q6v := rdRow_pre p6 q5v
      have r6c := rdRow_pre p6 r5c
      have q71 := rdRow_pre hp7 q51
      have q7v := rdRow_pre hp7 q5v
      have r7c := rdRow_pre hp7 r5c
      have lh6 := rd_lt q61
      have lg6 := rd_lt r6c
      simp (maxSteps := 1000000) (disch := first | omega | rfl | (simp only [zL, two63, room] <;> omega) | fail) only [↓reduceIte, ↓zP, zW, WOp, evOp, evBin, binI, binSh, binS, evNil, keyIs, keyEq, mkv, AV.cells, AV.sc, optv, bnd, env, put, Env.get, Env.set, Env.del, Env.dels, Env.init, res1, resL, resV, fillP, splice, newRow, Nat.reduceEqDiff, Nat.reduceLT, Nat.reduceLeDiff, Nat.reduceAdd, Nat.reduceMul, Nat.reduceSub, Nat.reduceBEq, reduceCtorEq, ↓zR, zQ, Tr, StA, StT, q51, q5v, q61, q6v, q71, q7v, r5c, r6c, r7c, ha, hd, ha7, wr_of c7, List.length_set, l7, w1, w2]
      exact hp v7 _ (own_base (own_set (b := h5) ho7 (by omega)) (by have := P.1; have := p4.1; have := p5.1; omega)) (((P.trans p4).trans (p5.trans hp7)).set (by omega))
    · have ha : apRow h5 3 .empS 0 [] = some (.empS, h5) := rfl
      have o6 : OwL 3 encC h5 h5 .empS ([] : List Clu) := OwL.emp
      have p6 := Pre.refl h5
      have hd := q51
      simp (maxSteps := 1000000) (disch := first | omega | rfl | (simp only [zL, two63, room] <;> omega) | fail) only [↓reduceIte, ↓zP, zW, WOp, evOp, evBin, binI, binSh, binS, evNil, keyIs, keyEq, mkv, AV.cells, AV.sc, optv, bnd, env, put, Env.get, Env.set, Env.del, Env.dels, Env.init, res1, resL, resV, fillP, splice, newRow, Nat.reduceEqDiff, Nat.reduceLT, Nat.reduceLeDiff, Nat.reduceAdd, Nat.reduceMul, Nat.reduceSub, Nat.reduceBEq, reduceCtorEq, ↓zR, zQ, Tr, StA, StT, q5v, n6, q51]
      refine w_drw ?_
      obtain ⟨v7, h7, ha7, ho7, hp7⟩ := apL hlC scC ((o6.pre (Pre.push h5 (AO.row (encC c) 0 0 false))).old (Nat.le_refl _)) (p6.trans (Pre.push h5 (AO.row (encC c) 0 0 false))) c (by omega)
      have c7 : h7[g2.length]? = some (AO.row [.int .i64 0, .nilS] 0 0 false) := by rw [hp7.2 _ l5]; exact c5
      have l7 : g2.length < h7.length := by have := hp7.1; omega
      have w1 := (sl_cells ho7.slc).1
      have w2 := (sl_cells ho7.slc).2
      simp only [AV.cells] at w1
      unfold AV.sc at w2
      have q61 := rdRow_pre p6 q51
      have q6v := rdRow_pre p6 q5v
      have r6c := rdRow_pre p6 r5c
      have q71 := rdRow_pre hp7 q51
      have q7v := rdRow_pre hp7 q5v
      have r7c := rdRow_pre hp7 r5c
      have lh6 := rd_lt q61
      have lg6 := rd_lt r6c
      simp (maxSteps := 1000000) (disch := first | omega | rfl | (simp only [zL, two63, room] <;> omega) | fail) only [↓reduceIte, ↓zP, zW, WOp, evOp, evBin, binI, binSh, binS, evNil, keyIs, keyEq, mkv, AV.cells, AV.sc, optv, bnd, env, put, Env.get, Env.set, Env.del, Env.dels, Env.init, res1, resL, resV, fillP, splice, newRow, Nat.reduceEqDiff, Nat.reduceLT, Nat.reduceLeDiff, Nat.reduceAdd, Nat.reduceMul, Nat.reduceSub, Nat.reduceBEq, reduceCtorEq, ↓zR, zQ, Tr, StA, StT, q51, q5v, q61, q6v, q71, q7v, r5c, r6c, r7c, ha, hd, ha7, wr_of c7, List.length_set, l7, w1, w2]
      exact hp v7 _ (own_base (own_set (b := h5) ho7 (by omega)) (by have := P.1; have := p4.1; have := p5.1; omega)) (((P.trans p4).trans (p5.trans hp7)).set (by omega))
    · obtain ⟨v6, h6, ha, o6, p6⟩ := apM hlC scC (OwL.emp (h0 := h5) (h := h5)) (Pre.refl h5) cs (by simp; omega)
      rw [List.nil_append] at o6
      have hd := hs5.all.2.2
      simp (maxSteps := 1000000) (disch := first | omega | rfl | (simp only [zL, two63, room] <;> omega) | fail) only [↓reduceIte, ↓zP, zW, WOp, evOp, evBin, binI, binSh, binS, evNil, keyIs, keyEq, mkv, AV.cells, AV.sc, optv, bnd, env, put, Env.get, Env.set, Env.del, Env.dels, Env.init, res1, resL, resV, fillP, splice, newRow, Nat.reduceEqDiff, Nat.reduceLT, Nat.reduceLeDiff, Nat.reduceAdd, Nat.reduceMul, Nat.reduceSub, Nat.reduceBEq, reduceCtorEq, ↓zR, zQ, Tr, StA, StT, q5v, n6, q51]
      refine w_drw ?_
      obtain ⟨v7, h7, ha7, ho7, hp7⟩ := apL hlC scC ((o6.pre (Pre.push h6 (AO.row (encC c) 0 0 false))).old (Nat.le_refl _)) (p6.trans (Pre.push h6 (AO.row (encC c) 0 0 false))) c (by omega)
      have c7 : h7[g2.length]? = some (AO.row [.int .i64 0, .nilS] 0 0 false) := by rw [hp7.2 _ l5]; exact c5
      have l7 : g2.length < h7.length := by have := hp7.1; omega
      have w1 := (sl_cells ho7.slc).1
      have w2 := (sl_cells ho7.slc).2
      simp only [AV.cells] at w1
      unfold AV.sc at w2
      have q61 := rdRow_pre p6 q51
      have q6v := rdRow_pre p6 q5v
      have r6c := rdRow_pre p6 r5c
      have q71 := rdRow_pre hp7 q51
      have q7v := rdRow_pre hp7 q5v
      have r7c := rdRow_pre hp7 r5c
      have lh6 := rd_lt q61
      have lg6 := rd_lt r6c
      simp (maxSteps := 1000000) (disch := first | omega | rfl | (simp only [zL, two63, room] <;> omega) | fail) only [↓reduceIte, ↓zP, zW, WOp, evOp, evBin, binI, binSh, binS, evNil, keyIs, keyEq, mkv, AV.cells, AV.sc, optv, bnd, env, put, Env.get, Env.set, Env.del, Env.dels, Env.init, res1, resL, resV, fillP, splice, newRow, Nat.reduceEqDiff, Nat.reduceLT, Nat.reduceLeDiff, Nat.reduceAdd, Nat.reduceMul, Nat.reduceSub, Nat.reduceBEq, reduceCtorEq, ↓zR, zQ, Tr, StA, StT, q51, q5v, q61, q6v, q71, q7v, r5c, r6c, r7c, ha, hd, ha7, wr_of c7, List.length_set, l7, w1, w2]
      exact hp v7 _ (own_base (own_set (b := h5) ho7 (by omega)) (by have := P.1; have := p4.1; have := p5.1; omega)) (((P.trans p4).trans (p5.trans hp7)).set (by omega))
theorem c_DropClue (n j : Int) {v : AV} {cs : List Clu} (hlen : cs.length < 2 ^ 63) {h : AH} (hs : Slc 3 encC h v cs) {post : AV → AH → Prop} (hp : ∀ v' h', OwW 3 encC h h' v' (drC n cs j) → Pre h h' → post (.tup [pzV (drN n cs j) v', .bool (drB n cs j)]) h') : S 547 [pzV n v, .int .i64 j] h post k := by
  have hsc := (sl_cells hs).2
  unfold AV.sc at hsc
  have hv0 := fun g => Slc.lenV (hs) (g := g) (ρ := fun _ => _) (x := .t 0) rfl; simp only [evOp] at hv0
  have P1 := Pre.push h (AO.row [.int .i64 n, v] 0 0 false)
  obtain ⟨r1, r11, r1v⟩ := rowP h n v
  have gl : h.length < (h ++ [AO.row [.int .i64 n, v] 0 0 false]).length := by simp
  generalize hg1 : h ++ [AO.row [.int .i64 n, v] 0 0 false] = g1 at *
  have P3 := Pre.push g1 (AO.row [.int .i64 0, .nilS] 0 0 false)
  have z3 := zrow g1 (AO.row [.int .i64 0, .nilS] 0 0 false)
  have l3 : g1.length < (g1 ++ [AO.row [.int .i64 0, .nilS] 0 0 false]).length := by simp
  generalize hg3 : g1 ++ [AO.row [.int .i64 0, .nilS] 0 0 false] = g3 at *
  have P := P1.trans P3
  have r3 := rdRow_pre P3 r1
  have r31 := rdRow_pre P3 r11
  have r3v := rdRow_pre P3 r1v
  refine S_of rfl T547 ?_; unfold fi547
  simp (maxSteps := 1000000) (disch := first | omega | rfl | (simp only [zL, two63, room] <;> omega) | fail) only [↓reduceIte, ↓zP, zW, WOp, evOp, evBin, binI, binSh, binS, evNil, keyIs, keyEq, mkv, AV.cells, AV.sc, optv, bnd, env, put, Env.get, Env.set, Env.del, Env.dels, Env.init, res1, resL, resV, fillP, splice, newRow, Nat.reduceEqDiff, Nat.reduceLT, Nat.reduceLeDiff, Nat.reduceAdd, Nat.reduceMul, Nat.reduceSub, Nat.reduceBEq, reduceCtorEq, ↓zR, zQ, Tr, StA, StT, hsc, hg1, hg3, r3]
  refine c_IsPuzzleA n hlen (hs.pre P) ?_
  intro h4 p4
  have c4 : h4[g1.length]? = some (AO.row [.int .i64 0, .nilS] 0 0 false) := by rw [p4.2 _ l3]; exact z3
  have l4 : g1.length < h4.length := by have := p4.1; omega
  cases e : goodP n cs
  · have e1 : drB n cs j = false := by unfold drB; rw [e]; rfl
    unfold drC drN at hp
    rw [e1] at hp
    simp (maxSteps := 1000000) (disch := first | omega | rfl | (simp only [zL, two63, room] <;> omega) | fail) only [↓reduceIte, ↓zP, zW, WOp, evOp, evBin, binI, binSh, binS, evNil, keyIs, keyEq, mkv, AV.cells, AV.sc, optv, bnd, env, put, Env.get, Env.set, Env.del, Env.dels, Env.init, res1, resL, resV, fillP, splice, newRow, Nat.reduceEqDiff, Nat.reduceLT, Nat.reduceLeDiff, Nat.reduceAdd, Nat.reduceMul, Nat.reduceSub, Nat.reduceBEq, reduceCtorEq, ↓zR, zQ, Tr, StA, StT, wr_of c4, List.length_set, l4]
    exact hp .nilS _ OwL.nil.w ((P.trans p4).set (by omega))
  obtain ⟨m, rfl, m1, m5, m6, mok⟩ := goodP_iff e
  have q41 := rdRow_pre p4 r31
  have q4v := rdRow_pre p4 r3v
  have hsub : IntKind.i64.wrap ((cs.length : Int) - 1) = (cs.length : Int) - 1 := wrap_i (by omega)
  by_cases hj : 0 ≤ j ∧ j ≤ (cs.length : Int) - 1
  · have e1 : drB m cs j = true := by unfold drB; rw [e, decide_eq_true hj]; rfl
    unfold drC drN at hp
    rw [e1] at hp
    simp only [if_true] at hp
    obtain ⟨i, rfl⟩ : ∃ i : Nat, j = i := ⟨j.toNat, by omega⟩
    have hi : i < cs.length := by omega
    have hsp : cs = cs.take i ++ cs[i] :: cs.drop (i + 1) := by rw [← List.drop_eq_getElem_cons, List.take_append_drop]
    have hpl : (cs.take i).length = i := by rw [List.length_take]; omega
    have hs4 : Slc 3 encC h4 v (cs.take i ++ cs[i] :: cs.drop (i + 1)) := by rw [← hsp]; exact hs.pre (P.trans p4)
    have key := fun post => woSpec v (cs.take i) (cs.drop (i + 1)) cs[i] h4 post (by rw [hpl, List.length_drop]; omega) hs4
    rw [hpl] at key
    simp (maxSteps := 1000000) (disch := first | omega | rfl | (simp only [zL, two63, room] <;> omega) | fail) only [↓reduceIte, ↓zP, zW, WOp, evOp, evBin, binI, binSh, binS, evNil, keyIs, keyEq, mkv, AV.cells, AV.sc, optv, bnd, env, put, Env.get, Env.set, Env.del, Env.dels, Env.init, res1, resL, resV, fillP, splice, newRow, Nat.reduceEqDiff, Nat.reduceLT, Nat.reduceLeDiff, Nat.reduceAdd, Nat.reduceMul, Nat.reduceSub, Nat.reduceBEq, reduceCtorEq, ↓zR, zQ, Tr, StA, StT, q4v, hv0, hsub, e_within, e_l1In, hj, q41]
    refine w_drw ?_
    simp (maxSteps := 1000000) (disch := first | omega | rfl | (simp only [zL, two63, room] <;> omega) | fail) only [↓reduceIte, ↓zP, zW, WOp, evOp, evBin, binI, binSh, binS, evNil, keyIs, keyEq, mkv, AV.cells, AV.sc, optv, bnd, env, put, Env.get, Env.set, Env.del, Env.dels, Env.init, res1, resL, resV, fillP, splice, newRow, Nat.reduceEqDiff, Nat.reduceLT, Nat.reduceLeDiff, Nat.reduceAdd, Nat.reduceMul, Nat.reduceSub, Nat.reduceBEq, reduceCtorEq, ↓zR, zQ, Tr, StA, StT, q4v, q41]
    refine key _ ?_
    intro v6 h6 o6 p6
    have o6 := o6
    have o6 : OwW 3 encC h4 h6 v6 (wo cs i) := o6
    have w1 := (sl_cells (o6.slc hlC)).1
    have w2 := (sl_cells (o6.slc hlC)).2
    simp only [AV.cells] at w1
    unfold AV.sc at w2
    have c6 : h6[g1.length]? = some (AO.row [.int .i64 0, .nilS] 0 0 false) := by rw [p6.2 _ l4]; exact c4
    have l6 : g1.length < h6.length := by have := p6.1; omega
    have q61 := rdRow_pre p6 q41
    simp (maxSteps := 1000000) (disch := first | omega | rfl | (simp only [zL, two63, room] <;> omega) | fail) only [↓reduceIte, ↓zP, zW, WOp, evOp, evBin, binI, binSh, binS, evNil, keyIs, keyEq, mkv, AV.cells, AV.sc, optv, bnd, env, put, Env.get, Env.set, Env.del, Env.dels, Env.init, res1, resL, resV, fillP, splice, newRow, Nat.reduceEqDiff, Nat.reduceLT, Nat.reduceLeDiff, Nat.reduceAdd, Nat.reduceMul, Nat.reduceSub, Nat.reduceBEq, reduceCtorEq, ↓zR, zQ, Tr, StA, StT, q61, q41, wr_of c6, List.length_set, l6, w1, w2]
    exact hp v6 _ ((o6.set (by omega)).base (by have := P.1; have := p4.1; omega)) (((P.trans p4).trans p6).set (by omega))
  · have e1 : drB m cs j = false := by unfold drB; rw [e, decide_eq_false hj]; rfl
    unfold drC drN at hp
    rw [e1] at hp
    simp (maxSteps := 1000000) (disch := first | omega | rfl | (simp only [zL, two63, room] <;> omega) | fail) only [↓reduceIte, ↓zP, zW, WOp, evOp, evBin, binI, binSh, binS, evNil, keyIs, keyEq, mkv, AV.cells, AV.sc, optv, bnd, env, put, Env.get, Env.set, Env.del, Env.dels, Env.init, res1, resL, resV, fillP, splice, newRow, Nat.reduceEqDiff, Nat.reduceLT, Nat.reduceLeDiff, Nat.reduceAdd, Nat.reduceMul, Nat.reduceSub, Nat.reduceBEq, reduceCtorEq, ↓zR, zQ, Tr, StA, StT, q4v, hv0, hsub, e_within, e_l1In, hj, wr_of c4, List.length_set, l4]
    exact hp .nilS _ OwL.nil.w ((P.trans p4).set (by omega))
theorem c_sDropClue (n j : Int) {v : AV} {cs : List Clu} (hlen : cs.length < 2 ^ 63) {h : AH} (hs : Slc 3 encC h v cs) {post : AV → AH → Prop} (hp : ∀ v' h', OwW 3 encC h h' v' (drC n cs j) → Pre h h' → post (.tup [pzV (drN n cs j) v', .bool (drB n cs j)]) h') : S 548 [pzV n v, .int .i64 j] h post k := by
  have hsc := (sl_cells hs).2
  unfold AV.sc at hsc
  have hv0 := fun g => Slc.lenV (hs) (g := g) (ρ := fun _ => _) (x := .t 0) rfl; simp only [evOp] at hv0
  have P1 := Pre.push h (AO.row [.int .i64 n, v] 0 0 false)
  obtain ⟨r1, r11, r1v⟩ := rowP h n v
  have gl : h.length < (h ++ [AO.row [.int .i64 n, v] 0 0 false]).length := by simp
  generalize hg1 : h ++ [AO.row [.int .i64 n, v] 0 0 false] = g1 at *
  have P3 := Pre.push g1 (AO.row [.int .i64 0, .nilS] 0 0 false)
  have z3 := zrow g1 (AO.row [.int .i64 0, .nilS] 0 0 false)
  have l3 : g1.length < (g1 ++ [AO.row [.int .i64 0, .nilS] 0 0 false]).length := by simp
  generalize hg3 : g1 ++ [AO.row [.int .i64 0, .nilS] 0 0 false] = g3 at *
  have P := P1.trans P3
  have r3 := rdRow_pre P3 r1
  have r31 := rdRow_pre P3 r11
  have r3v := rdRow_pre P3 r1v
  refine S_of rfl T548 ?_; unfold fi548
  simp (maxSteps := 1000000) (disch := first | omega | rfl | (simp only [zL, two63, room] <;> omega) | fail) only [↓reduceIte, ↓zP, zW, WOp, evOp, evBin, binI, binSh, binS, evNil, keyIs, keyEq, mkv, AV.cells, AV.sc, optv, bnd, env, put, Env.get, Env.set, Env.del, Env.dels, Env.init, res1, resL, resV, fillP, splice, newRow, Nat.reduceEqDiff, Nat.reduceLT, Nat.reduceLeDiff, Nat.reduceAdd, Nat.reduceMul, Nat.reduceSub, Nat.reduceBEq, reduceCtorEq, ↓zR, zQ, Tr, StA, StT, hsc, hg1, hg3, r3]
  refine c_pzGoodA n hlen (hs.pre P) ?_
  intro h4 p4
  have c4 : h4[g1.length]? = some (AO.row [.int .i64 0, .nilS] 0 0 false) := by rw [p4.2 _ l3]; exact z3
  have l4 : g1.length < h4.length := by have := p4.1; omega
  cases e : goodP n cs
  · have e1 : drB n cs j = false := by unfold drB; rw [e]; rfl
    unfold drC drN at hp
    rw [e1] at hp
    simp (maxSteps := 1000000) (disch := first | omega | rfl | (simp only [zL, two63, room] <;> omega) | fail) only [↓reduceIte, ↓zP, zW, WOp, evOp, evBin, binI, binSh, binS, evNil, keyIs, keyEq, mkv, AV.cells, AV.sc, optv, bnd, env, put, Env.get, Env.set, Env.del, Env.dels, Env.init, res1, resL, resV, fillP, splice, newRow, Nat.reduceEqDiff, Nat.reduceLT, Nat.reduceLeDiff, Nat.reduceAdd, Nat.reduceMul, Nat.reduceSub, Nat.reduceBEq, reduceCtorEq, ↓zR, zQ, Tr, StA, StT, wr_of c4, List.length_set, l4]
    exact hp .nilS _ OwL.nil.w ((P.trans p4).set (by omega))
  obtain ⟨m, rfl, m1, m5, m6, mok⟩ := goodP_iff e
  have q41 := rdRow_pre p4 r31
  have q4v := rdRow_pre p4 r3v
  have hsub : IntKind.i64.wrap ((cs.length : Int) - 1) = (cs.length : Int) - 1 := wrap_i (by omega)
  by_cases hj : 0 ≤ j ∧ j ≤ (cs.length : Int) - 1
  · have e1 : drB m cs j = true := by unfold drB; rw [e, decide_eq_true hj]; rfl
    unfold drC drN at hp
    rw [e1] at hp
    simp only [if_true] at hp
    obtain ⟨i, rfl⟩ : ∃ i : Nat, j = i := ⟨j.toNat, by omega⟩
    have hi : i < cs.length := by omega
    have hsp : cs = cs.take i ++ cs[i] :: cs.drop (i + 1) := by rw [← List.drop_eq_getElem_cons, List.take_append_drop]
    have hpl : (cs.take i).length = i := by rw [List.length_take]; omega
    have hs4 : Slc 3 encC h4 v (cs.take i ++ cs[i] :: cs.drop (i + 1)) := by rw [← hsp]; exact hs.pre (P.trans p4)
    have key := fun post => c_pzWithout (h := h4) (post := post) (by rw [hpl, List.length_drop]; omega) hs4
    rw [hpl] at key
    simp (maxSteps := 1000000) (disch := first | omega | rfl | (simp only [zL, two63, room] <;> omega) | fail) only [↓reduceIte, ↓zP, zW, WOp, evOp, evBin, binI, binSh, binS, evNil, keyIs, keyEq, mkv, AV.cells, AV.sc, optv, bnd, env, put, Env.get, Env.set, Env.del, Env.dels, Env.init, res1, resL, resV, fillP, splice, newRow, Nat.reduceEqDiff, Nat.reduceLT, Nat.reduceLeDiff, Nat.reduceAdd, Nat.reduceMul, Nat.reduceSub, Nat.reduceBEq, reduceCtorEq, ↓zR, zQ, Tr, StA, StT, q4v, hv0, hsub, e_within, e_l1In, hj, q41]
    refine w_drw ?_
    simp (maxSteps := 1000000) (disch := first | omega | rfl | (simp only [zL, two63, room] <;> omega) | fail) only [↓reduceIte, ↓zP, zW, WOp, evOp, evBin, binI, binSh, binS, evNil, keyIs, keyEq, mkv, AV.cells, AV.sc, optv, bnd, env, put, Env.get, Env.set, Env.del, Env.dels, Env.init, res1, resL, resV, fillP, splice, newRow, Nat.reduceEqDiff, Nat.reduceLT, Nat.reduceLeDiff, Nat.reduceAdd, Nat.reduceMul, Nat.reduceSub, Nat.reduceBEq, reduceCtorEq, ↓zR, zQ, Tr, StA, StT, q4v, q41]
    refine key _ ?_
    intro v6 h6 o6 p6
    replace o6 := o6.w
    have o6 : OwW 3 encC h4 h6 v6 (wo cs i) := o6
    have w1 := (sl_cells (o6.slc hlC)).1
    have w2 := (sl_cells (o6.slc hlC)).2
    simp only [AV.cells] at w1
    unfold AV.sc at w2
    have c6 : h6[g1.length]? = some (AO.row [.int .i64 0, .nilS] 0 0 false) := by rw [p6.2 _ l4]; exact c4
    have l6 : g1.length < h6.length := by have := p6.1; omega
    have q61 := rdRow_pre p6 q41
    simp (maxSteps := 1000000) (disch := first | omega | rfl | (simp only [zL, two63, room] <;> omega) | fail) only [↓reduceIte, ↓zP, zW, WOp, evOp, evBin, binI, binSh, binS, evNil, keyIs, keyEq, mkv, AV.cells, AV.sc, optv, bnd, env, put, Env.get, Env.set, Env.del, Env.dels, Env.init, res1, resL, resV, fillP, splice, newRow, Nat.reduceEqDiff, Nat.reduceLT, Nat.reduceLeDiff, Nat.reduceAdd, Nat.reduceMul, Nat.reduceSub, Nat.reduceBEq, reduceCtorEq, ↓zR, zQ, Tr, StA, StT, q61, q41, wr_of c6, List.length_set, l6, w1, w2]
    exact hp v6 _ ((o6.set (by omega)).base (by have := P.1; have := p4.1; omega)) (((P.trans p4).trans p6).set (by omega))
  · have e1 : drB m cs j = false := by unfold drB; rw [e, decide_eq_false hj]; rfl
    unfold drC drN at hp
    rw [e1] at hp
    simp (maxSteps := 1000000) (disch := first | omega | rfl | (simp only [zL, two63, room] <;> omega) | fail) only [↓reduceIte, ↓zP, zW, WOp, evOp, evBin, binI, binSh, binS, evNil, keyIs, keyEq, mkv, AV.cells, AV.sc, optv, bnd, env, put, Env.get, Env.set, Env.del, Env.dels, Env.init, res1, resL, resV, fillP, splice, newRow, Nat.reduceEqDiff, Nat.reduceLT, Nat.reduceLeDiff, Nat.reduceAdd, Nat.reduceMul, Nat.reduceSub, Nat.reduceBEq, reduceCtorEq, ↓zR, zQ, Tr, StA, StT, q4v, hv0, hsub, e_within, e_l1In, hj, wr_of c4, List.length_set, l4]
    exact hp .nilS _ OwL.nil.w ((P.trans p4).set (by omega))
end Go.Proofs.YtnamhjdfegohbaaGreatDoor.Ab

/- PUZZLES made of a line: both sides; puzzles and texts compared by the laws. -/
namespace Go.Proofs.YtnamhjdfegohbaaGreatDoor.Ab
open Go
set_option maxRecDepth 100000
set_option maxHeartbeats 4000000

/-! ### Puzzles and texts that are alike -/
theorem seqCx (a b c : Int) : seqL [0, 0, 0] [.int .i64 a, .int .i64 b, .int .i64 c] [.int .i64 a, .int .i64 b, .int .i64 c] = some true := by
  simp [seqL, keyIs, keyEq]
theorem lp_nPuzzle {v u : AV} {L : List Clu} (hlen : L.length < 2 ^ 30) {n : Int} {r1 r2 : Nat} {h : AH} (hr1 : rdRow h r1 0 1 1 = some [v]) (hr2 : rdRow h r2 0 1 1 = some [u]) (hs : Slc 3 encC h v L) (ht : Slc 3 encC h u L) {R : X → Env → AH → Prop} (hR : R (.exit 0) [] h) : ∀ (rest pre : List Clu), L = pre ++ rest →
    Cx (.loop lp542_0) [(2, .ptr r1 0 0 2), (3, .ptr r2 0 0 2), (22, .int .i64 L.length), (23, .int .i64 pre.length)] h R k k
  | [], pre, hL => by
    obtain rfl : L = pre := by simpa using hL
    rw [w_loopb (c := lp542_0) (d := lb542_0) rfl]; unfold lb542_0
    simp (maxSteps := 1000000) (disch := first | omega | rfl | (simp only [zL, two63, room] <;> omega) | fail) only [↓reduceIte, ↓zP, zW, WOp, evOp, evBin, binI, binSh, binS, evNil, keyIs, keyEq, mkv, AV.cells, AV.sc, optv, bnd, env, put, Env.get, Env.set, Env.del, Env.dels, Env.init, res1, resL, resV, fillP, splice, newRow, Nat.reduceEqDiff, Nat.reduceLT, Nat.reduceLeDiff, Nat.reduceAdd, Nat.reduceMul, Nat.reduceSub, Nat.reduceBEq, reduceCtorEq, ↓zR, zQ, Tr, StA, StT]
    exact hR
  | x :: rest, pre, hL => by
    have ih := lp_nPuzzle hlen (n := n) hr1 hr2 hs ht (R := R) hR rest (pre ++ [x])
    have hl : L.length = pre.length + 1 + rest.length := by rw [hL]; simp; omega
    have hs' := hs
    have ht' := ht
    rw [hL] at hs' ht'
    obtain ⟨d1, k1, o1, hve, hq1⟩ := hs'.at hlC
    obtain ⟨d2, k2, o2, hue, hq2⟩ := ht'.at hlC
    rw [← hL] at hve hue
    subst hve
    subst hue
    have hlt : (pre.length : Int) < (L.length : Int) := by omega
    have hw1 : (pre.length : Int) + 1 = ((pre ++ [x]).length : Int) := by simp
    have hq1' : rdRow h d1 k1 (o1 + pre.length * 3) 3 = some [.int .i64 x.1, .int .i64 x.2.1, .int .i64 x.2.2] := hq1
    have hq2' : rdRow h d2 k2 (o2 + pre.length * 3) 3 = some [.int .i64 x.1, .int .i64 x.2.1, .int .i64 x.2.2] := hq2
    rw [w_loopb (c := lp542_0) (d := lb542_0) rfl]; unfold lb542_0
    simp (maxSteps := 1000000) (disch := first | omega | rfl | (simp only [zL, two63, room] <;> omega) | fail) only [↓reduceIte, ↓zP, zW, WOp, evOp, evBin, binI, binSh, binS, evNil, keyIs, keyEq, mkv, AV.cells, AV.sc, optv, bnd, env, put, Env.get, Env.set, Env.del, Env.dels, Env.init, res1, resL, resV, fillP, splice, newRow, Nat.reduceEqDiff, Nat.reduceLT, Nat.reduceLeDiff, Nat.reduceAdd, Nat.reduceMul, Nat.reduceSub, Nat.reduceBEq, reduceCtorEq, ↓zR, zQ, Tr, StA, StT, hlt, hr1, hr2, hq1', hq2', seqCx]
    simp (maxSteps := 1000000) (disch := first | omega | rfl | (simp only [zL, two63, room] <;> omega) | fail) only [↓reduceIte, ↓zP, zW, WOp, evOp, evBin, binI, binSh, binS, evNil, keyIs, keyEq, mkv, AV.cells, AV.sc, optv, bnd, env, put, Env.get, Env.set, Env.del, Env.dels, Env.init, res1, resL, resV, fillP, splice, newRow, Nat.reduceEqDiff, Nat.reduceLT, Nat.reduceLeDiff, Nat.reduceAdd, Nat.reduceMul, Nat.reduceSub, Nat.reduceBEq, reduceCtorEq, ↓zR, zQ, Tr, StA, StT, hw1]
    rw [w_loopn (c := lp542_0) rfl]
    simp (maxSteps := 1000000) (disch := first | omega | rfl | (simp only [zL, two63, room] <;> omega) | fail) only [↓reduceIte, ↓zP, zW, WOp, evOp, evBin, binI, binSh, binS, evNil, keyIs, keyEq, mkv, AV.cells, AV.sc, optv, bnd, env, put, Env.get, Env.set, Env.del, Env.dels, Env.init, res1, resL, resV, fillP, splice, newRow, Nat.reduceEqDiff, Nat.reduceLT, Nat.reduceLeDiff, Nat.reduceAdd, Nat.reduceMul, Nat.reduceSub, Nat.reduceBEq, reduceCtorEq, ↓zR, zQ, Tr, StA, StT]
    exact ih (by rw [hL]; simp)
theorem c_nPuzzle (n : Int) {v u : AV} {L : List Clu} (hlen : L.length < 2 ^ 30) {h : AH} (hs : Slc 3 encC h v L) (ht : Slc 3 encC h u L) {post : AV → AH → Prop} (hp : ∀ h', Pre h h' → post (.bool true) h') : S 542 [pzV n v, pzV n u] h post k := by
  have hsc := (sl_cells hs).2
  unfold AV.sc at hsc
  have hsu := (sl_cells ht).2
  unfold AV.sc at hsu
  have P1 := Pre.push h (AO.row [.int .i64 n, v] 0 0 false)
  obtain ⟨r1, r11, r1v⟩ := rowP h n v
  generalize hg1 : h ++ [AO.row [.int .i64 n, v] 0 0 false] = g1 at *
  have P2 := Pre.push g1 (AO.row [.int .i64 n, u] 0 0 false)
  obtain ⟨r2, r21, r2v⟩ := rowP g1 n u
  generalize hg2 : g1 ++ [AO.row [.int .i64 n, u] 0 0 false] = g2 at *
  have q11 := rdRow_pre P2 r11
  have q1v := rdRow_pre P2 r1v
  have P := P1.trans P2
  have hs2 := hs.pre P
  have ht2 := ht.pre P
  have hv := fun g => Slc.lenV (hs2) (g := g) (ρ := fun _ => _) (x := .t 0) rfl; simp only [evOp] at hv
  have hu := fun g => Slc.lenV (ht2) (g := g) (ρ := fun _ => _) (x := .t 0) rfl; simp only [evOp] at hu
  refine S_of rfl T542 ?_; unfold fi542
  simp (maxSteps := 1000000) (disch := first | omega | rfl | (simp only [zL, two63, room] <;> omega) | fail) only [↓reduceIte, ↓zP, zW, WOp, evOp, evBin, binI, binSh, binS, evNil, keyIs, keyEq, mkv, AV.cells, AV.sc, optv, bnd, env, put, Env.get, Env.set, Env.del, Env.dels, Env.init, res1, resL, resV, fillP, splice, newRow, Nat.reduceEqDiff, Nat.reduceLT, Nat.reduceLeDiff, Nat.reduceAdd, Nat.reduceMul, Nat.reduceSub, Nat.reduceBEq, reduceCtorEq, ↓zR, zQ, Tr, StA, StT, hsc, hsu, hg1, hg2, q11, q1v, r21, r2v, hv, hu, bne_self_eq_false]
  refine lp_nPuzzle hlen (n := n) q1v r2v hs2 ht2 ?_ L [] rfl
  simp (maxSteps := 1000000) (disch := first | omega | rfl | (simp only [zL, two63, room] <;> omega) | fail) only [↓reduceIte, ↓zP, zW, WOp, evOp, evBin, binI, binSh, binS, evNil, keyIs, keyEq, mkv, AV.cells, AV.sc, optv, bnd, env, put, Env.get, Env.set, Env.del, Env.dels, Env.init, res1, resL, resV, fillP, splice, newRow, Nat.reduceEqDiff, Nat.reduceLT, Nat.reduceLeDiff, Nat.reduceAdd, Nat.reduceMul, Nat.reduceSub, Nat.reduceBEq, reduceCtorEq, ↓zR, zQ, Tr, StA, StT]
  exact hp _ P
theorem lp_nTexts {v u : AV} {L : List (List UInt8)} (hlen : L.length < 2 ^ 30) {h : AH} (hs : Slc 1 encS h v L) (ht : Slc 1 encS h u L) {R : X → Env → AH → Prop} (hR : R (.exit 0) [] h) : ∀ (rest pre : List (List UInt8)), L = pre ++ rest →
    Cx (.loop lp544_0) [(0, v), (1, u), (12, .int .i64 L.length), (13, .int .i64 pre.length)] h R k k
  | [], pre, hL => by
    obtain rfl : L = pre := by simpa using hL
    rw [w_loopb (c := lp544_0) (d := lb544_0) rfl]; unfold lb544_0
    simp (maxSteps := 1000000) (disch := first | omega | rfl | (simp only [zL, two63, room] <;> omega) | fail) only [↓reduceIte, ↓zP, zW, WOp, evOp, evBin, binI, binSh, binS, evNil, keyIs, keyEq, mkv, AV.cells, AV.sc, optv, bnd, env, put, Env.get, Env.set, Env.del, Env.dels, Env.init, res1, resL, resV, fillP, splice, newRow, Nat.reduceEqDiff, Nat.reduceLT, Nat.reduceLeDiff, Nat.reduceAdd, Nat.reduceMul, Nat.reduceSub, Nat.reduceBEq, reduceCtorEq, ↓zR, zQ, Tr, StA, StT]
    exact hR
  | x :: rest, pre, hL => by
    have ih := lp_nTexts hlen hs ht (R := R) hR rest (pre ++ [x])
    have hl : L.length = pre.length + 1 + rest.length := by rw [hL]; simp; omega
    have hs' := hs
    have ht' := ht
    rw [hL] at hs' ht'
    obtain ⟨d1, k1, o1, hve, hq1⟩ := hs'.at hlS
    obtain ⟨d2, k2, o2, hue, hq2⟩ := ht'.at hlS
    rw [← hL] at hve hue
    subst hve
    subst hue
    have hlt : (pre.length : Int) < (L.length : Int) := by omega
    have hw1 : (pre.length : Int) + 1 = ((pre ++ [x]).length : Int) := by simp
    have e : (x == x) = true := by simp
    rw [w_loopb (c := lp544_0) (d := lb544_0) rfl]; unfold lb544_0
    simp (maxSteps := 1000000) (disch := first | omega | rfl | (simp only [zL, two63, room] <;> omega) | fail) only [↓reduceIte, ↓zP, zW, WOp, evOp, evBin, binI, binSh, binS, evNil, keyIs, keyEq, mkv, AV.cells, AV.sc, optv, bnd, env, put, Env.get, Env.set, Env.del, Env.dels, Env.init, res1, resL, resV, fillP, splice, newRow, Nat.reduceEqDiff, Nat.reduceLT, Nat.reduceLeDiff, Nat.reduceAdd, Nat.reduceMul, Nat.reduceSub, Nat.reduceBEq, reduceCtorEq, ↓zR, zQ, Tr, StA, StT, hlt, hq1, hq2, e]
    simp (maxSteps := 1000000) (disch := first | omega | rfl | (simp only [zL, two63, room] <;> omega) | fail) only [↓reduceIte, ↓zP, zW, WOp, evOp, evBin, binI, binSh, binS, evNil, keyIs, keyEq, mkv, AV.cells, AV.sc, optv, bnd, env, put, Env.get, Env.set, Env.del, Env.dels, Env.init, res1, resL, resV, fillP, splice, newRow, Nat.reduceEqDiff, Nat.reduceLT, Nat.reduceLeDiff, Nat.reduceAdd, Nat.reduceMul, Nat.reduceSub, Nat.reduceBEq, reduceCtorEq, ↓zR, zQ, Tr, StA, StT, hw1]
    rw [w_loopn (c := lp544_0) rfl]
    simp (maxSteps := 1000000) (disch := first | omega | rfl | (simp only [zL, two63, room] <;> omega) | fail) only [↓reduceIte, ↓zP, zW, WOp, evOp, evBin, binI, binSh, binS, evNil, keyIs, keyEq, mkv, AV.cells, AV.sc, optv, bnd, env, put, Env.get, Env.set, Env.del, Env.dels, Env.init, res1, resL, resV, fillP, splice, newRow, Nat.reduceEqDiff, Nat.reduceLT, Nat.reduceLeDiff, Nat.reduceAdd, Nat.reduceMul, Nat.reduceSub, Nat.reduceBEq, reduceCtorEq, ↓zR, zQ, Tr, StA, StT]
    exact ih (by rw [hL]; simp)
theorem c_nTexts {v u : AV} {L : List (List UInt8)} (hlen : L.length < 2 ^ 30) {h : AH} (hs : Slc 1 encS h v L) (ht : Slc 1 encS h u L) {post : AV → AH → Prop} (hp : post (.bool true) h) : S 544 [v, u] h post k := by
  have hv := fun g => Slc.lenV (hs) (g := g) (ρ := fun _ => _) (x := .t 0) rfl; simp only [evOp] at hv
  have hu := fun g => Slc.lenV (ht) (g := g) (ρ := fun _ => _) (x := .t 0) rfl; simp only [evOp] at hu
  refine S_of rfl T544 ?_; unfold fi544
  simp (maxSteps := 1000000) (disch := first | omega | rfl | (simp only [zL, two63, room] <;> omega) | fail) only [↓reduceIte, ↓zP, zW, WOp, evOp, evBin, binI, binSh, binS, evNil, keyIs, keyEq, mkv, AV.cells, AV.sc, optv, bnd, env, put, Env.get, Env.set, Env.del, Env.dels, Env.init, res1, resL, resV, fillP, splice, newRow, Nat.reduceEqDiff, Nat.reduceLT, Nat.reduceLeDiff, Nat.reduceAdd, Nat.reduceMul, Nat.reduceSub, Nat.reduceBEq, reduceCtorEq, ↓zR, zQ, Tr, StA, StT, hv, hu, bne_self_eq_false]
  refine lp_nTexts hlen hs ht ?_ L [] rfl
  simp (maxSteps := 1000000) (disch := first | omega | rfl | (simp only [zL, two63, room] <;> omega) | fail) only [↓reduceIte, ↓zP, zW, WOp, evOp, evBin, binI, binSh, binS, evNil, keyIs, keyEq, mkv, AV.cells, AV.sc, optv, bnd, env, put, Env.get, Env.set, Env.del, Env.dels, Env.init, res1, resL, resV, fillP, splice, newRow, Nat.reduceEqDiff, Nat.reduceLT, Nat.reduceLeDiff, Nat.reduceAdd, Nat.reduceMul, Nat.reduceSub, Nat.reduceBEq, reduceCtorEq, ↓zR, zQ, Tr, StA, StT]
  exact hp
theorem lp_nText {v : AV} {L : List (List UInt8)} (hlen : L.length < 2 ^ 30) (s : List UInt8) {h : AH} (hs : Slc 1 encS h v L) {R : X → Env → AH → Prop} (hR : R (.ret) [(4, .bool true)] h) : ∀ (rest pre : List (List UInt8)), L = pre ++ rest → s ∈ rest →
    Cx (.loop lp543_0) [(1, .str s), (7, v), (8, .int .i64 L.length), (9, .int .i64 pre.length)] h R k k
  | [], pre, hL, hm => absurd hm (List.not_mem_nil)
  | x :: rest, pre, hL, hm => by
    have ih := lp_nText hlen s hs (R := R) hR rest (pre ++ [x])
    have hl : L.length = pre.length + 1 + rest.length := by rw [hL]; simp; omega
    have hs' := hs
    rw [hL] at hs'
    obtain ⟨d1, k1, o1, hve, hq1⟩ := hs'.at hlS
    rw [← hL] at hve
    subst hve
    have hlt : (pre.length : Int) < (L.length : Int) := by omega
    have hw1 : (pre.length : Int) + 1 = ((pre ++ [x]).length : Int) := by simp
    rw [w_loopb (c := lp543_0) (d := lb543_0) rfl]; unfold lb543_0
    cases e : (x == s)
    · simp (maxSteps := 1000000) (disch := first | omega | rfl | (simp only [zL, two63, room] <;> omega) | fail) only [↓reduceIte, ↓zP, zW, WOp, evOp, evBin, binI, binSh, binS, evNil, keyIs, keyEq, mkv, AV.cells, AV.sc, optv, bnd, env, put, Env.get, Env.set, Env.del, Env.dels, Env.init, res1, resL, resV, fillP, splice, newRow, Nat.reduceEqDiff, Nat.reduceLT, Nat.reduceLeDiff, Nat.reduceAdd, Nat.reduceMul, Nat.reduceSub, Nat.reduceBEq, reduceCtorEq, ↓zR, zQ, Tr, StA, StT, hlt, hq1, e]
      simp (maxSteps := 1000000) (disch := first | omega | rfl | (simp only [zL, two63, room] <;> omega) | fail) only [↓reduceIte, ↓zP, zW, WOp, evOp, evBin, binI, binSh, binS, evNil, keyIs, keyEq, mkv, AV.cells, AV.sc, optv, bnd, env, put, Env.get, Env.set, Env.del, Env.dels, Env.init, res1, resL, resV, fillP, splice, newRow, Nat.reduceEqDiff, Nat.reduceLT, Nat.reduceLeDiff, Nat.reduceAdd, Nat.reduceMul, Nat.reduceSub, Nat.reduceBEq, reduceCtorEq, ↓zR, zQ, Tr, StA, StT, hw1]
      rw [w_loopn (c := lp543_0) rfl]
      simp (maxSteps := 1000000) (disch := first | omega | rfl | (simp only [zL, two63, room] <;> omega) | fail) only [↓reduceIte, ↓zP, zW, WOp, evOp, evBin, binI, binSh, binS, evNil, keyIs, keyEq, mkv, AV.cells, AV.sc, optv, bnd, env, put, Env.get, Env.set, Env.del, Env.dels, Env.init, res1, resL, resV, fillP, splice, newRow, Nat.reduceEqDiff, Nat.reduceLT, Nat.reduceLeDiff, Nat.reduceAdd, Nat.reduceMul, Nat.reduceSub, Nat.reduceBEq, reduceCtorEq, ↓zR, zQ, Tr, StA, StT]
      refine ih (by rw [hL]; simp) ?_
      rcases List.mem_cons.1 hm with rfl | hm
      · simp at e
      · exact hm
    · simp (maxSteps := 1000000) (disch := first | omega | rfl | (simp only [zL, two63, room] <;> omega) | fail) only [↓reduceIte, ↓zP, zW, WOp, evOp, evBin, binI, binSh, binS, evNil, keyIs, keyEq, mkv, AV.cells, AV.sc, optv, bnd, env, put, Env.get, Env.set, Env.del, Env.dels, Env.init, res1, resL, resV, fillP, splice, newRow, Nat.reduceEqDiff, Nat.reduceLT, Nat.reduceLeDiff, Nat.reduceAdd, Nat.reduceMul, Nat.reduceSub, Nat.reduceBEq, reduceCtorEq, ↓zR, zQ, Tr, StA, StT, hlt, hq1, e]
      exact hR
theorem c_nText {v : AV} {L : List (List UInt8)} (hlen : L.length < 2 ^ 30) {s : List UInt8} (hm : s ∈ L) {h : AH} (hs : Slc 1 encS h v L) {post : AV → AH → Prop} (hp : post (.bool true) h) : S 543 [v, .str s] h post k := by
  have hv := fun g => Slc.lenV (hs) (g := g) (ρ := fun _ => _) (x := .t 0) rfl; simp only [evOp] at hv
  refine S_of rfl T543 ?_; unfold fi543
  simp (maxSteps := 1000000) (disch := first | omega | rfl | (simp only [zL, two63, room] <;> omega) | fail) only [↓reduceIte, ↓zP, zW, WOp, evOp, evBin, binI, binSh, binS, evNil, keyIs, keyEq, mkv, AV.cells, AV.sc, optv, bnd, env, put, Env.get, Env.set, Env.del, Env.dels, Env.init, res1, resL, resV, fillP, splice, newRow, Nat.reduceEqDiff, Nat.reduceLT, Nat.reduceLeDiff, Nat.reduceAdd, Nat.reduceMul, Nat.reduceSub, Nat.reduceBEq, reduceCtorEq, ↓zR, zQ, Tr, StA, StT, hv]
  refine lp_nText hlen s hs ?_ L [] rfl hm
  simp (maxSteps := 1000000) (disch := first | omega | rfl | (simp only [zL, two63, room] <;> omega) | fail) only [↓reduceIte, ↓zP, zW, WOp, evOp, evBin, binI, binSh, binS, evNil, keyIs, keyEq, mkv, AV.cells, AV.sc, optv, bnd, env, put, Env.get, Env.set, Env.del, Env.dels, Env.init, res1, resL, resV, fillP, splice, newRow, Nat.reduceEqDiff, Nat.reduceLT, Nat.reduceLeDiff, Nat.reduceAdd, Nat.reduceMul, Nat.reduceSub, Nat.reduceBEq, reduceCtorEq, ↓zR, zQ, Tr, StA, StT]
  exact hp

/-! ### Puzzles made -/
def mpB (w : List UInt8) (c s : Int) : Bool := h5B w && (decide (0 ≤ c ∧ c ≤ 6) && decide (0 ≤ s ∧ s ≤ 9999))
def mpC (w : List UInt8) (c s : Int) : List Clu := if mpB w c s then mkZ w c.toNat s.toNat else []
def mpN (w : List UInt8) (c s : Int) : Int := if mpB w c s then w.length else 0
theorem row1f {h : AH} {c : Nat} {x : AV} (hr : h[c]? = some (.row [x] 0 0 false)) : rdRow h c 0 0 1 = some [x] := by simp [rdRow, hr]
theorem row2f {h : AH} {c : Nat} {x y : AV} (hr : h[c]? = some (.row [x, y] 0 0 false)) : rdRow h c 0 0 1 = some [x] ∧ rdRow h c 0 1 1 = some [y] ∧ rdRow h c 0 0 2 = some [x, y] := by simp [rdRow, hr]
theorem e_pzNext (z : Nat) (hz : z < 2 ^ 20) {h : AH} {post : AV → AH → Prop} : S 595 [.int .i64 z] h post k = post (.int .i64 (nxZ z : Nat)) h := S_eq fun post hp => by
  have w1 : (167 : Int) * (z : Int) = ((167 * z : Nat) : Int) := by omega
  have w2 : ((167 * z : Nat) : Int) + 2281 = ((167 * z + 2281 : Nat) : Int) := by omega
  have w3 : ((167 * z + 2281 : Nat) : Int).tmod 10007 = (nxZ z : Nat) := by
    unfold nxZ
    rw [Int.tmod_eq_emod_of_nonneg (by omega)]; omega
  have n7 : ¬ ((10007 : Int) = 0) := by omega
  refine S_of rfl T595 ?_; unfold fi595
  simp (maxSteps := 1000000) (disch := first | omega | rfl | (simp only [zL, two63, room] <;> omega) | fail) only [↓reduceIte, ↓zP, zW, WOp, evOp, evBin, binI, binSh, binS, evNil, keyIs, keyEq, mkv, AV.cells, AV.sc, optv, bnd, env, put, Env.get, Env.set, Env.del, Env.dels, Env.init, res1, resL, resV, fillP, splice, newRow, Nat.reduceEqDiff, Nat.reduceLT, Nat.reduceLeDiff, Nat.reduceAdd, Nat.reduceMul, Nat.reduceSub, Nat.reduceBEq, reduceCtorEq, ↓zR, zQ, Tr, StA, StT, w1, w2, w3, n7]
  exact hp
theorem c_next1 (z : Nat) (hz : z < 2 ^ 20) {h : AH} {r : Nat} (hr : h[r]? = some (.row [.int .i64 z] 0 0 false)) {post : AV → AH → Prop} (hp : post (.int .i64 (nxZ z : Nat)) (h.set r (.row [.int .i64 (nxZ z : Nat)] 0 0 false))) : S 593 [.ptr r 0 0 1] h post k := by
  have w1 : (z : Int) * 167 = ((167 * z : Nat) : Int) := by omega
  have w2 : ((167 * z : Nat) : Int) + 2281 = ((167 * z + 2281 : Nat) : Int) := by omega
  have w3 : ((167 * z + 2281 : Nat) : Int).tmod 10007 = (nxZ z : Nat) := by
    unfold nxZ
    rw [Int.tmod_eq_emod_of_nonneg (by omega)]; omega
  have hl := (List.getElem?_eq_some_iff.1 hr).1
  have n7 : ¬ ((10007 : Int) = 0) := by omega
  refine S_of rfl T593 ?_; unfold fi593
  simp (maxSteps := 1000000) (disch := first | omega | rfl | (simp only [zL, two63, room] <;> omega) | fail) only [↓reduceIte, ↓zP, zW, WOp, evOp, evBin, binI, binSh, binS, evNil, keyIs, keyEq, mkv, AV.cells, AV.sc, optv, bnd, env, put, Env.get, Env.set, Env.del, Env.dels, Env.init, res1, resL, resV, fillP, splice, newRow, Nat.reduceEqDiff, Nat.reduceLT, Nat.reduceLeDiff, Nat.reduceAdd, Nat.reduceMul, Nat.reduceSub, Nat.reduceBEq, reduceCtorEq, ↓zR, zQ, Tr, StA, StT, row1f hr, wr_of hr, w1, w2, w3, n7]
  exact hp
theorem c_pzOf (kd cell : Int) (w : List UInt8) (hs : w.all isSign = true) (hw : w.length ≤ 12) (hk : 0 ≤ kd ∧ kd ≤ 5) (hc : kd = 0 → 0 ≤ cell ∧ cell < w.length) {h : AH} {post : AV → AH → Prop} (hp : ∀ h', Pre h h' → post (.agg (encC (clueB kd cell w))) h') : S 596 [.int .i64 kd, .int .i64 cell, .str w] h post k := by
  have P1 := Pre.push h (AO.row [.int .i64 0, .int .i64 0, .int .i64 0] 0 0 false)
  have z1 := zrow h (AO.row [.int .i64 0, .int .i64 0, .int .i64 0] 0 0 false)
  have l1 : h.length < (h ++ [AO.row [.int .i64 0, .int .i64 0, .int .i64 0] 0 0 false]).length := by simp
  generalize hg1 : h ++ [AO.row [.int .i64 0, .int .i64 0, .int .i64 0] 0 0 false] = g1 at *
  have fin : ∀ h2, Pre g1 h2 → h2[h.length]? = some (.row [.int .i64 0, .int .i64 0, .int .i64 0] 0 0 false) ∧ h.length < h2.length := fun h2 p2 => ⟨by rw [p2.2 _ l1]; exact z1, Nat.lt_of_lt_of_le l1 p2.1⟩
  have hv : ∀ (hk0 : kd ≠ 0), clueB kd cell w = (kd, valB kd 0 w, 0) := by
    intro hk0
    have c5 := ix4 (winB w true) (winB w false)
    obtain rfl | rfl | rfl | rfl | rfl : kd = 1 ∨ kd = 2 ∨ kd = 3 ∨ kd = 4 ∨ kd = 5 := by omega
    all_goals simp [clueB, valB]
    exact (pzI_ix c5.1).symm
  refine S_of rfl T596 ?_; unfold fi596
  by_cases k0 : kd = 0
  · subst k0
    have e0 : clueB 0 cell w = (0, cell, valB 0 cell w) := by
      have hc0 := hc rfl
      have c0 := ix3 (b := w.getD cell.toNat 0) (by
        have hlt : cell.toNat < w.length := by omega
        have := List.all_eq_true.1 hs (w[cell.toNat]) (List.getElem_mem hlt)
        simpa [List.getD_eq_getElem?_getD, hlt] using this)
      simp only [clueB, valB, if_true, pzI_ix c0.1]
    rw [e0] at hp
    simp (maxSteps := 1000000) (disch := first | omega | rfl | (simp only [zL, two63, room] <;> omega) | fail) only [↓reduceIte, ↓zP, zW, WOp, evOp, evBin, binI, binSh, binS, evNil, keyIs, keyEq, mkv, AV.cells, AV.sc, optv, bnd, env, put, Env.get, Env.set, Env.del, Env.dels, Env.init, res1, resL, resV, fillP, splice, newRow, Nat.reduceEqDiff, Nat.reduceLT, Nat.reduceLeDiff, Nat.reduceAdd, Nat.reduceMul, Nat.reduceSub, Nat.reduceBEq, reduceCtorEq, ↓zR, zQ, Tr, StA, StT, hg1]
    refine c_pzValue 0 cell w hs hw hc ?_
    intro h2 p2
    obtain ⟨f1, f2⟩ := fin h2 p2
    simp (maxSteps := 1000000) (disch := first | omega | rfl | (simp only [zL, two63, room] <;> omega) | fail) only [↓reduceIte, ↓zP, zW, WOp, evOp, evBin, binI, binSh, binS, evNil, keyIs, keyEq, mkv, AV.cells, AV.sc, optv, bnd, env, put, Env.get, Env.set, Env.del, Env.dels, Env.init, res1, resL, resV, fillP, splice, newRow, Nat.reduceEqDiff, Nat.reduceLT, Nat.reduceLeDiff, Nat.reduceAdd, Nat.reduceMul, Nat.reduceSub, Nat.reduceBEq, reduceCtorEq, ↓zR, zQ, Tr, StA, StT, wr_of f1, List.length_set, f2]
    exact hp _ ((P1.trans p2).set (Nat.le_refl _))
  · rw [hv k0] at hp
    have n0 : (kd == 0) = false := by simpa using k0
    simp (maxSteps := 1000000) (disch := first | omega | rfl | (simp only [zL, two63, room] <;> omega) | fail) only [↓reduceIte, ↓zP, zW, WOp, evOp, evBin, binI, binSh, binS, evNil, keyIs, keyEq, mkv, AV.cells, AV.sc, optv, bnd, env, put, Env.get, Env.set, Env.del, Env.dels, Env.init, res1, resL, resV, fillP, splice, newRow, Nat.reduceEqDiff, Nat.reduceLT, Nat.reduceLeDiff, Nat.reduceAdd, Nat.reduceMul, Nat.reduceSub, Nat.reduceBEq, reduceCtorEq, ↓zR, zQ, Tr, StA, StT, hg1, n0]
    refine c_pzValue kd 0 w hs hw (fun e => absurd e k0) ?_
    intro h2 p2
    obtain ⟨f1, f2⟩ := fin h2 p2
    simp (maxSteps := 1000000) (disch := first | omega | rfl | (simp only [zL, two63, room] <;> omega) | fail) only [↓reduceIte, ↓zP, zW, WOp, evOp, evBin, binI, binSh, binS, evNil, keyIs, keyEq, mkv, AV.cells, AV.sc, optv, bnd, env, put, Env.get, Env.set, Env.del, Env.dels, Env.init, res1, resL, resV, fillP, splice, newRow, Nat.reduceEqDiff, Nat.reduceLT, Nat.reduceLeDiff, Nat.reduceAdd, Nat.reduceMul, Nat.reduceSub, Nat.reduceBEq, reduceCtorEq, ↓zR, zQ, Tr, StA, StT, wr_of f1, List.length_set, f2]
    exact hp _ ((P1.trans p2).set (Nat.le_refl _))
theorem mkZ_succ (w : List UInt8) (d z : Nat) : mkZ w (d + 1) z = if nxZ z % 6 = 0 then clueB 0 ((nxZ (nxZ z) % w.length : Nat) : Int) w :: mkZ w d (nxZ (nxZ z)) else clueB ((nxZ z % 6 : Nat) : Int) 0 w :: mkZ w d (nxZ z) := rfl
theorem tmod_nat (a b : Nat) : (a : Int).tmod b = ((a % b : Nat) : Int) := by rw [Int.tmod_eq_emod_of_nonneg (by omega)]; omega
/-- A puzzle that is being made, in a row r. -/
def MI (w : List UInt8) (g0 b : AH) (e r : Nat) (v : AV) (L : List Clu) (h : AH) : Prop := h[r]? = some (.row [.int .i64 w.length, v] 0 0 false) ∧ OwL 3 encC b h v L ∧ (Ag g0.length g0 h ∧ h[e]? = some (.row [.int .i64 0, .nilS] 0 0 false)) ∧ b.length ≤ h.length ∧ (r < b.length ∧ e < b.length ∧ e ≠ r) ∧ g0.length ≤ r
/-- A clue is added. -/
theorem MI.add {w : List UInt8} {g0 b h1 h2 : AH} {e r : Nat} {v : AV} {L : List Clu} (hm : MI w g0 b e r v L h1) (p2 : Pre h1 h2) (c : Clu) (hL : L.length < 100) : ∃ v3 h3, apRow (h2 ++ [AO.row (encC c) 0 0 false]) 3 v 1 (encC c) = some (v3, h3) ∧ h3[r]? = some (.row [.int .i64 w.length, v] 0 0 false) ∧ v3.cells = [v3] ∧ v3.sc = true ∧ Ag b.length h2 h3 ∧
    MI w g0 b e r v3 (L ++ [c]) (h3.set r (.row [.int .i64 w.length, v3] 0 0 false)) := by
  obtain ⟨m1, m2, m3, m4, m5, m6⟩ := hm
  have px := Pre.push h2 (AO.row (encC c) 0 0 false)
  have p := p2.trans px
  obtain ⟨v3, h3, a1, a2, a3⟩ := apA hlC scC (m2.pre p) (Nat.le_trans m4 p.1) c (by omega)
  obtain ⟨m3, m3e⟩ := m3
  obtain ⟨m5, m5e, m5n⟩ := m5
  have f : h3[r]? = some (.row [.int .i64 w.length, v] 0 0 false) := by rw [a3.2 r m5, p.2 r (by omega)]; exact m1
  have l3 := (List.getElem?_eq_some_iff.1 f).1
  have w1 := (sl_cells a2.slc).1
  have w2 := (sl_cells a2.slc).2
  refine ⟨v3, h3, a1, f, w1, w2, ?_, by rw [List.getElem?_set, if_pos rfl, if_pos l3], own_set a2 m5, ⟨?_, by rw [List.getElem?_set, if_neg (Ne.symm m5n), a3.2 e m5e, p.2 e (by omega)]; exact m3e⟩, ?_, ⟨m5, m5e, m5n⟩, m6⟩
  · exact (px.ag (Nat.le_trans m4 p2.1)).trans a3
  · exact ((m3.trans (p.ag (by omega))).trans (a3.mono (by omega))).set m6
  · simp; have := a3.1; have := p.1; omega
theorem lp_sMake (w : List UInt8) (hg : w.all isSign = true) (h1 : 1 ≤ w.length) (h5 : w.length ≤ 5) {g0 b : AH} {e r : Nat} {R : X → Env → AH → Prop} : ∀ (d z : Nat) (v : AV) (L : List Clu) (h : AH), MI w g0 b e r v L h → z < 2 ^ 20 → L.length + d < 100 →
    (∀ v' h', MI w g0 b e r v' (L ++ mkZ w d z) h' → R (.exit 0) [(6, .ptr g0.length 0 0 2), (8, .ptr r 0 0 2)] h') →
    Cx (.loop lp541_0) [(0, .str w), (1, .int .i64 d), (6, .ptr g0.length 0 0 2), (8, .ptr r 0 0 2), (9, .int .i64 z)] h R k k
  | 0, z, v, L, h, hm, hz, hL, hR => by
    rw [w_loopb (c := lp541_0) (d := lb541_0) rfl]; unfold lb541_0
    simp (maxSteps := 1000000) (disch := first | omega | rfl | (simp only [zL, two63, room] <;> omega) | fail) only [↓reduceIte, ↓zP, zW, WOp, evOp, evBin, binI, binSh, binS, evNil, keyIs, keyEq, mkv, AV.cells, AV.sc, optv, bnd, env, put, Env.get, Env.set, Env.del, Env.dels, Env.init, res1, resL, resV, fillP, splice, newRow, Nat.reduceEqDiff, Nat.reduceLT, Nat.reduceLeDiff, Nat.reduceAdd, Nat.reduceMul, Nat.reduceSub, Nat.reduceBEq, reduceCtorEq, ↓zR, zQ, Tr, StA, StT]
    exact hR v h (by simpa [mkZ] using hm)
  | d + 1, z, v, L, h, hm, hz, hL, hR => by
    have ih := lp_sMake w hg h1 h5 (g0 := g0) (b := b) (e := e) (r := r) (R := R) d
    have n1 : ((d + 1 : Nat) : Int) > 0 := by omega
    have n2 : ((d + 1 : Nat) : Int) - 1 = (d : Int) := by omega
    have z1 := nxZ_lt z
    have z2 := nxZ_lt (nxZ z)
    have tw := tmod_nat (nxZ (nxZ z)) w.length
    have c1 : nxZ (nxZ z) % w.length < w.length := Nat.mod_lt _ (by omega)
    have c6 : nxZ z % 6 < 6 := Nat.mod_lt _ (by omega)
    have nw : ((w.length : Int) == 0) = false := beq_f (by omega)
    have nw' : ¬ ((w.length : Int) = 0) := by omega
    have n6 : ¬ ((6 : Int) = 0) := by omega
    rw [mkZ_succ] at hR
    have q1 := (row2f hm.1).2.1
    have lr : r < h.length := rd_lt q1
    rw [w_loopb (c := lp541_0) (d := lb541_0) rfl]; unfold lb541_0
    by_cases k0 : nxZ z % 6 = 0
    · rw [if_pos k0] at hR
      have t6 : ((nxZ z : Nat) : Int).tmod 6 = 0 := by rw [show (6 : Int) = ((6 : Nat) : Int) from rfl, tmod_nat, k0]; rfl
      simp (maxSteps := 1000000) (disch := first | omega | rfl | (simp only [zL, two63, room] <;> omega) | fail) only [↓reduceIte, ↓zP, zW, WOp, evOp, evBin, binI, binSh, binS, evNil, keyIs, keyEq, mkv, AV.cells, AV.sc, optv, bnd, env, put, Env.get, Env.set, Env.del, Env.dels, Env.init, res1, resL, resV, fillP, splice, newRow, Nat.reduceEqDiff, Nat.reduceLT, Nat.reduceLeDiff, Nat.reduceAdd, Nat.reduceMul, Nat.reduceSub, Nat.reduceBEq, reduceCtorEq, ↓zR, zQ, Tr, StA, StT, n1, e_pzNext z hz, t6, n6, nw', e_pzNext (nxZ z) (by omega), tw]
      refine w_drw ?_
      simp (maxSteps := 1000000) (disch := first | omega | rfl | (simp only [zL, two63, room] <;> omega) | fail) only [↓reduceIte, ↓zP, zW, WOp, evOp, evBin, binI, binSh, binS, evNil, keyIs, keyEq, mkv, AV.cells, AV.sc, optv, bnd, env, put, Env.get, Env.set, Env.del, Env.dels, Env.init, res1, resL, resV, fillP, splice, newRow, Nat.reduceEqDiff, Nat.reduceLT, Nat.reduceLeDiff, Nat.reduceAdd, Nat.reduceMul, Nat.reduceSub, Nat.reduceBEq, reduceCtorEq, ↓zR, zQ, Tr, StA, StT, q1]
      refine c_pzOf 0 _ w hg (by omega) (by omega) (fun _ => by omega) ?_
      intro h2 p2
      obtain ⟨v3, h3, a1, a2, w1, w2, aA, hm3⟩ := hm.add p2 (clueB 0 ((nxZ (nxZ z) % w.length : Nat) : Int) w) (by omega)
      have q2 := rdRow_pre p2 q1
      have lr2 : r < h2.length := rd_lt q2
      have q3 := (row2f a2).2.1
      simp only [AV.cells] at w1
      unfold AV.sc at w2
      simp (maxSteps := 1000000) (disch := first | omega | rfl | (simp only [zL, two63, room] <;> omega) | fail) only [↓reduceIte, ↓zP, zW, WOp, evOp, evBin, binI, binSh, binS, evNil, keyIs, keyEq, mkv, AV.cells, AV.sc, optv, bnd, env, put, Env.get, Env.set, Env.del, Env.dels, Env.init, res1, resL, resV, fillP, splice, newRow, Nat.reduceEqDiff, Nat.reduceLT, Nat.reduceLeDiff, Nat.reduceAdd, Nat.reduceMul, Nat.reduceSub, Nat.reduceBEq, reduceCtorEq, ↓zR, zQ, Tr, StA, StT, q1, q2, q3, a1, wr_of a2, w1, w2]
      simp (maxSteps := 1000000) (disch := first | omega | rfl | (simp only [zL, two63, room] <;> omega) | fail) only [↓reduceIte, ↓zP, zW, WOp, evOp, evBin, binI, binSh, binS, evNil, keyIs, keyEq, mkv, AV.cells, AV.sc, optv, bnd, env, put, Env.get, Env.set, Env.del, Env.dels, Env.init, res1, resL, resV, fillP, splice, newRow, Nat.reduceEqDiff, Nat.reduceLT, Nat.reduceLeDiff, Nat.reduceAdd, Nat.reduceMul, Nat.reduceSub, Nat.reduceBEq, reduceCtorEq, ↓zR, zQ, Tr, StA, StT, n2]
      rw [w_loopn (c := lp541_0) rfl]
      simp (maxSteps := 1000000) (disch := first | omega | rfl | (simp only [zL, two63, room] <;> omega) | fail) only [↓reduceIte, ↓zP, zW, WOp, evOp, evBin, binI, binSh, binS, evNil, keyIs, keyEq, mkv, AV.cells, AV.sc, optv, bnd, env, put, Env.get, Env.set, Env.del, Env.dels, Env.init, res1, resL, resV, fillP, splice, newRow, Nat.reduceEqDiff, Nat.reduceLT, Nat.reduceLeDiff, Nat.reduceAdd, Nat.reduceMul, Nat.reduceSub, Nat.reduceBEq, reduceCtorEq, ↓zR, zQ, Tr, StA, StT]
      exact ih _ v3 _ _ hm3 (by omega) (by simp; omega) (fun v' h' m => hR v' h' (by simpa using m))
    · rw [if_neg k0] at hR
      have t6 : ((nxZ z : Nat) : Int).tmod 6 = ((nxZ z % 6 : Nat) : Int) := tmod_nat _ 6
      have e6 : (((nxZ z % 6 : Nat) : Int) == 0) = false := beq_f (by omega)
      simp (maxSteps := 1000000) (disch := first | omega | rfl | (simp only [zL, two63, room] <;> omega) | fail) only [↓reduceIte, ↓zP, zW, WOp, evOp, evBin, binI, binSh, binS, evNil, keyIs, keyEq, mkv, AV.cells, AV.sc, optv, bnd, env, put, Env.get, Env.set, Env.del, Env.dels, Env.init, res1, resL, resV, fillP, splice, newRow, Nat.reduceEqDiff, Nat.reduceLT, Nat.reduceLeDiff, Nat.reduceAdd, Nat.reduceMul, Nat.reduceSub, Nat.reduceBEq, reduceCtorEq, ↓zR, zQ, Tr, StA, StT, n1, e_pzNext z hz, t6, n6, e6]
      refine w_drw ?_
      simp (maxSteps := 1000000) (disch := first | omega | rfl | (simp only [zL, two63, room] <;> omega) | fail) only [↓reduceIte, ↓zP, zW, WOp, evOp, evBin, binI, binSh, binS, evNil, keyIs, keyEq, mkv, AV.cells, AV.sc, optv, bnd, env, put, Env.get, Env.set, Env.del, Env.dels, Env.init, res1, resL, resV, fillP, splice, newRow, Nat.reduceEqDiff, Nat.reduceLT, Nat.reduceLeDiff, Nat.reduceAdd, Nat.reduceMul, Nat.reduceSub, Nat.reduceBEq, reduceCtorEq, ↓zR, zQ, Tr, StA, StT, q1]
      refine c_pzOf _ 0 w hg (by omega) (by omega) (fun e => by omega) ?_
      intro h2 p2
      obtain ⟨v3, h3, a1, a2, w1, w2, aA, hm3⟩ := hm.add p2 (clueB ((nxZ z % 6 : Nat) : Int) 0 w) (by omega)
      have q2 := rdRow_pre p2 q1
      have lr2 : r < h2.length := rd_lt q2
      have q3 := (row2f a2).2.1
      simp only [AV.cells] at w1
      unfold AV.sc at w2
      simp (maxSteps := 1000000) (disch := first | omega | rfl | (simp only [zL, two63, room] <;> omega) | fail) only [↓reduceIte, ↓zP, zW, WOp, evOp, evBin, binI, binSh, binS, evNil, keyIs, keyEq, mkv, AV.cells, AV.sc, optv, bnd, env, put, Env.get, Env.set, Env.del, Env.dels, Env.init, res1, resL, resV, fillP, splice, newRow, Nat.reduceEqDiff, Nat.reduceLT, Nat.reduceLeDiff, Nat.reduceAdd, Nat.reduceMul, Nat.reduceSub, Nat.reduceBEq, reduceCtorEq, ↓zR, zQ, Tr, StA, StT, q1, q2, q3, a1, wr_of a2, w1, w2]
      simp (maxSteps := 1000000) (disch := first | omega | rfl | (simp only [zL, two63, room] <;> omega) | fail) only [↓reduceIte, ↓zP, zW, WOp, evOp, evBin, binI, binSh, binS, evNil, keyIs, keyEq, mkv, AV.cells, AV.sc, optv, bnd, env, put, Env.get, Env.set, Env.del, Env.dels, Env.init, res1, resL, resV, fillP, splice, newRow, Nat.reduceEqDiff, Nat.reduceLT, Nat.reduceLeDiff, Nat.reduceAdd, Nat.reduceMul, Nat.reduceSub, Nat.reduceBEq, reduceCtorEq, ↓zR, zQ, Tr, StA, StT, n2]
      rw [w_loopn (c := lp541_0) rfl]
      simp (maxSteps := 1000000) (disch := first | omega | rfl | (simp only [zL, two63, room] <;> omega) | fail) only [↓reduceIte, ↓zP, zW, WOp, evOp, evBin, binI, binSh, binS, evNil, keyIs, keyEq, mkv, AV.cells, AV.sc, optv, bnd, env, put, Env.get, Env.set, Env.del, Env.dels, Env.init, res1, resL, resV, fillP, splice, newRow, Nat.reduceEqDiff, Nat.reduceLT, Nat.reduceLeDiff, Nat.reduceAdd, Nat.reduceMul, Nat.reduceSub, Nat.reduceBEq, reduceCtorEq, ↓zR, zQ, Tr, StA, StT]
      exact ih _ v3 _ _ hm3 (by omega) (by simp; omega) (fun v' h' m => hR v' h' (by simpa using m))
/-- The program's: the closure's number in a row q. -/
def MJ (w : List UInt8) (g0 b : AH) (e q r z : Nat) (v : AV) (L : List Clu) (h : AH) : Prop := MI w g0 b e r v L h ∧ h[q]? = some (.row [.int .i64 z] 0 0 false) ∧ q < b.length ∧ (q ≠ r ∧ q ≠ e) ∧ g0.length ≤ q
theorem MJ.next {w : List UInt8} {g0 b : AH} {e q r z : Nat} {v : AV} {L : List Clu} {h : AH} (hm : MJ w g0 b e q r z v L h) (y : Nat) : MJ w g0 b e q r y v L (h.set q (.row [.int .i64 y] 0 0 false)) := by
  obtain ⟨⟨m1, m2, ⟨m3, m3e⟩, m4, m5, m6⟩, m7, m8, ⟨m9, m9e⟩, mA⟩ := hm
  have lq := (List.getElem?_eq_some_iff.1 m7).1
  exact ⟨⟨by rw [List.getElem?_set, if_neg m9]; exact m1, own_set m2 m8, ⟨m3.set mA, by rw [List.getElem?_set, if_neg m9e]; exact m3e⟩, by simpa using m4, m5, m6⟩, by rw [List.getElem?_set, if_pos rfl, if_pos lq], m8, ⟨m9, m9e⟩, mA⟩
theorem MJ.add {w : List UInt8} {g0 b h1 h2 : AH} {e q r z : Nat} {v : AV} {L : List Clu} (hm : MJ w g0 b e q r z v L h1) (p2 : Pre h1 h2) (c : Clu) (hL : L.length < 100) : ∃ v3 h3, apRow (h2 ++ [AO.row (encC c) 0 0 false]) 3 v 1 (encC c) = some (v3, h3) ∧ h3[r]? = some (.row [.int .i64 w.length, v] 0 0 false) ∧ v3.cells = [v3] ∧ v3.sc = true ∧
    MJ w g0 b e q r z v3 (L ++ [c]) (h3.set r (.row [.int .i64 w.length, v3] 0 0 false)) := by
  obtain ⟨m1, m7, m8, ⟨m9, m9e⟩, mA⟩ := hm
  obtain ⟨v3, h3, a1, a2, w1, w2, a3, hm3⟩ := m1.add p2 c hL
  have lq := (List.getElem?_eq_some_iff.1 m7).1
  exact ⟨v3, h3, a1, a2, w1, w2, hm3, by rw [List.getElem?_set, if_neg (Ne.symm m9), a3.2 q m8, p2.2 q lq]; exact m7, m8, ⟨m9, m9e⟩, mA⟩
theorem lp_Make (w : List UInt8) (hg : w.all isSign = true) (h1 : 1 ≤ w.length) (h5 : w.length ≤ 5) {g0 b : AH} {e q r K p : Nat} (hK : K < 1000) {R : X → Env → AH → Prop} : ∀ (d j z : Nat) (v : AV) (L : List Clu) (h : AH), MJ w g0 b e q r z v L h → z < 2 ^ 20 → L.length + d < 100 → j + d = K →
    (∀ v' h', MI w g0 b e r v' (L ++ mkZ w d z) h' → R (.exit 0) [(6, .ptr p 0 0 2), (9, .ptr r 0 0 2)] h') →
    Cx (.loop lp540_0) [(0, .str w), (6, .ptr p 0 0 2), (8, .fn 593 [.ptr q 0 0 1]), (9, .ptr r 0 0 2), (31, .int .i64 K), (32, .int .i64 j)] h R k k
  | 0, j, z, v, L, h, hm, hz, hL, hj, hR => by
    obtain rfl : j = K := by omega
    rw [w_loopb (c := lp540_0) (d := lb540_0) rfl]; unfold lb540_0
    simp (maxSteps := 1000000) (disch := first | omega | rfl | (simp only [zL, two63, room] <;> omega) | fail) only [↓reduceIte, ↓zP, zW, WOp, evOp, evBin, binI, binSh, binS, evNil, keyIs, keyEq, mkv, AV.cells, AV.sc, optv, bnd, env, put, Env.get, Env.set, Env.del, Env.dels, Env.init, res1, resL, resV, fillP, splice, newRow, Nat.reduceEqDiff, Nat.reduceLT, Nat.reduceLeDiff, Nat.reduceAdd, Nat.reduceMul, Nat.reduceSub, Nat.reduceBEq, reduceCtorEq, ↓zR, zQ, Tr, StA, StT]
    exact hR v h (by simpa [mkZ] using hm.1)
  | d + 1, j, z, v, L, h, hm, hz, hL, hj, hR => by
    have ih := lp_Make w hg h1 h5 hK (g0 := g0) (b := b) (e := e) (q := q) (r := r) (K := K) (p := p) (R := R) d (j + 1)
    have n1 : (j : Int) < (K : Int) := by omega
    have n2 : (j : Int) + 1 = ((j + 1 : Nat) : Int) := by omega
    have z1 := nxZ_lt z
    have z2 := nxZ_lt (nxZ z)
    have tw := tmod_nat (nxZ (nxZ z)) w.length
    have c1 : nxZ (nxZ z) % w.length < w.length := Nat.mod_lt _ (by omega)
    have c6 : nxZ z % 6 < 6 := Nat.mod_lt _ (by omega)
    have nw : ((w.length : Int) == 0) = false := beq_f (by omega)
    have nw' : ¬ ((w.length : Int) = 0) := by omega
    have n6 : ¬ ((6 : Int) = 0) := by omega
    rw [mkZ_succ] at hR
    have hm1 := hm.next (nxZ z)
    have q1 := (row2f hm1.1.1).2.1
    have lr := rd_lt q1
    rw [w_loopb (c := lp540_0) (d := lb540_0) rfl]; unfold lb540_0
    simp (maxSteps := 1000000) (disch := first | omega | rfl | (simp only [zL, two63, room] <;> omega) | fail) only [↓reduceIte, ↓zP, zW, WOp, evOp, evBin, binI, binSh, binS, evNil, keyIs, keyEq, mkv, AV.cells, AV.sc, optv, bnd, env, put, Env.get, Env.set, Env.del, Env.dels, Env.init, res1, resL, resV, fillP, splice, newRow, Nat.reduceEqDiff, Nat.reduceLT, Nat.reduceLeDiff, Nat.reduceAdd, Nat.reduceMul, Nat.reduceSub, Nat.reduceBEq, reduceCtorEq, ↓zR, zQ, Tr, StA, StT, n1]
    refine c_next1 z hz hm.2.1 ?_
    generalize h.set q (AO.row [.int .i64 (nxZ z : Nat)] 0 0 false) = g1 at *
    by_cases k0 : nxZ z % 6 = 0
    · rw [if_pos k0] at hR
      have t6 : ((nxZ z : Nat) : Int).tmod 6 = 0 := by rw [show (6 : Int) = ((6 : Nat) : Int) from rfl, tmod_nat, k0]; rfl
      simp (maxSteps := 1000000) (disch := first | omega | rfl | (simp only [zL, two63, room] <;> omega) | fail) only [↓reduceIte, ↓zP, zW, WOp, evOp, evBin, binI, binSh, binS, evNil, keyIs, keyEq, mkv, AV.cells, AV.sc, optv, bnd, env, put, Env.get, Env.set, Env.del, Env.dels, Env.init, res1, resL, resV, fillP, splice, newRow, Nat.reduceEqDiff, Nat.reduceLT, Nat.reduceLeDiff, Nat.reduceAdd, Nat.reduceMul, Nat.reduceSub, Nat.reduceBEq, reduceCtorEq, ↓zR, zQ, Tr, StA, StT, t6, n6]
      refine c_next1 (nxZ z) (by omega) hm1.2.1 ?_
      have hm2 := hm1.next (nxZ (nxZ z))
      have q1' := (row2f hm2.1.1).2.1
      have lr' := rd_lt q1'
      generalize g1.set q (AO.row [.int .i64 (nxZ (nxZ z) : Nat)] 0 0 false) = g2 at *
      simp (maxSteps := 1000000) (disch := first | omega | rfl | (simp only [zL, two63, room] <;> omega) | fail) only [↓reduceIte, ↓zP, zW, WOp, evOp, evBin, binI, binSh, binS, evNil, keyIs, keyEq, mkv, AV.cells, AV.sc, optv, bnd, env, put, Env.get, Env.set, Env.del, Env.dels, Env.init, res1, resL, resV, fillP, splice, newRow, Nat.reduceEqDiff, Nat.reduceLT, Nat.reduceLeDiff, Nat.reduceAdd, Nat.reduceMul, Nat.reduceSub, Nat.reduceBEq, reduceCtorEq, ↓zR, zQ, Tr, StA, StT, nw', tw]
      refine w_drw ?_
      simp (maxSteps := 1000000) (disch := first | omega | rfl | (simp only [zL, two63, room] <;> omega) | fail) only [↓reduceIte, ↓zP, zW, WOp, evOp, evBin, binI, binSh, binS, evNil, keyIs, keyEq, mkv, AV.cells, AV.sc, optv, bnd, env, put, Env.get, Env.set, Env.del, Env.dels, Env.init, res1, resL, resV, fillP, splice, newRow, Nat.reduceEqDiff, Nat.reduceLT, Nat.reduceLeDiff, Nat.reduceAdd, Nat.reduceMul, Nat.reduceSub, Nat.reduceBEq, reduceCtorEq, ↓zR, zQ, Tr, StA, StT, q1']
      refine c_clueOf 0 _ w (by omega) (fun _ => by omega) ?_
      intro h2 p2
      obtain ⟨v3, h3, a1, a2, w1, w2, hm3⟩ := hm2.add p2 (clueB 0 ((nxZ (nxZ z) % w.length : Nat) : Int) w) (by omega)
      have q2 := rdRow_pre p2 q1'
      have lr2 : r < h2.length := rd_lt q2
      have q3 := (row2f a2).2.1
      simp only [AV.cells] at w1
      unfold AV.sc at w2
      simp (maxSteps := 1000000) (disch := first | omega | rfl | (simp only [zL, two63, room] <;> omega) | fail) only [↓reduceIte, ↓zP, zW, WOp, evOp, evBin, binI, binSh, binS, evNil, keyIs, keyEq, mkv, AV.cells, AV.sc, optv, bnd, env, put, Env.get, Env.set, Env.del, Env.dels, Env.init, res1, resL, resV, fillP, splice, newRow, Nat.reduceEqDiff, Nat.reduceLT, Nat.reduceLeDiff, Nat.reduceAdd, Nat.reduceMul, Nat.reduceSub, Nat.reduceBEq, reduceCtorEq, ↓zR, zQ, Tr, StA, StT, q1', q2, q3, a1, wr_of a2, w1, w2]
      simp (maxSteps := 1000000) (disch := first | omega | rfl | (simp only [zL, two63, room] <;> omega) | fail) only [↓reduceIte, ↓zP, zW, WOp, evOp, evBin, binI, binSh, binS, evNil, keyIs, keyEq, mkv, AV.cells, AV.sc, optv, bnd, env, put, Env.get, Env.set, Env.del, Env.dels, Env.init, res1, resL, resV, fillP, splice, newRow, Nat.reduceEqDiff, Nat.reduceLT, Nat.reduceLeDiff, Nat.reduceAdd, Nat.reduceMul, Nat.reduceSub, Nat.reduceBEq, reduceCtorEq, ↓zR, zQ, Tr, StA, StT, n2]
      rw [w_loopn (c := lp540_0) rfl]
      simp (maxSteps := 1000000) (disch := first | omega | rfl | (simp only [zL, two63, room] <;> omega) | fail) only [↓reduceIte, ↓zP, zW, WOp, evOp, evBin, binI, binSh, binS, evNil, keyIs, keyEq, mkv, AV.cells, AV.sc, optv, bnd, env, put, Env.get, Env.set, Env.del, Env.dels, Env.init, res1, resL, resV, fillP, splice, newRow, Nat.reduceEqDiff, Nat.reduceLT, Nat.reduceLeDiff, Nat.reduceAdd, Nat.reduceMul, Nat.reduceSub, Nat.reduceBEq, reduceCtorEq, ↓zR, zQ, Tr, StA, StT]
      exact ih _ v3 _ _ hm3 (by omega) (by simp; omega) (by omega) (fun v' h' m => hR v' h' (by simpa using m))
    · rw [if_neg k0] at hR
      have t6 : ((nxZ z : Nat) : Int).tmod 6 = ((nxZ z % 6 : Nat) : Int) := tmod_nat _ 6
      have e6 : (((nxZ z % 6 : Nat) : Int) == 0) = false := beq_f (by omega)
      simp (maxSteps := 1000000) (disch := first | omega | rfl | (simp only [zL, two63, room] <;> omega) | fail) only [↓reduceIte, ↓zP, zW, WOp, evOp, evBin, binI, binSh, binS, evNil, keyIs, keyEq, mkv, AV.cells, AV.sc, optv, bnd, env, put, Env.get, Env.set, Env.del, Env.dels, Env.init, res1, resL, resV, fillP, splice, newRow, Nat.reduceEqDiff, Nat.reduceLT, Nat.reduceLeDiff, Nat.reduceAdd, Nat.reduceMul, Nat.reduceSub, Nat.reduceBEq, reduceCtorEq, ↓zR, zQ, Tr, StA, StT, t6, n6, e6]
      refine w_drw ?_
      simp (maxSteps := 1000000) (disch := first | omega | rfl | (simp only [zL, two63, room] <;> omega) | fail) only [↓reduceIte, ↓zP, zW, WOp, evOp, evBin, binI, binSh, binS, evNil, keyIs, keyEq, mkv, AV.cells, AV.sc, optv, bnd, env, put, Env.get, Env.set, Env.del, Env.dels, Env.init, res1, resL, resV, fillP, splice, newRow, Nat.reduceEqDiff, Nat.reduceLT, Nat.reduceLeDiff, Nat.reduceAdd, Nat.reduceMul, Nat.reduceSub, Nat.reduceBEq, reduceCtorEq, ↓zR, zQ, Tr, StA, StT, q1]
      refine c_clueOf _ 0 w (by omega) (fun e => by omega) ?_
      intro h2 p2
      obtain ⟨v3, h3, a1, a2, w1, w2, hm3⟩ := hm1.add p2 (clueB ((nxZ z % 6 : Nat) : Int) 0 w) (by omega)
      have q2 := rdRow_pre p2 q1
      have lr2 : r < h2.length := rd_lt q2
      have q3 := (row2f a2).2.1
      simp only [AV.cells] at w1
      unfold AV.sc at w2
      simp (maxSteps := 1000000) (disch := first | omega | rfl | (simp only [zL, two63, room] <;> omega) | fail) only [↓reduceIte, ↓zP, zW, WOp, evOp, evBin, binI, binSh, binS, evNil, keyIs, keyEq, mkv, AV.cells, AV.sc, optv, bnd, env, put, Env.get, Env.set, Env.del, Env.dels, Env.init, res1, resL, resV, fillP, splice, newRow, Nat.reduceEqDiff, Nat.reduceLT, Nat.reduceLeDiff, Nat.reduceAdd, Nat.reduceMul, Nat.reduceSub, Nat.reduceBEq, reduceCtorEq, ↓zR, zQ, Tr, StA, StT, q1, q2, q3, a1, wr_of a2, w1, w2]
      simp (maxSteps := 1000000) (disch := first | omega | rfl | (simp only [zL, two63, room] <;> omega) | fail) only [↓reduceIte, ↓zP, zW, WOp, evOp, evBin, binI, binSh, binS, evNil, keyIs, keyEq, mkv, AV.cells, AV.sc, optv, bnd, env, put, Env.get, Env.set, Env.del, Env.dels, Env.init, res1, resL, resV, fillP, splice, newRow, Nat.reduceEqDiff, Nat.reduceLT, Nat.reduceLeDiff, Nat.reduceAdd, Nat.reduceMul, Nat.reduceSub, Nat.reduceBEq, reduceCtorEq, ↓zR, zQ, Tr, StA, StT, n2]
      rw [w_loopn (c := lp540_0) rfl]
      simp (maxSteps := 1000000) (disch := first | omega | rfl | (simp only [zL, two63, room] <;> omega) | fail) only [↓reduceIte, ↓zP, zW, WOp, evOp, evBin, binI, binSh, binS, evNil, keyIs, keyEq, mkv, AV.cells, AV.sc, optv, bnd, env, put, Env.get, Env.set, Env.del, Env.dels, Env.init, res1, resL, resV, fillP, splice, newRow, Nat.reduceEqDiff, Nat.reduceLT, Nat.reduceLeDiff, Nat.reduceAdd, Nat.reduceMul, Nat.reduceSub, Nat.reduceBEq, reduceCtorEq, ↓zR, zQ, Tr, StA, StT]
      exact ih _ v3 _ _ hm3 (by omega) (by simp; omega) (by omega) (fun v' h' m => hR v' h' (by simpa using m))
theorem mp_hyp {w : List UInt8} {c s : Int} (h : mpB w c s = true) : ((1 ≤ w.length ∧ w.length ≤ 5) ∧ w.all isSign = true) ∧ ∃ C Z : Nat, c = C ∧ s = Z ∧ C ≤ 6 ∧ Z ≤ 9999 := by
  unfold mpB at h
  rw [Bool.and_eq_true, Bool.and_eq_true, decide_eq_true_eq, decide_eq_true_eq] at h
  exact ⟨h5B_iff h.1, c.toNat, s.toNat, by omega, by omega, by omega, by omega⟩
theorem c_sMakePuzzle (w : List UInt8) (hw : w.length < 2 ^ 60) (c s : Int) {h : AH} {post : AV → AH → Prop} (hp : ∀ v' h', OwL 3 encC h h' v' (mpC w c s) → Pre h h' → post (.tup [pzV (mpN w c s) v', .bool (mpB w c s)]) h') : S 541 [.str w, .int .i64 c, .int .i64 s] h post k := by
  have P1 := Pre.push h (AO.row [.int .i64 0, .nilS] 0 0 false)
  have z1 := zrow h (AO.row [.int .i64 0, .nilS] 0 0 false)
  have l1 : (h ++ [AO.row [.int .i64 0, .nilS] 0 0 false]).length = h.length + 1 := by simp
  have hh : h.length < (h ++ [AO.row [.int .i64 0, .nilS] 0 0 false]).length := by simp
  generalize hg1 : h ++ [AO.row [.int .i64 0, .nilS] 0 0 false] = g1 at *
  cases e : mpB w c s
  · unfold mpC mpN at hp
    rw [e] at hp
    refine S_of rfl T541 ?_; unfold fi541
    unfold mpB at e
    cases e5 : h5B w
    · simp (maxSteps := 1000000) (disch := first | omega | rfl | (simp only [zL, two63, room] <;> omega) | fail) only [↓reduceIte, ↓zP, zW, WOp, evOp, evBin, binI, binSh, binS, evNil, keyIs, keyEq, mkv, AV.cells, AV.sc, optv, bnd, env, put, Env.get, Env.set, Env.del, Env.dels, Env.init, res1, resL, resV, fillP, splice, newRow, Nat.reduceEqDiff, Nat.reduceLT, Nat.reduceLeDiff, Nat.reduceAdd, Nat.reduceMul, Nat.reduceSub, Nat.reduceBEq, reduceCtorEq, ↓zR, zQ, Tr, StA, StT, hg1, e_pzLine w hw, e5, wr_of z1, List.length_set, hh]
      exact hp .nilS _ OwL.nil (P1.set (Nat.le_refl _))
    · by_cases hc : 0 ≤ c ∧ c ≤ 6
      · by_cases hz : 0 ≤ s ∧ s ≤ 9999
        · rw [e5, decide_eq_true hc, decide_eq_true hz] at e; cases e
        · simp (maxSteps := 1000000) (disch := first | omega | rfl | (simp only [zL, two63, room] <;> omega) | fail) only [↓reduceIte, ↓zP, zW, WOp, evOp, evBin, binI, binSh, binS, evNil, keyIs, keyEq, mkv, AV.cells, AV.sc, optv, bnd, env, put, Env.get, Env.set, Env.del, Env.dels, Env.init, res1, resL, resV, fillP, splice, newRow, Nat.reduceEqDiff, Nat.reduceLT, Nat.reduceLeDiff, Nat.reduceAdd, Nat.reduceMul, Nat.reduceSub, Nat.reduceBEq, reduceCtorEq, ↓zR, zQ, Tr, StA, StT, hg1, e_pzLine w hw, e5, e_l1In, hc, hz, wr_of z1, List.length_set, hh]
          exact hp .nilS _ OwL.nil (P1.set (Nat.le_refl _))
      · simp (maxSteps := 1000000) (disch := first | omega | rfl | (simp only [zL, two63, room] <;> omega) | fail) only [↓reduceIte, ↓zP, zW, WOp, evOp, evBin, binI, binSh, binS, evNil, keyIs, keyEq, mkv, AV.cells, AV.sc, optv, bnd, env, put, Env.get, Env.set, Env.del, Env.dels, Env.init, res1, resL, resV, fillP, splice, newRow, Nat.reduceEqDiff, Nat.reduceLT, Nat.reduceLeDiff, Nat.reduceAdd, Nat.reduceMul, Nat.reduceSub, Nat.reduceBEq, reduceCtorEq, ↓zR, zQ, Tr, StA, StT, hg1, e_pzLine w hw, e5, e_l1In, hc, wr_of z1, List.length_set, hh]
        exact hp .nilS _ OwL.nil (P1.set (Nat.le_refl _))
  · obtain ⟨⟨⟨m1, m5⟩, hs⟩, C, Z, rfl, rfl, hC, hZ⟩ := mp_hyp e
    have e5 : h5B w = true := by unfold mpB at e; rw [Bool.and_eq_true] at e; exact e.1
    have hc : 0 ≤ (C : Int) ∧ (C : Int) ≤ 6 := by omega
    have hz : 0 ≤ (Z : Int) ∧ (Z : Int) ≤ 9999 := by omega
    unfold mpC mpN at hp
    rw [e] at hp
    simp only [if_true, Int.toNat_natCast] at hp
    refine S_of rfl T541 ?_; unfold fi541
    simp (maxSteps := 1000000) (disch := first | omega | rfl | (simp only [zL, two63, room] <;> omega) | fail) only [↓reduceIte, ↓zP, zW, WOp, evOp, evBin, binI, binSh, binS, evNil, keyIs, keyEq, mkv, AV.cells, AV.sc, optv, bnd, env, put, Env.get, Env.set, Env.del, Env.dels, Env.init, res1, resL, resV, fillP, splice, newRow, Nat.reduceEqDiff, Nat.reduceLT, Nat.reduceLeDiff, Nat.reduceAdd, Nat.reduceMul, Nat.reduceSub, Nat.reduceBEq, reduceCtorEq, ↓zR, zQ, Tr, StA, StT, hg1, e_pzLine w hw, e5, e_l1In, hc, hz]
    have P2 := Pre.push g1 (AO.row [.int .i64 w.length, .nilS] 0 0 false)
    have z2 := zrow g1 (AO.row [.int .i64 w.length, .nilS] 0 0 false)
    have l2 : (g1 ++ [AO.row [.int .i64 w.length, .nilS] 0 0 false]).length = g1.length + 1 := by simp
    generalize hg2 : g1 ++ [AO.row [.int .i64 w.length, .nilS] 0 0 false] = g2 at *
    have zz : g2[h.length]? = some (AO.row [.int .i64 0, .nilS] 0 0 false) := by rw [P2.2 _ hh]; exact z1
    refine lp_sMake w hs m1 m5 (g0 := h) (b := g2) (e := h.length) (r := g1.length) C Z .nilS [] g2 ⟨z2, OwL.nil, ⟨(P1.trans P2).ag (Nat.le_refl _), zz⟩, Nat.le_refl _, ⟨by omega, by omega, by omega⟩, by omega⟩ (by omega) (by simp; omega) ?_
    intro v' h' hm
    obtain ⟨k1, k2, ⟨k3, kz⟩, k4, k5, k6⟩ := hm
    have f1 := (row2f k1).2.2
    have w1 := (sl_cells k2.slc).1
    have w2 := (sl_cells k2.slc).2
    simp only [AV.cells] at w1
    unfold AV.sc at w2
    have lh : h.length < h'.length := by omega
    simp (maxSteps := 1000000) (disch := first | omega | rfl | (simp only [zL, two63, room] <;> omega) | fail) only [↓reduceIte, ↓zP, zW, WOp, evOp, evBin, binI, binSh, binS, evNil, keyIs, keyEq, mkv, AV.cells, AV.sc, optv, bnd, env, put, Env.get, Env.set, Env.del, Env.dels, Env.init, res1, resL, resV, fillP, splice, newRow, Nat.reduceEqDiff, Nat.reduceLT, Nat.reduceLeDiff, Nat.reduceAdd, Nat.reduceMul, Nat.reduceSub, Nat.reduceBEq, reduceCtorEq, ↓zR, zQ, Tr, StA, StT, f1, wr_of kz, List.length_set, lh, w1, w2]
    exact hp v' _ (own_base (own_set (b := g2) k2 (by omega)) (by omega)) ((k3.pre (Nat.le_refl _)).set (Nat.le_refl _))
theorem c_MakePuzzle (w : List UInt8) (hw : w.length < 2 ^ 60) (c s : Int) {h : AH} {post : AV → AH → Prop} (hp : ∀ v' h', OwL 3 encC h h' v' (mpC w c s) → Pre h h' → post (.tup [pzV (mpN w c s) v', .bool (mpB w c s)]) h') : S 540 [.str w, .int .i64 c, .int .i64 s] h post k := by
  have P0 := Pre.push h (AO.row [.int .i64 s] 0 0 false)
  have z0 := zrow h (AO.row [.int .i64 s] 0 0 false)
  have hh0 : (h ++ [AO.row [.int .i64 s] 0 0 false]).length = h.length + 1 := by simp
  generalize hg0 : h ++ [AO.row [.int .i64 s] 0 0 false] = g0 at *
  have P1 := Pre.push g0 (AO.row [.int .i64 0, .nilS] 0 0 false)
  have z1 := zrow g0 (AO.row [.int .i64 0, .nilS] 0 0 false)
  have hh : g0.length < (g0 ++ [AO.row [.int .i64 0, .nilS] 0 0 false]).length := by simp
  generalize hg1 : g0 ++ [AO.row [.int .i64 0, .nilS] 0 0 false] = g1 at *
  have y1 : g1[h.length]? = some (AO.row [.int .i64 s] 0 0 false) := by rw [P1.2 _ (by omega)]; exact z0
  have s1 := row1f y1
  have P := P0.trans P1
  cases e : mpB w c s
  · unfold mpC mpN at hp
    rw [e] at hp
    refine S_of rfl T540 ?_; unfold fi540
    unfold mpB at e
    cases e5 : h5B w
    · simp (maxSteps := 1000000) (disch := first | omega | rfl | (simp only [zL, two63, room] <;> omega) | fail) only [↓reduceIte, ↓zP, zW, WOp, evOp, evBin, binI, binSh, binS, evNil, keyIs, keyEq, mkv, AV.cells, AV.sc, optv, bnd, env, put, Env.get, Env.set, Env.del, Env.dels, Env.init, res1, resL, resV, fillP, splice, newRow, Nat.reduceEqDiff, Nat.reduceLT, Nat.reduceLeDiff, Nat.reduceAdd, Nat.reduceMul, Nat.reduceSub, Nat.reduceBEq, reduceCtorEq, ↓zR, zQ, Tr, StA, StT, hg0, hg1, e_isLine5 w hw, e5, wr_of z1, List.length_set, hh]
      exact hp .nilS _ OwL.nil (P.set (by omega))
    · by_cases hc : 0 ≤ c ∧ c ≤ 6
      · by_cases hz : 0 ≤ s ∧ s ≤ 9999
        · rw [e5, decide_eq_true hc, decide_eq_true hz] at e; cases e
        · simp (maxSteps := 1000000) (disch := first | omega | rfl | (simp only [zL, two63, room] <;> omega) | fail) only [↓reduceIte, ↓zP, zW, WOp, evOp, evBin, binI, binSh, binS, evNil, keyIs, keyEq, mkv, AV.cells, AV.sc, optv, bnd, env, put, Env.get, Env.set, Env.del, Env.dels, Env.init, res1, resL, resV, fillP, splice, newRow, Nat.reduceEqDiff, Nat.reduceLT, Nat.reduceLeDiff, Nat.reduceAdd, Nat.reduceMul, Nat.reduceSub, Nat.reduceBEq, reduceCtorEq, ↓zR, zQ, Tr, StA, StT, hg0, hg1, s1, e_isLine5 w hw, e5, e_within, hc, hz, wr_of z1, List.length_set, hh]
          exact hp .nilS _ OwL.nil (P.set (by omega))
      · simp (maxSteps := 1000000) (disch := first | omega | rfl | (simp only [zL, two63, room] <;> omega) | fail) only [↓reduceIte, ↓zP, zW, WOp, evOp, evBin, binI, binSh, binS, evNil, keyIs, keyEq, mkv, AV.cells, AV.sc, optv, bnd, env, put, Env.get, Env.set, Env.del, Env.dels, Env.init, res1, resL, resV, fillP, splice, newRow, Nat.reduceEqDiff, Nat.reduceLT, Nat.reduceLeDiff, Nat.reduceAdd, Nat.reduceMul, Nat.reduceSub, Nat.reduceBEq, reduceCtorEq, ↓zR, zQ, Tr, StA, StT, hg0, hg1, e_isLine5 w hw, e5, e_within, hc, wr_of z1, List.length_set, hh]
        exact hp .nilS _ OwL.nil (P.set (by omega))
  · obtain ⟨⟨⟨m1, m5⟩, hs⟩, C, Z, rfl, rfl, hC, hZ⟩ := mp_hyp e
    have e5 : h5B w = true := by unfold mpB at e; rw [Bool.and_eq_true] at e; exact e.1
    have hc : 0 ≤ (C : Int) ∧ (C : Int) ≤ 6 := by omega
    have hz : 0 ≤ (Z : Int) ∧ (Z : Int) ≤ 9999 := by omega
    unfold mpC mpN at hp
    rw [e] at hp
    simp only [if_true, Int.toNat_natCast] at hp
    refine S_of rfl T540 ?_; unfold fi540
    simp (maxSteps := 1000000) (disch := first | omega | rfl | (simp only [zL, two63, room] <;> omega) | fail) only [↓reduceIte, ↓zP, zW, WOp, evOp, evBin, binI, binSh, binS, evNil, keyIs, keyEq, mkv, AV.cells, AV.sc, optv, bnd, env, put, Env.get, Env.set, Env.del, Env.dels, Env.init, res1, resL, resV, fillP, splice, newRow, Nat.reduceEqDiff, Nat.reduceLT, Nat.reduceLeDiff, Nat.reduceAdd, Nat.reduceMul, Nat.reduceSub, Nat.reduceBEq, reduceCtorEq, ↓zR, zQ, Tr, StA, StT, hg0, hg1, s1, e_isLine5 w hw, e5, e_within, hc, hz]
    have P2 := Pre.push g1 (AO.row [.int .i64 w.length, .empS] 0 0 false)
    have z2 := zrow g1 (AO.row [.int .i64 w.length, .empS] 0 0 false)
    have l2 : (g1 ++ [AO.row [.int .i64 w.length, .empS] 0 0 false]).length = g1.length + 1 := by simp
    generalize hg2 : g1 ++ [AO.row [.int .i64 w.length, .empS] 0 0 false] = g2 at *
    have zz : g2[g0.length]? = some (AO.row [.int .i64 0, .nilS] 0 0 false) := by rw [P2.2 _ hh]; exact z1
    have yy : g2[h.length]? = some (AO.row [.int .i64 Z] 0 0 false) := by rw [P2.2 _ (by omega)]; exact y1
    refine lp_Make w hs m1 m5 (K := C) (by omega) (g0 := h) (b := g2) (e := g0.length) (q := h.length) (r := g1.length) (p := g0.length) C 0 Z .empS [] g2 ⟨⟨z2, OwL.emp, ⟨(P.trans P2).ag (Nat.le_refl _), zz⟩, Nat.le_refl _, ⟨by omega, by omega, by omega⟩, by omega⟩, yy, by omega, ⟨by omega, by omega⟩, Nat.le_refl _⟩ (by omega) (by simp; omega) (by omega) ?_
    intro v' h' hm
    obtain ⟨k1, k2, ⟨k3, kz⟩, k4, k5, k6⟩ := hm
    have f1 := (row2f k1).2.2
    have w1 := (sl_cells k2.slc).1
    have w2 := (sl_cells k2.slc).2
    simp only [AV.cells] at w1
    unfold AV.sc at w2
    have lh : g0.length < h'.length := by omega
    simp (maxSteps := 1000000) (disch := first | omega | rfl | (simp only [zL, two63, room] <;> omega) | fail) only [↓reduceIte, ↓zP, zW, WOp, evOp, evBin, binI, binSh, binS, evNil, keyIs, keyEq, mkv, AV.cells, AV.sc, optv, bnd, env, put, Env.get, Env.set, Env.del, Env.dels, Env.init, res1, resL, resV, fillP, splice, newRow, Nat.reduceEqDiff, Nat.reduceLT, Nat.reduceLeDiff, Nat.reduceAdd, Nat.reduceMul, Nat.reduceSub, Nat.reduceBEq, reduceCtorEq, ↓zR, zQ, Tr, StA, StT, f1, wr_of kz, List.length_set, lh, w1, w2]
    exact hp v' _ (own_base (own_set (b := g2) k2 (by omega)) (by omega)) ((k3.pre (Nat.le_refl _)).set (by omega))
end Go.Proofs.YtnamhjdfegohbaaGreatDoor.Ab

/- PLAIN: what the law of hidden lines says, of puzzles made, made harder, with a clue more or less. -/
namespace Go.Proofs.YtnamhjdfegohbaaGreatDoor.Ab
open Go
set_option maxRecDepth 100000

theorem h5_line {w : List UInt8} (h : h5B w = true) : goodLine w = true := by
  obtain ⟨⟨h1, h2⟩, h3⟩ := h5B_iff h
  unfold goodLine
  rw [h3, decide_eq_true (p := 1 ≤ w.length ∧ w.length ≤ 12) ⟨h1, by omega⟩]; rfl
theorem h5_at {w : List UInt8} (h : w.all isSign = true) (i : Nat) (hi : i < w.length) : isSign (w.getD i 0) = true := by
  have := List.all_eq_true.1 h (w[i]) (List.getElem_mem hi)
  simpa [List.getD_eq_getElem?_getD, hi] using this
theorem df_clue {w : List UInt8} (h : h5B w = true) {kd : Int} (hk : 0 ≤ kd ∧ kd ≤ 5) (h0 : kd ≠ 0) : dfOk (clueB kd 0 w) w = true ∧ dfB (clueB kd 0 w) w = true := by
  obtain ⟨⟨h1, h2⟩, h3⟩ := h5B_iff h
  obtain ⟨a, b⟩ := clueB_ok (fun i hi => h5_at h3 i hi) h2 kd 0 hk (fun e => absurd e h0)
  have : dfOk (clueB kd 0 w) w = true := by unfold dfOk; rw [h, a]; rfl
  exact ⟨this, by unfold dfB; rw [this, b]; rfl⟩
theorem df_pairs {w : List UInt8} (h : h5B w = true) : dfOk (4, pairsG w, 0) w = true ∧ dfB (4, pairsG w, 0) w = true := by
  have e : ((4, pairsG w, 0) : Clu) = clueB 4 0 w := by
    unfold pairsG
    rw [if_pos (h5_line h)]
    simp [clueB]
  rw [e]
  exact df_clue h (by omega) (by omega)
theorem df_moves {w : List UInt8} (h : h5B w = true) : dfOk (3, ((mvG [84, 70] w).length : Int), 0) w = true ∧ dfB (3, ((mvG [84, 70] w).length : Int), 0) w = true := by
  have e : ((3, ((mvG [84, 70] w).length : Int), 0) : Clu) = clueB 3 0 w := by
    unfold mvG
    rw [if_pos (h5_line h)]
    simp [clueB]
  rw [e]
  exact df_clue h (by omega) (by omega)
theorem mp_all {w : List UInt8} {c s : Int} (h : mpB w c s = true) : h5B w = true ∧ mpN w c s = w.length ∧ ((mpC w c s).length : Int) = c ∧ goodP (w.length : Nat) (mpC w c s) = true ∧ w ∈ solN (w.length : Nat) (mpC w c s) := by
  obtain ⟨⟨⟨m1, m5⟩, hs⟩, C, Z, rfl, rfl, hC, hZ⟩ := mp_hyp h
  have e5 : h5B w = true := by unfold mpB at h; rw [Bool.and_eq_true] at h; exact h.1
  unfold mpC mpN
  rw [h]
  simp only [if_true, Int.toNat_natCast]
  refine ⟨e5, trivial, by rw [mkZ_len], ?_, ?_⟩
  · exact mk_good (fun i hi => h5_at hs i hi) m1 m5 hC Z
  · exact mk_sol hs (fun i hi => h5_at hs i hi) m1 m5 C Z
theorem one_good {n : Int} {cs : List Clu} (h : (countP n cs == 1) = true) : goodP n cs = true := by
  cases e : goodP n cs
  · unfold countP at h; rw [e] at h; simp at h
  · rfl
theorem hard_all {n : Int} {cs : List Clu} (h : (countP n cs == 1) = true) : hardN n cs = n ∧ goodP n (hardC n cs) = true ∧ solN n (hardC n cs) = solN n cs ∧ needP n (hardC n cs) = [] ∧ goodP n cs = true := by
  have hg := one_good h
  obtain ⟨m, rfl, m1, m5, m6, mok⟩ := goodP_iff hg
  have h1 : (fitL m cs).length = 1 := by
    unfold countP at h
    rw [hg] at h
    simp only [if_true, beq_iff_eq] at h
    have : solN (m : Int) cs = fitL m cs := rfl
    rw [this] at h
    omega
  have hc : hardC m cs = hardGo m cs.length 0 cs := by unfold hardC; rw [h]; rfl
  have hgd : goodP m (hardGo m cs.length 0 cs) = true := by
    unfold goodP
    rw [Bool.and_eq_true, Bool.and_eq_true, decide_eq_true_eq, decide_eq_true_eq, List.all_eq_true]
    exact ⟨by omega, Nat.le_trans (hardGo_len m _ _ _) m6, fun c hc => mok c (hardGo_mem m _ _ _ hc)⟩
  rw [hc]
  refine ⟨by unfold hardN; rw [h]; rfl, hgd, ?_, ?_, hg⟩
  · show fitL m _ = fitL m cs
    exact hardGo_one m _ _ cs h1
  · unfold needP
    rw [hgd]
    exact hard_needs h1
theorem ad_good {n : Int} {cs : List Clu} {c : Clu} (h : adB n cs c = true) : goodP n (cs ++ [c]) = true ∧ goodP n cs = true ∧ cs.length < 6 := by
  unfold adB at h
  rw [Bool.and_eq_true, Bool.and_eq_true] at h
  obtain ⟨h1, h2, h3⟩ := h
  obtain ⟨m, rfl, m1, m5, m6, mok⟩ := goodP_iff h1
  have h6 : cs.length < 6 := by simp at h3; omega
  refine ⟨?_, h1, h6⟩
  unfold goodP
  rw [Bool.and_eq_true, Bool.and_eq_true, decide_eq_true_eq, decide_eq_true_eq, List.all_eq_true]
  refine ⟨by omega, by simp; omega, fun x hx => ?_⟩
  rcases List.mem_append.1 hx with hx | hx
  · exact mok x hx
  · rw [List.mem_singleton.1 hx]; exact h2
theorem ad_back {n : Int} {cs : List Clu} {c : Clu} (h : adB n cs c = true) : drB n (cs ++ [c]) cs.length = true ∧ drC n (cs ++ [c]) cs.length = cs ∧ drN n (cs ++ [c]) cs.length = n := by
  obtain ⟨h1, h2, h3⟩ := ad_good h
  have hd : drB n (cs ++ [c]) cs.length = true := by
    unfold drB
    rw [h1, Bool.true_and, decide_eq_true_eq]
    simp
  refine ⟨hd, ?_, by unfold drN; rw [hd]; rfl⟩
  unfold drC
  rw [hd]
  simp only [if_true, Int.toNat_natCast]
  exact wo_added cs c
theorem dr_again {n k : Int} {cs : List Clu} (h : drB n cs k = true) (hk : k = (cs.length : Int) - 1) : ∃ (pre : List Clu) (c : Clu), cs = pre ++ [c] ∧ k = pre.length ∧ drC n cs k = pre ∧ drN n cs k = n ∧ adB n pre c = true ∧ cs.length ≤ 6 := by
  have h' := h
  unfold drB at h
  rw [Bool.and_eq_true, decide_eq_true_eq] at h
  obtain ⟨h1, h2⟩ := h
  obtain ⟨m, rfl, m1, m5, m6, mok⟩ := goodP_iff h1
  have hne : cs ≠ [] := by rintro rfl; simp at hk; omega
  refine ⟨cs.dropLast, cs.getLast hne, (List.dropLast_concat_getLast hne).symm, by rw [List.length_dropLast]; omega, ?_, by unfold drN; rw [h']; rfl, ?_, m6⟩
  · unfold drC wo
    rw [h']
    simp only [if_true]
    rw [List.drop_eq_nil_of_le (by omega), List.append_nil, List.dropLast_eq_take]
    congr 1
    omega
  · unfold adB
    rw [Bool.and_eq_true, Bool.and_eq_true]
    refine ⟨?_, mok _ (List.getLast_mem hne), ?_⟩
    · unfold goodP
      rw [Bool.and_eq_true, Bool.and_eq_true, decide_eq_true_eq, decide_eq_true_eq, List.all_eq_true]
      exact ⟨by omega, by rw [List.length_dropLast]; omega, fun x hx => mok x (List.dropLast_subset _ hx)⟩
    · simp; omega
theorem sol_few {n : Int} {cs : List Clu} (h : goodP n cs = true) : (solN n cs).length ≤ 243 := by
  obtain ⟨m, rfl, m1, m5, _⟩ := goodP_iff h
  have h1 := List.length_filter_le (fun w => cs.all fun c => fitB c w) (allL m)
  have h2 := allL_length m
  have h3 : 3 ^ m ≤ 3 ^ 5 := Nat.pow_le_pow_right (by omega) m5
  have h4 : (solN (m : Int) cs).length ≤ (allL m).length := h1
  omega
theorem df_is {c : Clu} {x : List UInt8} (h : dfOk c x = true) : (decide (1 ≤ (x.length : Int) ∧ (x.length : Int) ≤ 5) && clueOk x.length c) = true := by
  unfold dfOk at h
  rw [Bool.and_eq_true] at h
  obtain ⟨⟨h1, h2⟩, h3⟩ := h5B_iff h.1
  rw [h.2, Bool.and_true, decide_eq_true_eq]
  omega
end Go.Proofs.YtnamhjdfegohbaaGreatDoor.Ab

/- MOVES that can be made, jumps, lists of moves that are compared; moves that are drawn. -/
namespace Go.Proofs.YtnamhjdfegohbaaGreatDoor.Ab
open Go
set_option maxRecDepth 100000
set_option maxHeartbeats 4000000

def okG (w : List UInt8) (m : Int × Int) : Bool := goodLine w && canB w m
def mkG (w : List UInt8) (m : Int × Int) : List UInt8 := if okG w m then madeB w m.1.toNat m.2.toNat else []
def jmG (w : List UInt8) (m : Int × Int) : Bool := okG w m && isJ m.1.toNat m.2.toNat
theorem c_big {cv mv : AV} {cs ms : List UInt8} {h : AH} (hs : Slc 1 encU h cv cs) (ht : Slc 1 encU h mv ms) {post : AV → AH → Prop} (hp : ∀ b, (b = false → cs.length ≤ 1048576 ∧ ms.length ≤ 1048576) → post (.bool b) h) : S 22 [cv, mv] h post k := by
  refine S_of rfl T22 ?_; unfold fi22
  have hv := fun g => Slc.lenV (hs) (g := g) (ρ := fun _ => _) (x := .t 0) rfl; simp only [evOp] at hv
  have hu := fun g => Slc.lenV (ht) (g := g) (ρ := fun _ => _) (x := .t 0) rfl; simp only [evOp] at hu
  by_cases h1 : (cs.length : Int) > 1048576
  · simp (maxSteps := 1000000) (disch := first | omega | rfl | (simp only [zL, two63, room] <;> omega) | fail) only [↓reduceIte, ↓zP, zW, WOp, evOp, evBin, binI, binSh, binS, evNil, keyIs, keyEq, mkv, AV.cells, AV.sc, optv, bnd, env, put, Env.get, Env.set, Env.del, Env.dels, Env.init, res1, resL, resV, fillP, splice, newRow, Nat.reduceEqDiff, Nat.reduceLT, Nat.reduceLeDiff, Nat.reduceAdd, Nat.reduceMul, Nat.reduceSub, Nat.reduceBEq, reduceCtorEq, ↓zR, zQ, Tr, StA, StT, hv, hu, h1]
    exact hp true (fun h => by cases h)
  · have w1 : IntKind.i64.wrap (1048576 - (cs.length : Int)) = 1048576 - (cs.length : Int) := wrap_i (by omega)
    by_cases h2 : (ms.length : Int) > 1048576 - (cs.length : Int)
    · simp (maxSteps := 1000000) (disch := first | omega | rfl | (simp only [zL, two63, room] <;> omega) | fail) only [↓reduceIte, ↓zP, zW, WOp, evOp, evBin, binI, binSh, binS, evNil, keyIs, keyEq, mkv, AV.cells, AV.sc, optv, bnd, env, put, Env.get, Env.set, Env.del, Env.dels, Env.init, res1, resL, resV, fillP, splice, newRow, Nat.reduceEqDiff, Nat.reduceLT, Nat.reduceLeDiff, Nat.reduceAdd, Nat.reduceMul, Nat.reduceSub, Nat.reduceBEq, reduceCtorEq, ↓zR, zQ, Tr, StA, StT, hv, hu, h1, w1, h2]
      exact hp true (fun h => by cases h)
    · simp (maxSteps := 1000000) (disch := first | omega | rfl | (simp only [zL, two63, room] <;> omega) | fail) only [↓reduceIte, ↓zP, zW, WOp, evOp, evBin, binI, binSh, binS, evNil, keyIs, keyEq, mkv, AV.cells, AV.sc, optv, bnd, env, put, Env.get, Env.set, Env.del, Env.dels, Env.init, res1, resL, resV, fillP, splice, newRow, Nat.reduceEqDiff, Nat.reduceLT, Nat.reduceLeDiff, Nat.reduceAdd, Nat.reduceMul, Nat.reduceSub, Nat.reduceBEq, reduceCtorEq, ↓zR, zQ, Tr, StA, StT, hv, hu, h1, w1, h2]
      exact hp false (fun _ => by omega)
end Go.Proofs.YtnamhjdfegohbaaGreatDoor.Ab

/- LINES AND MOVES that are drawn. -/
namespace Go.Proofs.YtnamhjdfegohbaaGreatDoor.Ab
open Go
set_option maxRecDepth 100000
set_option maxHeartbeats 4000000

end Go.Proofs.YtnamhjdfegohbaaGreatDoor.Ab

/- PUZZLES that are drawn. -/
namespace Go.Proofs.YtnamhjdfegohbaaGreatDoor.Ab
open Go
set_option maxRecDepth 100000
set_option maxHeartbeats 4000000

theorem PreX.setN {c i : Nat} {h0 h : AH} {o : AO} (x : PreX c h0 h) (hi : h0.length ≤ i) : PreX c h0 (h.set i o) := ⟨by simpa using x.1, fun j hj hc => by rw [List.getElem?_set, if_neg (by omega)]; exact x.2 j hj hc⟩
theorem Cur.set {b : AH} {cv : AV} {bs : List UInt8} {K : Nat} {h : AH} {i : Nat} {o : AO} (hc : Cur b cv bs K h) (hi : b.length < i) : Cur b cv bs K (h.set i o) := by
  obtain ⟨h1, h2, h3, a, s, h4, h5⟩ := hc
  exact ⟨h1, h2, h3.set (by omega), a, s, h4, by rw [List.getElem?_set, if_neg (by omega)]; exact h5⟩
theorem own_prex {esz : Nat} {b h h' : AH} {v : AV} {n : Nat} {cs : List AV} (ho : Own esz b h v n cs) {c : Nat} (hc : c < b.length) (hp : PreX c h h') : Own esz b h' v n cs := by
  unfold Own at ho ⊢
  cases v <;> simp only at ho ⊢ <;> first
    | exact ho
    | (obtain ⟨h1, h2, h3, h4, cells, fl, h5, h6⟩ := ho
       exact ⟨h1, h2, h3, h4, cells, fl, by rw [hp.2 _ (List.getElem?_eq_some_iff.1 h5).1 (by omega)]; exact h5, h6⟩)
theorem mpC_few (w : List UInt8) (c s : Int) : (mpC w c s).length ≤ 6 := by
  cases e : mpB w c s
  · unfold mpC; rw [e]; simp
  · obtain ⟨-, -, -, h4, -⟩ := mp_all e; exact good_few h4

section
variable {b : AH} {cv : AV} {bs : List UInt8} {K : Nat} {h : AH} {post : AV → AH → Prop}
theorem c_clue (hc : Cur b cv bs K h) (hK : K < 2 ^ 48) (hp : ∀ (c : Clu) h', Cur b cv bs (K + 14) h' → PreX b.length h h' → post (.agg (encC c)) h') : S 603 [.ptr b.length 0 0 3] h post k := by
  have P1 := Pre.push h (AO.row [.int .i64 0, .int .i64 0, .int .i64 0] 0 0 false)
  have z1 := zrow h (AO.row [.int .i64 0, .int .i64 0, .int .i64 0] 0 0 false)
  have l1 : h.length < (h ++ [AO.row [.int .i64 0, .int .i64 0, .int .i64 0] 0 0 false]).length := by simp
  have hc1 := hc.pre P1
  have lb := hc.lt
  generalize hg1 : h ++ [AO.row [.int .i64 0, .int .i64 0, .int .i64 0] 0 0 false] = g1 at *
  have n8 : ¬ ((8 : Int) = 0) := by omega
  refine S_of rfl T603 ?_; unfold fi603
  simp (maxSteps := 1000000) (disch := first | omega | rfl | (simp only [zL, two63, room] <;> omega) | fail) only [↓reduceIte, ↓zP, zW, WOp, evOp, evBin, binI, binSh, binS, evNil, keyIs, keyEq, mkv, AV.cells, AV.sc, optv, bnd, env, put, Env.get, Env.set, Env.del, Env.dels, Env.init, res1, resL, resV, fillP, splice, newRow, Nat.reduceEqDiff, Nat.reduceLT, Nat.reduceLeDiff, Nat.reduceAdd, Nat.reduceMul, Nat.reduceSub, Nat.reduceBEq, reduceCtorEq, ↓zR, zQ, Tr, StA, StT, hg1]
  refine c_pick hc1 (by omega) 6 (by omega) ?_
  intro x1 h2 _ hc2 p2
  simp (maxSteps := 1000000) (disch := first | omega | rfl | (simp only [zL, two63, room] <;> omega) | fail) only [↓reduceIte, ↓zP, zW, WOp, evOp, evBin, binI, binSh, binS, evNil, keyIs, keyEq, mkv, AV.cells, AV.sc, optv, bnd, env, put, Env.get, Env.set, Env.del, Env.dels, Env.init, res1, resL, resV, fillP, splice, newRow, Nat.reduceEqDiff, Nat.reduceLT, Nat.reduceLeDiff, Nat.reduceAdd, Nat.reduceMul, Nat.reduceSub, Nat.reduceBEq, reduceCtorEq, ↓zR, zQ, Tr, StA, StT]
  refine c_pick hc2 (by omega) 9 (by omega) ?_
  intro x2 h3 _ hc3 p3
  simp (maxSteps := 1000000) (disch := first | omega | rfl | (simp only [zL, two63, room] <;> omega) | fail) only [↓reduceIte, ↓zP, zW, WOp, evOp, evBin, binI, binSh, binS, evNil, keyIs, keyEq, mkv, AV.cells, AV.sc, optv, bnd, env, put, Env.get, Env.set, Env.del, Env.dels, Env.init, res1, resL, resV, fillP, splice, newRow, Nat.reduceEqDiff, Nat.reduceLT, Nat.reduceLeDiff, Nat.reduceAdd, Nat.reduceMul, Nat.reduceSub, Nat.reduceBEq, reduceCtorEq, ↓zR, zQ, Tr, StA, StT, n8]
  refine c_pick hc3 (by omega) 4 (by omega) ?_
  intro x3 h4 _ hc4 p4
  simp (maxSteps := 1000000) (disch := first | omega | rfl | (simp only [zL, two63, room] <;> omega) | fail) only [↓reduceIte, ↓zP, zW, WOp, evOp, evBin, binI, binSh, binS, evNil, keyIs, keyEq, mkv, AV.cells, AV.sc, optv, bnd, env, put, Env.get, Env.set, Env.del, Env.dels, Env.init, res1, resL, resV, fillP, splice, newRow, Nat.reduceEqDiff, Nat.reduceLT, Nat.reduceLeDiff, Nat.reduceAdd, Nat.reduceMul, Nat.reduceSub, Nat.reduceBEq, reduceCtorEq, ↓zR, zQ, Tr, StA, StT]
  refine c_pick hc4 (by omega) 9 (by omega) ?_
  intro x4 h5 _ hc5 p5
  have X5 := p2.trans (p3.trans (p4.trans p5))
  have y5 : h5[h.length]? = some (AO.row [.int .i64 0, .int .i64 0, .int .i64 0] 0 0 false) := by rw [X5.2 _ l1 (by omega)]; exact z1
  have fin : ∀ (a d e : Int) (g : AH) (r : Nat), h.length < r → r < g.length → Cur b cv bs (K + 14) g → PreX b.length g1 g → g[h.length]? = some (AO.row [.int .i64 0, .int .i64 0, .int .i64 0] 0 0 false) → g[r]? = some (AO.row [.int .i64 a, .int .i64 d, .int .i64 e] 0 0 false) →
      rdRow g r 0 0 3 = some [.int .i64 a, .int .i64 d, .int .i64 e] ∧ post (.agg (encC (a, d, e))) (g.set h.length (AO.row [.int .i64 a, .int .i64 d, .int .i64 e] 0 0 false)) := by
    intro a d e g r hr hrl hcg hpx hz hv
    exact ⟨by simp [rdRow, hv], hp _ _ (hcg.set (by omega)) (((P1.x _).trans hpx).setN (Nat.le_refl _))⟩
  simp (maxSteps := 1000000) (disch := first | omega | rfl | (simp only [zL, two63, room] <;> omega) | fail) only [↓reduceIte, ↓zP, zW, WOp, evOp, evBin, binI, binSh, binS, evNil, keyIs, keyEq, mkv, AV.cells, AV.sc, optv, bnd, env, put, Env.get, Env.set, Env.del, Env.dels, Env.init, res1, resL, resV, fillP, splice, newRow, Nat.reduceEqDiff, Nat.reduceLT, Nat.reduceLeDiff, Nat.reduceAdd, Nat.reduceMul, Nat.reduceSub, Nat.reduceBEq, reduceCtorEq, ↓zR, zQ, Tr, StA, StT, n8]
  generalize IntKind.i64.wrap ((x1 : Int) + IntKind.i64.wrap ((x2 : Int).tdiv 8)) = A
  generalize IntKind.i64.wrap ((x3 : Int) - IntKind.i64.wrap ((x4 : Int).tdiv 8)) = D
  have l5 := X5.1
  have hl5 : h.length < h5.length := by omega
  have P6 := Pre.push h5 (AO.row [.int .i64 A, .int .i64 D, .int .i64 0] 0 0 false)
  have z6 := zrow h5 (AO.row [.int .i64 A, .int .i64 D, .int .i64 0] 0 0 false)
  have lk : h5.length < (h5 ++ [AO.row [.int .i64 A, .int .i64 D, .int .i64 0] 0 0 false]).length := by simp
  generalize hk : h5 ++ [AO.row [.int .i64 A, .int .i64 D, .int .i64 0] 0 0 false] = g6 at *
  have y6 : g6[h.length]? = some (AO.row [.int .i64 0, .int .i64 0, .int .i64 0] 0 0 false) := by rw [P6.2 _ hl5]; exact y5
  have hc6 := hc5.pre P6
  have X6 := X5.trans (P6.x b.length)
  cases e0 : (A == 0)
  · simp (maxSteps := 1000000) (disch := first | omega | rfl | (simp only [zL, two63, room] <;> omega) | fail) only [↓reduceIte, ↓zP, zW, WOp, evOp, evBin, binI, binSh, binS, evNil, keyIs, keyEq, mkv, AV.cells, AV.sc, optv, bnd, env, put, Env.get, Env.set, Env.del, Env.dels, Env.init, res1, resL, resV, fillP, splice, newRow, Nat.reduceEqDiff, Nat.reduceLT, Nat.reduceLeDiff, Nat.reduceAdd, Nat.reduceMul, Nat.reduceSub, Nat.reduceBEq, reduceCtorEq, ↓zR, zQ, Tr, StA, StT, e0]
    refine c_one hc6 (by omega) 8 (by omega) ?_
    intro o g7 hc7 p7
    cases o
    ·
      have zg : g7[h5.length]? = some (AO.row [.int .i64 A, .int .i64 D, .int .i64 0] 0 0 false) := by rw [(p7).2 _ lk (by omega)]; exact z6
      have yg : g7[h.length]? = some (AO.row [.int .i64 0, .int .i64 0, .int .i64 0] 0 0 false) := by rw [(p7).2 _ (by omega) (by omega)]; exact y6
      have lg := (p7).1
      have lgh : h.length < g7.length := by omega
      obtain ⟨f1, f2⟩ := fin A D 0 g7 h5.length hl5 (by omega) (hc7.le (by omega)) (X6.trans p7) yg zg
      simp (maxSteps := 1000000) (disch := first | omega | rfl | (simp only [zL, two63, room] <;> omega) | fail) only [↓reduceIte, ↓zP, zW, WOp, evOp, evBin, binI, binSh, binS, evNil, keyIs, keyEq, mkv, AV.cells, AV.sc, optv, bnd, env, put, Env.get, Env.set, Env.del, Env.dels, Env.init, res1, resL, resV, fillP, splice, newRow, Nat.reduceEqDiff, Nat.reduceLT, Nat.reduceLeDiff, Nat.reduceAdd, Nat.reduceMul, Nat.reduceSub, Nat.reduceBEq, reduceCtorEq, ↓zR, zQ, Tr, StA, StT, f1, wr_of yg, List.length_set, lgh]
      exact f2
    · simp (maxSteps := 1000000) (disch := first | omega | rfl | (simp only [zL, two63, room] <;> omega) | fail) only [↓reduceIte, ↓zP, zW, WOp, evOp, evBin, binI, binSh, binS, evNil, keyIs, keyEq, mkv, AV.cells, AV.sc, optv, bnd, env, put, Env.get, Env.set, Env.del, Env.dels, Env.init, res1, resL, resV, fillP, splice, newRow, Nat.reduceEqDiff, Nat.reduceLT, Nat.reduceLeDiff, Nat.reduceAdd, Nat.reduceMul, Nat.reduceSub, Nat.reduceBEq, reduceCtorEq, ↓zR, zQ, Tr, StA, StT]
      refine c_pick hc7 (by omega) 3 (by omega) ?_
      intro x5 g8 _ hc8 p8
      simp (maxSteps := 1000000) (disch := first | omega | rfl | (simp only [zL, two63, room] <;> omega) | fail) only [↓reduceIte, ↓zP, zW, WOp, evOp, evBin, binI, binSh, binS, evNil, keyIs, keyEq, mkv, AV.cells, AV.sc, optv, bnd, env, put, Env.get, Env.set, Env.del, Env.dels, Env.init, res1, resL, resV, fillP, splice, newRow, Nat.reduceEqDiff, Nat.reduceLT, Nat.reduceLeDiff, Nat.reduceAdd, Nat.reduceMul, Nat.reduceSub, Nat.reduceBEq, reduceCtorEq, ↓zR, zQ, Tr, StA, StT]
      refine c_pick hc8 (by omega) 9 (by omega) ?_
      intro x6 g9 _ hc9 p9
      have p69 := (p7).trans (p8.trans p9)
      have zg : g9[h5.length]? = some (AO.row [.int .i64 A, .int .i64 D, .int .i64 0] 0 0 false) := by rw [p69.2 _ lk (by omega)]; exact z6
      have yg : g9[h.length]? = some (AO.row [.int .i64 0, .int .i64 0, .int .i64 0] 0 0 false) := by rw [p69.2 _ (by omega) (by omega)]; exact y6
      have lg := p69.1
      have lgh : h.length < g9.length := by omega
      have lg5 : h5.length < g9.length := by omega
      simp (maxSteps := 1000000) (disch := first | omega | rfl | (simp only [zL, two63, room] <;> omega) | fail) only [↓reduceIte, ↓zP, zW, WOp, evOp, evBin, binI, binSh, binS, evNil, keyIs, keyEq, mkv, AV.cells, AV.sc, optv, bnd, env, put, Env.get, Env.set, Env.del, Env.dels, Env.init, res1, resL, resV, fillP, splice, newRow, Nat.reduceEqDiff, Nat.reduceLT, Nat.reduceLeDiff, Nat.reduceAdd, Nat.reduceMul, Nat.reduceSub, Nat.reduceBEq, reduceCtorEq, ↓zR, zQ, Tr, StA, StT, n8, wr_of zg]
      generalize IntKind.i64.wrap ((x5 : Int) + IntKind.i64.wrap ((x6 : Int).tdiv 8)) = E
      have ze : (g9.set h5.length (AO.row [.int .i64 A, .int .i64 D, .int .i64 E] 0 0 false))[h5.length]? = some (AO.row [.int .i64 A, .int .i64 D, .int .i64 E] 0 0 false) := by rw [List.getElem?_set, if_pos rfl, if_pos lg5]
      have ye : (g9.set h5.length (AO.row [.int .i64 A, .int .i64 D, .int .i64 E] 0 0 false))[h.length]? = some (AO.row [.int .i64 0, .int .i64 0, .int .i64 0] 0 0 false) := by rw [List.getElem?_set, if_neg (by omega)]; exact yg
      have lge : h.length < (g9.set h5.length (AO.row [.int .i64 A, .int .i64 D, .int .i64 E] 0 0 false)).length := by simpa using lgh
      obtain ⟨f1, f2⟩ := fin A D E (g9.set h5.length (AO.row [.int .i64 A, .int .i64 D, .int .i64 E] 0 0 false)) h5.length hl5 (by simpa using lg5) ((hc9.le (by omega)).set (by omega)) ((X6.trans p69).setN (by omega)) ye ze
      generalize g9.set h5.length (AO.row [.int .i64 A, .int .i64 D, .int .i64 E] 0 0 false) = gE at *
      simp (maxSteps := 1000000) (disch := first | omega | rfl | (simp only [zL, two63, room] <;> omega) | fail) only [↓reduceIte, ↓zP, zW, WOp, evOp, evBin, binI, binSh, binS, evNil, keyIs, keyEq, mkv, AV.cells, AV.sc, optv, bnd, env, put, Env.get, Env.set, Env.del, Env.dels, Env.init, res1, resL, resV, fillP, splice, newRow, Nat.reduceEqDiff, Nat.reduceLT, Nat.reduceLeDiff, Nat.reduceAdd, Nat.reduceMul, Nat.reduceSub, Nat.reduceBEq, reduceCtorEq, ↓zR, zQ, Tr, StA, StT, f1, wr_of ye, List.length_set, lge]
      exact f2
  · simp (maxSteps := 1000000) (disch := first | omega | rfl | (simp only [zL, two63, room] <;> omega) | fail) only [↓reduceIte, ↓zP, zW, WOp, evOp, evBin, binI, binSh, binS, evNil, keyIs, keyEq, mkv, AV.cells, AV.sc, optv, bnd, env, put, Env.get, Env.set, Env.del, Env.dels, Env.init, res1, resL, resV, fillP, splice, newRow, Nat.reduceEqDiff, Nat.reduceLT, Nat.reduceLeDiff, Nat.reduceAdd, Nat.reduceMul, Nat.reduceSub, Nat.reduceBEq, reduceCtorEq, ↓zR, zQ, Tr, StA, StT, e0]
    have hc7 := hc6
    refine c_pick hc6 (by omega) 3 (by omega) ?_
    intro x5 g8 _ hc8 p8
    simp (maxSteps := 1000000) (disch := first | omega | rfl | (simp only [zL, two63, room] <;> omega) | fail) only [↓reduceIte, ↓zP, zW, WOp, evOp, evBin, binI, binSh, binS, evNil, keyIs, keyEq, mkv, AV.cells, AV.sc, optv, bnd, env, put, Env.get, Env.set, Env.del, Env.dels, Env.init, res1, resL, resV, fillP, splice, newRow, Nat.reduceEqDiff, Nat.reduceLT, Nat.reduceLeDiff, Nat.reduceAdd, Nat.reduceMul, Nat.reduceSub, Nat.reduceBEq, reduceCtorEq, ↓zR, zQ, Tr, StA, StT]
    refine c_pick hc8 (by omega) 9 (by omega) ?_
    intro x6 g9 _ hc9 p9
    have p69 := ((PreX.refl _ _)).trans (p8.trans p9)
    have zg : g9[h5.length]? = some (AO.row [.int .i64 A, .int .i64 D, .int .i64 0] 0 0 false) := by rw [p69.2 _ lk (by omega)]; exact z6
    have yg : g9[h.length]? = some (AO.row [.int .i64 0, .int .i64 0, .int .i64 0] 0 0 false) := by rw [p69.2 _ (by omega) (by omega)]; exact y6
    have lg := p69.1
    have lgh : h.length < g9.length := by omega
    have lg5 : h5.length < g9.length := by omega
    simp (maxSteps := 1000000) (disch := first | omega | rfl | (simp only [zL, two63, room] <;> omega) | fail) only [↓reduceIte, ↓zP, zW, WOp, evOp, evBin, binI, binSh, binS, evNil, keyIs, keyEq, mkv, AV.cells, AV.sc, optv, bnd, env, put, Env.get, Env.set, Env.del, Env.dels, Env.init, res1, resL, resV, fillP, splice, newRow, Nat.reduceEqDiff, Nat.reduceLT, Nat.reduceLeDiff, Nat.reduceAdd, Nat.reduceMul, Nat.reduceSub, Nat.reduceBEq, reduceCtorEq, ↓zR, zQ, Tr, StA, StT, n8, wr_of zg]
    generalize IntKind.i64.wrap ((x5 : Int) + IntKind.i64.wrap ((x6 : Int).tdiv 8)) = E
    have ze : (g9.set h5.length (AO.row [.int .i64 A, .int .i64 D, .int .i64 E] 0 0 false))[h5.length]? = some (AO.row [.int .i64 A, .int .i64 D, .int .i64 E] 0 0 false) := by rw [List.getElem?_set, if_pos rfl, if_pos lg5]
    have ye : (g9.set h5.length (AO.row [.int .i64 A, .int .i64 D, .int .i64 E] 0 0 false))[h.length]? = some (AO.row [.int .i64 0, .int .i64 0, .int .i64 0] 0 0 false) := by rw [List.getElem?_set, if_neg (by omega)]; exact yg
    have lge : h.length < (g9.set h5.length (AO.row [.int .i64 A, .int .i64 D, .int .i64 E] 0 0 false)).length := by simpa using lgh
    obtain ⟨f1, f2⟩ := fin A D E (g9.set h5.length (AO.row [.int .i64 A, .int .i64 D, .int .i64 E] 0 0 false)) h5.length hl5 (by simpa using lg5) ((hc9.le (by omega)).set (by omega)) ((X6.trans p69).setN (by omega)) ye ze
    generalize g9.set h5.length (AO.row [.int .i64 A, .int .i64 D, .int .i64 E] 0 0 false) = gE at *
    simp (maxSteps := 1000000) (disch := first | omega | rfl | (simp only [zL, two63, room] <;> omega) | fail) only [↓reduceIte, ↓zP, zW, WOp, evOp, evBin, binI, binSh, binS, evNil, keyIs, keyEq, mkv, AV.cells, AV.sc, optv, bnd, env, put, Env.get, Env.set, Env.del, Env.dels, Env.init, res1, resL, resV, fillP, splice, newRow, Nat.reduceEqDiff, Nat.reduceLT, Nat.reduceLeDiff, Nat.reduceAdd, Nat.reduceMul, Nat.reduceSub, Nat.reduceBEq, reduceCtorEq, ↓zR, zQ, Tr, StA, StT, f1, wr_of ye, List.length_set, lge]
    exact f2
/-- A drawn puzzle: the rows of the result and of what is being made. -/
def PzI (b : AH) (cv : AV) (bs : List UInt8) (K : Nat) (g0 gb : AH) (r2 r3 : Nat) (n : Int) (v : AV) (L : List Clu) (h : AH) : Prop := Cur b cv bs K h ∧ PreX b.length g0 h ∧ h[r2]? = some (.row [.int .i64 0, .nilS] 0 0 false) ∧ h[r3]? = some (.row [.int .i64 n, v] 0 0 false) ∧ OwL 3 encC gb h v L ∧ gb.length ≤ h.length ∧ (b.length < gb.length ∧ g0.length ≤ r2 ∧ r2 < r3 ∧ r2 < gb.length ∧ r2 ≠ b.length ∧ b.length < r3) ∧ rowOf v ≠ some r3
theorem PzI.step {g0 gb h h' : AH} {r2 r3 K' : Nat} {n : Int} {v : AV} {L : List Clu} (hi : PzI b cv bs K g0 gb r2 r3 n v L h) (hc : Cur b cv bs K' h') (hp : PreX b.length h h') : PzI b cv bs K' g0 gb r2 r3 n v L h' := by
  obtain ⟨i1, i2, i3, i4, i5, i6, ⟨i7, i8, i9, iA, iC, iD⟩, iB⟩ := hi
  have l2 := (List.getElem?_eq_some_iff.1 i3).1
  have l3 := (List.getElem?_eq_some_iff.1 i4).1
  exact ⟨hc, i2.trans hp, by rw [hp.2 _ l2 (by omega)]; exact i3, by rw [hp.2 _ l3 (by omega)]; exact i4, own_prex i5 (by omega) hp, Nat.le_trans i6 hp.1, ⟨i7, i8, i9, iA, iC, iD⟩, iB⟩
theorem PzI.cells {g0 gb h : AH} {r2 r3 : Nat} {n : Int} {v : AV} {L : List Clu} (hi : PzI b cv bs K g0 gb r2 r3 n v L h) (m : Int) : PzI b cv bs K g0 gb r2 r3 m v L (h.set r3 (.row [.int .i64 m, v] 0 0 false)) := by
  obtain ⟨i1, i2, i3, i4, i5, i6, ⟨i7, i8, i9, iA, iC, iD⟩, iB⟩ := hi
  have l3 := (List.getElem?_eq_some_iff.1 i4).1
  exact ⟨i1.set (by omega), i2.setN (by omega), by rw [List.getElem?_set, if_neg (by omega)]; exact i3, by rw [List.getElem?_set, if_pos rfl, if_pos l3], own_row i5 (fun i hi => by rw [List.getElem?_set, if_neg (by rintro rfl; exact iB hi)]), by simpa using i6, ⟨i7, i8, i9, iA, iC, iD⟩, iB⟩
theorem PzI.add {g0 gb h : AH} {r2 r3 : Nat} {n : Int} {v : AV} {L : List Clu} (hi : PzI b cv bs K g0 gb r2 r3 n v L h) (c : Clu) (hL : L.length < 1000) : ∃ v3 h3, apRow (h ++ [AO.row (encC c) 0 0 false]) 3 v 1 (encC c) = some (v3, h3) ∧ h3[r3]? = some (.row [.int .i64 n, v] 0 0 false) ∧ v3.cells = [v3] ∧ v3.sc = true ∧
    PzI b cv bs K g0 gb r2 r3 n v3 (L ++ [c]) (h3.set r3 (.row [.int .i64 n, v3] 0 0 false)) ∧ ∀ i, i < h.length → rowOf v ≠ some i → i ≠ r3 → (h3.set r3 (.row [.int .i64 n, v3] 0 0 false))[i]? = h[i]? := by
  have px := Pre.push h (AO.row (encC c) 0 0 false)
  obtain ⟨i1, i2, i3, i4, i5, i6, ⟨i7, i8, i9, iA, iC, iD⟩, iB⟩ := hi
  have l2 := (List.getElem?_eq_some_iff.1 i3).1
  have l3 := (List.getElem?_eq_some_iff.1 i4).1
  have lb := i1.lt
  obtain ⟨v3, h3, a1, a2, a3⟩ := apA hlC scC (i5.pre px) (Nat.le_trans i6 px.1) c (by omega)
  obtain ⟨f1, f2, f3⟩ := apRow_fr a1
  have lx : (h ++ [AO.row (encC c) 0 0 false]).length = h.length + 1 := by simp
  have f : h3[r3]? = some (.row [.int .i64 n, v] 0 0 false) := by rw [f1 r3 (by omega) iB, px.2 _ l3]; exact i4
  have l3' := (List.getElem?_eq_some_iff.1 f).1
  have hag : Ag gb.length h h3 := (px.ag i6).trans a3
  have nB : rowOf v3 ≠ some r3 := fun e => by
    rcases f3 r3 e with h4 | h4
    · exact iB h4
    · omega
  refine ⟨v3, h3, a1, f, (sl_cells a2.slc).1, (sl_cells a2.slc).2, ⟨?_, ?_, ?_, by rw [List.getElem?_set, if_pos rfl, if_pos l3'], own_row a2 (fun i hi => by rw [List.getElem?_set, if_neg (by rintro rfl; exact nB hi)]), ?_, ⟨i7, i8, i9, iA, iC, iD⟩, nB⟩, fun i hi hv hr => by rw [List.getElem?_set, if_neg (Ne.symm hr), f1 i (by omega) hv, px.2 i hi]⟩
  · obtain ⟨c1, c2, c3, a, s, c4, c5⟩ := i1
    refine Cur.set ⟨c1, c2, ⟨Nat.le_trans c3.1 hag.1, fun i hi => by rw [hag.2 i (by omega), c3.2 i hi]⟩, a, s, c4, by rw [hag.2 _ (by omega)]; exact c5⟩ (by omega)
  · exact PreX.setN ⟨Nat.le_trans i2.1 hag.1, fun i hi hn => by rw [hag.2 i (by omega), i2.2 i hi hn]⟩ (by omega)
  · rw [List.getElem?_set, if_neg (by omega), hag.2 _ (by omega)]; exact i3
  · have := hag.1; have := px.1; simp; omega
theorem c_surePuzzle (hc : Cur b cv bs K h) (hK : K < 2 ^ 46) (most : Nat) (hm : most < 100) (hp : ∀ (n : Int) v (L : List Clu) h', L.length ≤ 6 → OwL 3 encC h h' v L → Cur b cv bs (K + 20) h' → PreX b.length h h' → post (pzV n v) h') : S 610 [.ptr b.length 0 0 3, .int .i64 most] h post k := by
  have P1 := Pre.push h (AO.row [.int .i64 0, .nilS] 0 0 false)
  have z1 := zrow h (AO.row [.int .i64 0, .nilS] 0 0 false)
  have l1 : h.length < (h ++ [AO.row [.int .i64 0, .nilS] 0 0 false]).length := by simp
  have hc1 := hc.pre P1
  have lb := hc.lt
  generalize hg1 : h ++ [AO.row [.int .i64 0, .nilS] 0 0 false] = g1 at *
  have hm1 : (most : Int) + 1 = ((most + 1 : Nat) : Int) := by omega
  refine S_of rfl T610 ?_; unfold fi610
  simp (maxSteps := 1000000) (disch := first | omega | rfl | (simp only [zL, two63, room] <;> omega) | fail) only [↓reduceIte, ↓zP, zW, WOp, evOp, evBin, binI, binSh, binS, evNil, keyIs, keyEq, mkv, AV.cells, AV.sc, optv, bnd, env, put, Env.get, Env.set, Env.del, Env.dels, Env.init, res1, resL, resV, fillP, splice, newRow, Nat.reduceEqDiff, Nat.reduceLT, Nat.reduceLeDiff, Nat.reduceAdd, Nat.reduceMul, Nat.reduceSub, Nat.reduceBEq, reduceCtorEq, ↓zR, zQ, Tr, StA, StT, hg1]
  refine c_sureLine hc1 4 (by omega) (by omega) (by omega) ?_
  intro w h2 hw1 hw4 _ hc2 p2
  simp (maxSteps := 1000000) (disch := first | omega | rfl | (simp only [zL, two63, room] <;> omega) | fail) only [↓reduceIte, ↓zP, zW, WOp, evOp, evBin, binI, binSh, binS, evNil, keyIs, keyEq, mkv, AV.cells, AV.sc, optv, bnd, env, put, Env.get, Env.set, Env.del, Env.dels, Env.init, res1, resL, resV, fillP, splice, newRow, Nat.reduceEqDiff, Nat.reduceLT, Nat.reduceLeDiff, Nat.reduceAdd, Nat.reduceMul, Nat.reduceSub, Nat.reduceBEq, reduceCtorEq, ↓zR, zQ, Tr, StA, StT, hm1]
  refine c_pick hc2 (by omega) (most + 1) (by omega) ?_
  intro x h3 _ hc3 p3
  simp (maxSteps := 1000000) (disch := first | omega | rfl | (simp only [zL, two63, room] <;> omega) | fail) only [↓reduceIte, ↓zP, zW, WOp, evOp, evBin, binI, binSh, binS, evNil, keyIs, keyEq, mkv, AV.cells, AV.sc, optv, bnd, env, put, Env.get, Env.set, Env.del, Env.dels, Env.init, res1, resL, resV, fillP, splice, newRow, Nat.reduceEqDiff, Nat.reduceLT, Nat.reduceLeDiff, Nat.reduceAdd, Nat.reduceMul, Nat.reduceSub, Nat.reduceBEq, reduceCtorEq, ↓zR, zQ, Tr, StA, StT]
  refine c_pick hc3 (by omega) 10000 (by omega) ?_
  intro y h4 _ hc4 p4
  simp (maxSteps := 1000000) (disch := first | omega | rfl | (simp only [zL, two63, room] <;> omega) | fail) only [↓reduceIte, ↓zP, zW, WOp, evOp, evBin, binI, binSh, binS, evNil, keyIs, keyEq, mkv, AV.cells, AV.sc, optv, bnd, env, put, Env.get, Env.set, Env.del, Env.dels, Env.init, res1, resL, resV, fillP, splice, newRow, Nat.reduceEqDiff, Nat.reduceLT, Nat.reduceLeDiff, Nat.reduceAdd, Nat.reduceMul, Nat.reduceSub, Nat.reduceBEq, reduceCtorEq, ↓zR, zQ, Tr, StA, StT]
  refine c_sMakePuzzle w (by omega) x y ?_
  intro v5 h5 o5 p5
  have X4 := p2.trans (p3.trans p4)
  have lg4 := X4.1
  have w1 := (sl_cells o5.slc).1
  have w2 := (sl_cells o5.slc).2
  simp only [AV.cells] at w1
  unfold AV.sc at w2
  have P6 := Pre.push h5 (AO.row [.int .i64 (mpN w x y), v5] 0 0 false)
  obtain ⟨m6, -, -⟩ := rowP h5 (mpN w x y) v5
  have z6 : (h5 ++ [AO.row [.int .i64 (mpN w x y), v5] 0 0 false])[h.length]? = some (AO.row [.int .i64 0, .nilS] 0 0 false) := by
    have := p5.1
    rw [P6.2 _ (by omega), p5.2 _ (by omega), X4.2 _ l1 (by omega)]; exact z1
  generalize hk : h5 ++ [AO.row [.int .i64 (mpN w x y), v5] 0 0 false] = g6 at *
  have l6 := P6.1
  have l5 := p5.1
  have lh6 : h.length < g6.length := by omega
  simp (maxSteps := 1000000) (disch := first | omega | rfl | (simp only [zL, two63, room] <;> omega) | fail) only [↓reduceIte, ↓zP, zW, WOp, evOp, evBin, binI, binSh, binS, evNil, keyIs, keyEq, mkv, AV.cells, AV.sc, optv, bnd, env, put, Env.get, Env.set, Env.del, Env.dels, Env.init, res1, resL, resV, fillP, splice, newRow, Nat.reduceEqDiff, Nat.reduceLT, Nat.reduceLeDiff, Nat.reduceAdd, Nat.reduceMul, Nat.reduceSub, Nat.reduceBEq, reduceCtorEq, ↓zR, zQ, Tr, StA, StT, w1, w2, hk, m6, wr_of z6, List.length_set, lh6]
  refine hp _ v5 _ _ (mpC_few w x y) ?_ ?_ ?_
  · exact own_base (own_set (b := h4) (Own.pre P6 o5) (by omega)) (by omega)
  · exact ((hc4.pre (p5.trans P6)).le (by omega)).set (by omega)
  · exact PreX.setN (((P1.x _).trans X4).trans ((p5.trans P6).x _)) (Nat.le_refl _)
theorem lp_puzzle {g0 gb : AH} {r2 r3 : Nat} {R : X → Env → AH → Prop} : ∀ (d K : Nat) (n : Int) (v : AV) (L : List Clu) (h : AH), PzI b cv bs K g0 gb r2 r3 n v L h → L.length + d = 8 → K + 2 * d < 2 ^ 47 →
    (∀ v' L' h', L'.length ≤ 8 → PzI b cv bs (K + 2 * d + 2) g0 gb r2 r3 n v' L' h' → R (.exit 1) [(2, .ptr r2 0 0 2), (3, .ptr r3 0 0 2)] h') →
    Cx (.loop lp602_0) [(0, .ptr b.length 0 0 3), (2, .ptr r2 0 0 2), (3, .ptr r3 0 0 2)] h R k k
  | d, K, n, v, L, h, hi, hd, hK, hR => by
    have q1 := (row2f hi.2.2.2.1).2.1
    have n3 : r3 ≠ b.length := by have := hi.2.2.2.2.2.2.1; omega
    have lv := fun g => Slc.lenV (hi.2.2.2.2.1.slc) (g := g) (ρ := fun _ => _) (x := .t 0) rfl; simp only [evOp] at lv
    rw [w_loopb (c := lp602_0) (d := lb602_0) rfl]; unfold lb602_0
    simp (maxSteps := 1000000) (disch := first | omega | rfl | (simp only [zL, two63, room] <;> omega) | fail) only [↓reduceIte, ↓zP, zW, WOp, evOp, evBin, binI, binSh, binS, evNil, keyIs, keyEq, mkv, AV.cells, AV.sc, optv, bnd, env, put, Env.get, Env.set, Env.del, Env.dels, Env.init, res1, resL, resV, fillP, splice, newRow, Nat.reduceEqDiff, Nat.reduceLT, Nat.reduceLeDiff, Nat.reduceAdd, Nat.reduceMul, Nat.reduceSub, Nat.reduceBEq, reduceCtorEq, ↓zR, zQ, Tr, StA, StT, q1]
    refine w_drw ?_
    simp (maxSteps := 1000000) (disch := first | omega | rfl | (simp only [zL, two63, room] <;> omega) | fail) only [↓reduceIte, ↓zP, zW, WOp, evOp, evBin, binI, binSh, binS, evNil, keyIs, keyEq, mkv, AV.cells, AV.sc, optv, bnd, env, put, Env.get, Env.set, Env.del, Env.dels, Env.init, res1, resL, resV, fillP, splice, newRow, Nat.reduceEqDiff, Nat.reduceLT, Nat.reduceLeDiff, Nat.reduceAdd, Nat.reduceMul, Nat.reduceSub, Nat.reduceBEq, reduceCtorEq, ↓zR, zQ, Tr, StA, StT, q1, lv]
    refine c_pick hi.1 (by omega) 2 (by omega) ?_
    intro x h2 hx hc2 p2
    have hi2 := hi.step hc2 p2
    have q2 := (row2f hi2.2.2.2.1).2.1
    have hx1 : x ≤ 1 := by omega
    by_cases hlt : L.length < 6 + x
    · match d, hd, hK, hR with
      | 0, hd, hK, hR => omega
      | d + 1, hd, hK, hR =>
        have ih := lp_puzzle (g0 := g0) (gb := gb) (r2 := r2) (r3 := r3) (R := R) d (K + 2)
        have n1 : (L.length : Int) < IntKind.i64.wrap (6 + (x : Int)) := by rw [wrap_i (by omega)]; omega
        obtain ⟨v3, h3, a1, a2, w1, w2, hi3, -⟩ := hi2.add (4, 1, 0) (by omega)
        simp only [AV.cells] at w1
        unfold AV.sc at w2
        simp (maxSteps := 1000000) (disch := first | omega | rfl | (simp only [zL, two63, room] <;> omega) | fail) only [↓reduceIte, ↓zP, zW, WOp, evOp, evBin, binI, binSh, binS, evNil, keyIs, keyEq, mkv, AV.cells, AV.sc, optv, bnd, env, put, Env.get, Env.set, Env.del, Env.dels, Env.init, res1, resL, resV, fillP, splice, newRow, Nat.reduceEqDiff, Nat.reduceLT, Nat.reduceLeDiff, Nat.reduceAdd, Nat.reduceMul, Nat.reduceSub, Nat.reduceBEq, reduceCtorEq, ↓zR, zQ, Tr, StA, StT, q1, q2, lv, n1, a1, wr_of a2, w1, w2]
        rw [w_loopn (c := lp602_0) rfl]
        simp (maxSteps := 1000000) (disch := first | omega | rfl | (simp only [zL, two63, room] <;> omega) | fail) only [↓reduceIte, ↓zP, zW, WOp, evOp, evBin, binI, binSh, binS, evNil, keyIs, keyEq, mkv, AV.cells, AV.sc, optv, bnd, env, put, Env.get, Env.set, Env.del, Env.dels, Env.init, res1, resL, resV, fillP, splice, newRow, Nat.reduceEqDiff, Nat.reduceLT, Nat.reduceLeDiff, Nat.reduceAdd, Nat.reduceMul, Nat.reduceSub, Nat.reduceBEq, reduceCtorEq, ↓zR, zQ, Tr, StA, StT]
        exact ih n v3 _ _ hi3 (by simp; omega) (by omega) (fun v' L' h' hl hi' => hR v' L' h' hl (by rw [show K + 2 * (d + 1) + 2 = K + 2 + 2 * d + 2 by omega]; exact hi'))
    · have n1 : ¬ ((L.length : Int) < IntKind.i64.wrap (6 + (x : Int))) := by rw [wrap_i (by omega)]; omega
      simp (maxSteps := 1000000) (disch := first | omega | rfl | (simp only [zL, two63, room] <;> omega) | fail) only [↓reduceIte, ↓zP, zW, WOp, evOp, evBin, binI, binSh, binS, evNil, keyIs, keyEq, mkv, AV.cells, AV.sc, optv, bnd, env, put, Env.get, Env.set, Env.del, Env.dels, Env.init, res1, resL, resV, fillP, splice, newRow, Nat.reduceEqDiff, Nat.reduceLT, Nat.reduceLeDiff, Nat.reduceAdd, Nat.reduceMul, Nat.reduceSub, Nat.reduceBEq, reduceCtorEq, ↓zR, zQ, Tr, StA, StT, q1, q2, lv, n1]
      exact hR v L h2 (by omega) (hi2.step (hc2.le (by omega)) (PreX.refl _ _))
theorem c_puzzle (hc : Cur b cv bs K h) (hK : K < 2 ^ 44) (hp : ∀ (n : Int) v (L : List Clu) h', L.length ≤ 10 → OwL 3 encC h h' v L → Cur b cv bs (K + 60) h' → PreX b.length h h' → post (pzV n v) h') : S 602 [.ptr b.length 0 0 3] h post k := by
  have P1 := Pre.push h (AO.row [.int .i64 0, .nilS] 0 0 false)
  have z1 := zrow h (AO.row [.int .i64 0, .nilS] 0 0 false)
  have l1 : h.length < (h ++ [AO.row [.int .i64 0, .nilS] 0 0 false]).length := by simp
  have hc1 := hc.pre P1
  have lb := hc.lt
  generalize hg1 : h ++ [AO.row [.int .i64 0, .nilS] 0 0 false] = g1 at *
  refine S_of rfl T602 ?_; unfold fi602
  simp (maxSteps := 1000000) (disch := first | omega | rfl | (simp only [zL, two63, room] <;> omega) | fail) only [↓reduceIte, ↓zP, zW, WOp, evOp, evBin, binI, binSh, binS, evNil, keyIs, keyEq, mkv, AV.cells, AV.sc, optv, bnd, env, put, Env.get, Env.set, Env.del, Env.dels, Env.init, res1, resL, resV, fillP, splice, newRow, Nat.reduceEqDiff, Nat.reduceLT, Nat.reduceLeDiff, Nat.reduceAdd, Nat.reduceMul, Nat.reduceSub, Nat.reduceBEq, reduceCtorEq, ↓zR, zQ, Tr, StA, StT, hg1]
  refine c_surePuzzle hc1 (by omega) 5 (by omega) ?_
  intro n v L h4 hL o4 hc4 p4
  have w1 := (sl_cells o4.slc).1
  have w2 := (sl_cells o4.slc).2
  simp only [AV.cells] at w1
  unfold AV.sc at w2
  have P5 := Pre.push h4 (AO.row [.int .i64 n, v] 0 0 false)
  have z5 := zrow h4 (AO.row [.int .i64 n, v] 0 0 false)
  have lg4 := p4.1
  have hlt : ∀ r, rowOf v = some r → r < h4.length := fun r hr => own_lt o4 hr
  have hi5 : PzI b cv bs (K + 20) h g1 h.length h4.length n v L (h4 ++ [AO.row [.int .i64 n, v] 0 0 false]) := by
    refine ⟨hc4.pre P5, ((P1.x _).trans p4).trans (P5.x _), ?_, z5, Own.pre P5 o4, by have := P5.1; omega, ⟨by omega, Nat.le_refl _, by omega, l1, by omega, by omega⟩, fun e => by have := hlt _ e; omega⟩
    rw [P5.2 _ (by omega), p4.2 _ l1 (by omega)]; exact z1
  generalize hk : h4 ++ [AO.row [.int .i64 n, v] 0 0 false] = g5 at *
  have fin : ∀ n' v' L' K' g, L'.length ≤ 10 → K' ≤ K + 60 → PzI b cv bs K' h g1 h.length h4.length n' v' L' g → rdRow g h4.length 0 0 2 = some [.int .i64 n', v'] ∧ wrRow g h.length 0 0 [.int .i64 n', v'] = some (g.set h.length (.row [.int .i64 n', v'] 0 0 false)) ∧ v'.cells = [v'] ∧ v'.sc = true ∧
      rdRow (g.set h.length (.row [.int .i64 n', v'] 0 0 false)) h.length 0 0 2 = some [.int .i64 n', v'] ∧ post (pzV n' v') (g.set h.length (.row [.int .i64 n', v'] 0 0 false)) := by
    intro n' v' L' K' g hL' hK' hi
    obtain ⟨i1, i2, i3, i4, i5, i6, ⟨i7, i8, i9, iA, iC, iD⟩, iB⟩ := hi
    have l2 := (List.getElem?_eq_some_iff.1 i3).1
    have x1 := (sl_cells i5.slc).1
    have x2 := (sl_cells i5.slc).2
    refine ⟨(row2f i4).2.2, ?_, x1, x2, ?_, ?_⟩
    · simp [wrRow, i3, splice, AV.sc]
      unfold AV.sc at x2
      exact x2
    · exact (row2f (by rw [List.getElem?_set, if_pos rfl, if_pos l2])).2.2
    · exact hp n' v' L' _ hL' (own_base (own_set i5 iA) (by have := P1.1; omega)) ((i1.le hK').set (by omega)) (i2.setN (Nat.le_refl _))
  simp (maxSteps := 1000000) (disch := first | omega | rfl | (simp only [zL, two63, room] <;> omega) | fail) only [↓reduceIte, ↓zP, zW, WOp, evOp, evBin, binI, binSh, binS, evNil, keyIs, keyEq, mkv, AV.cells, AV.sc, optv, bnd, env, put, Env.get, Env.set, Env.del, Env.dels, Env.init, res1, resL, resV, fillP, splice, newRow, Nat.reduceEqDiff, Nat.reduceLT, Nat.reduceLeDiff, Nat.reduceAdd, Nat.reduceMul, Nat.reduceSub, Nat.reduceBEq, reduceCtorEq, ↓zR, zQ, Tr, StA, StT, w1, w2, hk]
  refine c_pick hi5.1 (by omega) 12 (by omega) ?_
  intro x g6 _ hc6 p6
  have hi6 := hi5.step hc6 p6
  have lg6 := hc6.lt
  by_cases x0 : x = 0
  · subst x0
    simp (maxSteps := 1000000) (disch := first | omega | rfl | (simp only [zL, two63, room] <;> omega) | fail) only [↓reduceIte, ↓zP, zW, WOp, evOp, evBin, binI, binSh, binS, evNil, keyIs, keyEq, mkv, AV.cells, AV.sc, optv, bnd, env, put, Env.get, Env.set, Env.del, Env.dels, Env.init, res1, resL, resV, fillP, splice, newRow, Nat.reduceEqDiff, Nat.reduceLT, Nat.reduceLeDiff, Nat.reduceAdd, Nat.reduceMul, Nat.reduceSub, Nat.reduceBEq, reduceCtorEq, ↓zR, zQ, Tr, StA, StT]
    refine c_among (hc6.pre (Pre.push _ _)) (by omega) (slc_litI g6 [0, 1, 5, 6, -1]) (fun r hr => by cases hr; omega) (by simp) (by simp) ?_
    intro y _ g7 hc7 p7
    have hi7 := hi6.step hc7 (((Pre.push g6 _).x _).trans p7)
    have hi8 := hi7.cells y
    have z7 := hi7.2.2.2.1
    simp (maxSteps := 1000000) (disch := first | omega | rfl | (simp only [zL, two63, room] <;> omega) | fail) only [↓reduceIte, ↓zP, zW, WOp, evOp, evBin, binI, binSh, binS, evNil, keyIs, keyEq, mkv, AV.cells, AV.sc, optv, bnd, env, put, Env.get, Env.set, Env.del, Env.dels, Env.init, res1, resL, resV, fillP, splice, newRow, Nat.reduceEqDiff, Nat.reduceLT, Nat.reduceLeDiff, Nat.reduceAdd, Nat.reduceMul, Nat.reduceSub, Nat.reduceBEq, reduceCtorEq, ↓zR, zQ, Tr, StA, StT, wr_of z7]
    generalize g7.set h4.length (AO.row [.int .i64 y, v] 0 0 false) = g8 at *
    have hiE := hi8
    obtain ⟨f1, f2, f3, f4, f5, f6⟩ := fin (y) v L _ _ (by omega) (by omega) hiE
    simp only [AV.cells] at f3
    unfold AV.sc at f4
    simp (maxSteps := 1000000) (disch := first | omega | rfl | (simp only [zL, two63, room] <;> omega) | fail) only [↓reduceIte, ↓zP, zW, WOp, evOp, evBin, binI, binSh, binS, evNil, keyIs, keyEq, mkv, AV.cells, AV.sc, optv, bnd, env, put, Env.get, Env.set, Env.del, Env.dels, Env.init, res1, resL, resV, fillP, splice, newRow, Nat.reduceEqDiff, Nat.reduceLT, Nat.reduceLeDiff, Nat.reduceAdd, Nat.reduceMul, Nat.reduceSub, Nat.reduceBEq, reduceCtorEq, ↓zR, zQ, Tr, StA, StT, f1, f2, f3, f4, f5]
    exact f6
  have n0 : ((x : Int) == 0) = false := beq_f (by omega)
  by_cases x1 : x = 1
  · subst x1
    have q6 := (row2f hi6.2.2.2.1).2.1
    simp (maxSteps := 1000000) (disch := first | omega | rfl | (simp only [zL, two63, room] <;> omega) | fail) only [↓reduceIte, ↓zP, zW, WOp, evOp, evBin, binI, binSh, binS, evNil, keyIs, keyEq, mkv, AV.cells, AV.sc, optv, bnd, env, put, Env.get, Env.set, Env.del, Env.dels, Env.init, res1, resL, resV, fillP, splice, newRow, Nat.reduceEqDiff, Nat.reduceLT, Nat.reduceLeDiff, Nat.reduceAdd, Nat.reduceMul, Nat.reduceSub, Nat.reduceBEq, reduceCtorEq, ↓zR, zQ, Tr, StA, StT]
    refine w_drw ?_
    simp (maxSteps := 1000000) (disch := first | omega | rfl | (simp only [zL, two63, room] <;> omega) | fail) only [↓reduceIte, ↓zP, zW, WOp, evOp, evBin, binI, binSh, binS, evNil, keyIs, keyEq, mkv, AV.cells, AV.sc, optv, bnd, env, put, Env.get, Env.set, Env.del, Env.dels, Env.init, res1, resL, resV, fillP, splice, newRow, Nat.reduceEqDiff, Nat.reduceLT, Nat.reduceLeDiff, Nat.reduceAdd, Nat.reduceMul, Nat.reduceSub, Nat.reduceBEq, reduceCtorEq, ↓zR, zQ, Tr, StA, StT, q6]
    refine c_clue hc6 (by omega) ?_
    intro c g7 hc7 p7
    have hi7 := hi6.step hc7 p7
    have q7 := (row2f hi7.2.2.2.1).2.1
    have l7 := rd_lt q7
    obtain ⟨v3, h3, a1, a2, y1, y2, hi8, -⟩ := hi7.add c (by omega)
    have q3 := (row2f a2).2.1
    simp only [AV.cells] at y1
    unfold AV.sc at y2
    simp (maxSteps := 1000000) (disch := first | omega | rfl | (simp only [zL, two63, room] <;> omega) | fail) only [↓reduceIte, ↓zP, zW, WOp, evOp, evBin, binI, binSh, binS, evNil, keyIs, keyEq, mkv, AV.cells, AV.sc, optv, bnd, env, put, Env.get, Env.set, Env.del, Env.dels, Env.init, res1, resL, resV, fillP, splice, newRow, Nat.reduceEqDiff, Nat.reduceLT, Nat.reduceLeDiff, Nat.reduceAdd, Nat.reduceMul, Nat.reduceSub, Nat.reduceBEq, reduceCtorEq, ↓zR, zQ, Tr, StA, StT, q6, q7, q3, a1, wr_of a2, y1, y2]
    generalize h3.set h4.length (AO.row [.int .i64 n, v3] 0 0 false) = g8 at *
    have hiE := hi8
    obtain ⟨f1, f2, f3, f4, f5, f6⟩ := fin (n) v3 (L ++ [c]) _ _ (by simp; omega) (by omega) hiE
    simp only [AV.cells] at f3
    unfold AV.sc at f4
    simp (maxSteps := 1000000) (disch := first | omega | rfl | (simp only [zL, two63, room] <;> omega) | fail) only [↓reduceIte, ↓zP, zW, WOp, evOp, evBin, binI, binSh, binS, evNil, keyIs, keyEq, mkv, AV.cells, AV.sc, optv, bnd, env, put, Env.get, Env.set, Env.del, Env.dels, Env.init, res1, resL, resV, fillP, splice, newRow, Nat.reduceEqDiff, Nat.reduceLT, Nat.reduceLeDiff, Nat.reduceAdd, Nat.reduceMul, Nat.reduceSub, Nat.reduceBEq, reduceCtorEq, ↓zR, zQ, Tr, StA, StT, f1, f2, f3, f4, f5]
    exact f6
  have n1 : ((x : Int) == 1) = false := beq_f (by omega)
  by_cases x2 : x = 2
  · subst x2
    simp (maxSteps := 1000000) (disch := first | omega | rfl | (simp only [zL, two63, room] <;> omega) | fail) only [↓reduceIte, ↓zP, zW, WOp, evOp, evBin, binI, binSh, binS, evNil, keyIs, keyEq, mkv, AV.cells, AV.sc, optv, bnd, env, put, Env.get, Env.set, Env.del, Env.dels, Env.init, res1, resL, resV, fillP, splice, newRow, Nat.reduceEqDiff, Nat.reduceLT, Nat.reduceLeDiff, Nat.reduceAdd, Nat.reduceMul, Nat.reduceSub, Nat.reduceBEq, reduceCtorEq, ↓zR, zQ, Tr, StA, StT]
    refine lp_puzzle (8 - L.length) _ n v L g6 hi6 (by omega) (by omega) ?_
    intro v' L' g8 hL' hi8
    have hiE := hi8
    obtain ⟨f1, f2, f3, f4, f5, f6⟩ := fin (n) v' L' _ _ (by omega) (by omega) hiE
    simp only [AV.cells] at f3
    unfold AV.sc at f4
    simp (maxSteps := 1000000) (disch := first | omega | rfl | (simp only [zL, two63, room] <;> omega) | fail) only [↓reduceIte, ↓zP, zW, WOp, evOp, evBin, binI, binSh, binS, evNil, keyIs, keyEq, mkv, AV.cells, AV.sc, optv, bnd, env, put, Env.get, Env.set, Env.del, Env.dels, Env.init, res1, resL, resV, fillP, splice, newRow, Nat.reduceEqDiff, Nat.reduceLT, Nat.reduceLeDiff, Nat.reduceAdd, Nat.reduceMul, Nat.reduceSub, Nat.reduceBEq, reduceCtorEq, ↓zR, zQ, Tr, StA, StT, f1, f2, f3, f4, f5]
    exact f6
  have n2 : ((x : Int) == 2) = false := beq_f (by omega)
  simp (maxSteps := 1000000) (disch := first | omega | rfl | (simp only [zL, two63, room] <;> omega) | fail) only [↓reduceIte, ↓zP, zW, WOp, evOp, evBin, binI, binSh, binS, evNil, keyIs, keyEq, mkv, AV.cells, AV.sc, optv, bnd, env, put, Env.get, Env.set, Env.del, Env.dels, Env.init, res1, resL, resV, fillP, splice, newRow, Nat.reduceEqDiff, Nat.reduceLT, Nat.reduceLeDiff, Nat.reduceAdd, Nat.reduceMul, Nat.reduceSub, Nat.reduceBEq, reduceCtorEq, ↓zR, zQ, Tr, StA, StT, n0, n1, n2]
  have hiE := hi6
  obtain ⟨f1, f2, f3, f4, f5, f6⟩ := fin (n) v L _ _ (by omega) (by omega) hiE
  simp only [AV.cells] at f3
  unfold AV.sc at f4
  simp (maxSteps := 1000000) (disch := first | omega | rfl | (simp only [zL, two63, room] <;> omega) | fail) only [↓reduceIte, ↓zP, zW, WOp, evOp, evBin, binI, binSh, binS, evNil, keyIs, keyEq, mkv, AV.cells, AV.sc, optv, bnd, env, put, Env.get, Env.set, Env.del, Env.dels, Env.init, res1, resL, resV, fillP, splice, newRow, Nat.reduceEqDiff, Nat.reduceLT, Nat.reduceLeDiff, Nat.reduceAdd, Nat.reduceMul, Nat.reduceSub, Nat.reduceBEq, reduceCtorEq, ↓zR, zQ, Tr, StA, StT, f1, f2, f3, f4, f5]
  exact f6
end
end Go.Proofs.YtnamhjdfegohbaaGreatDoor.Ab
