/- Part 5 of the proof of a law of the given program: the rules that it leans on, and what the functions that it reaches answer; the conditions stand with each theorem. -/
import Derived.Test.YtcflenomogpdbaaDoorQ3
set_option linter.unusedSimpArgs false
set_option linter.unusedVariables false
/- PLAIN LAWS of reaching: lines in order, layer by layer, and plays counted. -/
namespace Go.Proofs.YtcflenomogpdbaaDoor.Ab
open Go

abbrev Ln := List UInt8
theorem bl_eq : ∀ (x y : Ln), Op.bytesLess x y = decide (x < y)
  | _, [] => by simp [Op.bytesLess]
  | [], _ :: _ => by simp [Op.bytesLess]
  | a :: x, b :: y => by
    simp only [Op.bytesLess, bl_eq x y, List.cons_lt_cons_iff]
    by_cases h : a < b
    · simp [h]
    · by_cases e : a = b
      · subst e; simp
      · simp [h, e]
theorem ln_irrefl (x : Ln) : ¬ x < x := List.lt_irrefl x
theorem ln_trans {x y z : Ln} (h : x < y) (h' : y < z) : x < z := List.lt_trans h h'
theorem ln_tri {x y : Ln} (h : ¬ x < y) (hn : x ≠ y) : y < x := by
  rcases List.le_total x y with h1 | h1
  · rcases (List.le_iff_lt_or_eq).1 h1 with h2 | h2
    · exact absurd h2 h
    · exact absurd h2 hn
  · rcases (List.le_iff_lt_or_eq).1 h1 with h2 | h2
    · exact h2
    · exact absurd h2.symm hn
abbrev Srt (l : List Ln) : Prop := l.Pairwise (· < ·)
theorem Srt.nodup {l : List Ln} (h : Srt l) : l.Nodup := h.imp fun hlt e => by subst e; exact ln_irrefl _ hlt
/-- Sorted lists of the same members are one. -/
theorem Srt.ext : ∀ {l l' : List Ln}, Srt l → Srt l' → (∀ x, x ∈ l ↔ x ∈ l') → l = l'
  | [], [], _, _, _ => rfl
  | [], b :: t, _, _, h => by have := (h b).2 (by simp); simp at this
  | a :: s, [], _, _, h => by have := (h a).1 (by simp); simp at this
  | a :: s, b :: t, h1, h2, h => by
    unfold Srt at h1 h2
    rw [List.pairwise_cons] at h1 h2
    obtain rfl : a = b := by
      have ha := (h a).1 (by simp)
      have hb := (h b).2 (by simp)
      rw [List.mem_cons] at ha hb
      rcases ha with rfl | ha
      · rfl
      · rcases hb with rfl | hb
        · rfl
        · exact absurd (ln_trans (h1.1 _ hb) (h2.1 _ ha)) (ln_irrefl _)
    congr 1
    refine Srt.ext h1.2 h2.2 fun x => ?_
    have hx := h x
    rw [List.mem_cons, List.mem_cons] at hx
    constructor
    · intro hm
      rcases hx.1 (.inr hm) with rfl | h3
      · exact absurd (h1.1 _ hm) (ln_irrefl _)
      · exact h3
    · intro hm
      rcases hx.2 (.inr hm) with rfl | h3
      · exact absurd (h2.1 _ hm) (ln_irrefl _)
      · exact h3
def lowB (x : Ln) : List Ln → Nat
  | [] => 0
  | a :: t => if a < x then lowB x t + 1 else 0
theorem lowB_le (x : Ln) : ∀ l : List Ln, lowB x l ≤ l.length
  | [] => Nat.le_refl _
  | a :: t => by
    unfold lowB
    split
    · have := lowB_le x t; simp; omega
    · simp
theorem low_iff (x : Ln) : ∀ {l : List Ln}, Srt l → ∀ (i : Nat) (y : Ln), l[i]? = some y → (y < x ↔ i < lowB x l)
  | [], _, i, y, h => by simp at h
  | a :: t, hs, i, y, h => by
    unfold Srt at hs
    rw [List.pairwise_cons] at hs
    unfold lowB
    cases i with
    | zero =>
      simp at h; subst h
      split <;> simp [*]
    | succ i =>
      rw [List.getElem?_cons_succ] at h
      split
      · rw [low_iff x hs.2 i y h]; omega
      · rename_i hn
        constructor
        · intro hy
          exact absurd (ln_trans (hs.1 y (List.mem_of_getElem? h)) hy) hn
        · intro hy; omega
def insS (x : Ln) : List Ln → List Ln
  | [] => [x]
  | a :: t => if a < x then a :: insS x t else if a = x then a :: t else x :: a :: t
theorem insS_low (x : Ln) : ∀ l : List Ln, insS x l = if l[lowB x l]? = some x then l else l.take (lowB x l) ++ x :: l.drop (lowB x l)
  | [] => by simp [insS, lowB]
  | a :: t => by
    unfold insS lowB
    by_cases h : a < x
    · simp only [if_pos h, insS_low x t, List.getElem?_cons_succ, List.take_succ_cons, List.drop_succ_cons]
      split <;> simp
    · simp only [if_neg h]
      by_cases e : a = x
      · simp [e]
      · simp [e]
theorem insS_mem (x y : Ln) : ∀ l : List Ln, y ∈ insS x l ↔ y = x ∨ y ∈ l
  | [] => by simp [insS]
  | a :: t => by
    unfold insS
    split
    · rw [List.mem_cons, insS_mem x y t, List.mem_cons]
      constructor
      · rintro (h | h | h) <;> simp [h]
      · rintro (h | h | h) <;> simp [h]
    · split
      · rename_i e; subst e
        simp
      · simp
theorem insS_srt (x : Ln) : ∀ {l : List Ln}, Srt l → Srt (insS x l)
  | [], _ => by simp [insS]
  | a :: t, hs => by
    have hs0 := hs
    unfold Srt at hs
    rw [List.pairwise_cons] at hs
    unfold insS
    split
    · rename_i h
      rw [Srt, List.pairwise_cons]
      refine ⟨fun y hy => ?_, insS_srt x hs.2⟩
      rcases (insS_mem x y t).1 hy with rfl | hy
      · exact h
      · exact hs.1 y hy
    · split
      · exact hs0
      · rename_i h e
        have hx := ln_tri h e
        rw [Srt, List.pairwise_cons]
        refine ⟨fun y hy => ?_, hs0⟩
        rcases List.mem_cons.1 hy with rfl | hy
        · exact hx
        · exact ln_trans hx (hs.1 y hy)
theorem insS_len (x : Ln) : ∀ l : List Ln, (insS x l).length ≤ l.length + 1
  | [] => by simp [insS]
  | a :: t => by
    unfold insS
    split
    · have := insS_len x t; simp; omega
    · split <;> simp
def addS (l acc : List Ln) : List Ln := l.foldl (fun a x => insS x a) acc
theorem addS_mem (y : Ln) : ∀ (l acc : List Ln), y ∈ addS l acc ↔ y ∈ l ∨ y ∈ acc
  | [], acc => by simp [addS]
  | x :: l, acc => by
    show y ∈ addS l (insS x acc) ↔ _
    rw [addS_mem y l, insS_mem, List.mem_cons]
    constructor
    · rintro (h | h | h) <;> simp [h]
    · rintro ((h | h) | h) <;> simp [h]
theorem addS_srt : ∀ (l : List Ln) {acc : List Ln}, Srt acc → Srt (addS l acc)
  | [], _, h => h
  | x :: l, acc, h => addS_srt l (insS_srt x h)
theorem addS_app (l l' acc : List Ln) : addS (l ++ l') acc = addS l' (addS l acc) := List.foldl_append

/-- Lines behind one move. -/
def nx (w : Ln) : List Ln := nextB w [84, 70]
def stepL (l : List Ln) : List Ln := addS (l.flatMap nx) []
theorem stepL_mem (l : List Ln) (y : Ln) : y ∈ stepL l ↔ ∃ u ∈ l, y ∈ nx u := by
  unfold stepL
  rw [addS_mem, List.mem_flatMap]
  simp
theorem stepL_srt (l : List Ln) : Srt (stepL l) := addS_srt _ List.Pairwise.nil
def lay (w : Ln) : Nat → List Ln
  | 0 => [w]
  | j + 1 => stepL (lay w j)
theorem lay_srt (w : Ln) : ∀ j, Srt (lay w j)
  | 0 => by simp [lay]
  | _ + 1 => stepL_srt _
theorem lay_mu (w : Ln) : ∀ (j : Nat) (v : Ln), v ∈ lay w j → mu v + j ≤ mu w
  | 0, v, h => by
    simp only [lay, List.mem_singleton] at h
    subst h; omega
  | j + 1, v, h => by
    obtain ⟨u, hu, hv⟩ := (stepL_mem _ _).1 h
    have h1 := lay_mu w j u hu
    have h2 := nextB_mu hv
    omega
theorem lay_empty (w : Ln) {j : Nat} (h : lay w j = []) : ∀ d, lay w (j + d) = []
  | 0 => h
  | d + 1 => by
    show stepL (lay w (j + d)) = []
    rw [lay_empty w h d]; rfl
theorem lay_end (w : Ln) : lay w (mu w + 1) = [] := by
  rw [List.eq_nil_iff_forall_not_mem]
  intro v hv
  have := lay_mu w _ v hv
  omega

/-! ### Plays counted -/
def cntP : Nat → Ln → Nat
  | 0, _ => 1
  | j + 1, w => ((nx w).map (cntP j)).sum
def pcs (L : List Ln) (p : Ln → Nat) (v : Ln) : Nat := (L.map fun u => (nx u).count v * p u).sum
def pc (w : Ln) : Nat → Ln → Nat
  | 0, _ => 1
  | j + 1, v => pcs (lay w j) (pc w j) v
theorem sum_zero {α : Type} (l : List α) : (l.map fun _ => 0).sum = 0 := by
  induction l with
  | nil => rfl
  | cons a l ih => simp [ih]
theorem sum_congr {α : Type} {f g : α → Nat} : ∀ {l : List α}, (∀ x ∈ l, f x = g x) → (l.map f).sum = (l.map g).sum
  | [], _ => rfl
  | a :: l, h => by
    rw [List.map_cons, List.map_cons, List.sum_cons, List.sum_cons, h a (by simp), sum_congr fun x hx => h x (by simp [hx])]
theorem sum_add' {α : Type} (f g : α → Nat) : ∀ l : List α, (l.map fun x => f x + g x).sum = (l.map f).sum + (l.map g).sum
  | [] => rfl
  | a :: l => by simp only [List.map_cons, List.sum_cons, sum_add' f g l]; omega
theorem sum_mul' {α : Type} (f : α → Nat) (c : Nat) : ∀ l : List α, (l.map fun x => c * f x).sum = c * (l.map f).sum
  | [] => by simp
  | a :: l => by simp only [List.map_cons, List.sum_cons, sum_mul' f c l, Nat.mul_add]
theorem count_sum (f : Ln → Nat) {S : List Ln} (hn : S.Nodup) : ∀ l : List Ln, (∀ x ∈ l, x ∈ S) → (S.map fun v => l.count v * f v).sum = (l.map f).sum
  | [], _ => by simp [sum_zero]
  | x :: l, h => by
    have ih := count_sum f hn l fun y hy => h y (by simp [hy])
    have one : ∀ {S : List Ln}, S.Nodup → x ∈ S → (S.map fun v => (if x == v then 1 else 0) * f v).sum = f x := by
      intro S
      induction S with
      | nil => intro _ hx; simp at hx
      | cons a S ih2 =>
        intro hn hx
        rw [List.nodup_cons] at hn
        rw [List.map_cons, List.sum_cons]
        by_cases e : x = a
        · subst e
          have : (S.map fun v => (if x == v then 1 else 0) * f v).sum = (S.map fun _ => 0).sum := sum_congr fun v hv => by
            have : x ≠ v := by rintro rfl; exact hn.1 hv
            simp [this]
          rw [this, sum_zero]; simp
        · rw [ih2 hn.2 (by rcases List.mem_cons.1 hx with h | h; exact absurd h e; exact h)]
          simp [e]
    rw [List.map_cons, List.sum_cons, ← ih, ← one hn (h x (by simp)), ← sum_add']
    refine sum_congr fun v _ => ?_
    rw [List.count_cons, Nat.add_mul, Nat.add_comm]
theorem pcs_sum (f p : Ln → Nat) (S : List Ln) (hn : S.Nodup) : ∀ L : List Ln, (∀ u ∈ L, ∀ x ∈ nx u, x ∈ S) → (S.map fun v => pcs L p v * f v).sum = (L.map fun u => p u * ((nx u).map f).sum).sum
  | [], _ => by simp [pcs, sum_zero]
  | u :: L, h => by
    have ih := pcs_sum f p S hn L fun y hy => h y (by simp [hy])
    rw [List.map_cons, List.sum_cons, ← ih, ← count_sum f hn (nx u) (h u (by simp)), ← sum_mul', ← sum_add']
    refine sum_congr fun v _ => ?_
    simp only [pcs, List.map_cons, List.sum_cons]
    rw [Nat.add_mul, Nat.mul_right_comm, Nat.mul_comm _ (p u)]
theorem pc_sum (w : Ln) : ∀ (j d : Nat), ((lay w j).map fun v => pc w j v * cntP d v).sum = cntP (j + d) w
  | 0, d => by simp [lay, pc]
  | j + 1, d => by
    have := pc_sum w j (d + 1)
    rw [show j + 1 + d = j + (d + 1) by omega, ← this]
    exact pcs_sum (cntP d) (pc w j) (lay w (j + 1)) (lay_srt w (j + 1)).nodup (lay w j) fun u hu x hx => (stepL_mem _ _).2 ⟨u, hu, hx⟩
theorem sum_le_of_mem {α : Type} (f : α → Nat) : ∀ {l : List α} {x : α}, x ∈ l → f x ≤ (l.map f).sum
  | a :: l, x, h => by
    rw [List.map_cons, List.sum_cons]
    rcases List.mem_cons.1 h with rfl | h
    · omega
    · have := sum_le_of_mem f h; omega
theorem pc_sum0 (w : Ln) (j : Nat) : ((lay w j).map (pc w j)).sum = cntP j w := by
  have := pc_sum w j 0
  simpa [cntP] using this
theorem pc_le (w : Ln) (j : Nat) {v : Ln} (h : v ∈ lay w j) : pc w j v ≤ cntP j w := by
  rw [← pc_sum0]; exact sum_le_of_mem _ h

/-! ### Lines with one gap -/
def oneGap (w : Ln) : Prop := w.all isSign = true ∧ w.count 46 = 1
theorem flat_one {β : Type} {f : Nat → List β} : ∀ {l : List Nat}, l.Nodup → (∀ i ∈ l, (f i).length ≤ 1) → (∀ i ∈ l, ∀ j ∈ l, f i ≠ [] → f j ≠ [] → i = j) → (l.flatMap f).length ≤ 1
  | [], _, _, _ => by simp
  | a :: l, hn, h1, h2 => by
    rw [List.nodup_cons] at hn
    rw [List.flatMap_cons, List.length_append]
    by_cases e : f a = []
    · rw [e]
      have := flat_one hn.2 (fun i hi => h1 i (by simp [hi])) (fun i hi j hj => h2 i (by simp [hi]) j (by simp [hj]))
      simpa using this
    · have : l.flatMap f = [] := by
        rw [List.flatMap_eq_nil_iff]
        intro j hj
        apply Classical.byContradiction
        intro hne
        have := h2 a (by simp) j (by simp [hj]) e hne
        subst this; exact hn.1 hj
      rw [this]
      have := h1 a (by simp)
      simpa using this
end Go.Proofs.YtcflenomogpdbaaDoor.Ab

/- PLAIN LAWS of words: in a line with one gap a toad has one move at most, and so a frog. -/
namespace Go.Proofs.YtcflenomogpdbaaDoor.Ab
open Go

theorem flatMap_sum {α β : Type} (g : β → Nat) (f : α → List β) : ∀ l : List α, ((l.flatMap f).map g).sum = (l.map fun i => ((f i).map g).sum).sum
  | [] => rfl
  | a :: l => by rw [List.flatMap_cons, List.map_append, List.sum_append, flatMap_sum g f l, List.map_cons, List.sum_cons]
theorem has2 (b : UInt8) : hasB [84, 70] b = ((b == 84) || (b == 70)) := by have := hasB_kinds true true b; simpa [kindsS] using this
theorem has84 (b : UInt8) : hasB [84] b = (b == 84) := by have := hasB_kinds true false b; simpa [kindsS] using this
theorem has70 (b : UInt8) : hasB [70] b = (b == 70) := by have := hasB_kinds false true b; simpa [kindsS] using this
theorem moveB_parts (g : Int × Int → Nat) (w : Ln) (i : Nat) : ((moveB w [84, 70] i).map g).sum = ((moveB w [70] i).map g).sum + ((moveB w [84] i).map g).sum := by
  unfold moveB
  rw [has2, has84, has70]
  cases goalB w i with
  | none => rfl
  | some t =>
    simp only
    generalize w.getD i 0 = b
    by_cases h1 : b = 84
    · subst h1; simp
    · by_cases h2 : b = 70
      · subst h2; simp
      · simp [h1, h2]
theorem nx_parts (f : Ln → Nat) (w : Ln) : ((nx w).map f).sum = ((nextB w [70]).map f).sum + ((nextB w [84]).map f).sum := by
  unfold nx nextB movesB
  simp only [List.map_map]
  rw [flatMap_sum, flatMap_sum, flatMap_sum, ← sum_add']
  exact sum_congr fun i _ => moveB_parts _ w i
theorem count_set {b x : UInt8} : ∀ {l : Ln} {i : Nat}, i < l.length → (l.set i b).count x + (if l.getD i 0 = x then 1 else 0) = l.count x + (if b = x then 1 else 0)
  | [], i, h => by simp at h
  | a :: l, 0, _ => by
    simp only [List.set_cons_zero, List.count_cons, List.getD_cons_zero, beq_iff_eq]
    omega
  | a :: l, i + 1, h => by
    have := count_set (b := b) (x := x) (l := l) (i := i) (by simpa using h)
    simp only [List.set_cons_succ, List.count_cons, List.getD_cons_succ]
    omega
theorem Mv.ne {w : Ln} {i t : Nat} (h : Mv w i t) : i ≠ t := by
  obtain ⟨_, _, h3, h4⟩ := h
  rintro rfl
  rcases h4 with ⟨h5, _⟩ | ⟨h5, _⟩ <;> rw [h5] at h3 <;> cases h3
theorem Mv.sign {w : Ln} {i t : Nat} (h : Mv w i t) : w.getD i 0 = 84 ∨ w.getD i 0 = 70 := by
  obtain ⟨_, _, _, h4⟩ := h
  rcases h4 with ⟨h5, _⟩ | ⟨h5, _⟩
  · exact .inl h5
  · exact .inr h5
theorem getD_setL {l : Ln} {i j : Nat} {b : UInt8} (h : i < l.length) : (l.set i b).getD j 0 = if i = j then b else l.getD j 0 := by
  simp only [List.getD_eq_getElem?_getD, List.getElem?_set]
  by_cases e : i = j
  · subst e; simp [h]
  · simp [e]
theorem count_made {w : Ln} {i t : Nat} (h : Mv w i t) : (madeB w i t).count 46 = w.count 46 := by
  have hne := h.ne
  have hs := h.sign
  obtain ⟨h1, h2, h3, h4⟩ := h
  have e1 := count_set (b := w.getD i 0) (x := 46) (l := w) (i := t) h2
  have e2 := count_set (b := 46) (x := 46) (l := w.set t (w.getD i 0)) (i := i) (by simpa using h1)
  rw [getD_setL h2, if_neg (Ne.symm hne)] at e2
  unfold madeB
  have hb : w.getD i 0 ≠ 46 := by rcases hs with h | h <;> rw [h] <;> decide
  rw [h3] at e1
  simp only [if_true, if_neg hb] at e1 e2
  omega
theorem signs_made {w : Ln} {i t : Nat} (h : Mv w i t) (hs : w.all isSign = true) : (madeB w i t).all isSign = true := by
  rw [List.all_eq_true] at hs ⊢
  unfold madeB
  intro x hx
  rcases List.mem_or_eq_of_mem_set hx with hx | rfl
  · rcases List.mem_or_eq_of_mem_set hx with hx | rfl
    · exact hs x hx
    · rcases h.sign with h | h <;> rw [h] <;> rfl
  · rfl
theorem nextB_mv {w kinds v : Ln} (h : v ∈ nextB w kinds) : ∃ i t : Nat, ((i : Int), (t : Int)) ∈ movesB w kinds ∧ Mv w i t ∧ v = madeB w i t := by
  obtain ⟨m, hm, rfl⟩ := List.mem_map.1 h
  obtain ⟨i, t, rfl, hv⟩ := movesB_mv hm
  exact ⟨i, t, hm, hv, by simp⟩
theorem oneGap.next {w kinds v : Ln} (h : oneGap w) (hv : v ∈ nextB w kinds) : oneGap v := by
  obtain ⟨i, t, _, hm, rfl⟩ := nextB_mv hv
  exact ⟨signs_made hm h.1, (count_made hm).trans h.2⟩
theorem count_two {x : UInt8} : ∀ {l : Ln} {i j : Nat}, i < j → l.getD i 0 = x → l.getD j 0 = x → j < l.length → 2 ≤ l.count x
  | [], _, _, _, _, _, h => by simp at h
  | a :: l, 0, j + 1, _, h1, h2, h3 => by
    simp only [List.getD_cons_zero, List.getD_cons_succ] at h1 h2
    subst h1
    have : a ∈ l := by
      have hj : j < l.length := by simpa using h3
      rw [← h2, List.getD_eq_getElem?_getD, List.getElem?_eq_getElem hj]
      simp
    have := List.count_pos_iff.2 this
    simp only [List.count_cons, beq_self_eq_true, if_true]
    omega
  | a :: l, i + 1, j + 1, h, h1, h2, h3 => by
    have := count_two (l := l) (i := i) (j := j) (by omega) (by simpa using h1) (by simpa using h2) (by simpa using h3)
    rw [List.count_cons]; omega
theorem gap_one {w : Ln} (h : w.count 46 = 1) {t t' : Nat} (ht : t < w.length) (ht' : t' < w.length) (h1 : w.getD t 0 = 46) (h2 : w.getD t' 0 = 46) : t = t' := by
  rcases Nat.lt_trichotomy t t' with hl | hl | hl
  · have := count_two hl h1 h2 ht'; omega
  · exact hl
  · have := count_two hl h2 h1 ht; omega
theorem moveB_some {w kinds : Ln} {i : Nat} (hi : i < w.length) (h : moveB w kinds i ≠ []) : ∃ t : Nat, Mv w i t ∧ hasB kinds (w.getD i 0) = true := by
  unfold moveB at h
  cases hg : goalB w i with
  | none => rw [hg] at h; exact absurd rfl h
  | some t =>
    rw [hg] at h
    simp only at h
    obtain ⟨t', rfl, hm⟩ := goalB_mv hi hg
    refine ⟨t', hm, ?_⟩
    cases hk : hasB kinds (w.getD i 0)
    · rw [hk] at h; simp at h
    · rfl
theorem kind_one {w : Ln} (h : oneGap w) {s : UInt8} (hs : s = 84 ∨ s = 70) : (nextB w [s]).length ≤ 1 := by
  unfold nextB movesB
  rw [List.length_map]
  refine flat_one List.nodup_range (fun i _ => moveB_len w [s] i) ?_
  intro i hi j hj h1 h2
  rw [List.mem_range] at hi hj
  obtain ⟨t, ⟨_, a2, a3, a4⟩, ak⟩ := moveB_some hi h1
  obtain ⟨t', ⟨_, b2, b3, b4⟩, bk⟩ := moveB_some hj h2
  obtain rfl := gap_one h.2 a2 b2 a3 b3
  rcases hs with rfl | rfl
  · rw [has84] at ak bk
    have ea := beq_iff_eq.1 ak
    have eb := beq_iff_eq.1 bk
    rcases a4 with ⟨_, a5⟩ | ⟨a6, _⟩
    · rcases b4 with ⟨_, b5⟩ | ⟨b6, _⟩
      · rcases a5 with a5 | ⟨a5, a7⟩ <;> rcases b5 with b5 | ⟨b5, b7⟩
        · omega
        · have : j + 1 = i := by omega
          rw [this, ea] at b7; cases b7
        · have : i + 1 = j := by omega
          rw [this, eb] at a7; cases a7
        · omega
      · rw [eb] at b6; cases b6
    · rw [ea] at a6; cases a6
  · rw [has70] at ak bk
    have ea := beq_iff_eq.1 ak
    have eb := beq_iff_eq.1 bk
    rcases a4 with ⟨a6, _⟩ | ⟨_, a5⟩
    · rw [ea] at a6; cases a6
    · rcases b4 with ⟨b6, _⟩ | ⟨_, b5⟩
      · rw [eb] at b6; cases b6
      · rcases a5 with a5 | ⟨a5, a7⟩ <;> rcases b5 with b5 | ⟨b5, b7⟩
        · omega
        · have : j - 1 = i := by omega
          rw [this, ea] at b7; cases b7
        · have : i - 1 = j := by omega
          rw [this, eb] at a7; cases a7
        · omega
theorem cntP_le : ∀ (j : Nat) {w : Ln}, oneGap w → cntP j w ≤ 2 ^ j
  | 0, _, _ => Nat.le_refl _
  | j + 1, w, h => by
    have part : ∀ {s : UInt8}, s = 84 ∨ s = 70 → ((nextB w [s]).map (cntP j)).sum ≤ 2 ^ j := by
      intro s hs
      have hl := kind_one h hs
      match hn : nextB w [s], hl with
      | [], _ => simp
      | [v], _ =>
        have := cntP_le j (h.next (kinds := [s]) (v := v) (by rw [hn]; simp))
        simpa using this
    unfold cntP
    rw [nx_parts]
    have h1 := part (s := 84) (.inl rfl)
    have h2 := part (s := 70) (.inr rfl)
    rw [Nat.pow_succ]; omega

/-! ### Words -/
def words : Nat → Ln → List Ln
  | 0, _ => [[]]
  | j + 1, w => ((nextB w [70]).flatMap fun v => (words j v).map (70 :: ·)) ++ ((nextB w [84]).flatMap fun v => (words j v).map (84 :: ·))
theorem words_len : ∀ (j : Nat) (w : Ln), (words j w).length = cntP j w
  | 0, _ => rfl
  | j + 1, w => by
    have part : ∀ (s : UInt8) (l : List Ln), (l.flatMap fun v => (words j v).map (s :: ·)).length = (l.map (cntP j)).sum := by
      intro s l
      induction l with
      | nil => rfl
      | cons v l ih => rw [List.flatMap_cons, List.length_append, ih, List.length_map, words_len j v, List.map_cons, List.sum_cons]
    unfold words cntP
    rw [List.length_append, part, part, nx_parts]
theorem cntP_next {j : Nat} {w v s : Ln} (h : v ∈ nextB w s) (hs : s = [84] ∨ s = [70]) : cntP j v ≤ cntP (j + 1) w := by
  show cntP j v ≤ ((nx w).map (cntP j)).sum
  rw [nx_parts]
  rcases hs with rfl | rfl
  · have := sum_le_of_mem (cntP j) h; omega
  · have := sum_le_of_mem (cntP j) h; omega
end Go.Proofs.YtcflenomogpdbaaDoor.Ab

/- REACHING, the reference's side: texts in order with one more, layers of lines. -/
namespace Go.Proofs.YtcflenomogpdbaaDoor.Ab
open Go
set_option maxRecDepth 100000
set_option maxHeartbeats 4000000

theorem two_ne : ((2 : Int) = 0) = False := by simp
def fewB (s : Ln) : Bool := goodLine s && decide ((s.length : Int) ≤ 10)
theorem e_reFew (s : Ln) (hs : s.length < 2 ^ 60) {h : AH} {post : AV → AH → Prop} : S 58 [.str s] h post k = post (.bool (fewB s)) h := by
  refine S_eq fun post hp => ?_
  unfold fewB at hp
  refine S_of rfl T58 ?_; unfold fi58
  simp (maxSteps := 1000000) (disch := first | omega | rfl | (simp only [zL, two63, room] <;> omega) | fail) only [↓reduceIte, ↓zP, zW, WOp, evOp, evBin, binI, binSh, binS, evNil, keyIs, keyEq, mkv, AV.cells, AV.sc, optv, bnd, env, put, Env.get, Env.set, Env.del, Env.dels, Env.init, res1, resL, resV, fillP, splice, newRow, Nat.reduceEqDiff, Nat.reduceLT, Nat.reduceLeDiff, Nat.reduceAdd, Nat.reduceMul, Nat.reduceSub, Nat.reduceBEq, reduceCtorEq, ↓zR, zQ, Tr, StA, StT]
  refine c_liGood s hs ?_
  cases e : goodLine s
  · rw [e] at hp
    simp (maxSteps := 1000000) (disch := first | omega | rfl | (simp only [zL, two63, room] <;> omega) | fail) only [↓reduceIte, ↓zP, zW, WOp, evOp, evBin, binI, binSh, binS, evNil, keyIs, keyEq, mkv, AV.cells, AV.sc, optv, bnd, env, put, Env.get, Env.set, Env.del, Env.dels, Env.init, res1, resL, resV, fillP, splice, newRow, Nat.reduceEqDiff, Nat.reduceLT, Nat.reduceLeDiff, Nat.reduceAdd, Nat.reduceMul, Nat.reduceSub, Nat.reduceBEq, reduceCtorEq, ↓zR, zQ, Tr, StA, StT]
    exact hp
  · rw [e] at hp
    simp (maxSteps := 1000000) (disch := first | omega | rfl | (simp only [zL, two63, room] <;> omega) | fail) only [↓reduceIte, ↓zP, zW, WOp, evOp, evBin, binI, binSh, binS, evNil, keyIs, keyEq, mkv, AV.cells, AV.sc, optv, bnd, env, put, Env.get, Env.set, Env.del, Env.dels, Env.init, res1, resL, resV, fillP, splice, newRow, Nat.reduceEqDiff, Nat.reduceLT, Nat.reduceLeDiff, Nat.reduceAdd, Nat.reduceMul, Nat.reduceSub, Nat.reduceBEq, reduceCtorEq, ↓zR, zQ, Tr, StA, StT]
    simpa using hp
theorem lp_reAdd {x : Ln} {v : AV} {L : List Ln} {h : AH} (hs : Slc 1 encS h v L) (ho : Srt L) (hL : L.length < 2 ^ 30) {R : X → Env → AH → Prop} : ∀ (d lo hi : Nat), hi - lo ≤ d → lo ≤ lowB x L → lowB x L ≤ hi → hi ≤ L.length →
    R (.exit 0) [(0, v), (1, .str x), (5, .int .i64 (lowB x L))] h → Cx (.loop lp129_0) [(0, v), (1, .str x), (5, .int .i64 lo), (6, .int .i64 hi)] h R k k
  | 0, lo, hi, hd, h1, h2, h3, hR => by
    obtain rfl : lo = hi := by omega
    obtain rfl : lo = lowB x L := by omega
    rw [w_loopb (c := lp129_0) (d := lb129_0) rfl]; unfold lb129_0
    simp (maxSteps := 1000000) (disch := first | omega | rfl | (simp only [zL, two63, room] <;> omega) | fail) only [↓reduceIte, ↓zP, zW, WOp, evOp, evBin, binI, binSh, binS, evNil, keyIs, keyEq, mkv, AV.cells, AV.sc, optv, bnd, env, put, Env.get, Env.set, Env.del, Env.dels, Env.init, res1, resL, resV, fillP, splice, newRow, Nat.reduceEqDiff, Nat.reduceLT, Nat.reduceLeDiff, Nat.reduceAdd, Nat.reduceMul, Nat.reduceSub, Nat.reduceBEq, reduceCtorEq, ↓zR, zQ, Tr, StA, StT]
    exact hR
  | d + 1, lo, hi, hd, h1, h2, h3, hR => by
    by_cases hlt : lo < hi
    case neg =>
      obtain rfl : lo = hi := by omega
      obtain rfl : lo = lowB x L := by omega
      rw [w_loopb (c := lp129_0) (d := lb129_0) rfl]; unfold lb129_0
      simp (maxSteps := 1000000) (disch := first | omega | rfl | (simp only [zL, two63, room] <;> omega) | fail) only [↓reduceIte, ↓zP, zW, WOp, evOp, evBin, binI, binSh, binS, evNil, keyIs, keyEq, mkv, AV.cells, AV.sc, optv, bnd, env, put, Env.get, Env.set, Env.del, Env.dels, Env.init, res1, resL, resV, fillP, splice, newRow, Nat.reduceEqDiff, Nat.reduceLT, Nat.reduceLeDiff, Nat.reduceAdd, Nat.reduceMul, Nat.reduceSub, Nat.reduceBEq, reduceCtorEq, ↓zR, zQ, Tr, StA, StT]
      exact hR
    have ih := lp_reAdd (x := x) hs ho hL (R := R) d
    have hltI : (lo : Int) < (hi : Int) := by omega
    have hm : (lo + hi) / 2 < L.length := by omega
    have hq : ((lo : Int) + (hi : Int)).tdiv 2 = (((lo + hi) / 2 : Nat) : Int) := by
      rw [Int.tdiv_eq_ediv_of_nonneg (by omega)]; omega
    have hsp : L = L.take ((lo + hi) / 2) ++ L[(lo + hi) / 2] :: L.drop ((lo + hi) / 2 + 1) := by rw [← List.drop_eq_getElem_cons, List.take_append_drop]
    have hpl : (L.take ((lo + hi) / 2)).length = (lo + hi) / 2 := by rw [List.length_take]; omega
    have hs' := hs
    rw [hsp] at hs'
    obtain ⟨c, kk, off, hv, hr⟩ := hs'.at hlS
    rw [hpl] at hr
    rw [← hsp] at hv
    have hlow := low_iff x ho ((lo + hi) / 2) (L[(lo + hi) / 2]) (by simp)
    have hbl := bl_eq (L[(lo + hi) / 2]) x
    generalize hM : (lo + hi) / 2 = M at *
    have hMlt : (M : Int) < (L.length : Int) := by omega
    have hw1 : (M : Int) + 1 = ((M + 1 : Nat) : Int) := by omega
    subst hv
    rw [w_loopb (c := lp129_0) (d := lb129_0) rfl]; unfold lb129_0
    by_cases hb : L[M] < x
    · have hbt : Op.bytesLess (L[M]) x = true := by rw [hbl]; simpa using hb
      have := hlow.1 hb
      simp (maxSteps := 1000000) (disch := first | omega | rfl | (simp only [zL, two63, room] <;> omega) | fail) only [↓reduceIte, ↓zP, zW, WOp, evOp, evBin, binI, binSh, binS, evNil, keyIs, keyEq, mkv, AV.cells, AV.sc, optv, bnd, env, put, Env.get, Env.set, Env.del, Env.dels, Env.init, res1, resL, resV, fillP, splice, newRow, Nat.reduceEqDiff, Nat.reduceLT, Nat.reduceLeDiff, Nat.reduceAdd, Nat.reduceMul, Nat.reduceSub, Nat.reduceBEq, reduceCtorEq, ↓zR, zQ, Tr, StA, StT, two_ne, hltI, hq, hr, hMlt, hbt]
      simp (maxSteps := 1000000) (disch := first | omega | rfl | (simp only [zL, two63, room] <;> omega) | fail) only [↓reduceIte, ↓zP, zW, WOp, evOp, evBin, binI, binSh, binS, evNil, keyIs, keyEq, mkv, AV.cells, AV.sc, optv, bnd, env, put, Env.get, Env.set, Env.del, Env.dels, Env.init, res1, resL, resV, fillP, splice, newRow, Nat.reduceEqDiff, Nat.reduceLT, Nat.reduceLeDiff, Nat.reduceAdd, Nat.reduceMul, Nat.reduceSub, Nat.reduceBEq, reduceCtorEq, ↓zR, zQ, Tr, StA, StT, hw1]
      rw [w_loopn (c := lp129_0) rfl]
      simp (maxSteps := 1000000) (disch := first | omega | rfl | (simp only [zL, two63, room] <;> omega) | fail) only [↓reduceIte, ↓zP, zW, WOp, evOp, evBin, binI, binSh, binS, evNil, keyIs, keyEq, mkv, AV.cells, AV.sc, optv, bnd, env, put, Env.get, Env.set, Env.del, Env.dels, Env.init, res1, resL, resV, fillP, splice, newRow, Nat.reduceEqDiff, Nat.reduceLT, Nat.reduceLeDiff, Nat.reduceAdd, Nat.reduceMul, Nat.reduceSub, Nat.reduceBEq, reduceCtorEq, ↓zR, zQ, Tr, StA, StT]
      exact ih (M + 1) hi (by omega) (by omega) h2 h3 hR
    · have hbt : Op.bytesLess (L[M]) x = false := by rw [hbl]; simpa using hb
      have : ¬ M < lowB x L := fun hh => hb (hlow.2 hh)
      simp (maxSteps := 1000000) (disch := first | omega | rfl | (simp only [zL, two63, room] <;> omega) | fail) only [↓reduceIte, ↓zP, zW, WOp, evOp, evBin, binI, binSh, binS, evNil, keyIs, keyEq, mkv, AV.cells, AV.sc, optv, bnd, env, put, Env.get, Env.set, Env.del, Env.dels, Env.init, res1, resL, resV, fillP, splice, newRow, Nat.reduceEqDiff, Nat.reduceLT, Nat.reduceLeDiff, Nat.reduceAdd, Nat.reduceMul, Nat.reduceSub, Nat.reduceBEq, reduceCtorEq, ↓zR, zQ, Tr, StA, StT, two_ne, hltI, hq, hr, hMlt, hbt]
      rw [w_loopn (c := lp129_0) rfl]
      simp (maxSteps := 1000000) (disch := first | omega | rfl | (simp only [zL, two63, room] <;> omega) | fail) only [↓reduceIte, ↓zP, zW, WOp, evOp, evBin, binI, binSh, binS, evNil, keyIs, keyEq, mkv, AV.cells, AV.sc, optv, bnd, env, put, Env.get, Env.set, Env.del, Env.dels, Env.init, res1, resL, resV, fillP, splice, newRow, Nat.reduceEqDiff, Nat.reduceLT, Nat.reduceLeDiff, Nat.reduceAdd, Nat.reduceMul, Nat.reduceSub, Nat.reduceBEq, reduceCtorEq, ↓zR, zQ, Tr, StA, StT]
      exact ih lo M (by omega) h1 (by omega) (by omega) hR
theorem c_reAdd (x : Ln) {v : AV} {L : List Ln} {h : AH} (hs : Slc 1 encS h v L) (ho : Srt L) (hL : L.length < 2 ^ 30) {post : AV → AH → Prop} (hp : ∀ v' h', Slc 1 encS h' v' (insS x L) → (∀ i, rowOf v' = some i → rowOf v = some i ∨ h.length ≤ i) → Pre h h' → post v' h') : S 129 [v, .str x] h post k := by
  have hlow := lowB_le x L
  have hv := fun g => Slc.lenV (hs) (g := g) (ρ := fun _ => _) (x := .t 0) rfl; simp only [evOp] at hv
  refine S_of rfl T129 ?_; unfold fi129
  simp (maxSteps := 1000000) (disch := first | omega | rfl | (simp only [zL, two63, room] <;> omega) | fail) only [↓reduceIte, ↓zP, zW, WOp, evOp, evBin, binI, binSh, binS, evNil, keyIs, keyEq, mkv, AV.cells, AV.sc, optv, bnd, env, put, Env.get, Env.set, Env.del, Env.dels, Env.init, res1, resL, resV, fillP, splice, newRow, Nat.reduceEqDiff, Nat.reduceLT, Nat.reduceLeDiff, Nat.reduceAdd, Nat.reduceMul, Nat.reduceSub, Nat.reduceBEq, reduceCtorEq, ↓zR, zQ, Tr, StA, StT, hv]
  refine lp_reAdd (x := x) hs ho hL L.length 0 L.length (by omega) (Nat.zero_le _) hlow (Nat.le_refl _) ?_
  rw [insS_low] at hp
  have fin : L[lowB x L]? ≠ some x → ∀ v' h', OwL 1 encS h h' v' (L.take (lowB x L) ++ [x] ++ L.drop (lowB x L)) → Pre h h' → post v' h' := by
    intro hne v' h' h1 h2
    rw [if_neg hne] at hp
    exact hp v' h' (by simpa using h1.slc) (fun i hi => .inr (own_ge h1 hi)) h2
  obtain ⟨v1, h1, ha1, ho1, hp1⟩ := apM hlS scS (OwL.emp (h0 := h) (h := h)) (Pre.refl h) (L.take (lowB x L)) (by simp; omega)
  rw [List.nil_append] at ho1
  have hpx := Pre.push h1 (AO.row [.str x] 0 0 false)
  have hx := hp1.trans hpx
  obtain ⟨v2, h2, ha2, ho2, hp2⟩ := apL hlS scS (ho1.pre hpx) hx x (by simp; omega)
  obtain ⟨v3, h3, ha3, ho3, hp3⟩ := apM hlS scS ho2 hp2 (L.drop (lowB x L)) (by simp; omega)
  have hln1 : (L.take (lowB x L)).length = lowB x L := by rw [List.length_take]; omega
  have hln3 : (L.drop (lowB x L)).length = L.length - lowB x L := by rw [List.length_drop]
  rw [hln1] at ha1
  rw [hln3] at ha3
  rcases hs.cases with ⟨rfl, rfl⟩ | ⟨rfl, rfl⟩ | ⟨c, kk, off, rfl⟩
  · simp only [lowB] at *
    simp only [List.take_nil, List.flatMap_nil, List.drop_nil, List.length_nil, Nat.sub_zero] at ha1 ha3
    simp (maxSteps := 1000000) (disch := first | omega | rfl | (simp only [zL, two63, room] <;> omega) | fail) only [↓reduceIte, ↓zP, zW, WOp, evOp, evBin, binI, binSh, binS, evNil, keyIs, keyEq, mkv, AV.cells, AV.sc, optv, bnd, env, put, Env.get, Env.set, Env.del, Env.dels, Env.init, res1, resL, resV, fillP, splice, newRow, Nat.reduceEqDiff, Nat.reduceLT, Nat.reduceLeDiff, Nat.reduceAdd, Nat.reduceMul, Nat.reduceSub, Nat.reduceBEq, reduceCtorEq, ↓zR, zQ, Tr, StA, StT, hv, ha1, ha2, ha3]
    exact fin (by simp) _ _ ho3 hp3
  · simp only [lowB] at *
    simp only [List.take_nil, List.flatMap_nil, List.drop_nil, List.length_nil, Nat.sub_zero] at ha1 ha3
    simp (maxSteps := 1000000) (disch := first | omega | rfl | (simp only [zL, two63, room] <;> omega) | fail) only [↓reduceIte, ↓zP, zW, WOp, evOp, evBin, binI, binSh, binS, evNil, keyIs, keyEq, mkv, AV.cells, AV.sc, optv, bnd, env, put, Env.get, Env.set, Env.del, Env.dels, Env.init, res1, resL, resV, fillP, splice, newRow, Nat.reduceEqDiff, Nat.reduceLT, Nat.reduceLeDiff, Nat.reduceAdd, Nat.reduceMul, Nat.reduceSub, Nat.reduceBEq, reduceCtorEq, ↓zR, zQ, Tr, StA, StT, hv, ha1, ha2, ha3]
    exact fin (by simp) _ _ ho3 hp3
  · have hs2 : Slc 1 encS h (.slice c kk off L.length 1) (L.take (lowB x L) ++ L.drop (lowB x L)) := by rw [List.take_append_drop]; exact hs
    have hr1 := hs2.ahead hlS
    have hr3 := rdRow_pre hp2 (hs2.behind hlS)
    rw [hln1] at hr1 hr3
    rw [hln3] at hr3
    have hb1 : (lowB x L : Int) ≤ (L.length : Int) := by omega
    by_cases hlt : lowB x L < L.length
    · have hltI : (lowB x L : Int) < (L.length : Int) := by omega
      have hsp : L = L.take (lowB x L) ++ L[lowB x L] :: L.drop (lowB x L + 1) := by rw [← List.drop_eq_getElem_cons, List.take_append_drop]
      have hs' : Slc 1 encS h (.slice c kk off L.length 1) (L.take (lowB x L) ++ L[lowB x L] :: L.drop (lowB x L + 1)) := by rw [← hsp]; exact hs
      have hr := hs'.rd hlS
      rw [hln1] at hr
      cases e : (L[lowB x L] == x)
      · simp (maxSteps := 1000000) (disch := first | omega | rfl | (simp only [zL, two63, room] <;> omega) | fail) only [↓reduceIte, ↓zP, zW, WOp, evOp, evBin, binI, binSh, binS, evNil, keyIs, keyEq, mkv, AV.cells, AV.sc, optv, bnd, env, put, Env.get, Env.set, Env.del, Env.dels, Env.init, res1, resL, resV, fillP, splice, newRow, Nat.reduceEqDiff, Nat.reduceLT, Nat.reduceLeDiff, Nat.reduceAdd, Nat.reduceMul, Nat.reduceSub, Nat.reduceBEq, reduceCtorEq, ↓zR, zQ, Tr, StA, StT, hv, hltI, hr, e, hb1, hr1, hr3, ha1, ha2, ha3, Nat.add_zero, Nat.sub_zero, Nat.zero_mul]
        refine fin ?_ _ _ ho3 hp3
        rw [List.getElem?_eq_getElem hlt]
        simpa using e
      · simp (maxSteps := 1000000) (disch := first | omega | rfl | (simp only [zL, two63, room] <;> omega) | fail) only [↓reduceIte, ↓zP, zW, WOp, evOp, evBin, binI, binSh, binS, evNil, keyIs, keyEq, mkv, AV.cells, AV.sc, optv, bnd, env, put, Env.get, Env.set, Env.del, Env.dels, Env.init, res1, resL, resV, fillP, splice, newRow, Nat.reduceEqDiff, Nat.reduceLT, Nat.reduceLeDiff, Nat.reduceAdd, Nat.reduceMul, Nat.reduceSub, Nat.reduceBEq, reduceCtorEq, ↓zR, zQ, Tr, StA, StT, hv, hltI, hr, e]
        rw [if_pos (by rw [List.getElem?_eq_getElem hlt]; simpa using e)] at hp
        exact hp _ _ hs (fun i hi => .inl hi) (Pre.refl _)
    · have hltI : ¬ (lowB x L : Int) < (L.length : Int) := by omega
      have htk : L.take (lowB x L) = L := List.take_of_length_le (by omega)
      rw [htk] at ha1 hr1
      simp (maxSteps := 1000000) (disch := first | omega | rfl | (simp only [zL, two63, room] <;> omega) | fail) only [↓reduceIte, ↓zP, zW, WOp, evOp, evBin, binI, binSh, binS, evNil, keyIs, keyEq, mkv, AV.cells, AV.sc, optv, bnd, env, put, Env.get, Env.set, Env.del, Env.dels, Env.init, res1, resL, resV, fillP, splice, newRow, Nat.reduceEqDiff, Nat.reduceLT, Nat.reduceLeDiff, Nat.reduceAdd, Nat.reduceMul, Nat.reduceSub, Nat.reduceBEq, reduceCtorEq, ↓zR, zQ, Tr, StA, StT, hv, hltI, hb1, hr1, hr3, ha1, ha2, ha3, Nat.add_zero, Nat.sub_zero, Nat.zero_mul]
      exact fin (by rw [List.getElem?_eq_none (by omega)]; simp) _ _ ho3 hp3
end Go.Proofs.YtcflenomogpdbaaDoor.Ab

/- REACHING, the reference's side: layers of lines. -/
namespace Go.Proofs.YtcflenomogpdbaaDoor.Ab
open Go
set_option maxRecDepth 100000
set_option maxHeartbeats 4000000

def GoodL (n : Nat) (A : List Ln) : Prop := Srt A ∧ ∀ x ∈ A, x.length = n ∧ x.all isSign = true
theorem GoodL.len {n : Nat} {A : List Ln} (h : GoodL n A) (hn : n ≤ 10) : A.length ≤ 59049 := by
  have := nodup_bound (A := [46, 70, 84]) (n := n) h.1.nodup (fun x hx => ⟨(h.2 x hx).1, fun b hb => by
    have := List.all_eq_true.1 (h.2 x hx).2 b hb
    unfold isSign at this
    simp at this ⊢
    rcases this with h | h
    · rcases h with h | h <;> simp [h]
    · simp [h]⟩)
  exact Nat.le_trans this (Nat.le_trans (Nat.pow_le_pow_right (by simp) hn) (by decide))
theorem GoodL.nil {n : Nat} : GoodL n [] := ⟨List.Pairwise.nil, fun x hx => by simp at hx⟩
theorem GoodL.ins {n : Nat} {A : List Ln} (h : GoodL n A) {x : Ln} (hx : x.length = n ∧ x.all isSign = true) : GoodL n (insS x A) :=
  ⟨insS_srt x h.1, fun y hy => by
    rcases (insS_mem x y A).1 hy with rfl | hy
    · exact hx
    · exact h.2 y hy⟩
theorem GoodL.add {n : Nat} : ∀ {l A : List Ln}, GoodL n A → (∀ x ∈ l, x.length = n ∧ x.all isSign = true) → GoodL n (addS l A)
  | [], _, h, _ => h
  | x :: l, A, h, hx => GoodL.add (l := l) (h.ins (hx x (by simp))) fun y hy => hx y (by simp [hy])
theorem nx_good {w v : Ln} (hg : w.all isSign = true) (h : v ∈ nx w) : v.length = w.length ∧ v.all isSign = true := by
  obtain ⟨i, t, _, hm, rfl⟩ := nextB_mv h
  exact ⟨madeB_length w i t, signs_made hm hg⟩
theorem lay_good {w : Ln} (hg : w.all isSign = true) : ∀ j, GoodL w.length (lay w j)
  | 0 => ⟨lay_srt w 0, fun x hx => by
    simp only [lay, List.mem_singleton] at hx
    subst hx; exact ⟨rfl, hg⟩⟩
  | j + 1 => ⟨lay_srt w _, fun x hx => by
    obtain ⟨u, hu, hv⟩ := (stepL_mem _ _).1 hx
    obtain ⟨h1, h2⟩ := (lay_good hg j).2 u hu
    obtain ⟨h3, h4⟩ := nx_good h2 hv
    exact ⟨h3.trans h1, h4⟩⟩
theorem muF_le (n : Nat) : ∀ (l : Ln) (i : Nat), i + l.length ≤ n → muF n i l ≤ n * l.length
  | [], _, _ => by simp [muF]
  | b :: l, i, h => by
    have := muF_le n l (i + 1) (by simp at h; omega)
    have hb : fmu n i b ≤ n := by
      unfold fmu
      simp at h
      split
      · omega
      · split <;> omega
    simp only [muF, List.length_cons, Nat.mul_add, Nat.mul_one]
    omega
theorem mu_le (w : Ln) (hw : w.length ≤ 10) : mu w ≤ 100 := by
  have := muF_le w.length w 0 (by omega)
  unfold mu
  exact Nat.le_trans this (Nat.mul_le_mul hw hw)
def mkM (w : Ln) (m : Int × Int) : Ln := madeB w m.1.toNat m.2.toNat
theorem nx_eq (w : Ln) : nx w = (movesB w [84, 70]).map (mkM w) := rfl
theorem liM_eq (w : Ln) : liMovesB w true true = movesB w [84, 70] := liMovesB_eq w true true

theorem lp_reL2 {w : Ln} (hg : w.all isSign = true) (hw : w.length ≤ 10) {t3 t17 t18 t19 vm : AV} {b0 : Nat} {h0 : AH} (hsm : Slc 2 encM h0 vm (movesB w [84, 70])) {R : X → Env → AH → Prop} :
    ∀ (mr mp : List (Int × Int)) (A : List Ln) (v : AV) (h : AH), movesB w [84, 70] = mp ++ mr → GoodL w.length A → Slc 1 encS h v A → (∀ i, rowOf v = some i → b0 ≤ i) → b0 ≤ h.length → Pre h0 h →
    (∀ v' h', Slc 1 encS h' v' (addS (mr.map (mkM w)) A) → (∀ i, rowOf v' = some i → b0 ≤ i) → Pre h0 h' → R (.exit 4) [(3, t3), (4, v'), (17, t17), (18, t18), (19, t19)] h') →
    Cx (.loop lp118_2) [(3, t3), (4, v), (6, .str w), (17, t17), (18, t18), (19, t19), (24, vm), (25, .int .i64 (movesB w [84, 70]).length), (26, .int .i64 mp.length)] h R k k
  | [], mp, A, v, h, hmp, hA, hs, hb, hbh, hp, hR => by
    have hl : (movesB w [84, 70]).length = mp.length := by rw [hmp]; simp
    rw [w_loopb (c := lp118_2) (d := lb118_2) rfl]; unfold lb118_2
    rw [hl]
    simp (maxSteps := 1000000) (disch := first | omega | rfl | (simp only [zL, two63, room] <;> omega) | fail) only [↓reduceIte, ↓zP, zW, WOp, evOp, evBin, binI, binSh, binS, evNil, keyIs, keyEq, mkv, AV.cells, AV.sc, optv, bnd, env, put, Env.get, Env.set, Env.del, Env.dels, Env.init, res1, resL, resV, fillP, splice, newRow, Nat.reduceEqDiff, Nat.reduceLT, Nat.reduceLeDiff, Nat.reduceAdd, Nat.reduceMul, Nat.reduceSub, Nat.reduceBEq, reduceCtorEq, ↓zR, zQ, Tr, StA, StT]
    exact hR v h hs hb hp
  | m :: mr, mp, A, v, h, hmp, hA, hs, hb, hbh, hp, hR => by
    have ih := lp_reL2 hg hw hsm (t3 := t3) (t17 := t17) (t18 := t18) (t19 := t19) (b0 := b0) (R := R) mr (mp ++ [m])
    have hmm : m ∈ movesB w [84, 70] := by rw [hmp]; simp
    have hml : (movesB w [84, 70]).length = mp.length + 1 + mr.length := by rw [hmp]; simp; omega
    have hsm' := hsm.pre hp
    rw [hmp] at hsm'
    obtain ⟨r1, k1, o1, hv1, hr⟩ := hsm'.at hlM
    rw [← hmp, hml] at hv1
    obtain ⟨i, t', rfl, hmv⟩ := movesB_mv hmm
    subst hv1
    rw [hml] at ih ⊢
    have hbd := movesB_len w [84, 70]
    have hlt : (mp.length : Int) < ((mp.length + 1 + mr.length : Nat) : Int) := by omega
    have hw1 : (mp.length : Int) + 1 = ((mp ++ [((i : Int), (t' : Int))]).length : Int) := by simp
    have hmk : mkM w ((i : Int), (t' : Int)) = madeB w i t' := rfl
    rw [w_loopb (c := lp118_2) (d := lb118_2) rfl]; unfold lb118_2
    simp (maxSteps := 1000000) (disch := first | omega | rfl | (simp only [zL, two63, room] <;> omega) | fail) only [↓reduceIte, ↓zP, zW, WOp, evOp, evBin, binI, binSh, binS, evNil, keyIs, keyEq, mkv, AV.cells, AV.sc, optv, bnd, env, put, Env.get, Env.set, Env.del, Env.dels, Env.init, res1, resL, resV, fillP, splice, newRow, Nat.reduceEqDiff, Nat.reduceLT, Nat.reduceLeDiff, Nat.reduceAdd, Nat.reduceMul, Nat.reduceSub, Nat.reduceBEq, reduceCtorEq, ↓zR, zQ, Tr, StA, StT, hlt, hr]
    refine c_liMake w i t' hmv.fst hmv.snd hmv.ne (by omega) ?_
    intro h2 hp2
    have hp1 := (Pre.push h (AO.row (encM ((i : Int), (t' : Int))) 0 0 false)).trans hp2
    simp (maxSteps := 1000000) (disch := first | omega | rfl | (simp only [zL, two63, room] <;> omega) | fail) only [↓reduceIte, ↓zP, zW, WOp, evOp, evBin, binI, binSh, binS, evNil, keyIs, keyEq, mkv, AV.cells, AV.sc, optv, bnd, env, put, Env.get, Env.set, Env.del, Env.dels, Env.init, res1, resL, resV, fillP, splice, newRow, Nat.reduceEqDiff, Nat.reduceLT, Nat.reduceLeDiff, Nat.reduceAdd, Nat.reduceMul, Nat.reduceSub, Nat.reduceBEq, reduceCtorEq, ↓zR, zQ, Tr, StA, StT]
    refine c_reAdd (madeB w i t') (hs.pre hp1) hA.1 (by have := hA.len hw; omega) ?_
    intro v3 h3 hs3 hr3 hp3
    simp (maxSteps := 1000000) (disch := first | omega | rfl | (simp only [zL, two63, room] <;> omega) | fail) only [↓reduceIte, ↓zP, zW, WOp, evOp, evBin, binI, binSh, binS, evNil, keyIs, keyEq, mkv, AV.cells, AV.sc, optv, bnd, env, put, Env.get, Env.set, Env.del, Env.dels, Env.init, res1, resL, resV, fillP, splice, newRow, Nat.reduceEqDiff, Nat.reduceLT, Nat.reduceLeDiff, Nat.reduceAdd, Nat.reduceMul, Nat.reduceSub, Nat.reduceBEq, reduceCtorEq, ↓zR, zQ, Tr, StA, StT, hw1]
    rw [w_loopn (c := lp118_2) rfl]
    simp (maxSteps := 1000000) (disch := first | omega | rfl | (simp only [zL, two63, room] <;> omega) | fail) only [↓reduceIte, ↓zP, zW, WOp, evOp, evBin, binI, binSh, binS, evNil, keyIs, keyEq, mkv, AV.cells, AV.sc, optv, bnd, env, put, Env.get, Env.set, Env.del, Env.dels, Env.init, res1, resL, resV, fillP, splice, newRow, Nat.reduceEqDiff, Nat.reduceLT, Nat.reduceLeDiff, Nat.reduceAdd, Nat.reduceMul, Nat.reduceSub, Nat.reduceBEq, reduceCtorEq, ↓zR, zQ, Tr, StA, StT]
    refine ih (insS (madeB w i t') A) v3 h3 (by rw [hmp]; simp) (hA.ins ⟨madeB_length w i t', signs_made hmv hg⟩) hs3 (fun i hi => ?_) (Nat.le_trans hbh (hp1.trans hp3).1) ((hp.trans hp1).trans hp3) ?_
    · rcases hr3 i hi with h | h
      · exact hb i h
      · exact Nat.le_trans hbh (Nat.le_trans hp1.1 h)
    exact hR
theorem lp_reL1 {n : Nat} (hn : n ≤ 10) {t3 tl : AV} {b0 : Nat} {L : List Ln} (hL : GoodL n L) {h0 : AH} (hsl : Slc 1 encS h0 tl L) {R : X → Env → AH → Prop} :
    ∀ (rest pre : List Ln) (A : List Ln) (v : AV) (h : AH), L = pre ++ rest → GoodL n A → Slc 1 encS h v A → (∀ i, rowOf v = some i → b0 ≤ i) → b0 ≤ h.length → Pre h0 h →
    (∀ v' h', Slc 1 encS h' v' (addS (rest.flatMap nx) A) → (∀ i, rowOf v' = some i → b0 ≤ i) → Pre h0 h' → R (.exit 2) [(3, t3), (4, v')] h') →
    Cx (.loop lp118_1) [(3, t3), (4, v), (17, tl), (18, .int .i64 L.length), (19, .int .i64 pre.length)] h R k k
  | [], pre, A, v, h, hpre, hA, hs, hb, hbh, hp, hR => by
    have hl : L.length = pre.length := by rw [hpre]; simp
    rw [w_loopb (c := lp118_1) (d := lb118_1) rfl]; unfold lb118_1
    rw [hl]
    simp (maxSteps := 1000000) (disch := first | omega | rfl | (simp only [zL, two63, room] <;> omega) | fail) only [↓reduceIte, ↓zP, zW, WOp, evOp, evBin, binI, binSh, binS, evNil, keyIs, keyEq, mkv, AV.cells, AV.sc, optv, bnd, env, put, Env.get, Env.set, Env.del, Env.dels, Env.init, res1, resL, resV, fillP, splice, newRow, Nat.reduceEqDiff, Nat.reduceLT, Nat.reduceLeDiff, Nat.reduceAdd, Nat.reduceMul, Nat.reduceSub, Nat.reduceBEq, reduceCtorEq, ↓zR, zQ, Tr, StA, StT]
    exact hR v h hs hb hp
  | w :: rest, pre, A, v, h, hpre, hA, hs, hb, hbh, hp, hR => by
    have ih := lp_reL1 hn hL hsl (t3 := t3) (b0 := b0) (R := R) rest (pre ++ [w])
    have hml : L.length = pre.length + 1 + rest.length := by rw [hpre]; simp; omega
    obtain ⟨hwl, hwg⟩ := hL.2 w (by rw [hpre]; simp)
    subst hwl
    have hsl' := hsl.pre hp
    rw [hpre] at hsl'
    obtain ⟨r1, k1, o1, hv1, hr⟩ := hsl'.at hlS
    rw [← hpre, hml] at hv1
    subst hv1
    rw [hml] at ih ⊢
    have hbd := hL.len hn
    have hlt : (pre.length : Int) < ((pre.length + 1 + rest.length : Nat) : Int) := by omega
    have hw1 : (pre.length : Int) + 1 = ((pre ++ [w]).length : Int) := by simp
    rw [w_loopb (c := lp118_1) (d := lb118_1) rfl]; unfold lb118_1
    simp (maxSteps := 1000000) (disch := first | omega | rfl | (simp only [zL, two63, room] <;> omega) | fail) only [↓reduceIte, ↓zP, zW, WOp, evOp, evBin, binI, binSh, binS, evNil, keyIs, keyEq, mkv, AV.cells, AV.sc, optv, bnd, env, put, Env.get, Env.set, Env.del, Env.dels, Env.init, res1, resL, resV, fillP, splice, newRow, Nat.reduceEqDiff, Nat.reduceLT, Nat.reduceLeDiff, Nat.reduceAdd, Nat.reduceMul, Nat.reduceSub, Nat.reduceBEq, reduceCtorEq, ↓zR, zQ, Tr, StA, StT, hlt, hr]
    refine c_liMoves w hwg (by omega) true true ?_
    intro vm h2 ho2 hp2
    rw [liM_eq] at ho2
    have hvm := fun g => Slc.lenV (ho2.slc) (g := g) (ρ := fun _ => _) (x := .t 0) rfl; simp only [evOp] at hvm
    simp (maxSteps := 1000000) (disch := first | omega | rfl | (simp only [zL, two63, room] <;> omega) | fail) only [↓reduceIte, ↓zP, zW, WOp, evOp, evBin, binI, binSh, binS, evNil, keyIs, keyEq, mkv, AV.cells, AV.sc, optv, bnd, env, put, Env.get, Env.set, Env.del, Env.dels, Env.init, res1, resL, resV, fillP, splice, newRow, Nat.reduceEqDiff, Nat.reduceLT, Nat.reduceLeDiff, Nat.reduceAdd, Nat.reduceMul, Nat.reduceSub, Nat.reduceBEq, reduceCtorEq, ↓zR, zQ, Tr, StA, StT, hvm]
    refine lp_reL2 hwg hn ho2.slc (movesB w [84, 70]) [] A v h2 rfl hA (hs.pre hp2) hb (Nat.le_trans hbh hp2.1) (Pre.refl _) ?_
    intro v3 h3 hs3 hb3 hp3
    simp (maxSteps := 1000000) (disch := first | omega | rfl | (simp only [zL, two63, room] <;> omega) | fail) only [↓reduceIte, ↓zP, zW, WOp, evOp, evBin, binI, binSh, binS, evNil, keyIs, keyEq, mkv, AV.cells, AV.sc, optv, bnd, env, put, Env.get, Env.set, Env.del, Env.dels, Env.init, res1, resL, resV, fillP, splice, newRow, Nat.reduceEqDiff, Nat.reduceLT, Nat.reduceLeDiff, Nat.reduceAdd, Nat.reduceMul, Nat.reduceSub, Nat.reduceBEq, reduceCtorEq, ↓zR, zQ, Tr, StA, StT, hw1]
    rw [w_loopn (c := lp118_1) rfl]
    simp (maxSteps := 1000000) (disch := first | omega | rfl | (simp only [zL, two63, room] <;> omega) | fail) only [↓reduceIte, ↓zP, zW, WOp, evOp, evBin, binI, binSh, binS, evNil, keyIs, keyEq, mkv, AV.cells, AV.sc, optv, bnd, env, put, Env.get, Env.set, Env.del, Env.dels, Env.init, res1, resL, resV, fillP, splice, newRow, Nat.reduceEqDiff, Nat.reduceLT, Nat.reduceLeDiff, Nat.reduceAdd, Nat.reduceMul, Nat.reduceSub, Nat.reduceBEq, reduceCtorEq, ↓zR, zQ, Tr, StA, StT]
    refine ih (addS (nx w) A) v3 h3 (by rw [hpre]; simp) (hA.add fun x hx => ?_) hs3 hb3 (Nat.le_trans hbh (hp2.trans hp3).1) ((hp.trans hp2).trans hp3) ?_
    · exact nx_good hwg hx
    · intro v' h' hs' hb' hp'
      refine hR v' h' ?_ hb' hp'
      rw [List.flatMap_cons, addS_app]
      exact hs'
/-- A value that fills one cell. -/
abbrev SV := {v : AV // v.sc = true}
def encV (x : SV) : List AV := [x.1]
theorem hlV (x : SV) : (encV x).length = 1 := rfl
theorem scV (x : SV) : (encV x).all AV.sc = true := by simp [encV, x.2]
def LL (h : AH) (o : AV) (vs : List SV) (Ls : List (List Ln)) : Prop := vs.length = Ls.length ∧ ∀ (i : Nat) (v : SV) (L : List Ln), vs[i]? = some v → Ls[i]? = some L → Slc 1 encS h v.1 L ∧ ∀ r, rowOf v.1 = some r → rowOf o ≠ some r
theorem Slc.lt {α : Type} {esz : Nat} {enc : α → List AV} {h : AH} {v : AV} {L : List α} (hs : Slc esz enc h v L) {r : Nat} (hr : rowOf v = some r) : r < h.length := by
  cases v <;> simp only [rowOf] at hr <;> try (cases hr; done)
  cases hr
  exact hs.row_lt _ _ _ _ _ rfl
theorem Slc.stay {α : Type} {esz : Nat} {enc : α → List AV} {h h' : AH} {v : AV} {L : List α} (hs : Slc esz enc h v L) (hr : ∀ r, rowOf v = some r → h'[r]? = h[r]?) : Slc esz enc h' v L := by
  unfold Slc Sl at *
  cases v <;> simp only [rowOf] at * <;> first
    | exact hs
    | (obtain ⟨k1, k2, k3, k4⟩ := hs
       refine ⟨k1, k2, k3, ?_⟩
       unfold rdRow at k4 ⊢
       rw [hr _ rfl]; exact k4)
theorem LL.pre {h h' : AH} {o : AV} {vs : List SV} {Ls : List (List Ln)} (hl : LL h o vs Ls) (hp : Pre h h') : LL h' o vs Ls := ⟨hl.1, fun i v L h1 h2 => ⟨(hl.2 i v L h1 h2).1.pre hp, (hl.2 i v L h1 h2).2⟩⟩
/-- Behind an append to the outer slice. -/
theorem LL.app {h h3 : AH} {o o3 : AV} {vs : List SV} {Ls : List (List Ln)} (hl : LL h o vs Ls) {w : SV} {M : List Ln} (hw : Slc 1 encS h w.1 M) (hn : ∀ r, rowOf w.1 = some r → rowOf o ≠ some r)
    (f1 : ∀ i, i < h.length → rowOf o ≠ some i → h3[i]? = h[i]?) (f3 : ∀ r, rowOf o3 = some r → rowOf o = some r ∨ h.length ≤ r) : LL h3 o3 (vs ++ [w]) (Ls ++ [M]) := by
  have one : ∀ {v : SV} {L : List Ln}, Slc 1 encS h v.1 L → (∀ r, rowOf v.1 = some r → rowOf o ≠ some r) → Slc 1 encS h3 v.1 L ∧ ∀ r, rowOf v.1 = some r → rowOf o3 ≠ some r := by
    intro v L hs hd
    refine ⟨hs.stay fun r hr => f1 r (hs.lt hr) (hd r hr), fun r hr e => ?_⟩
    rcases f3 r e with h1 | h1
    · exact hd r hr h1
    · have := hs.lt hr; omega
  refine ⟨by simp [hl.1], fun i u N h1 h2 => ?_⟩
  have h0 := hl.1
  rcases Nat.lt_trichotomy i vs.length with hi | hi | hi
  · rw [List.getElem?_append_left hi] at h1
    rw [List.getElem?_append_left (by omega)] at h2
    obtain ⟨g1, g2⟩ := hl.2 i u N h1 h2
    exact one g1 g2
  · subst hi
    rw [List.getElem?_append_right (Nat.le_refl _)] at h1
    rw [List.getElem?_append_right (by omega), ← h0] at h2
    simp at h1 h2
    subst h1; subst h2; exact one hw hn
  · rw [List.getElem?_eq_none (by simp; omega)] at h1; cases h1
def lays (w : Ln) (n : Nat) : List (List Ln) := (List.range n).map (lay w)
theorem lays_succ (w : Ln) (n : Nat) : lays w (n + 1) = lays w n ++ [lay w n] := by unfold lays; rw [List.range_succ, List.map_append]; rfl
theorem reL0_step {w : Ln} (hg : w.all isSign = true) (hw : w.length ≤ 10) {h0 : AH} {R : X → Env → AH → Prop} (j : Nat) (hj : j ≤ 200) {o : AV} {vs : List SV} {u : SV} {h : AH} (ho : OwL 1 encV h0 h o (vs ++ [u])) (hll : LL h o (vs ++ [u]) (lays w (j + 1))) (hp : Pre h0 h)
    (hE : lay w (j + 1) = [] → ∀ h', Pre h h' → R .ret [(2, o)] h')
    (hN : lay w (j + 1) ≠ [] → ∀ o' h' u', OwL 1 encV h0 h' o' (vs ++ [u] ++ [u']) → LL h' o' (vs ++ [u] ++ [u']) (lays w (j + 2)) → Pre h0 h' → Cx (.loop lp118_0) [(3, o')] h' R k k) :
    Cx (.loop lp118_0) [(3, o)] h R k k := by
  have hlen : vs.length = j := by have := hll.1; simp [lays] at this; exact this
  have hsu : Slc 1 encS h u.1 (lay w j) := (hll.2 j u (lay w j) (by rw [← hlen]; simp) (by simp [lays])).1
  obtain ⟨c, kk, off, hv, hr⟩ := ho.slc.at hlV (pre := vs) (rest := [])
  subst hv
  have hN1 : ((vs ++ [u]).length : Int) - 1 = (vs.length : Int) := by simp
  have hlt : (vs.length : Int) < ((vs ++ [u]).length : Int) := by simp; omega
  have hvl := fun g => Slc.lenV (hsu) (g := g) (ρ := fun _ => _) (x := .t 0) rfl; simp only [evOp] at hvl
  have hr' : rdRow h c kk (off + vs.length * 1) 1 = some [u.1] := hr
  have z0 : (0 : Int) = (([] : List Ln).length : Int) := rfl
  have hgl := lay_good hg j
  rw [w_loopb (c := lp118_0) (d := lb118_0) rfl]; unfold lb118_0
  simp (maxSteps := 1000000) (disch := first | omega | rfl | (simp only [zL, two63, room] <;> omega) | fail) only [↓reduceIte, ↓zP, zW, WOp, evOp, evBin, binI, binSh, binS, evNil, keyIs, keyEq, mkv, AV.cells, AV.sc, optv, bnd, env, put, Env.get, Env.set, Env.del, Env.dels, Env.init, res1, resL, resV, fillP, splice, newRow, Nat.reduceEqDiff, Nat.reduceLT, Nat.reduceLeDiff, Nat.reduceAdd, Nat.reduceMul, Nat.reduceSub, Nat.reduceBEq, reduceCtorEq, ↓zR, zQ, Tr, StA, StT, hN1, hlt, hr', hvl]
  refine lp_reL1 hw hgl hsu (b0 := h.length) (lay w j) [] [] .nilS h rfl GoodL.nil (OwL.nil (h0 := h)).slc (fun i hi => by cases hi) (Nat.le_refl _) (Pre.refl _) ?_
  intro v2 h2 hs2 hb2 hp2
  rw [show addS ((lay w j).flatMap nx) [] = lay w (j + 1) from rfl] at hs2
  have hv2 := fun g => Slc.lenV (hs2) (g := g) (ρ := fun _ => _) (x := .t 0) rfl; simp only [evOp] at hv2
  have hgl2 := (lay_good hg (j + 1)).len hw
  by_cases e : lay w (j + 1) = []
  · rw [e] at hv2
    have z : (([] : List Ln).length : Int) == 0 := rfl
    simp (maxSteps := 1000000) (disch := first | omega | rfl | (simp only [zL, two63, room] <;> omega) | fail) only [↓reduceIte, ↓zP, zW, WOp, evOp, evBin, binI, binSh, binS, evNil, keyIs, keyEq, mkv, AV.cells, AV.sc, optv, bnd, env, put, Env.get, Env.set, Env.del, Env.dels, Env.init, res1, resL, resV, fillP, splice, newRow, Nat.reduceEqDiff, Nat.reduceLT, Nat.reduceLeDiff, Nat.reduceAdd, Nat.reduceMul, Nat.reduceSub, Nat.reduceBEq, reduceCtorEq, ↓zR, zQ, Tr, StA, StT, hv2, z]
    exact hE e h2 hp2
  · have hne : (((lay w (j + 1)).length : Int) == 0) = false := by
      rw [beq_eq_false_iff_ne]
      intro h0
      exact e (List.eq_nil_of_length_eq_zero (by omega))
    have hsc := (sl_cells hs2).2
    have hce := (sl_cells hs2).1
    have hpx := Pre.push h2 (AO.row [v2] 0 0 false)
    obtain ⟨o3, h3, ha, ho3, hp3⟩ := apL hlV scV ((ho.pre hp2).pre hpx) ((hp.trans hp2).trans hpx) ⟨v2, hsc⟩ (by simp; omega)
    obtain ⟨f1, f2, f3⟩ := apRow_fr ha
    simp only [encV] at ha
    simp only [AV.cells] at hce
    have hsc' := hsc
    unfold AV.sc at hsc'
    have hoc : ∀ r, rowOf (AV.slice c kk off (vs ++ [u]).length 1) = some r → r < h.length := fun r hr => own_lt ho hr
    have hll3 : LL h3 o3 (vs ++ [u] ++ [(⟨v2, hsc⟩ : SV)]) (lays w (j + 1) ++ [lay w (j + 1)]) := by
      refine ((hll.pre hp2).pre hpx).app (hs2.pre hpx) (fun r hr hro => ?_) f1 (fun r hr => (f3 r hr).imp id fun e => by omega)
      have h1 := hb2 r hr
      have h2q := hoc r hro
      omega
    simp (maxSteps := 1000000) (disch := first | omega | rfl | (simp only [zL, two63, room] <;> omega) | fail) only [↓reduceIte, ↓zP, zW, WOp, evOp, evBin, binI, binSh, binS, evNil, keyIs, keyEq, mkv, AV.cells, AV.sc, optv, bnd, env, put, Env.get, Env.set, Env.del, Env.dels, Env.init, res1, resL, resV, fillP, splice, newRow, Nat.reduceEqDiff, Nat.reduceLT, Nat.reduceLeDiff, Nat.reduceAdd, Nat.reduceMul, Nat.reduceSub, Nat.reduceBEq, reduceCtorEq, ↓zR, zQ, Tr, StA, StT, hv2, hne, hsc', hce, ha]
    rw [w_loopn (c := lp118_0) rfl]
    simp (maxSteps := 1000000) (disch := first | omega | rfl | (simp only [zL, two63, room] <;> omega) | fail) only [↓reduceIte, ↓zP, zW, WOp, evOp, evBin, binI, binSh, binS, evNil, keyIs, keyEq, mkv, AV.cells, AV.sc, optv, bnd, env, put, Env.get, Env.set, Env.del, Env.dels, Env.init, res1, resL, resV, fillP, splice, newRow, Nat.reduceEqDiff, Nat.reduceLT, Nat.reduceLeDiff, Nat.reduceAdd, Nat.reduceMul, Nat.reduceSub, Nat.reduceBEq, reduceCtorEq, ↓zR, zQ, Tr, StA, StT]
    refine hN e o3 h3 ⟨v2, hsc⟩ ho3 ?_ hp3
    rw [lays_succ w (j + 1)]
    exact hll3
theorem lp_reL0 {w : Ln} (hg : w.all isSign = true) (hw : w.length ≤ 10) {h0 : AH} {R : X → Env → AH → Prop} :
    ∀ (d j : Nat) (o : AV) (vs : List SV) (u : SV) (h : AH), j + d = mu w → OwL 1 encV h0 h o (vs ++ [u]) → LL h o (vs ++ [u]) (lays w (j + 1)) → Pre h0 h →
    (∀ o' h' vs' N, lay w (N + 1) = [] → N ≤ mu w → OwL 1 encV h0 h' o' vs' → LL h' o' vs' (lays w (N + 1)) → Pre h0 h' → R .ret [(2, o')] h') →
    Cx (.loop lp118_0) [(3, o)] h R k k := by
  have hmu := mu_le w hw
  intro d
  induction d with
  | zero =>
    intro j o vs u h hj ho hll hp hR
    have hend : lay w (j + 1) = [] := by
      have := lay_end w
      rwa [← hj, Nat.add_zero] at this
    exact reL0_step hg hw j (by omega) ho hll hp (fun _ h' hp' => hR o h' (vs ++ [u]) j hend (by omega) (ho.pre hp') (hll.pre hp') (hp.trans hp')) fun hne => absurd hend hne
  | succ d ih =>
    intro j o vs u h hj ho hll hp hR
    exact reL0_step hg hw j (by omega) ho hll hp (fun hend h' hp' => hR o h' (vs ++ [u]) j hend (by omega) (ho.pre hp') (hll.pre hp') (hp.trans hp'))
      fun _ o' h' u' h1 h2 h3 => ih (j + 1) o' (vs ++ [u]) u' h' (by omega) h1 h2 h3 hR
theorem c_reLayers (w : Ln) (hg : w.all isSign = true) (hw : w.length ≤ 10) {h : AH} {post : AV → AH → Prop} (hp : ∀ o' h' vs' N, lay w (N + 1) = [] → N ≤ 100 → OwL 1 encV h h' o' vs' → LL h' o' vs' (lays w (N + 1)) → Pre h h' → post o' h') : S 118 [.str w] h post k := by
  have hmu := mu_le w hw
  have p1 := Pre.push h (AO.row [.str w] 0 0 false)
  have p2 := Pre.push (h ++ [AO.row [.str w] 0 0 false]) (AO.row [.slice h.length 0 0 1 1] 0 0 false)
  refine S_of rfl T118 ?_; unfold fi118
  simp (maxSteps := 1000000) (disch := first | omega | rfl | (simp only [zL, two63, room] <;> omega) | fail) only [↓reduceIte, ↓zP, zW, WOp, evOp, evBin, binI, binSh, binS, evNil, keyIs, keyEq, mkv, AV.cells, AV.sc, optv, bnd, env, put, Env.get, Env.set, Env.del, Env.dels, Env.init, res1, resL, resV, fillP, splice, newRow, Nat.reduceEqDiff, Nat.reduceLT, Nat.reduceLeDiff, Nat.reduceAdd, Nat.reduceMul, Nat.reduceSub, Nat.reduceBEq, reduceCtorEq, ↓zR, zQ, Tr, StA, StT]
  refine lp_reL0 hg hw (h0 := h) (mu w) 0 _ [] ⟨.slice h.length 0 0 1 1, rfl⟩ _ (by omega) ?_ ?_ (p1.trans p2) ?_
  · unfold OwL Own
    exact ⟨rfl, rfl, rfl, by simp, [.slice h.length 0 0 1 1], 0, by simp, Nat.le_refl _, rfl, rfl⟩
  · refine ⟨rfl, fun i v L h1 h2 => ?_⟩
    cases i with
    | zero =>
      simp [lays, lay] at h1 h2
      subst h1; subst h2
      refine ⟨?_, fun r hr => ?_⟩
      · unfold Slc Sl
        refine ⟨rfl, rfl, rfl, ?_⟩
        exact rdRow_pre p2 (by rw [rd_last, if_pos (by simp)]; rfl)
      · simp only [rowOf, Option.some.injEq] at hr ⊢
        simp; omega
    | succ i => simp at h1
  intro o' h' vs' N h1 h2 h3 h4 h5
  simp (maxSteps := 1000000) (disch := first | omega | rfl | (simp only [zL, two63, room] <;> omega) | fail) only [↓reduceIte, ↓zP, zW, WOp, evOp, evBin, binI, binSh, binS, evNil, keyIs, keyEq, mkv, AV.cells, AV.sc, optv, bnd, env, put, Env.get, Env.set, Env.del, Env.dels, Env.init, res1, resL, resV, fillP, splice, newRow, Nat.reduceEqDiff, Nat.reduceLT, Nat.reduceLeDiff, Nat.reduceAdd, Nat.reduceMul, Nat.reduceSub, Nat.reduceBEq, reduceCtorEq, ↓zR, zQ, Tr, StA, StT]
  exact hp o' h' vs' N h1 (by omega) h3 h4 h5
end Go.Proofs.YtcflenomogpdbaaDoor.Ab

/- WORDS counted by layers: the reference's side. -/
namespace Go.Proofs.YtcflenomogpdbaaDoor.Ab
open Go
set_option maxRecDepth 100000
set_option maxHeartbeats 4000000

theorem Slc.get {α : Type} {esz : Nat} {enc : α → List AV} (hl : ∀ x, (enc x).length = esz) {h : AH} {v : AV} {L : List α} (hs : Slc esz enc h v L) {i : Nat} (hi : i < L.length) : ∃ c kk off, v = .slice c kk off L.length esz ∧ rdRow h c kk (off + i * esz) esz = some (enc L[i]) := by
  have hsp : L = L.take i ++ L[i] :: L.drop (i + 1) := by rw [← List.drop_eq_getElem_cons, List.take_append_drop]
  have hpl : (L.take i).length = i := by rw [List.length_take]; omega
  have hs' : Slc esz enc h v (L.take i ++ L[i] :: L.drop (i + 1)) := by rw [← hsp]; exact hs
  obtain ⟨c, kk, off, hv, hr⟩ := hs'.at hl
  rw [← hsp] at hv
  rw [hpl] at hr
  exact ⟨c, kk, off, hv, hr⟩
def SlcX {α : Type} (esz : Nat) (enc : α → List AV) (c : Nat) (h : AH) (v : AV) (L : List α) : Prop := Slc esz enc h v L ∧ ∀ r, rowOf v = some r → r ≠ c
theorem SlcX.fr {α : Type} {esz : Nat} {enc : α → List AV} {c : Nat} {h h' : AH} {v : AV} {L : List α} (hs : SlcX esz enc c h v L) (hp : PreX c h h') : SlcX esz enc c h' v L :=
  ⟨hs.1.stay fun r hr => hp.2 r (hs.1.lt hr) (hs.2 r hr), hs.2⟩
theorem Slc.x {α : Type} {esz : Nat} {enc : α → List AV} {c : Nat} {h : AH} {v : AV} {L : List α} (hs : Slc esz enc h v L) (hc : h.length ≤ c) : SlcX esz enc c h v L := ⟨hs, fun r hr => by have := hs.lt hr; omega⟩

theorem pcs_snoc (L : List Ln) (w : Ln) (p : Ln → Nat) (x : Ln) : pcs (L ++ [w]) p x = pcs L p x + (nx w).count x * p w := by simp [pcs]
theorem pcs_mono {L L' : List Ln} (w : Ln) (p : Ln → Nat) (x : Ln) : pcs (L ++ [w]) p x ≤ pcs (L ++ w :: L') p x := by simp [pcs]
theorem rep0_flat (n : Nat) : (List.replicate n [AV.int .i64 0]).flatten = (List.replicate n (0 : Int)).flatMap encI := by
  induction n with
  | zero => rfl
  | succ n ih => rw [List.replicate_succ, List.replicate_succ, List.flatten_cons, List.flatMap_cons, ih]
theorem lays_get {w : Ln} {j n : Nat} (h : j < n) : (lays w n)[j]? = some (lay w j) := by
  unfold lays; rw [List.getElem?_map, List.getElem?_range h]; rfl
theorem words_mem_len : ∀ (j : Nat) (w x : Ln), x ∈ words j w → x.length = j
  | 0, w, x, h => by simp [words] at h; subst h; rfl
  | j + 1, w, x, h => by
    unfold words at h
    rw [List.mem_append] at h
    rcases h with h | h
    all_goals
      obtain ⟨v, _, hv⟩ := List.mem_flatMap.1 h
      obtain ⟨y, hy, rfl⟩ := List.mem_map.1 hv
      rw [List.length_cons, words_mem_len j v y hy]
theorem liB_eq (w : Ln) (tf ff : Bool) : liMovesB w tf ff = movesB w (kindsS tf ff) := liMovesB_eq w tf ff
/-- One kind's part of the words. -/
def part (s : UInt8) (j : Nat) (w : Ln) : List Ln := (nextB w [s]).flatMap fun v => (words j v).map (s :: ·)
theorem words_succ (j : Nat) (w : Ln) : words (j + 1) w = part 70 j w ++ part 84 j w := rfl
end Go.Proofs.YtcflenomogpdbaaDoor.Ab

/- WORDS counted by the program. -/
namespace Go.Proofs.YtcflenomogpdbaaDoor.Ab
open Go
set_option maxRecDepth 100000
set_option maxHeartbeats 4000000

def oneB (w : Ln) : Bool := fewB w && ((w.count 46 : Nat) : Int) == 1
theorem fewB_iff {w : Ln} (h : fewB w = true) : w.all isSign = true ∧ 1 ≤ w.length ∧ w.length ≤ 10 := by
  simp only [fewB, goodLine, Bool.and_eq_true, decide_eq_true_eq] at h
  exact ⟨h.1.2, by omega, by omega⟩
theorem oneB_iff {w : Ln} (h : oneB w = true) : oneGap w ∧ w.length ≤ 10 := by
  simp only [oneB, Bool.and_eq_true, beq_iff_eq] at h
  obtain ⟨h1, h2⟩ := h
  obtain ⟨h3, h4, h5⟩ := fewB_iff h1
  exact ⟨⟨h3, by omega⟩, h5⟩
theorem few_eq (s : Ln) : (decide (1 ≤ (s.length : Int) ∧ (s.length : Int) ≤ 10) && s.all isSign) = fewB s := by
  unfold fewB goodLine
  rw [Bool.eq_iff_iff]
  simp only [Bool.and_eq_true, decide_eq_true_eq]
  constructor
  · rintro ⟨h1, h2⟩; exact ⟨⟨by omega, h2⟩, by omega⟩
  · rintro ⟨⟨h1, h2⟩, h3⟩; exact ⟨by omega, h2⟩
theorem e_isReachLine (s : Ln) (hs : s.length < 2 ^ 60) {h : AH} {post : AV → AH → Prop} : S 56 [.str s] h post k = post (.bool (fewB s)) h := by
  refine S_eq fun post hp => ?_
  refine S_of rfl T56 ?_; unfold fi56
  simp (maxSteps := 1000000) (disch := first | omega | rfl | (simp only [zL, two63, room] <;> omega) | fail) only [↓reduceIte, ↓zP, zW, WOp, evOp, evBin, binI, binSh, binS, evNil, keyIs, keyEq, mkv, AV.cells, AV.sc, optv, bnd, env, put, Env.get, Env.set, Env.del, Env.dels, Env.init, res1, resL, resV, fillP, splice, newRow, Nat.reduceEqDiff, Nat.reduceLT, Nat.reduceLeDiff, Nat.reduceAdd, Nat.reduceMul, Nat.reduceSub, Nat.reduceBEq, reduceCtorEq, ↓zR, zQ, Tr, StA, StT]
  refine c_isLineOf s 10 (by omega) hs ?_
  rw [few_eq]
  simp (maxSteps := 1000000) (disch := first | omega | rfl | (simp only [zL, two63, room] <;> omega) | fail) only [↓reduceIte, ↓zP, zW, WOp, evOp, evBin, binI, binSh, binS, evNil, keyIs, keyEq, mkv, AV.cells, AV.sc, optv, bnd, env, put, Env.get, Env.set, Env.del, Env.dels, Env.init, res1, resL, resV, fillP, splice, newRow, Nat.reduceEqDiff, Nat.reduceLT, Nat.reduceLeDiff, Nat.reduceAdd, Nat.reduceMul, Nat.reduceSub, Nat.reduceBEq, reduceCtorEq, ↓zR, zQ, Tr, StA, StT]
  exact hp
theorem cntb (c : UInt8) (s : Ln) : Go.Lib.countByte s c = s.count c := rfl
abbrev OfS := {p : Ln × Nat // p.1.all isSign = true}
def ofK (s : OfS) : Ln := s.1.1 ++ List.replicate s.1.2 33
def ofV (s : OfS) : AV := .int .i64 (cntP s.1.2 s.1.1 : Nat)
theorem ofK_inj (s s' : OfS) (h : ofK s = ofK s') : ofV s = ofV s' := by
  obtain ⟨⟨w, n⟩, hw⟩ := s
  obtain ⟨⟨w', n'⟩, hw'⟩ := s'
  unfold ofK at h
  simp only at h hw hw'
  have key : ∀ {w w' : Ln} {n n' : Nat}, w.all isSign = true → w'.all isSign = true → w ++ List.replicate n 33 = w' ++ List.replicate n' 33 → w = w' ∧ n = n' := by
    intro w
    induction w with
    | nil =>
      intro w' n n' _ h2 h
      cases w' with
      | nil => simpa using h
      | cons b w' =>
        simp only [List.all_cons, Bool.and_eq_true] at h2
        cases n with
        | zero => simp at h
        | succ n =>
          rw [List.replicate_succ] at h
          simp at h
          rw [← h.1] at h2
          exact absurd h2.1 (by decide)
    | cons a w ih =>
      intro w' n n' h1 h2 h
      simp only [List.all_cons, Bool.and_eq_true] at h1
      cases w' with
      | nil =>
        cases n' with
        | zero => simp at h
        | succ n' =>
          rw [List.replicate_succ] at h
          simp at h
          rw [h.1] at h1
          exact absurd h1.1 (by decide)
      | cons b w' =>
        simp only [List.all_cons, Bool.and_eq_true] at h2
        simp only [List.cons_append, List.cons.injEq] at h
        obtain ⟨e1, e2⟩ := ih h1.2 h2.2 h.2
        exact ⟨by rw [h.1, e1], e2⟩
  obtain ⟨rfl, rfl⟩ := key hw hw' h
  rfl
theorem rep33 : ∀ n : Nat, Go.Lib.repeatL [33] n = List.replicate n 33
  | 0 => rfl
  | n + 1 => by rw [Go.Lib.repeatL, rep33 n, List.replicate_succ]; rfl
theorem c_Rep33 (m : Nat) (hm : m ≤ 100) {h : AH} {post : AV → AH → Prop} (hp : post (.str (List.replicate m 33)) h) : S 123 [.str [33], .int .i64 m] h post k := by
  refine S_ext (r := .str (List.replicate m 33)) rfl ?_ hp
  simp only [xRepeat]
  rw [if_pos ⟨by omega, by omega, by simp; omega⟩, Int.toNat_natCast, rep33]

theorem pow40 {j : Nat} (h : j ≤ 40) : 2 ^ j ≤ 1099511627776 := Nat.le_trans (Nat.pow_le_pow_right (by omega) h) (by decide)
end Go.Proofs.YtcflenomogpdbaaDoor.Ab

/- PLAIN LAWS: each move turns one pair of neighbours in order: all plays from a line to another have as many moves. -/
namespace Go.Proofs.YtcflenomogpdbaaDoor.Ab
open Go

def cr (a : UInt8) (l : Ln) : Nat := if a = 84 then l.count 46 + l.count 70 else if a = 46 then l.count 70 else 0
def inv : Ln → Nat
  | [] => 0
  | a :: l => cr a l + inv l
theorem inv_app : ∀ (A l : Ln), inv (A ++ l) = inv A + (A.map fun a => cr a l).sum + inv l
  | [], l => by simp [inv]
  | a :: A, l => by
    have ih := inv_app A l
    have hc : cr a (A ++ l) = cr a A + cr a l := by
      unfold cr
      simp only [List.count_append]
      split
      · omega
      · split <;> omega
    simp only [List.cons_append, inv, List.map_cons, List.sum_cons, ih, hc]
    omega
theorem inv_turn {A l l' : Ln} (h1 : l.count 46 = l'.count 46) (h2 : l.count 70 = l'.count 70) (h3 : inv l = inv l' + 1) : inv (A ++ l) = inv (A ++ l') + 1 := by
  rw [inv_app, inv_app, h3]
  have : (A.map fun a => cr a l).sum = (A.map fun a => cr a l').sum := sum_congr fun a _ => by unfold cr; rw [h1, h2]
  omega
theorem at_split {w : Ln} {i : Nat} (h : i < w.length) : w = w.take i ++ w.getD i 0 :: w.drop (i + 1) := by
  rw [List.getD_eq_getElem?_getD, List.getElem?_eq_getElem h]
  simp only [Option.getD_some]
  rw [← List.drop_eq_getElem_cons, List.take_append_drop]
theorem split2 {w : Ln} {i : Nat} (h : i + 1 < w.length) : ∃ A B, A.length = i ∧ w = A ++ w.getD i 0 :: w.getD (i + 1) 0 :: B := by
  refine ⟨w.take i, w.drop (i + 2), by simp; omega, ?_⟩
  have h1 := at_split (w := w) (i := i) (by omega)
  have h2 : w.drop (i + 1) = w.getD (i + 1) 0 :: w.drop (i + 2) := by
    rw [List.drop_eq_getElem_cons h, List.getD_eq_getElem?_getD, List.getElem?_eq_getElem h]; rfl
  rw [← h2]; exact h1
theorem split3 {w : Ln} {i : Nat} (h : i + 2 < w.length) : ∃ A B, A.length = i ∧ w = A ++ w.getD i 0 :: w.getD (i + 1) 0 :: w.getD (i + 2) 0 :: B := by
  obtain ⟨A, B, hA, hw⟩ := split2 (w := w) (i := i) (by omega)
  have h2 : w.drop (i + 2) = w.getD (i + 2) 0 :: w.drop (i + 3) := by
    rw [List.drop_eq_getElem_cons h, List.getD_eq_getElem?_getD, List.getElem?_eq_getElem h]; rfl
  have h3 : w.drop (i + 2) = B := by
    have e := congrArg (List.drop (i + 2)) hw
    have hl : (A ++ [w.getD i 0, w.getD (i + 1) 0]).length = i + 2 := by simp [hA]
    rw [e, show A ++ w.getD i 0 :: w.getD (i + 1) 0 :: B = (A ++ [w.getD i 0, w.getD (i + 1) 0]) ++ B by simp, List.drop_left' hl]
  refine ⟨A, w.drop (i + 3), hA, ?_⟩
  rw [← h2, h3]; exact hw
theorem set_at {A B : Ln} {a b : UInt8} : (A ++ a :: B).set A.length b = A ++ b :: B := by
  rw [List.set_append_right _ _ (Nat.le_refl _), Nat.sub_self, List.set_cons_zero]
theorem set_at1 {A B : Ln} {a b c : UInt8} : (A ++ a :: b :: B).set (A.length + 1) c = A ++ a :: c :: B := by
  rw [List.set_append_right _ _ (by omega), Nat.add_sub_cancel_left, List.set_cons_succ, List.set_cons_zero]
theorem set_at2 {A B : Ln} {a b c d : UInt8} : (A ++ a :: b :: c :: B).set (A.length + 2) d = A ++ a :: b :: d :: B := by
  rw [List.set_append_right _ _ (by omega), Nat.add_sub_cancel_left, List.set_cons_succ, List.set_cons_succ, List.set_cons_zero]
theorem inv_made {w : Ln} {i t : Nat} (h : Mv w i t) : inv w = inv (madeB w i t) + 1 := by
  obtain ⟨h1, h2, h3, h4⟩ := h
  unfold madeB
  rcases h4 with ⟨h5, h6⟩ | ⟨h5, h6⟩
  · rcases h6 with h6 | ⟨h6, h7⟩
    · subst h6
      obtain ⟨A, B, hA, hw⟩ := split2 (w := w) (i := i) h2
      rw [h5, h3] at hw
      rw [h5]
      generalize w = w0 at hw
      subst hw; subst hA
      rw [set_at1, set_at]
      refine inv_turn ?_ ?_ ?_
      · simp
      · simp
      · simp [inv, cr]; omega
    · subst h6
      obtain ⟨A, B, hA, hw⟩ := split3 (w := w) (i := i) h2
      rw [h5, h3, h7] at hw
      rw [h5]
      generalize w = w0 at hw
      subst hw; subst hA
      rw [set_at2, set_at]
      refine inv_turn ?_ ?_ ?_
      · simp
      · simp
      · simp [inv, cr]; omega
  · rcases h6 with h6 | ⟨h6, h7⟩
    · obtain rfl : i = t + 1 := by omega
      obtain ⟨A, B, hA, hw⟩ := split2 (w := w) (i := t) h1
      rw [h5, h3] at hw
      rw [h5]
      generalize w = w0 at hw
      subst hw; subst hA
      rw [set_at, set_at1]
      refine inv_turn ?_ ?_ ?_
      · simp
      · simp
      · simp [inv, cr]; omega
    · obtain rfl : i = t + 2 := by omega
      have e7 : t + 2 - 1 = t + 1 := by omega
      rw [e7] at h7
      obtain ⟨A, B, hA, hw⟩ := split3 (w := w) (i := t) h1
      rw [h5, h3, h7] at hw
      rw [h5]
      generalize w = w0 at hw
      subst hw; subst hA
      rw [set_at, set_at2]
      refine inv_turn ?_ ?_ ?_
      · simp
      · simp
      · simp [inv, cr]; omega
theorem lay_inv {w : Ln} : ∀ (j : Nat) (v : Ln), v ∈ lay w j → inv v + j = inv w
  | 0, v, h => by simp only [lay, List.mem_singleton] at h; subst h; rfl
  | j + 1, v, h => by
    obtain ⟨u, hu, hv⟩ := (stepL_mem _ _).1 h
    obtain ⟨i, t, _, hm, rfl⟩ := nextB_mv hv
    have h1 := lay_inv j u hu
    have h2 := inv_made hm
    omega
theorem lay_one {w v : Ln} {i j : Nat} (h1 : v ∈ lay w i) (h2 : v ∈ lay w j) : i = j := by
  have := lay_inv i v h1
  have := lay_inv j v h2
  omega
end Go.Proofs.YtcflenomogpdbaaDoor.Ab

/- PLAIN LAWS: how many plays lead from a line to another; which lines are live. -/
namespace Go.Proofs.YtcflenomogpdbaaDoor.Ab
open Go

/-- How many plays lead from w to g. -/
def swNx (g w : Ln) : List Ln := if w = g then [] else nx w
def swSt (g w : Ln) (l : List Nat) : Nat := if w = g then 1 else l.sum
def cE (g w : Ln) : Nat := rc (swNx g) (swSt g) mu w
theorem cE_eq (g w : Ln) : cE g w = if w = g then 1 else ((nx w).map (cE g)).sum := by
  have hm : ∀ s, ∀ s' ∈ swNx g s, mu s' < mu s := by
    intro s s' hs
    unfold swNx at hs
    split at hs
    · simp at hs
    · exact nextB_mu hs
  unfold cE
  rw [rc_eq (swNx g) (swSt g) (mu := mu) hm w]
  unfold swSt swNx
  split <;> rfl
theorem cE_self (g : Ln) : cE g g = 1 := by rw [cE_eq, if_pos rfl]
theorem cE_ne {g w : Ln} (h : w ≠ g) : cE g w = ((nx w).map (cE g)).sum := by rw [cE_eq, if_neg h]
theorem sum_pos_iff {α : Type} (f : α → Nat) : ∀ l : List α, 0 < (l.map f).sum ↔ ∃ x ∈ l, 0 < f x
  | [] => by simp
  | a :: l => by
    rw [List.map_cons, List.sum_cons]
    constructor
    · intro h
      by_cases ha : 0 < f a
      · exact ⟨a, by simp, ha⟩
      · obtain ⟨x, hx, h2⟩ := (sum_pos_iff f l).1 (by omega)
        exact ⟨x, by simp [hx], h2⟩
    · rintro ⟨x, hx, h2⟩
      rcases List.mem_cons.1 hx with rfl | hx
      · omega
      · have := (sum_pos_iff f l).2 ⟨x, hx, h2⟩; omega
theorem lay_front (w v : Ln) : ∀ j, v ∈ lay w (j + 1) ↔ ∃ u ∈ nx w, v ∈ lay u j
  | 0 => by
    rw [show lay w (0 + 1) = stepL (lay w 0) from rfl, stepL_mem]
    simp only [lay, List.mem_singleton]
    constructor
    · rintro ⟨u, rfl, h⟩; exact ⟨v, h, rfl⟩
    · rintro ⟨u, h, rfl⟩; exact ⟨w, rfl, h⟩
  | j + 1 => by
    rw [show lay w (j + 1 + 1) = stepL (lay w (j + 1)) from rfl, stepL_mem]
    constructor
    · rintro ⟨u, hu, h⟩
      obtain ⟨x, hx, hux⟩ := (lay_front w u j).1 hu
      exact ⟨x, hx, (stepL_mem _ _).2 ⟨u, hux, h⟩⟩
    · rintro ⟨x, hx, h⟩
      obtain ⟨u, hu, hv⟩ := (stepL_mem _ _).1 h
      exact ⟨u, (lay_front w u j).2 ⟨x, hx, hu⟩, hv⟩
theorem cE_pos (g : Ln) : ∀ (n : Nat) (w : Ln), mu w < n → (0 < cE g w ↔ ∃ j, g ∈ lay w j)
  | 0, _, h => by omega
  | n + 1, w, hn => by
    by_cases e : w = g
    · subst e
      rw [cE_self]
      exact ⟨fun _ => ⟨0, by simp [lay]⟩, fun _ => by omega⟩
    · rw [cE_ne e, sum_pos_iff]
      constructor
      · rintro ⟨u, hu, h⟩
        obtain ⟨j, hj⟩ := (cE_pos g n u (by have := nextB_mu hu; omega)).1 h
        exact ⟨j + 1, (lay_front w g j).2 ⟨u, hu, hj⟩⟩
      · rintro ⟨j, hj⟩
        cases j with
        | zero => simp only [lay, List.mem_singleton] at hj; exact absurd hj.symm e
        | succ j =>
          obtain ⟨u, hu, h⟩ := (lay_front w g j).1 hj
          exact ⟨u, hu, (cE_pos g n u (by have := nextB_mu hu; omega)).2 ⟨j, h⟩⟩
theorem cE_iff (g w : Ln) : 0 < cE g w ↔ ∃ j, g ∈ lay w j := cE_pos g (mu w + 1) w (by omega)
theorem cE_up {g u v : Ln} (h : v ∈ nx u) (hv : 0 < cE g v) : 0 < cE g u := by
  rw [cE_iff] at hv ⊢
  obtain ⟨j, hj⟩ := hv
  exact ⟨j + 1, (lay_front u g j).2 ⟨v, h, hj⟩⟩
theorem lay_trans {w v x : Ln} {i j : Nat} (h1 : v ∈ lay w i) : x ∈ lay v j → x ∈ lay w (i + j) := by
  induction j generalizing x with
  | zero => intro h; simp only [lay, List.mem_singleton] at h; subst h; exact h1
  | succ j ih =>
    intro h
    obtain ⟨u, hu, hx⟩ := (stepL_mem _ _).1 h
    exact (stepL_mem _ _).2 ⟨u, ih hu, hx⟩

/-! ### Few plays: they fit into 63 bits -/
theorem flat_few {β : Type} {f : Nat → List β} : ∀ {l : List Nat}, (∀ i ∈ l, (f i).length ≤ 1) → (l.flatMap f).length ≤ l.length
  | [], _ => by simp
  | a :: l, h => by
    have h1 := h a (by simp)
    have h2 := flat_few (l := l) fun i hi => h i (by simp [hi])
    simp only [List.flatMap_cons, List.length_append, List.length_cons]; omega
theorem flat_less {β : Type} {f : Nat → List β} : ∀ {l : List Nat} {t : Nat}, (∀ i ∈ l, (f i).length ≤ 1) → t ∈ l → f t = [] → (l.flatMap f).length + 1 ≤ l.length
  | [], _, _, h, _ => by simp at h
  | a :: l, t, h, ht, he => by
    have h1 := h a (by simp)
    have h2 : ∀ i ∈ l, (f i).length ≤ 1 := fun i hi => h i (by simp [hi])
    simp only [List.flatMap_cons, List.length_append, List.length_cons]
    rcases List.mem_cons.1 ht with rfl | ht
    · have := flat_few h2
      rw [he, List.length_nil]; omega
    · have := flat_less h2 ht he; omega
theorem nx_len {w : Ln} : (nx w).length ≤ w.length - 1 := by
  cases hn : nx w with
  | nil => simp
  | cons v l =>
    rw [← hn]
    have hin : v ∈ nx w := by rw [hn]; simp
    obtain ⟨i, t, hm, hv, _⟩ := nextB_mv (kinds := [84, 70]) hin
    obtain ⟨_, ht, h46, _⟩ := hv
    have h0 : moveB w [84, 70] t = [] := by
      unfold moveB
      split
      · rw [has2, h46]; rfl
      · rfl
    have := flat_less (f := moveB w [84, 70]) (l := List.range w.length) (t := t) (fun i _ => moveB_len _ _ i) (by simpa using ht) h0
    unfold nx nextB movesB
    rw [List.length_map]
    rw [List.length_range] at this
    omega
theorem sum_le_mul {α : Type} (f : α → Nat) (B : Nat) : ∀ l : List α, (∀ x ∈ l, f x ≤ B) → (l.map f).sum ≤ l.length * B
  | [], _ => by simp
  | a :: l, h => by
    have h1 := h a (by simp)
    have h2 := sum_le_mul f B l fun x hx => h x (by simp [hx])
    rw [List.map_cons, List.sum_cons, List.length_cons, Nat.succ_mul]; omega
theorem nx_length {w v : Ln} (h : v ∈ nx w) : v.length = w.length := nextB_length h
theorem nx_inv {w v : Ln} (h : v ∈ nx w) : inv w = inv v + 1 := by
  obtain ⟨i, t, _, hm, rfl⟩ := nextB_mv h
  exact inv_made hm
theorem cE_pow (g : Ln) : ∀ (n : Nat) (w : Ln), inv w < n → w.length ≤ 8 → cE g w ≤ 7 ^ inv w
  | 0, _, h, _ => by omega
  | n + 1, w, hn, hw => by
    by_cases e : w = g
    · subst e; rw [cE_self]; exact Nat.pos_of_ne_zero (by simp)
    · rw [cE_ne e]
      cases hi : inv w with
      | zero =>
        cases hx : nx w with
        | nil => simp
        | cons v l => have := nx_inv (w := w) (v := v) (by rw [hx]; simp); omega
      | succ k =>
        have h1 := sum_le_mul (cE g) (7 ^ k) (nx w) fun v hv => by
          have e1 := nx_inv hv
          have e2 := cE_pow g n v (by omega) (by rw [nx_length hv]; exact hw)
          rw [show inv v = k by omega] at e2; exact e2
        have h2 := nx_len (w := w)
        rw [Nat.pow_succ, Nat.mul_comm]
        exact Nat.le_trans h1 (Nat.mul_le_mul_right _ (by omega))
theorem inv_le : ∀ w : Ln, inv w ≤ w.count 84 * w.count 46 + w.count 84 * w.count 70 + w.count 46 * w.count 70
  | [] => by simp [inv]
  | a :: l => by
    have ih := inv_le l
    unfold inv cr
    by_cases h84 : a = 84
    · subst h84
      simp only [List.count_cons, beq_self_eq_true, if_true, show ((84 : UInt8) == 46) = false from rfl, show ((84 : UInt8) == 70) = false from rfl, Bool.false_eq_true, if_false, Nat.add_zero, Nat.add_mul, Nat.one_mul]
      omega
    · by_cases h46 : a = 46
      · subst h46
        simp only [List.count_cons, beq_self_eq_true, if_true, show ((46 : UInt8) == 84) = false from rfl, show ((46 : UInt8) == 70) = false from rfl, show ((46 : UInt8) = 84) = False from by simp, Bool.false_eq_true, if_false, Nat.add_zero, Nat.add_mul, Nat.one_mul, Nat.mul_add, Nat.mul_one]
        omega
      · by_cases h70 : a = 70
        · subst h70
          simp only [List.count_cons, beq_self_eq_true, if_true, show ((70 : UInt8) == 84) = false from rfl, show ((70 : UInt8) == 46) = false from rfl, show ((70 : UInt8) = 84) = False from by simp, show ((70 : UInt8) = 46) = False from by simp, Bool.false_eq_true, if_false, Nat.add_zero, Nat.mul_add, Nat.mul_one]
          omega
        · have e1 : (a == 84) = false := by simpa using h84
          have e2 : (a == 46) = false := by simpa using h46
          have e3 : (a == 70) = false := by simpa using h70
          simp only [List.count_cons, e1, e2, e3, h84, h46, Bool.false_eq_true, if_false, Nat.add_zero]
          omega
theorem count3 : ∀ w : Ln, w.count 84 + w.count 46 + w.count 70 ≤ w.length
  | [] => by simp
  | a :: l => by
    have ih := count3 l
    simp only [List.count_cons, List.length_cons, beq_iff_eq]
    by_cases h84 : a = 84
    · subst h84; simp; omega
    · by_cases h46 : a = 46
      · subst h46; simp; omega
      · simp only [h84, h46, if_false]; split <;> omega
theorem prod_le : ∀ t < 9, ∀ g < 9, ∀ f < 9, t + g + f ≤ 8 → t * g + t * f + g * f ≤ 21 := by decide
theorem inv_few {w : Ln} (hw : w.length ≤ 8) : inv w ≤ 21 := by
  have h1 := count3 w
  have h2 := inv_le w
  have := prod_le (w.count 84) (by omega) (w.count 46) (by omega) (w.count 70) (by omega) (by omega)
  omega
theorem cE_lt {g w : Ln} (hw : w.length ≤ 8) : cE g w < 2 ^ 60 := by
  have h1 := cE_pow g (inv w + 1) w (by omega) hw
  have h2 := Nat.pow_le_pow_right (n := 7) (by omega) (inv_few hw)
  have h3 : (7 : Nat) ^ 21 < 2 ^ 60 := by decide
  omega
end Go.Proofs.YtcflenomogpdbaaDoor.Ab

/- EXCHANGES by the program: first and last lines, how many plays lead to a line. -/
namespace Go.Proofs.YtcflenomogpdbaaDoor.Ab
open Go
set_option maxRecDepth 100000
set_option maxHeartbeats 4000000

def lnF (t g f : Nat) : Ln := List.replicate t 84 ++ List.replicate g 46 ++ List.replicate f 70
def lnL (w : Ln) : Ln := List.replicate (w.count 70) 70 ++ List.replicate (w.count 46) 46 ++ List.replicate (w.count 84) 84
theorem repB (b : UInt8) : ∀ n : Nat, Go.Lib.repeatL [b] n = List.replicate n b
  | 0 => rfl
  | n + 1 => by rw [Go.Lib.repeatL, repB b n, List.replicate_succ]; rfl
theorem e_RepB (b : UInt8) (m : Nat) (hm : m ≤ 100) {h : AH} {post : AV → AH → Prop} : S 123 [.str [b], .int .i64 m] h post k = post (.str (List.replicate m b)) h := by
  refine S_eq fun post hp => ?_
  refine S_ext (r := .str (List.replicate m b)) rfl ?_ hp
  simp only [xRepeat]
  rw [if_pos ⟨by omega, by omega, by simp; omega⟩, Int.toNat_natCast, repB]
theorem enc84 : (Utf8.encode (84 : Int)).data.toList = [84] := by decide +kernel
theorem enc70 : (Utf8.encode (70 : Int)).data.toList = [70] := by decide +kernel
theorem e_first (t g f : Nat) (ht : t ≤ 100) (hg : g ≤ 100) (hf : f ≤ 100) {h : AH} {post : AV → AH → Prop} : S 253 [.int .i64 t, .int .i64 g, .int .i64 f] h post k = post (.str (lnF t g f)) h := by
  refine S_eq fun post hp => ?_
  have l1 : (List.replicate t (84 : UInt8)).length + (List.replicate g (46 : UInt8)).length ≤ two63 := by simp only [List.length_replicate, two63]; omega
  have l2 : (List.replicate t (84 : UInt8) ++ List.replicate g (46 : UInt8)).length + (List.replicate f (70 : UInt8)).length ≤ two63 := by simp only [List.length_append, List.length_replicate, two63]; omega
  refine S_of rfl T253 ?_; unfold fi253
  simp (maxSteps := 1000000) (disch := first | omega | rfl | (simp only [zL, two63, room] <;> omega) | fail) only [↓reduceIte, ↓zP, zW, WOp, evOp, evBin, binI, binSh, binS, evNil, keyIs, keyEq, mkv, AV.cells, AV.sc, optv, bnd, env, put, Env.get, Env.set, Env.del, Env.dels, Env.init, res1, resL, resV, fillP, splice, newRow, Nat.reduceEqDiff, Nat.reduceLT, Nat.reduceLeDiff, Nat.reduceAdd, Nat.reduceMul, Nat.reduceSub, Nat.reduceBEq, reduceCtorEq, ↓zR, zQ, Tr, StA, StT]
  refine S_of rfl T246 ?_; unfold fi246
  simp (maxSteps := 1000000) (disch := first | omega | rfl | (simp only [zL, two63, room] <;> omega) | fail) only [↓reduceIte, ↓zP, zW, WOp, evOp, evBin, binI, binSh, binS, evNil, keyIs, keyEq, mkv, AV.cells, AV.sc, optv, bnd, env, put, Env.get, Env.set, Env.del, Env.dels, Env.init, res1, resL, resV, fillP, splice, newRow, Nat.reduceEqDiff, Nat.reduceLT, Nat.reduceLeDiff, Nat.reduceAdd, Nat.reduceMul, Nat.reduceSub, Nat.reduceBEq, reduceCtorEq, ↓zR, zQ, Tr, StA, StT, enc84, enc70, e_RepB 84 t ht, e_RepB 46 g hg, e_RepB 70 f hf, l1, l2]
  exact hp
theorem e_last (w : Ln) (hw : w.length ≤ 100) {h : AH} {post : AV → AH → Prop} : S 237 [.str w] h post k = post (.str (lnL w)) h := by
  refine S_eq fun post hp => ?_
  have ht := List.count_le_length (a := (84 : UInt8)) (l := w)
  have hg := List.count_le_length (a := (46 : UInt8)) (l := w)
  have hf := List.count_le_length (a := (70 : UInt8)) (l := w)
  unfold lnL at hp
  refine S_of rfl T237 ?_; unfold fi237
  simp (maxSteps := 1000000) (disch := first | omega | rfl | (simp only [zL, two63, room] <;> omega) | fail) only [↓reduceIte, ↓zP, zW, WOp, evOp, evBin, binI, binSh, binS, evNil, keyIs, keyEq, mkv, AV.cells, AV.sc, optv, bnd, env, put, Env.get, Env.set, Env.del, Env.dels, Env.init, res1, resL, resV, fillP, splice, newRow, Nat.reduceEqDiff, Nat.reduceLT, Nat.reduceLeDiff, Nat.reduceAdd, Nat.reduceMul, Nat.reduceSub, Nat.reduceBEq, reduceCtorEq, ↓zR, zQ, Tr, StA, StT, e_count]
  generalize w.count 84 = t at *
  generalize w.count 46 = g at *
  generalize w.count 70 = f at *
  have l1 : (List.replicate f (70 : UInt8)).length + (List.replicate g (46 : UInt8)).length ≤ two63 := by simp only [List.length_replicate, two63]; omega
  have l2 : (List.replicate f (70 : UInt8) ++ List.replicate g (46 : UInt8)).length + (List.replicate t (84 : UInt8)).length ≤ two63 := by simp only [List.length_append, List.length_replicate, two63]; omega
  refine S_of rfl T246 ?_; unfold fi246
  simp (maxSteps := 1000000) (disch := first | omega | rfl | (simp only [zL, two63, room] <;> omega) | fail) only [↓reduceIte, ↓zP, zW, WOp, evOp, evBin, binI, binSh, binS, evNil, keyIs, keyEq, mkv, AV.cells, AV.sc, optv, bnd, env, put, Env.get, Env.set, Env.del, Env.dels, Env.init, res1, resL, resV, fillP, splice, newRow, Nat.reduceEqDiff, Nat.reduceLT, Nat.reduceLeDiff, Nat.reduceAdd, Nat.reduceMul, Nat.reduceSub, Nat.reduceBEq, reduceCtorEq, ↓zR, zQ, Tr, StA, StT, enc84, enc70, e_RepB 84 t (by omega), e_RepB 46 g (by omega), e_RepB 70 f (by omega), l1, l2]
  exact hp

/-! ### How many plays lead to the goal -/
def swV (g w : Ln) : AV := .int .i64 (cE g w : Nat)
def Mg (g : Ln) (c : Nat) (h : AH) : Prop := Mh (fun w : Ln => w) (swV g) c h ∧ ∃ es v, h[c]? = some (.map es) ∧ mfind (.str g) es = some (some v)
theorem Mg.lt {g : Ln} {c : Nat} {h : AH} (hm : Mg g c h) : c < h.length := hm.1.lt
theorem Mg.pre {g : Ln} {c : Nat} {h h' : AH} (hm : Mg g c h) (hp : Pre h h') : Mg g c h' := by
  have hl := hm.lt
  obtain ⟨h1, es, v, h2, h3⟩ := hm
  exact ⟨h1.pre hp, es, v, by rw [hp.2 c hl]; exact h2, h3⟩
theorem Mg.prey {g : Ln} {c : Nat} {h h' : AH} (hm : Mg g c h) (he : h'[c]? = h[c]?) : Mg g c h' := by
  obtain ⟨⟨es', g1, g2, g3⟩, es, v, h2, h3⟩ := hm
  exact ⟨⟨es', by rw [he]; exact g1, g2, g3⟩, es, v, by rw [he]; exact h2, h3⟩
theorem Mg.put {g : Ln} {c : Nat} {h : AH} (hm : Mg g c h) (w : Ln) : ∃ es, h[c]? = some (.map es) ∧ (∃ o, mfind (.str w) es = some o) ∧ Mg g c (h.set c (.map (mput (.str w) (swV g w) es))) := by
  obtain ⟨h1, es, v, h2, h3⟩ := hm
  have hk : StrK es := by obtain ⟨es', a, b, _⟩ := h1; rw [h2] at a; cases a; exact b
  obtain ⟨es', a, b, d⟩ := h1.put (fun s s' (e : s = s') => by rw [e]) w
  rw [h2] at a; cases a
  refine ⟨es, h2, b, d, ?_⟩
  have hl := (List.getElem?_eq_some_iff.1 h2).1
  refine ⟨_, if (g == w) then swV g w else v, by rw [List.getElem?_set, if_pos rfl, if_pos hl], ?_⟩
  rw [mfind_mput hk]
  split <;> first | rfl | exact h3
theorem Mg.new {g : Ln} {h : AH} : Mg g h.length (h ++ [.map [(.str g, .int .i64 1)]]) := by
  refine ⟨⟨[(.str g, .int .i64 1)], by simp, ?_, ?_⟩, [(.str g, .int .i64 1)], .int .i64 1, by simp, by simp [mfind, keyEq]⟩
  · intro kv hkv; simp only [List.mem_singleton] at hkv; subst hkv; exact ⟨g, rfl⟩
  · intro s v hv
    simp only [mfind, keyEq] at hv
    by_cases e : s = g
    · subst e
      simp at hv
      subst hv
      unfold swV; rw [cE_self]; rfl
    · have : (s == g) = false := by simpa using e
      rw [this] at hv; simp at hv
def FromAt (g : Ln) (n : Nat) : Prop := ∀ (w : Ln) (c : Nat) (h : AH), mu w < n → w.length ≤ 8 → Mg g c h → ∀ post : AV → AH → Prop, (∀ h', PreX c h h' → Mg g c h' → post (.int .i64 (cE g w : Nat)) h') → S 252 [.agg [.str g, .map c], .str w] h post k
theorem lp_from {g : Ln} {n : Nat} (ih : FromAt g n) {w : Ln} (hn : mu w < n + 1) (hw : w.length ≤ 8) (hne : w ≠ g) {c cb : Nat} (hcb : cb ≠ c) {vm : AV} {h0 : AH} (hb0 : rdRow h0 cb 0 0 2 = some [.str g, .map c]) (hm0 : SlcX 2 encM c h0 vm (movesB w [84, 70])) {R : X → Env → AH → Prop} :
    ∀ (mr mp : List (Int × Int)) (h : AH), movesB w [84, 70] = mp ++ mr → PreX c h0 h → Mg g c h →
    (∀ h', PreX c h0 h' → Mg g c h' → R (.exit 0) [(1, .str w), (2, .ptr cb 0 0 2), (7, .int .i64 (cE g w : Nat))] h') →
    Cx (.loop lp252_0) [(1, .str w), (2, .ptr cb 0 0 2), (7, .int .i64 (((mp.map (mkM w)).map (cE g)).sum : Nat)), (20, vm), (21, .int .i64 (movesB w [84, 70]).length), (22, .int .i64 mp.length)] h R k k
  | [], mp, h, hmp, hp, hm, hR => by
    have hl : (movesB w [84, 70]).length = mp.length := by rw [hmp]; simp
    have hn : ((mp.map (mkM w)).map (cE g)).sum = cE g w := by
      rw [cE_ne hne, nx_eq, hmp, List.append_nil]
    rw [w_loopb (c := lp252_0) (d := lb252_0) rfl]; unfold lb252_0
    rw [hl, hn]
    simp (maxSteps := 1000000) (disch := first | omega | rfl | (simp only [zL, two63, room] <;> omega) | fail) only [↓reduceIte, ↓zP, zW, WOp, evOp, evBin, binI, binSh, binS, evNil, keyIs, keyEq, mkv, AV.cells, AV.sc, optv, bnd, env, put, Env.get, Env.set, Env.del, Env.dels, Env.init, res1, resL, resV, fillP, splice, newRow, Nat.reduceEqDiff, Nat.reduceLT, Nat.reduceLeDiff, Nat.reduceAdd, Nat.reduceMul, Nat.reduceSub, Nat.reduceBEq, reduceCtorEq, ↓zR, zQ, Tr, StA, StT]
    exact hR h hp hm
  | m :: mr, mp, h, hmp, hp, hm, hR => by
    have ihl := lp_from ih hn hw hne hcb hb0 hm0 (R := R) mr (mp ++ [m])
    have hmm : m ∈ movesB w [84, 70] := by rw [hmp]; simp
    have hml : (movesB w [84, 70]).length = mp.length + 1 + mr.length := by rw [hmp]; simp; omega
    have hbd := movesB_len w [84, 70]
    have hm' := (hm0.fr hp).1
    rw [hmp] at hm'
    obtain ⟨r1, k1, o1, hv1, hr⟩ := hm'.at hlM
    rw [← hmp, hml] at hv1
    obtain ⟨i', t', rfl, hmv⟩ := movesB_mv hmm
    subst hv1
    rw [hml] at ihl ⊢
    have hlt : (mp.length : Int) < ((mp.length + 1 + mr.length : Nat) : Int) := by omega
    have hw1 : (mp.length : Int) + 1 = ((mp ++ [((i' : Int), (t' : Int))]).length : Int) := by simp
    have hle := cE_lt (g := g) hw
    have hsum : ((mp.map (mkM w)).map (cE g)).sum + cE g (madeB w i' t') ≤ cE g w := by
      rw [cE_ne hne, nx_eq, hmp, List.map_append, List.map_append, List.sum_append, List.map_cons, List.map_cons, List.sum_cons]
      show _ + cE g (madeB w i' t') ≤ _ + (cE g (madeB w i' t') + _)
      omega
    have hs1 : ((((mp.map (mkM w)).map (cE g)).sum : Nat) : Int) + ((cE g (madeB w i' t') : Nat) : Int) = (((((mp ++ [((i' : Int), (t' : Int))]).map (mkM w)).map (cE g)).sum : Nat) : Int) := by
      rw [List.map_append, List.map_append, List.sum_append]
      show _ = (((_ + [cE g (madeB w i' t')].sum : Nat)) : Int)
      simp
    have hbr := rdRow_prex hp hcb hb0
    have hpush := Pre.push h (AO.row (encM ((i' : Int), (t' : Int))) 0 0 false)
    have hbr2 := rdRow_pre hpush hbr
    rw [w_loopb (c := lp252_0) (d := lb252_0) rfl]; unfold lb252_0
    simp (maxSteps := 1000000) (disch := first | omega | rfl | (simp only [zL, two63, room] <;> omega) | fail) only [↓reduceIte, ↓zP, zW, WOp, evOp, evBin, binI, binSh, binS, evNil, keyIs, keyEq, mkv, AV.cells, AV.sc, optv, bnd, env, put, Env.get, Env.set, Env.del, Env.dels, Env.init, res1, resL, resV, fillP, splice, newRow, Nat.reduceEqDiff, Nat.reduceLT, Nat.reduceLeDiff, Nat.reduceAdd, Nat.reduceMul, Nat.reduceSub, Nat.reduceBEq, reduceCtorEq, ↓zR, zQ, Tr, StA, StT, hlt, hr]
    refine w_drw ?_
    simp (maxSteps := 1000000) (disch := first | omega | rfl | (simp only [zL, two63, room] <;> omega) | fail) only [↓reduceIte, ↓zP, zW, WOp, evOp, evBin, binI, binSh, binS, evNil, keyIs, keyEq, mkv, AV.cells, AV.sc, optv, bnd, env, put, Env.get, Env.set, Env.del, Env.dels, Env.init, res1, resL, resV, fillP, splice, newRow, Nat.reduceEqDiff, Nat.reduceLT, Nat.reduceLeDiff, Nat.reduceAdd, Nat.reduceMul, Nat.reduceSub, Nat.reduceBEq, reduceCtorEq, ↓zR, zQ, Tr, StA, StT, hbr2]
    refine c_made w i' t' hmv.fst hmv.snd (by omega) ?_
    intro h2 hp2
    have hp1 := hpush.trans hp2
    simp (maxSteps := 1000000) (disch := first | omega | rfl | (simp only [zL, two63, room] <;> omega) | fail) only [↓reduceIte, ↓zP, zW, WOp, evOp, evBin, binI, binSh, binS, evNil, keyIs, keyEq, mkv, AV.cells, AV.sc, optv, bnd, env, put, Env.get, Env.set, Env.del, Env.dels, Env.init, res1, resL, resV, fillP, splice, newRow, Nat.reduceEqDiff, Nat.reduceLT, Nat.reduceLeDiff, Nat.reduceAdd, Nat.reduceMul, Nat.reduceSub, Nat.reduceBEq, reduceCtorEq, ↓zR, zQ, Tr, StA, StT]
    refine ih (madeB w i' t') c h2 (by have := mu_made hmv; omega) (by rw [madeB_length]; exact hw) (hm.pre hp1) _ ?_
    intro h3 hp3 hm3
    simp (maxSteps := 1000000) (disch := first | omega | rfl | (simp only [zL, two63, room] <;> omega) | fail) only [↓reduceIte, ↓zP, zW, WOp, evOp, evBin, binI, binSh, binS, evNil, keyIs, keyEq, mkv, AV.cells, AV.sc, optv, bnd, env, put, Env.get, Env.set, Env.del, Env.dels, Env.init, res1, resL, resV, fillP, splice, newRow, Nat.reduceEqDiff, Nat.reduceLT, Nat.reduceLeDiff, Nat.reduceAdd, Nat.reduceMul, Nat.reduceSub, Nat.reduceBEq, reduceCtorEq, ↓zR, zQ, Tr, StA, StT, hw1, hs1]
    rw [w_loopn (c := lp252_0) rfl]
    have hbr3 := rdRow_pre hp2 hbr2
    simp (maxSteps := 1000000) (disch := first | omega | rfl | (simp only [zL, two63, room] <;> omega) | fail) only [↓reduceIte, ↓zP, zW, WOp, evOp, evBin, binI, binSh, binS, evNil, keyIs, keyEq, mkv, AV.cells, AV.sc, optv, bnd, env, put, Env.get, Env.set, Env.del, Env.dels, Env.init, res1, resL, resV, fillP, splice, newRow, Nat.reduceEqDiff, Nat.reduceLT, Nat.reduceLeDiff, Nat.reduceAdd, Nat.reduceMul, Nat.reduceSub, Nat.reduceBEq, reduceCtorEq, ↓zR, zQ, Tr, StA, StT, hbr2, hbr3]
    exact ihl h3 (by rw [hmp]; simp) ((hp.trans (hp1.x c)).trans hp3) hm3 hR
theorem c_from (g : Ln) : ∀ n : Nat, FromAt g n
  | 0 => fun w c h hn _ _ _ _ => by omega
  | n + 1 => by
    intro w c h hn hw hm post hp
    have ih := c_from g n
    have hlt := hm.lt
    have hm0 := hm
    have hpush := Pre.push h (AO.row [.str g, .map c] 0 0 false)
    obtain ⟨⟨es, he, hks, hgood⟩, es', vg, he', hg⟩ := hm
    rw [he] at he'; cases he'
    have he2 : (h ++ [AO.row [.str g, .map c] 0 0 false])[c]? = some (.map es) := by rw [hpush.2 c hlt]; exact he
    have rb : rdRow (h ++ [AO.row [.str g, .map c] 0 0 false]) h.length 0 0 2 = some [.str g, .map c] := by rw [rd_last, if_pos (by simp)]; simp
    have rb1 : rdRow (h ++ [AO.row [.str g, .map c] 0 0 false]) h.length 0 1 1 = some [.map c] := by rw [rd_last, if_pos (by simp)]; simp
    refine S_of rfl T252 ?_; unfold fi252
    obtain ⟨o, ho⟩ := mfind_some hks w
    cases o with
    | some v =>
      obtain rfl : v = .int .i64 (cE g w : Nat) := hgood w v ho
      simp (maxSteps := 1000000) (disch := first | omega | rfl | (simp only [zL, two63, room] <;> omega) | fail) only [↓reduceIte, ↓zP, zW, WOp, evOp, evBin, binI, binSh, binS, evNil, keyIs, keyEq, mkv, AV.cells, AV.sc, optv, bnd, env, put, Env.get, Env.set, Env.del, Env.dels, Env.init, res1, resL, resV, fillP, splice, newRow, Nat.reduceEqDiff, Nat.reduceLT, Nat.reduceLeDiff, Nat.reduceAdd, Nat.reduceMul, Nat.reduceSub, Nat.reduceBEq, reduceCtorEq, ↓zR, zQ, Tr, StA, StT, rb1, he2, ho]
      exact hp _ (hpush.x c) (hm0.pre hpush)
    | none =>
      have hne : w ≠ g := by rintro rfl; rw [hg] at ho; cases ho
      simp (maxSteps := 1000000) (disch := first | omega | rfl | (simp only [zL, two63, room] <;> omega) | fail) only [↓reduceIte, ↓zP, zW, WOp, evOp, evBin, binI, binSh, binS, evNil, keyIs, keyEq, mkv, AV.cells, AV.sc, optv, bnd, env, put, Env.get, Env.set, Env.del, Env.dels, Env.init, res1, resL, resV, fillP, splice, newRow, Nat.reduceEqDiff, Nat.reduceLT, Nat.reduceLeDiff, Nat.reduceAdd, Nat.reduceMul, Nat.reduceSub, Nat.reduceBEq, reduceCtorEq, ↓zR, zQ, Tr, StA, StT, rb1, he2, ho]
      refine c_moves w [84, 70] (by omega) ?_
      intro vm h2 ho2 hp2
      have hsm : Slc 2 encM h2 vm (movesB w [84, 70]) := ho2.sl
      have hmx : SlcX 2 encM c h2 vm (movesB w [84, 70]) := ⟨hsm, fun r hr => by have := own_ge ho2 hr; simp at this; omega⟩
      have hvm := fun g => Slc.lenV (hsm) (g := g) (ρ := fun _ => _) (x := .t 0) rfl; simp only [evOp] at hvm
      have z : (0 : Int) = (((([] : List (Int × Int)).map (mkM w)).map (cE g)).sum : Nat) := rfl
      simp (maxSteps := 1000000) (disch := first | omega | rfl | (simp only [zL, two63, room] <;> omega) | fail) only [↓reduceIte, ↓zP, zW, WOp, evOp, evBin, binI, binSh, binS, evNil, keyIs, keyEq, mkv, AV.cells, AV.sc, optv, bnd, env, put, Env.get, Env.set, Env.del, Env.dels, Env.init, res1, resL, resV, fillP, splice, newRow, Nat.reduceEqDiff, Nat.reduceLT, Nat.reduceLeDiff, Nat.reduceAdd, Nat.reduceMul, Nat.reduceSub, Nat.reduceBEq, reduceCtorEq, ↓zR, zQ, Tr, StA, StT, hvm]
      rw [z]
      refine lp_from ih hn hw hne (c := c) (cb := h.length) (by omega) (rdRow_pre hp2 rb) hmx (movesB w [84, 70]) [] h2 rfl (PreX.refl _ _) ((hm0.pre hpush).pre hp2) ?_
      intro h3 hp3 hm3
      have r3 := rdRow_prex hp3 (by omega) (rdRow_pre hp2 rb1)
      obtain ⟨es3, e1, ⟨o3, e2⟩, hm4⟩ := hm3.put w
      unfold swV at hm4
      simp (maxSteps := 1000000) (disch := first | omega | rfl | (simp only [zL, two63, room] <;> omega) | fail) only [↓reduceIte, ↓zP, zW, WOp, evOp, evBin, binI, binSh, binS, evNil, keyIs, keyEq, mkv, AV.cells, AV.sc, optv, bnd, env, put, Env.get, Env.set, Env.del, Env.dels, Env.init, res1, resL, resV, fillP, splice, newRow, Nat.reduceEqDiff, Nat.reduceLT, Nat.reduceLeDiff, Nat.reduceAdd, Nat.reduceMul, Nat.reduceSub, Nat.reduceBEq, reduceCtorEq, ↓zR, zQ, Tr, StA, StT, r3, e1, e2]
      exact hp _ (((hpush.trans hp2).x c).trans (hp3.trans (PreX.refl c h3).set)) hm4
end Go.Proofs.YtcflenomogpdbaaDoor.Ab

/- slices.DeleteFunc on moves, where the function handed on writes into a map. -/
namespace Go.Proofs.YtcflenomogpdbaaDoor.Ab
open Go
set_option maxRecDepth 100000
set_option maxHeartbeats 4000000

/-- All old rows are as they were, but for the slice's own and the map. -/
def PreY (v : AV) (cm : Nat) (h h' : AH) : Prop := h.length ≤ h'.length ∧ ∀ i, i < h.length → i ≠ cm → rowOf v ≠ some i → h'[i]? = h[i]?
theorem PreY.refl (v : AV) (cm : Nat) (h : AH) : PreY v cm h h := ⟨Nat.le_refl _, fun _ _ _ _ => rfl⟩
theorem PreY.trans {v : AV} {cm : Nat} {a b c : AH} (x : PreY v cm a b) (y : PreY v cm b c) : PreY v cm a c := ⟨Nat.le_trans x.1 y.1, fun i hi h1 h2 => by rw [y.2 i (Nat.lt_of_lt_of_le hi x.1) h1 h2, x.2 i hi h1 h2]⟩
theorem PreX.y {v : AV} {cm : Nat} {h h' : AH} (hp : PreX cm h h') : PreY v cm h h' := ⟨hp.1, fun i hi h1 _ => hp.2 i hi h1⟩
theorem PreV.y {v : AV} {cm : Nat} {h h' : AH} (hp : PreV v h h') : PreY v cm h h' := ⟨hp.1, fun i hi _ h2 => hp.2 i hi fun c kk off n e hv => by subst hv; rintro rfl; exact h2 rfl⟩
theorem OwW.stay {α : Type} {esz : Nat} {enc : α → List AV} {b h h' : AH} {v : AV} {L : List α} (ho : OwW esz enc b h v L) (hr : ∀ r, rowOf v = some r → h'[r]? = h[r]?) : OwW esz enc b h' v L := by
  unfold OwW at ho ⊢
  cases v <;> simp only [rowOf] at ho hr ⊢ <;> first
    | exact ho
    | (obtain ⟨h1, h2, h3, A, Z, fl, h4, h5⟩ := ho
       exact ⟨h1, h2, h3, A, Z, fl, by rw [hr _ rfl]; exact h4, h5⟩)
theorem OwW.row {α : Type} {esz : Nat} {enc : α → List AV} {b h : AH} {c kk off n e : Nat} {L : List α} (ho : OwW esz enc b h (.slice c kk off n e) L) : c < h.length ∧ b.length ≤ c := by
  unfold OwW at ho
  obtain ⟨_, _, h3, A, Z, fl, h4, _⟩ := ho
  exact ⟨(List.getElem?_eq_some_iff.1 h4).1, h3⟩

theorem lp_DeleteFuncM (f : Nat) (cap : List AV) (P : Int × Int → Bool) {c kk off n cm : Nat} (hcm : c ≠ cm) {b h0 : AH} (hc0 : cm < h0.length) (I : AH → Prop) (hIs : ∀ h h', I h → h'[cm]? = h[cm]? → I h') (hn : n < 2 ^ 40) {R : X → Env → AH → Prop} : ∀ (rest Fl mid : List (Int × Int)) (h : AH) (i j : Nat),
    (∀ x ∈ rest, ∀ h', PreY (.slice c kk off n 2) cm h0 h' → I h' → ∀ post : AV → AH → Prop, (∀ h'', PreX cm h' h'' → I h'' → post (.bool (P x)) h'') → S f ([.agg (encM x)] ++ cap) h' post k) →
    PreY (.slice c kk off n 2) cm h0 h → I h → mid ≠ [] → i = Fl.length → j = i + mid.length → OwW 2 encM b h (.slice c kk off n 2) (Fl ++ (mid ++ rest)) →
    (∀ h' mid' i', PreY (.slice c kk off n 2) cm h0 h' → I h' → i' = (Fl ++ rest.filter fun x => !P x).length → OwW 2 encM b h' (.slice c kk off n 2) ((Fl ++ rest.filter fun x => !P x) ++ mid') → R (.exit 0) [(0, .slice c kk off n 2), (5, .int .i64 (i' : Nat))] h') →
    Cx (.loop lp248_0) [(0, .slice c kk off n 2), (1, .fn f cap), (5, .int .i64 (i : Nat)), (6, .int .i64 (j : Nat))] h R k k
  | [], Fl, mid, h, i, j, hI, hp, h1, hm, hi, hj, ho, hR => by
    have hlen : n = (Fl ++ (mid ++ [])).length := by have := ho; unfold OwW at this; exact this.2.1
    have hnot : ¬ ((j : Int) < (n : Int)) := by simp at hlen; omega
    rw [w_loopb (c := lp248_0) (d := lb248_0) rfl]; unfold lb248_0
    simp (maxSteps := 1000000) (disch := first | omega | rfl | (simp only [zL, two63, room] <;> omega) | fail) only [↓reduceIte, ↓zP, zW, WOp, evOp, evBin, binI, binSh, binS, evNil, keyIs, keyEq, mkv, AV.cells, AV.sc, optv, bnd, env, put, Env.get, Env.set, Env.del, Env.dels, Env.init, res1, resL, resV, fillP, splice, newRow, Nat.reduceEqDiff, Nat.reduceLT, Nat.reduceLeDiff, Nat.reduceAdd, Nat.reduceMul, Nat.reduceSub, Nat.reduceBEq, reduceCtorEq, ↓zR, zQ, Tr, StA, StT, hnot]
    exact hR h mid i hp h1 (by simpa using hi) (by simpa using ho)
  | x :: rest, Fl, mid, h, i, j, hI, hp, h1, hm, hi, hj, ho, hR => by
    have ih := lp_DeleteFuncM f cap P hcm (kk := kk) (off := off) (b := b) (h0 := h0) hc0 I hIs hn (R := R) rest
    have hlen : n = (Fl ++ (mid ++ x :: rest)).length := by have := ho; unfold OwW at this; exact this.2.1
    have hlt : (j : Int) < (n : Int) := by simp at hlen; omega
    have hlt2 : (i : Int) < (n : Int) := by simp at hlen; omega
    have ea : Fl ++ (mid ++ x :: rest) = (Fl ++ mid) ++ x :: rest := by simp
    have hs := ho.slc hlM
    rw [ea] at hs
    obtain ⟨c', kk', off', hv, hr⟩ := hs.at hlM
    simp only [AV.slice.injEq] at hv
    obtain ⟨rfl, rfl, rfl, -, -⟩ := hv
    rw [show (Fl ++ mid).length = j by simp; omega] at hr
    obtain ⟨m0, mid, rfl⟩ := List.exists_cons_of_ne_nil hm
    simp only [List.length_cons] at hj
    have w2 : (j : Int) + 1 = ((j + 1 : Nat) : Int) := by omega
    have w1 : (i : Int) + 1 = ((i + 1 : Nat) : Int) := by omega
    have hpush := Pre.push h (AO.row (encM x) 0 0 false)
    have hcl := ho.row.1
    have hcm2 : cm < h.length := Nat.lt_of_lt_of_le hc0 hp.1
    have hic : I (h ++ [AO.row (encM x) 0 0 false]) := hIs _ _ h1 (hpush.2 cm hcm2)
    rw [w_loopb (c := lp248_0) (d := lb248_0) rfl]; unfold lb248_0
    simp (maxSteps := 1000000) (disch := first | omega | rfl | (simp only [zL, two63, room] <;> omega) | fail) only [↓reduceIte, ↓zP, zW, WOp, evOp, evBin, binI, binSh, binS, evNil, keyIs, keyEq, mkv, AV.cells, AV.sc, optv, bnd, env, put, Env.get, Env.set, Env.del, Env.dels, Env.init, res1, resL, resV, fillP, splice, newRow, Nat.reduceEqDiff, Nat.reduceLT, Nat.reduceLeDiff, Nat.reduceAdd, Nat.reduceMul, Nat.reduceSub, Nat.reduceBEq, reduceCtorEq, ↓zR, zQ, Tr, StA, StT, hlt, hr]
    refine hI x (by simp) _ (hp.trans (hpush.x cm).y) hic _ ?_
    intro h2 hp2 h12
    have hp12 := (hpush.x cm).trans hp2
    have ho2 : OwW 2 encM b h2 (.slice c kk off n 2) (Fl ++ (m0 :: mid ++ x :: rest)) := ho.stay fun r hr => by
      simp only [rowOf, Option.some.injEq] at hr
      subst hr
      exact hp12.2 c hcl hcm
    cases e : P x
    · have eb : Fl ++ (m0 :: mid ++ x :: rest) = Fl ++ m0 :: (mid ++ x :: rest) := by simp
      rw [eb] at ho2
      obtain ⟨c', kk', off', h3, hv3, hw3, ho3, hpv3⟩ := ho2.store hlM x 0 (encM x) (by simp [hlM]) (by simp [encM, AV.sc]) (by simp [splice, hlM, encM])
      simp only [AV.slice.injEq] at hv3
      obtain ⟨rfl, rfl, rfl, -, -⟩ := hv3
      rw [← hi, Nat.add_zero] at hw3
      have hbx : rdRow h2 h.length 0 0 2 = some (encM x) := rdRow_prex hp2 (by omega) (by rw [rd_last, if_pos (by simp [encM])]; simp [encM])
      have hI3 : I h3 := hIs _ _ h12 (hpv3.2 cm (Nat.lt_of_lt_of_le hcm2 hp12.1) fun c' kk' off' n' e' hv => by cases hv; exact Ne.symm hcm)
      simp (maxSteps := 1000000) (disch := first | omega | rfl | (simp only [zL, two63, room] <;> omega) | fail) only [↓reduceIte, ↓zP, zW, WOp, evOp, evBin, binI, binSh, binS, evNil, keyIs, keyEq, mkv, AV.cells, AV.sc, optv, bnd, env, put, Env.get, Env.set, Env.del, Env.dels, Env.init, res1, resL, resV, fillP, splice, newRow, Nat.reduceEqDiff, Nat.reduceLT, Nat.reduceLeDiff, Nat.reduceAdd, Nat.reduceMul, Nat.reduceSub, Nat.reduceBEq, reduceCtorEq, ↓zR, zQ, Tr, StA, StT, e, hlt2, hbx, hw3, w1, w2]
      rw [w_loopn (c := lp248_0) rfl]
      simp (maxSteps := 1000000) (disch := first | omega | rfl | (simp only [zL, two63, room] <;> omega) | fail) only [↓reduceIte, ↓zP, zW, WOp, evOp, evBin, binI, binSh, binS, evNil, keyIs, keyEq, mkv, AV.cells, AV.sc, optv, bnd, env, put, Env.get, Env.set, Env.del, Env.dels, Env.init, res1, resL, resV, fillP, splice, newRow, Nat.reduceEqDiff, Nat.reduceLT, Nat.reduceLeDiff, Nat.reduceAdd, Nat.reduceMul, Nat.reduceSub, Nat.reduceBEq, reduceCtorEq, ↓zR, zQ, Tr, StA, StT]
      have hfilt : (x :: rest).filter (fun x => !P x) = x :: rest.filter fun x => !P x := by rw [List.filter_cons, e]; rfl
      rw [hfilt] at hR
      refine ih (Fl ++ [x]) (mid ++ [x]) h3 (i + 1) (j + 1) (fun y hy => hI y (by simp [hy])) ((hp.trans hp12.y).trans hpv3.y) hI3 (by simp) (by simp; omega) (by simp; omega) (by simpa using ho3) ?_
      intro h' mid' i' q1 q2 q3 q4
      exact hR h' mid' i' q1 q2 (by simpa using q3) (by simpa using q4)
    · simp (maxSteps := 1000000) (disch := first | omega | rfl | (simp only [zL, two63, room] <;> omega) | fail) only [↓reduceIte, ↓zP, zW, WOp, evOp, evBin, binI, binSh, binS, evNil, keyIs, keyEq, mkv, AV.cells, AV.sc, optv, bnd, env, put, Env.get, Env.set, Env.del, Env.dels, Env.init, res1, resL, resV, fillP, splice, newRow, Nat.reduceEqDiff, Nat.reduceLT, Nat.reduceLeDiff, Nat.reduceAdd, Nat.reduceMul, Nat.reduceSub, Nat.reduceBEq, reduceCtorEq, ↓zR, zQ, Tr, StA, StT, e, w2]
      rw [w_loopn (c := lp248_0) rfl]
      simp (maxSteps := 1000000) (disch := first | omega | rfl | (simp only [zL, two63, room] <;> omega) | fail) only [↓reduceIte, ↓zP, zW, WOp, evOp, evBin, binI, binSh, binS, evNil, keyIs, keyEq, mkv, AV.cells, AV.sc, optv, bnd, env, put, Env.get, Env.set, Env.del, Env.dels, Env.init, res1, resL, resV, fillP, splice, newRow, Nat.reduceEqDiff, Nat.reduceLT, Nat.reduceLeDiff, Nat.reduceAdd, Nat.reduceMul, Nat.reduceSub, Nat.reduceBEq, reduceCtorEq, ↓zR, zQ, Tr, StA, StT]
      have hfilt : (x :: rest).filter (fun x => !P x) = rest.filter fun x => !P x := by rw [List.filter_cons, e]; rfl
      rw [hfilt] at hR
      exact ih Fl (m0 :: mid ++ [x]) h2 i (j + 1) (fun y hy => hI y (by simp [hy])) (hp.trans hp12.y) h12 (by simp) hi (by simp; omega) (by simpa using ho2) hR

theorem flat_rep2 : ∀ n : Nat, (List.replicate n [AV.int .i64 0, AV.int .i64 0]).flatten = (List.replicate n ((0 : Int), (0 : Int))).flatMap encM
  | 0 => rfl
  | n + 1 => by rw [List.replicate_succ, List.replicate_succ, List.flatten_cons, List.flatMap_cons, flat_rep2 n]
/-- The part behind i laid to zero. -/
theorem OwW.clear {b h : AH} {c kk off n : Nat} {L M : List (Int × Int)} (ho : OwW 2 encM b h (.slice c kk off n 2) (L ++ M)) (hM : M ≠ []) : ∃ h', wrRow h c kk (off + L.length * 2) ((List.replicate M.length ((0 : Int), (0 : Int))).flatMap encM) = some h' ∧ OwW 2 encM b h' (.slice c kk off L.length 2) L ∧ PreV (.slice c kk off n 2) h h' := by
  unfold OwW at ho
  obtain ⟨_, hn, hb, A, Z, fl, h4, h5, h6⟩ := ho
  have hlt := (List.getElem?_eq_some_iff.1 h4).1
  have hpl := flat_len hlM L
  have hml := flat_len hlM M
  have hrl := flat_len hlM (List.replicate M.length ((0 : Int), (0 : Int)))
  rw [List.length_replicate] at hrl
  have hsc : ((List.replicate M.length ((0 : Int), (0 : Int))).flatMap encM).all AV.sc = true := by
    rw [List.all_eq_true]
    intro y hy
    obtain ⟨a, _, ha⟩ := List.mem_flatMap.1 hy
    simp only [encM, List.mem_cons, List.not_mem_nil, or_false] at ha
    rcases ha with rfl | rfl <;> rfl
  have hrow : A ++ (L ++ M).flatMap encM ++ Z = A ++ (L.flatMap encM ++ (M.flatMap encM ++ Z)) := by simp
  rw [hrow] at h4
  refine ⟨h.set c (.row (A ++ (L.flatMap encM ++ ((List.replicate M.length ((0 : Int), (0 : Int))).flatMap encM ++ Z))) kk kk false), ?_, ?_, ?_⟩
  · unfold wrRow
    rw [h4]
    simp only
    rw [if_pos ⟨trivial, h5, by simp only [List.length_append, hpl, hml, hrl, h6]; omega, hsc⟩, splice_all _ _ _ _ _ (by omega) (by omega)]
  · unfold OwW
    refine ⟨rfl, rfl, hb, A, (List.replicate M.length ((0 : Int), (0 : Int))).flatMap encM ++ Z, kk, ?_, Nat.le_refl _, h6⟩
    rw [List.getElem?_set, if_pos rfl, if_pos hlt, List.append_assoc]
  · exact ⟨by simp, fun i _ hc => by rw [List.getElem?_set, if_neg (hc c kk off _ 2 rfl ·.symm)]⟩
theorem OwW.cut {b h : AH} {c kk off n : Nat} {L : List (Int × Int)} (ho : OwW 2 encM b h (.slice c kk off n 2) (L ++ [])) : OwW 2 encM b h (.slice c kk off L.length 2) L := by
  unfold OwW at ho ⊢
  simp only [List.append_nil] at ho
  exact ⟨rfl, rfl, ho.2.2⟩
theorem c_DeleteFuncM (f : Nat) (cap : List AV) (P : Int × Int → Bool) {cm : Nat} {b h : AH} (hc0 : cm < h.length) (I : AH → Prop) (hIs : ∀ h h', I h → h'[cm]? = h[cm]? → I h') {v : AV} {L : List (Int × Int)} (ho : OwW 2 encM b h v L) (hv : ∀ r, rowOf v = some r → r ≠ cm) (hL : L.length < 2 ^ 40) (h1 : I h)
    (hI : ∀ x ∈ L, ∀ h', PreY v cm h h' → I h' → ∀ post : AV → AH → Prop, (∀ h'', PreX cm h' h'' → I h'' → post (.bool (P x)) h'') → S f ([.agg (encM x)] ++ cap) h' post k) {post : AV → AH → Prop}
    (hp : ∀ v' h', OwW 2 encM b h' v' (L.filter fun x => !P x) → PreY v cm h h' → I h' → post v' h') : S 248 [v, .fn f cap] h post k := by
  have stayX : ∀ {h'}, PreX cm h h' → OwW 2 encM b h' v L := fun hp => ho.stay fun r hr => hp.2 r (by
    cases v <;> simp only [rowOf] at hr <;> first
      | (cases hr; done)
      | (cases hr; exact ho.row.1)) (hv r hr)
  refine S_of rfl T248 ?_; unfold fi248
  simp (maxSteps := 1000000) (disch := first | omega | rfl | (simp only [zL, two63, room] <;> omega) | fail) only [↓reduceIte, ↓zP, zW, WOp, evOp, evBin, binI, binSh, binS, evNil, keyIs, keyEq, mkv, AV.cells, AV.sc, optv, bnd, env, put, Env.get, Env.set, Env.del, Env.dels, Env.init, res1, resL, resV, fillP, splice, newRow, Nat.reduceEqDiff, Nat.reduceLT, Nat.reduceLeDiff, Nat.reduceAdd, Nat.reduceMul, Nat.reduceSub, Nat.reduceBEq, reduceCtorEq, ↓zR, zQ, Tr, StA, StT]
  refine c_IndexFuncM f cap P (fun h' => PreX cm h h' ∧ I h') hL (fun h' hh => (stayX hh.1).slc hlM) ?_ ⟨PreX.refl _ _, h1⟩ ?_
  · intro x hx h' hh post hpost
    exact hI x hx h' hh.1.y hh.2 post fun h'' hp'' hi'' => hpost h'' ⟨hh.1.trans hp'', hi''⟩
  intro h2 ⟨hp2, h12⟩
  unfold idxOf
  cases hf : L.findIdx? P with
  | none =>
    have hfl : (L.filter fun x => !P x) = L := by
      rw [List.findIdx?_eq_none_iff] at hf
      rw [List.filter_eq_self]
      intro x hx; simp [hf x hx]
    rw [hfl] at hp
    simp (maxSteps := 1000000) (disch := first | omega | rfl | (simp only [zL, two63, room] <;> omega) | fail) only [↓reduceIte, ↓zP, zW, WOp, evOp, evBin, binI, binSh, binS, evNil, keyIs, keyEq, mkv, AV.cells, AV.sc, optv, bnd, env, put, Env.get, Env.set, Env.del, Env.dels, Env.init, res1, resL, resV, fillP, splice, newRow, Nat.reduceEqDiff, Nat.reduceLT, Nat.reduceLeDiff, Nat.reduceAdd, Nat.reduceMul, Nat.reduceSub, Nat.reduceBEq, reduceCtorEq, ↓zR, zQ, Tr, StA, StT]
    exact hp v h2 (stayX hp2) hp2.y h12
  | some i =>
    obtain ⟨x, rest, hLe, hPx, hfl, hi⟩ := take_slice hf
    rw [hfl] at hp
    have ho2 := stayX hp2
    cases v with
    | slice c kk off n e =>
      obtain ⟨rfl, hn⟩ : e = 2 ∧ n = L.length := by have := ho2; unfold OwW at this; exact ⟨this.1, this.2.1⟩
      have hcm : c ≠ cm := hv c rfl
      have hi1 : (i : Int) + 1 = ((i + 1 : Nat) : Int) := by omega
      have hne : ((i : Int) == -1) = false := by simp
      have hil : (L.take i).length = i := by simp; omega
      have hll : L.length = i + 1 + rest.length := by
        have := congrArg List.length hLe
        simp only [List.length_append, List.length_cons, hil] at this
        omega
      simp (maxSteps := 1000000) (disch := first | omega | rfl | (simp only [zL, two63, room] <;> omega) | fail) only [↓reduceIte, ↓zP, zW, WOp, evOp, evBin, binI, binSh, binS, evNil, keyIs, keyEq, mkv, AV.cells, AV.sc, optv, bnd, env, put, Env.get, Env.set, Env.del, Env.dels, Env.init, res1, resL, resV, fillP, splice, newRow, Nat.reduceEqDiff, Nat.reduceLT, Nat.reduceLeDiff, Nat.reduceAdd, Nat.reduceMul, Nat.reduceSub, Nat.reduceBEq, reduceCtorEq, ↓zR, zQ, Tr, StA, StT, hne, hi1]
      refine lp_DeleteFuncM f cap P hcm (b := b) (h0 := h2) (Nat.lt_of_lt_of_le hc0 hp2.1) I hIs (by omega) rest (L.take i) [x] h2 i (i + 1) ?_ (PreY.refl _ _ _) h12 (by simp) hil.symm (by simp) ?_ ?_
      · intro y hy h' hpy hi' post hpost
        exact hI y (by rw [hLe]; simp [hy]) h' (hp2.y.trans hpy) hi' post hpost
      · rw [show L.take i ++ ([x] ++ rest) = L from hLe.symm]
        exact ho2
      · intro h3 mid i' hp3 h13 hi' ho3
        generalize (L.take i ++ rest.filter fun x => !P x) = M at *
        have hlen : n = (M ++ mid).length := by have := ho3; unfold OwW at this; exact this.2.1
        rw [List.length_append] at hlen
        have hle : (i' : Int) ≤ (n : Int) := by omega
        have hle' : M.length ≤ n := by omega
        have hsub : n - i' = mid.length := by omega
        have hq3 := hp2.y.trans hp3
        subst hi'
        by_cases hz : mid = []
        · subst hz
          have hz' : n - M.length = 0 := by simpa using hsub
          simp (maxSteps := 1000000) (disch := first | omega | rfl | (simp only [zL, two63, room] <;> omega) | fail) only [↓reduceIte, ↓zP, zW, WOp, evOp, evBin, binI, binSh, binS, evNil, keyIs, keyEq, mkv, AV.cells, AV.sc, optv, bnd, env, put, Env.get, Env.set, Env.del, Env.dels, Env.init, res1, resL, resV, fillP, splice, newRow, Nat.reduceEqDiff, Nat.reduceLT, Nat.reduceLeDiff, Nat.reduceAdd, Nat.reduceMul, Nat.reduceSub, Nat.reduceBEq, reduceCtorEq, ↓zR, zQ, Tr, StA, StT, hz']
          have := hp _ h3 ho3.cut hq3 h13
          simpa using this
        · have hz' : n - M.length ≠ 0 := by rw [hsub]; intro h0; exact hz (List.eq_nil_of_length_eq_zero h0)
          obtain ⟨h4, hw4, ho4, hp4⟩ := ho3.clear hz
          have hI4 : I h4 := hIs _ _ h13 (hp4.2 cm (Nat.lt_of_lt_of_le hc0 hq3.1) fun c' kk' off' n' e' hv => by cases hv; exact Ne.symm hcm)
          rw [← hsub, ← flat_rep2] at hw4
          have hrep := flat_rep2 (n - M.length)
          simp (maxSteps := 1000000) (disch := first | omega | rfl | (simp only [zL, two63, room] <;> omega) | fail) only [↓reduceIte, ↓zP, zW, WOp, evOp, evBin, binI, binSh, binS, evNil, keyIs, keyEq, mkv, AV.cells, AV.sc, optv, bnd, env, put, Env.get, Env.set, Env.del, Env.dels, Env.init, res1, resL, resV, fillP, splice, newRow, Nat.reduceEqDiff, Nat.reduceLT, Nat.reduceLeDiff, Nat.reduceAdd, Nat.reduceMul, Nat.reduceSub, Nat.reduceBEq, reduceCtorEq, ↓zR, zQ, Tr, StA, StT, hz', hw4]
          have := hp _ h4 ho4 (hq3.trans hp4.y) hI4
          simpa using this
    | nilS => unfold OwW at ho2; rw [ho2] at hi; simp at hi
    | empS => unfold OwW at ho2; rw [ho2] at hi; simp at hi
    | _ => unfold OwW at ho2; exact ho2.elim
end Go.Proofs.YtcflenomogpdbaaDoor.Ab

/- PLAIN LAWS: lines gathered one after the other are those of the layers. -/
namespace Go.Proofs.YtcflenomogpdbaaDoor.Ab
open Go

abbrev Ds := List (Ln × Nat)
def keys (es : Ds) : List Ln := es.map (·.1)
def addK (d : Nat) (es : Ds) (ys : List Ln) : Ds := ys.foldl (fun es y => if y ∈ keys es then es else es ++ [(y, d + 1)]) es
theorem addK_cons (d : Nat) (es : Ds) (y : Ln) (ys : List Ln) : addK d es (y :: ys) = addK d (if y ∈ keys es then es else es ++ [(y, d + 1)]) ys := rfl
structure BI (w : Ln) (p : Nat) (es : Ds) : Prop where
  nd : (keys es).Nodup
  ly : ∀ v d, (v, d) ∈ es → v ∈ lay w d
  hd : w ∈ keys es
  cl : ∀ i, i < p → ∀ x, (keys es)[i]? = some x → ∀ y ∈ nx x, y ∈ keys es
  le : p ≤ es.length
theorem keys_app (es : Ds) (y : Ln) (d : Nat) : keys (es ++ [(y, d)]) = keys es ++ [y] := by simp [keys]
theorem keys_len (es : Ds) : (keys es).length = es.length := by simp [keys]
theorem BI.add {w : Ln} {p : Nat} {es : Ds} (h : BI w p es) {x : Ln} {d : Nat} (hx : (x, d) ∈ es) {y : Ln} (hy : y ∈ nx x) (hn : y ∉ keys es) : BI w p (es ++ [(y, d + 1)]) where
  nd := by
    rw [keys_app, List.nodup_append]
    exact ⟨h.nd, by simp, fun a ha b hb => by simp at hb; subst hb; rintro rfl; exact hn ha⟩
  ly := by
    intro v e hv
    rcases List.mem_append.1 hv with hv | hv
    · exact h.ly v e hv
    · simp at hv
      obtain ⟨rfl, rfl⟩ := hv
      exact (stepL_mem _ _).2 ⟨x, h.ly x d hx, hy⟩
  hd := by rw [keys_app]; exact List.mem_append_left _ h.hd
  cl := by
    intro i hi z hz u hu
    rw [keys_app] at hz ⊢
    have : i < (keys es).length := by rw [keys_len]; have := h.le; omega
    rw [List.getElem?_append_left this] at hz
    exact List.mem_append_left _ (h.cl i hi z hz u hu)
  le := by have := h.le; simp; omega
theorem BI.addK {w : Ln} {p : Nat} {x : Ln} {d : Nat} : ∀ (ys : List Ln) {es : Ds}, BI w p es → (x, d) ∈ es → (∀ y ∈ ys, y ∈ nx x) → BI w p (addK d es ys) ∧ (∃ r, addK d es ys = es ++ r) ∧ ∀ y ∈ ys, y ∈ keys (addK d es ys)
  | [], es, h, _, _ => ⟨h, ⟨[], by simp [Ab.addK]⟩, by simp⟩
  | y :: ys, es, h, hx, hy => by
    rw [addK_cons]
    by_cases e : y ∈ keys es
    · rw [if_pos e]
      obtain ⟨h1, ⟨r, h2⟩, h3⟩ := BI.addK ys h hx fun z hz => hy z (by simp [hz])
      refine ⟨h1, ⟨r, h2⟩, fun z hz => ?_⟩
      rcases List.mem_cons.1 hz with rfl | hz
      · rw [h2]; unfold keys; rw [List.map_append]; exact List.mem_append_left _ e
      · exact h3 z hz
    · rw [if_neg e]
      have hn := h.add hx (hy y (by simp)) e
      obtain ⟨h1, ⟨r, h2⟩, h3⟩ := BI.addK ys hn (List.mem_append_left _ hx) fun z hz => hy z (by simp [hz])
      refine ⟨h1, ⟨(y, d + 1) :: r, by rw [h2]; simp⟩, fun z hz => ?_⟩
      rcases List.mem_cons.1 hz with rfl | hz
      · rw [h2]; unfold keys; simp
      · exact h3 z hz
theorem BI.step {w : Ln} {p : Nat} {es : Ds} (h : BI w p es) {x : Ln} {d : Nat} (hx : es[p]? = some (x, d)) : BI w (p + 1) (Ab.addK d es (nx x)) := by
  obtain ⟨h1, ⟨r, h2⟩, h3⟩ := BI.addK (nx x) h (List.mem_of_getElem? hx) fun y hy => hy
  have hp := (List.getElem?_eq_some_iff.1 hx).1
  refine ⟨h1.nd, h1.ly, h1.hd, fun i hi z hz u hu => ?_, by rw [h2]; simp; omega⟩
  by_cases e : i < p
  · exact h1.cl i e z hz u hu
  · obtain rfl : i = p := by omega
    have : (keys (Ab.addK d es (nx x)))[i]? = some x := by
      rw [h2]; unfold keys
      rw [List.getElem?_map, List.getElem?_append_left hp, hx]; rfl
    rw [hz] at this; cases this
    exact h3 u hu
theorem BI.start (w : Ln) : BI w 0 [(w, 0)] := ⟨by simp [keys], fun v d h => by simp at h; obtain ⟨rfl, rfl⟩ := h; simp [lay], by simp [keys], fun i hi => by omega, by simp⟩
theorem BI.all {w : Ln} {es : Ds} (h : BI w es.length es) : ∀ j v, v ∈ lay w j → v ∈ keys es
  | 0, v, hv => by simp only [lay, List.mem_singleton] at hv; subst hv; exact h.hd
  | j + 1, v, hv => by
    obtain ⟨u, hu, hv⟩ := (stepL_mem _ _).1 hv
    have hk := BI.all h j u hu
    obtain ⟨i, hi⟩ := List.mem_iff_getElem?.1 hk
    have hlt := (List.getElem?_eq_some_iff.1 hi).1
    rw [keys_len] at hlt
    exact h.cl i hlt u hi v hv
theorem mem_keys {es : Ds} {v : Ln} : v ∈ keys es ↔ ∃ d, (v, d) ∈ es := by
  unfold keys
  rw [List.mem_map]
  constructor
  · rintro ⟨⟨a, d⟩, h, rfl⟩; exact ⟨d, h⟩
  · rintro ⟨d, h⟩; exact ⟨(v, d), h, rfl⟩
theorem BI.mem {w : Ln} {es : Ds} (h : BI w es.length es) (v : Ln) (d : Nat) : (v, d) ∈ es ↔ v ∈ lay w d := by
  refine ⟨h.ly v d, fun hv => ?_⟩
  obtain ⟨e, he⟩ := mem_keys.1 (h.all d v hv)
  have := lay_one hv (h.ly v e he)
  subst this; exact he
/-- All lines of some layers, in order. -/
def allS : List (List Ln) → List Ln → List Ln
  | [], acc => acc
  | l :: ls, acc => allS ls (addS l acc)
theorem allS_mem (y : Ln) : ∀ (ls : List (List Ln)) (acc : List Ln), y ∈ allS ls acc ↔ (∃ l ∈ ls, y ∈ l) ∨ y ∈ acc
  | [], acc => by simp [allS]
  | l :: ls, acc => by
    unfold allS
    rw [allS_mem y ls, addS_mem]
    constructor
    · rintro (⟨l', h1, h2⟩ | h | h)
      · exact .inl ⟨l', by simp [h1], h2⟩
      · exact .inl ⟨l, by simp, h⟩
      · exact .inr h
    · rintro (⟨l', h1, h2⟩ | h)
      · rcases List.mem_cons.1 h1 with rfl | h1
        · exact .inr (.inl h2)
        · exact .inl ⟨l', h1, h2⟩
      · exact .inr (.inr h)
theorem allS_srt : ∀ (ls : List (List Ln)) {acc : List Ln}, Srt acc → Srt (allS ls acc)
  | [], _, h => h
  | l :: ls, acc, h => allS_srt ls (addS_srt l h)
/-- A sorted list is what the sorting of a list of the same members, none twice, brings. -/
theorem sort_eq {l L : List Ln} (hn : l.Nodup) (hL : Srt L) (hm : ∀ x, x ∈ l ↔ x ∈ L) : l.mergeSort (fun x y => decide (x ≤ y)) = L := by
  have hp := List.mergeSort_perm l fun x y => decide (x ≤ y)
  have tr : ∀ a b c : Ln, decide (a ≤ b) = true → decide (b ≤ c) = true → decide (a ≤ c) = true := fun a b c h1 h2 => by simp only [decide_eq_true_eq] at *; exact List.le_trans h1 h2
  have tot : ∀ a b : Ln, (decide (a ≤ b) || decide (b ≤ a)) = true := fun a b => by simp only [Bool.or_eq_true, decide_eq_true_eq]; exact List.le_total a b
  have hs := List.pairwise_mergeSort tr tot l
  have hnd : (l.mergeSort fun x y => decide (x ≤ y)).Nodup := hp.nodup_iff.2 hn
  refine Srt.ext ?_ hL fun x => by rw [hp.mem_iff]; exact hm x
  refine (hs.and hnd).imp ?_
  rintro a b ⟨h1, h2⟩
  simp only [decide_eq_true_eq] at h1
  rcases List.le_iff_lt_or_eq.1 h1 with h3 | h3
  · exact h3
  · exact absurd h3 h2
end Go.Proofs.YtcflenomogpdbaaDoor.Ab

/- REACHING by the program: lines gathered in a map, one after the other. -/
namespace Go.Proofs.YtcflenomogpdbaaDoor.Ab
open Go
set_option maxRecDepth 100000
set_option maxHeartbeats 4000000

def encE (p : Ln × Nat) : AV × AV := (.str p.1, .int .i64 p.2)
theorem mfE (x : Ln) : ∀ es : Ds, mfind (.str x) (es.map encE) = some ((es.find? fun p => p.1 == x).map fun p => AV.int .i64 (p.2 : Int))
  | [] => rfl
  | (k, d) :: es => by
    rw [List.map_cons]
    simp only [encE, mfind, keyEq, List.find?_cons]
    by_cases e : x = k
    · subst e; simp
    · have e1 : (x == k) = false := by simpa using e
      have e2 : (k == x) = false := by simpa using Ne.symm e
      rw [e1, e2]
      exact mfE x es
theorem mpE (x : Ln) (d : Nat) : ∀ es : Ds, x ∉ keys es → mput (.str x) (.int .i64 (d : Int)) (es.map encE) = (es ++ [(x, d)]).map encE
  | [], _ => rfl
  | (k, e) :: es, hn => by
    have hne : x ≠ k := by rintro rfl; exact hn (by simp [keys])
    have e1 : (x == k) = false := by simpa using hne
    rw [List.map_cons, List.cons_append, List.map_cons]
    simp only [encE, mput, keyEq, e1]
    rw [mpE x d es (fun h => hn (by unfold keys at h ⊢; rw [List.map_cons]; exact List.mem_cons_of_mem _ h))]
theorem find_in {es : Ds} (hn : (keys es).Nodup) {x : Ln} {d : Nat} (h : (x, d) ∈ es) : es.find? (fun p => p.1 == x) = some (x, d) := by
  induction es with
  | nil => simp at h
  | cons p es ih =>
    unfold keys at hn
    rw [List.map_cons, List.nodup_cons] at hn
    rw [List.find?_cons]
    rcases List.mem_cons.1 h with rfl | h
    · simp
    · have : (p.1 == x) = false := by
        rw [beq_eq_false_iff_ne]
        intro e
        exact hn.1 (List.mem_map.2 ⟨(x, d), h, e.symm⟩)
      rw [this]
      exact ih hn.2 h
theorem find_out {es : Ds} {x : Ln} (h : x ∉ keys es) : es.find? (fun p => p.1 == x) = none := by
  rw [List.find?_eq_none]
  intro p hp
  simp only [beq_iff_eq]
  intro e
  exact h (by unfold keys; exact List.mem_map.2 ⟨p, hp, e⟩)
theorem BI.good {w : Ln} (hg : w.all isSign = true) {p : Nat} {es : Ds} (h : BI w p es) : ∀ v ∈ keys es, v.length = w.length ∧ v.all isSign = true := by
  intro v hv
  obtain ⟨d, hd⟩ := mem_keys.1 hv
  exact (lay_good hg d).2 v (h.ly v d hd)
theorem BI.len {w : Ln} (hg : w.all isSign = true) (hw : w.length ≤ 10) {p : Nat} {es : Ds} (h : BI w p es) : es.length ≤ 59049 := by
  have := nodup_bound (A := [46, 70, 84]) (n := w.length) h.nd (fun x hx => ⟨(h.good hg x hx).1, fun b hb => by
    have := List.all_eq_true.1 (h.good hg x hx).2 b hb
    unfold isSign at this
    simp at this ⊢
    rcases this with h | h
    · rcases h with h | h <;> simp [h]
    · simp [h]⟩)
  rw [keys_len] at this
  exact Nat.le_trans this (Nat.le_trans (Nat.pow_le_pow_right (by simp) hw) (by decide))
theorem BI.dist {w : Ln} (hw : w.length ≤ 10) {p : Nat} {es : Ds} (h : BI w p es) {v : Ln} {d : Nat} (hd : (v, d) ∈ es) : d ≤ 100 := by
  have := lay_mu w d v (h.ly v d hd)
  have := mu_le w hw
  omega
/-- The map holds them. -/
def MapIs (c : Nat) (h : AH) (es : Ds) : Prop := h[c]? = some (.map (es.map encE))
/-- A slice apart from the map and the queue. -/
def SlcQ {α : Type} (esz : Nat) (enc : α → List AV) (c : Nat) (o : AV) (h : AH) (v : AV) (L : List α) : Prop := Slc esz enc h v L ∧ ∀ r, rowOf v = some r → r ≠ c ∧ rowOf o ≠ some r
theorem lp_bf1 {w : Ln} (hg : w.all isSign = true) (hw : w.length ≤ 10) {p : Nat} {x : Ln} {d : Nat} {c : Nat} {b : AH} (hcb : b.length ≤ c) {vm : AV} {R : X → Env → AH → Prop} :
    ∀ (mr mp : List (Int × Int)) (es : Ds) (o : AV) (h : AH), movesB x [84, 70] = mp ++ mr → BI w p es → es[p]? = some (x, d) → MapIs c h es → OwL 1 encS b h o ((keys es).drop p) → Pre b h → SlcQ 2 encM c o h vm (movesB x [84, 70]) →
    (∀ o' h', BI w p (addK d es (mr.map (mkM x))) → (addK d es (mr.map (mkM x)))[p]? = some (x, d) → MapIs c h' (addK d es (mr.map (mkM x))) → OwL 1 encS b h' o' ((keys (addK d es (mr.map (mkM x)))).drop p) → Pre b h' → R (.exit 2) [(3, .map c), (4, o')] h') →
    Cx (.loop lp273_1) [(3, .map c), (4, o), (23, vm), (24, .int .i64 (movesB x [84, 70]).length), (25, .int .i64 mp.length)] h R k k
  | [], mp, es, o, h, hmp, hb, hx, hm, ho, hp, hs, hR => by
    have hl : (movesB x [84, 70]).length = mp.length := by rw [hmp]; simp
    rw [w_loopb (c := lp273_1) (d := lb273_1) rfl]; unfold lb273_1
    rw [hl]
    simp (maxSteps := 1000000) (disch := first | omega | rfl | (simp only [zL, two63, room] <;> omega) | fail) only [↓reduceIte, ↓zP, zW, WOp, evOp, evBin, binI, binSh, binS, evNil, keyIs, keyEq, mkv, AV.cells, AV.sc, optv, bnd, env, put, Env.get, Env.set, Env.del, Env.dels, Env.init, res1, resL, resV, fillP, splice, newRow, Nat.reduceEqDiff, Nat.reduceLT, Nat.reduceLeDiff, Nat.reduceAdd, Nat.reduceMul, Nat.reduceSub, Nat.reduceBEq, reduceCtorEq, ↓zR, zQ, Tr, StA, StT]
    exact hR o h hb hx hm ho hp
  | m :: mr, mp, es, o, h, hmp, hb, hx, hm, ho, hp, hs, hR => by
    have ih := lp_bf1 hg hw (p := p) (x := x) (d := d) hcb (vm := vm) (R := R) mr (mp ++ [m])
    have hmm : m ∈ movesB x [84, 70] := by rw [hmp]; simp
    have hml : (movesB x [84, 70]).length = mp.length + 1 + mr.length := by rw [hmp]; simp; omega
    have hbd := movesB_len x [84, 70]
    have hxm := List.mem_of_getElem? hx
    obtain ⟨hxl, hxg⟩ := hb.good hg x (mem_keys.2 ⟨d, hxm⟩)
    have hsm := hs.1
    rw [hmp] at hsm
    obtain ⟨r1, k1, o1, hv1, hr⟩ := hsm.at hlM
    rw [← hmp, hml] at hv1
    obtain ⟨i', t', rfl, hmv⟩ := movesB_mv hmm
    subst hv1
    rw [hml] at ih ⊢
    have hlt : (mp.length : Int) < ((mp.length + 1 + mr.length : Nat) : Int) := by omega
    have hw1 : (mp.length : Int) + 1 = ((mp ++ [((i' : Int), (t' : Int))]).length : Int) := by simp
    have hpl := (List.getElem?_eq_some_iff.1 hx).1
    have hq : (keys es).drop p = x :: (keys es).drop (p + 1) := by
      have h1 : p < (keys es).length := by rw [keys_len]; exact hpl
      rw [List.drop_eq_getElem_cons h1]
      have h2 : (keys es)[p]? = some x := by unfold keys; rw [List.getElem?_map, hx]; rfl
      rw [List.getElem?_eq_getElem h1] at h2
      cases h2; rfl
    have hoq := ho
    rw [hq] at hoq
    obtain ⟨r2, k2, o2, hv2, hr2⟩ := hoq.slc.at hlS (pre := [])
    rw [List.nil_append] at hv2
    have hr2' : rdRow h r2 k2 (o2 + Int.toNat 0 * 1) 1 = some [.str x] := hr2
    have hpos : (0 : Int) < ((x :: (keys es).drop (p + 1)).length : Int) := by simp only [List.length_cons]; omega
    have hd100 := hb.dist hw hxm
    have hesl := hb.len hg hw
    have hnx : madeB x i' t' ∈ nx x := by rw [nx_eq, hmp]; simp [mkM]
    have hpush := Pre.push h (AO.row (encM ((i' : Int), (t' : Int))) 0 0 false)
    have hr3 := rdRow_pre hpush hr2'
    subst hv2
    simp only [List.map_cons, addK_cons] at hR
    have hmk : mkM x ((i' : Int), (t' : Int)) = madeB x i' t' := rfl
    rw [hmk] at hR
    rw [w_loopb (c := lp273_1) (d := lb273_1) rfl]; unfold lb273_1
    simp (maxSteps := 1000000) (disch := first | omega | rfl | (simp only [zL, two63, room] <;> omega) | fail) only [↓reduceIte, ↓zP, zW, WOp, evOp, evBin, binI, binSh, binS, evNil, keyIs, keyEq, mkv, AV.cells, AV.sc, optv, bnd, env, put, Env.get, Env.set, Env.del, Env.dels, Env.init, res1, resL, resV, fillP, splice, newRow, Nat.reduceEqDiff, Nat.reduceLT, Nat.reduceLeDiff, Nat.reduceAdd, Nat.reduceMul, Nat.reduceSub, Nat.reduceBEq, reduceCtorEq, ↓zR, zQ, Tr, StA, StT, hlt, hr, hpos, hr3]
    refine c_made x i' t' hmv.fst hmv.snd (by omega) ?_
    intro h2 hp2
    have hp1 := hpush.trans hp2
    have hcl : c < h.length := (List.getElem?_eq_some_iff.1 hm).1
    have hm2 : h2[c]? = some (.map (es.map encE)) := by rw [hp1.2 c hcl]; exact hm
    have hmf := mfE (madeB x i' t') es
    have hmx := mfE x es
    rw [find_in hb.nd hxm] at hmx
    have hr4 := rdRow_pre hp2 hr3
    by_cases hin : madeB x i' t' ∈ keys es
    · rw [if_pos hin] at hR
      obtain ⟨e, he⟩ := mem_keys.1 hin
      rw [find_in hb.nd he] at hmf
      simp only [Option.map_some] at hmf
      simp (maxSteps := 1000000) (disch := first | omega | rfl | (simp only [zL, two63, room] <;> omega) | fail) only [↓reduceIte, ↓zP, zW, WOp, evOp, evBin, binI, binSh, binS, evNil, keyIs, keyEq, mkv, AV.cells, AV.sc, optv, bnd, env, put, Env.get, Env.set, Env.del, Env.dels, Env.init, res1, resL, resV, fillP, splice, newRow, Nat.reduceEqDiff, Nat.reduceLT, Nat.reduceLeDiff, Nat.reduceAdd, Nat.reduceMul, Nat.reduceSub, Nat.reduceBEq, reduceCtorEq, ↓zR, zQ, Tr, StA, StT, hm2, hmf]
      simp (maxSteps := 1000000) (disch := first | omega | rfl | (simp only [zL, two63, room] <;> omega) | fail) only [↓reduceIte, ↓zP, zW, WOp, evOp, evBin, binI, binSh, binS, evNil, keyIs, keyEq, mkv, AV.cells, AV.sc, optv, bnd, env, put, Env.get, Env.set, Env.del, Env.dels, Env.init, res1, resL, resV, fillP, splice, newRow, Nat.reduceEqDiff, Nat.reduceLT, Nat.reduceLeDiff, Nat.reduceAdd, Nat.reduceMul, Nat.reduceSub, Nat.reduceBEq, reduceCtorEq, ↓zR, zQ, Tr, StA, StT, hw1]
      rw [w_loopn (c := lp273_1) rfl]
      simp (maxSteps := 1000000) (disch := first | omega | rfl | (simp only [zL, two63, room] <;> omega) | fail) only [↓reduceIte, ↓zP, zW, WOp, evOp, evBin, binI, binSh, binS, evNil, keyIs, keyEq, mkv, AV.cells, AV.sc, optv, bnd, env, put, Env.get, Env.set, Env.del, Env.dels, Env.init, res1, resL, resV, fillP, splice, newRow, Nat.reduceEqDiff, Nat.reduceLT, Nat.reduceLeDiff, Nat.reduceAdd, Nat.reduceMul, Nat.reduceSub, Nat.reduceBEq, reduceCtorEq, ↓zR, zQ, Tr, StA, StT]
      exact ih es _ h2 (by rw [hmp]; simp) hb hx hm2 (ho.pre hp1) (hp.trans hp1) ⟨hs.1.pre hp1, hs.2⟩ hR
    · rw [if_neg hin] at hR
      rw [find_out hin] at hmf
      simp only [Option.map_none] at hmf
      simp only [Option.map_some] at hmx
      have hmp2 := mpE (madeB x i' t') (d + 1) es hin
      have hd1 : (d : Int) + 1 = ((d + 1 : Nat) : Int) := by omega
      have hkd : (keys (es ++ [(madeB x i' t', d + 1)])).drop p = (keys es).drop p ++ [madeB x i' t'] := by
        rw [keys_app, List.drop_append_of_le_length (by rw [keys_len]; omega)]
      have hbn := hb.add hxm hnx hin
      have hxn : (es ++ [(madeB x i' t', d + 1)])[p]? = some (x, d) := by rw [List.getElem?_append_left hpl]; exact hx
      have hc2 : c < h2.length := Nat.lt_of_lt_of_le hcl hp1.1
      have hne : ∀ r, rowOf (AV.slice r2 k2 o2 (x :: (keys es).drop (p + 1)).length 1) = some r → r ≠ c := by
        intro r hr e
        cases hr
        have h1 := rdRow_pre hp2 hr3
        unfold rdRow at h1
        rw [e, hm2] at h1
        cases h1
      have hvc : r1 ≠ c := (hs.2 r1 rfl).1
      have ho3 : OwL 1 encS b (h2.set c (.map ((es ++ [(madeB x i' t', d + 1)]).map encE))) (.slice r2 k2 o2 (x :: (keys es).drop (p + 1)).length 1) ((keys es).drop p) := own_row (ho.pre hp1) fun r hr => by rw [List.getElem?_set, if_neg (Ne.symm (hne r hr))]
      have hp3 : Pre b (h2.set c (.map ((es ++ [(madeB x i' t', d + 1)]).map encE))) := (hp.trans hp1).set hcb
      have hm3 : (h2.set c (.map ((es ++ [(madeB x i' t', d + 1)]).map encE)))[c]? = some (.map ((es ++ [(madeB x i' t', d + 1)]).map encE)) := by rw [List.getElem?_set, if_pos rfl, if_pos hc2]
      have hs3 : Slc 2 encM (h2.set c (.map ((es ++ [(madeB x i' t', d + 1)]).map encE))) (.slice r1 k1 o1 (mp.length + 1 + mr.length) 2) (movesB x [84, 70]) := (hs.1.pre hp1).stay fun r hr => by cases hr; rw [List.getElem?_set, if_neg (Ne.symm hvc)]
      have hlen3 : (h2.set c (.map ((es ++ [(madeB x i' t', d + 1)]).map encE))).length = h2.length := by simp
      have hr5 : rdRow (h2.set c (.map ((es ++ [(madeB x i' t', d + 1)]).map encE))) r2 k2 (o2 + Int.toNat 0 * 1) 1 = some [.str x] := by
        have := hr4
        unfold rdRow at this ⊢
        rw [List.getElem?_set, if_neg (Ne.symm (hne r2 rfl))]
        exact this
      have hset : h2.set c (.map (mput (.str (madeB x i' t')) (.int .i64 ((d + 1 : Nat) : Int)) (es.map encE))) = h2.set c (.map ((es ++ [(madeB x i' t', d + 1)]).map encE)) := by rw [hmp2]
      generalize hh3 : h2.set c (.map ((es ++ [(madeB x i' t', d + 1)]).map encE)) = h3 at *
      have hpx := Pre.push h3 (AO.row [.str (madeB x i' t')] 0 0 false)
      obtain ⟨o5, h5, ha, ho5, hp5⟩ := apL hlS scS (ho3.pre hpx) (hp3.trans hpx) (madeB x i' t') (by rw [List.length_drop, keys_len]; omega)
      obtain ⟨f1, f2, f3⟩ := apRow_fr ha
      rw [← hkd] at ho5
      rw [List.length_cons] at ha
      simp (maxSteps := 1000000) (disch := first | omega | rfl | (simp only [zL, two63, room] <;> omega) | fail) only [↓reduceIte, ↓zP, zW, WOp, evOp, evBin, binI, binSh, binS, evNil, keyIs, keyEq, mkv, AV.cells, AV.sc, optv, bnd, env, put, Env.get, Env.set, Env.del, Env.dels, Env.init, res1, resL, resV, fillP, splice, newRow, Nat.reduceEqDiff, Nat.reduceLT, Nat.reduceLeDiff, Nat.reduceAdd, Nat.reduceMul, Nat.reduceSub, Nat.reduceBEq, reduceCtorEq, ↓zR, zQ, Tr, StA, StT, hm2, hmf, hpos, hr4, hmx, hd1, hset, ha]
      simp (maxSteps := 1000000) (disch := first | omega | rfl | (simp only [zL, two63, room] <;> omega) | fail) only [↓reduceIte, ↓zP, zW, WOp, evOp, evBin, binI, binSh, binS, evNil, keyIs, keyEq, mkv, AV.cells, AV.sc, optv, bnd, env, put, Env.get, Env.set, Env.del, Env.dels, Env.init, res1, resL, resV, fillP, splice, newRow, Nat.reduceEqDiff, Nat.reduceLT, Nat.reduceLeDiff, Nat.reduceAdd, Nat.reduceMul, Nat.reduceSub, Nat.reduceBEq, reduceCtorEq, ↓zR, zQ, Tr, StA, StT, hw1]
      rw [w_loopn (c := lp273_1) rfl]
      simp (maxSteps := 1000000) (disch := first | omega | rfl | (simp only [zL, two63, room] <;> omega) | fail) only [↓reduceIte, ↓zP, zW, WOp, evOp, evBin, binI, binSh, binS, evNil, keyIs, keyEq, mkv, AV.cells, AV.sc, optv, bnd, env, put, Env.get, Env.set, Env.del, Env.dels, Env.init, res1, resL, resV, fillP, splice, newRow, Nat.reduceEqDiff, Nat.reduceLT, Nat.reduceLeDiff, Nat.reduceAdd, Nat.reduceMul, Nat.reduceSub, Nat.reduceBEq, reduceCtorEq, ↓zR, zQ, Tr, StA, StT]
      refine ih (es ++ [(madeB x i' t', d + 1)]) o5 h5 (by rw [hmp]; simp) hbn hxn ?_ ho5 hp5 ⟨?_, fun r hr => ?_⟩ hR
      · unfold MapIs
        rw [f1 c (by simp; omega) (fun hrc => hne c hrc rfl), hpx.2 c (by omega)]
        exact hm3
      · refine (hs3.pre hpx).stay fun r hr => ?_
        have h1 := (hs3.pre hpx).lt hr
        exact f1 r h1 ((hs.2 r hr).2)
      · refine ⟨(hs.2 r hr).1, fun e => ?_⟩
        rcases f3 r e with h1 | h1
        · exact (hs.2 r hr).2 h1
        · have := hs3.lt hr
          simp at h1; omega
theorem own_tail {b h : AH} {r k off n : Nat} {x : Ln} {L : List Ln} (ho : OwL 1 encS b h (.slice r k off (n + 1) 1) (x :: L)) : OwL 1 encS b h (.slice r k (off + 1) n 1) L := by
  unfold OwL Own at ho ⊢
  simp only [List.length_cons, List.flatMap_cons] at ho ⊢
  obtain ⟨_, h2, h3, h4, cells, fl, h5, h6, h7, h8⟩ := ho
  have hfl := flat_len hlS L
  refine ⟨trivial, by omega, by rw [hfl], h4, cells, fl, h5, h6, by omega, ?_⟩
  rw [← List.drop_drop, h8]
  rfl
theorem lp_bf0 {w : Ln} (hg : w.all isSign = true) (hw : w.length ≤ 10) {c : Nat} {b : AH} (hcb : b.length ≤ c) {R : X → Env → AH → Prop} :
    ∀ (d p : Nat) (es : Ds) (o : AV) (h : AH), p + d = 59050 → BI w p es → MapIs c h es → OwL 1 encS b h o ((keys es).drop p) → Pre b h →
    (∀ h' es', BI w es'.length es' → MapIs c h' es' → Pre b h' → R (.exit 0) [(3, .map c)] h') → Cx (.loop lp273_0) [(3, .map c), (4, o)] h R k k
  | 0, p, es, o, h, hd, hb, hm, ho, hp, hR => by
    have h1 := hb.len hg hw
    have h2 := hb.le
    omega
  | d + 1, p, es, o, h, hd, hb, hm, ho, hp, hR => by
    have hl := hb.len hg hw
    have hvo := fun g => Slc.lenV (ho.slc) (g := g) (ρ := fun _ => _) (x := .t 0) rfl; simp only [evOp] at hvo
    have hdl : ((keys es).drop p).length = es.length - p := by rw [List.length_drop, keys_len]
    by_cases hpe : p = es.length
    · subst hpe
      have hz : (((keys es).drop es.length).length : Int) = 0 := by rw [hdl]; omega
      rw [w_loopb (c := lp273_0) (d := lb273_0) rfl]; unfold lb273_0
      simp (maxSteps := 1000000) (disch := first | omega | rfl | (simp only [zL, two63, room] <;> omega) | fail) only [↓reduceIte, ↓zP, zW, WOp, evOp, evBin, binI, binSh, binS, evNil, keyIs, keyEq, mkv, AV.cells, AV.sc, optv, bnd, env, put, Env.get, Env.set, Env.del, Env.dels, Env.init, res1, resL, resV, fillP, splice, newRow, Nat.reduceEqDiff, Nat.reduceLT, Nat.reduceLeDiff, Nat.reduceAdd, Nat.reduceMul, Nat.reduceSub, Nat.reduceBEq, reduceCtorEq, ↓zR, zQ, Tr, StA, StT, hvo, hz]
      exact hR h es hb hm hp
    · have hlt : p < es.length := by have := hb.le; omega
      have ih := lp_bf0 hg hw hcb (R := R) d (p + 1)
      obtain ⟨⟨x, dx⟩, hx⟩ : ∃ e, es[p]? = some e := ⟨es[p], List.getElem?_eq_getElem hlt⟩
      have hxm := List.mem_of_getElem? hx
      obtain ⟨hxl, hxg⟩ := hb.good hg x (mem_keys.2 ⟨dx, hxm⟩)
      have hq : ∀ {es' : Ds}, es'[p]? = some (x, dx) → (keys es').drop p = x :: (keys es').drop (p + 1) := by
        intro es' hx'
        have h1 : p < (keys es').length := by rw [keys_len]; exact (List.getElem?_eq_some_iff.1 hx').1
        rw [List.drop_eq_getElem_cons h1]
        have h2 : (keys es')[p]? = some x := by unfold keys; rw [List.getElem?_map, hx']; rfl
        rw [List.getElem?_eq_getElem h1] at h2
        cases h2; rfl
      have hoq := ho
      rw [hq hx] at hoq
      obtain ⟨r2, k2, o2, hv2, hr2⟩ := hoq.slc.at hlS (pre := [])
      rw [List.nil_append] at hv2
      have hr2' : rdRow h r2 k2 (o2 + Int.toNat 0 * 1) 1 = some [.str x] := hr2
      have hpos : (0 : Int) < ((x :: (keys es).drop (p + 1)).length : Int) := by simp only [List.length_cons]; omega
      subst hv2
      rw [w_loopb (c := lp273_0) (d := lb273_0) rfl]; unfold lb273_0
      simp (maxSteps := 1000000) (disch := first | omega | rfl | (simp only [zL, two63, room] <;> omega) | fail) only [↓reduceIte, ↓zP, zW, WOp, evOp, evBin, binI, binSh, binS, evNil, keyIs, keyEq, mkv, AV.cells, AV.sc, optv, bnd, env, put, Env.get, Env.set, Env.del, Env.dels, Env.init, res1, resL, resV, fillP, splice, newRow, Nat.reduceEqDiff, Nat.reduceLT, Nat.reduceLeDiff, Nat.reduceAdd, Nat.reduceMul, Nat.reduceSub, Nat.reduceBEq, reduceCtorEq, ↓zR, zQ, Tr, StA, StT, hpos, hr2']
      refine c_moves x [84, 70] (by omega) ?_
      intro vm h2 hom hp2
      have hom' : OwL 2 encM h h2 vm (movesB x [84, 70]) := hom
      have hvm := fun g => Slc.lenV (hom'.slc) (g := g) (ρ := fun _ => _) (x := .t 0) rfl; simp only [evOp] at hvm
      simp (maxSteps := 1000000) (disch := first | omega | rfl | (simp only [zL, two63, room] <;> omega) | fail) only [↓reduceIte, ↓zP, zW, WOp, evOp, evBin, binI, binSh, binS, evNil, keyIs, keyEq, mkv, AV.cells, AV.sc, optv, bnd, env, put, Env.get, Env.set, Env.del, Env.dels, Env.init, res1, resL, resV, fillP, splice, newRow, Nat.reduceEqDiff, Nat.reduceLT, Nat.reduceLeDiff, Nat.reduceAdd, Nat.reduceMul, Nat.reduceSub, Nat.reduceBEq, reduceCtorEq, ↓zR, zQ, Tr, StA, StT, hvm]
      have hcl : c < h.length := (List.getElem?_eq_some_iff.1 hm).1
      refine lp_bf1 hg hw (p := p) (x := x) (d := dx) hcb (movesB x [84, 70]) [] es _ h2 rfl hb hx (by unfold MapIs; rw [hp2.2 c hcl]; exact hm) (ho.pre hp2) (hp.trans hp2) ⟨hom'.slc, fun r hr => ?_⟩ ?_
      · have h1 := own_ge hom' hr
        refine ⟨by omega, fun e => ?_⟩
        have h2 := own_lt ho e
        omega
      intro o3 h3 hb3 hx3 hm3 ho3 hp3
      have hst := hb.step hx
      rw [nx_eq] at hst
      have hoq3 := ho3
      rw [hq hx3] at hoq3
      obtain ⟨r4, k4, o4, hv4, _⟩ := hoq3.slc.at hlS (pre := [])
      rw [List.nil_append] at hv4
      have hl3 := hb3.len hg hw
      have hone : (1 : Int) ≤ ((x :: (keys (addK dx es ((movesB x [84, 70]).map (mkM x)))).drop (p + 1)).length : Int) := by simp only [List.length_cons]; omega
      subst hv4
      simp (maxSteps := 1000000) (disch := first | omega | rfl | (simp only [zL, two63, room] <;> omega) | fail) only [↓reduceIte, ↓zP, zW, WOp, evOp, evBin, binI, binSh, binS, evNil, keyIs, keyEq, mkv, AV.cells, AV.sc, optv, bnd, env, put, Env.get, Env.set, Env.del, Env.dels, Env.init, res1, resL, resV, fillP, splice, newRow, Nat.reduceEqDiff, Nat.reduceLT, Nat.reduceLeDiff, Nat.reduceAdd, Nat.reduceMul, Nat.reduceSub, Nat.reduceBEq, reduceCtorEq, ↓zR, zQ, Tr, StA, StT, hone]
      rw [w_loopn (c := lp273_0) rfl]
      simp (maxSteps := 1000000) (disch := first | omega | rfl | (simp only [zL, two63, room] <;> omega) | fail) only [↓reduceIte, ↓zP, zW, WOp, evOp, evBin, binI, binSh, binS, evNil, keyIs, keyEq, mkv, AV.cells, AV.sc, optv, bnd, env, put, Env.get, Env.set, Env.del, Env.dels, Env.init, res1, resL, resV, fillP, splice, newRow, Nat.reduceEqDiff, Nat.reduceLT, Nat.reduceLeDiff, Nat.reduceAdd, Nat.reduceMul, Nat.reduceSub, Nat.reduceBEq, reduceCtorEq, ↓zR, zQ, Tr, StA, StT]
      refine ih _ _ h3 (by omega) hst hm3 ?_ hp3 hR
      have ht := own_tail (b := b) (h := h3) (r := r4) (k := k4) (off := o4) (n := ((keys (addK dx es ((movesB x [84, 70]).map (mkM x)))).drop (p + 1)).length) hoq3
      simpa using ht
theorem c_reached (w : Ln) (hg : w.all isSign = true) (hw : w.length ≤ 10) {h : AH} {post : AV → AH → Prop} (hp : ∀ c h' es, BI w es.length es → MapIs c h' es → h.length ≤ c → Pre h h' → post (.map c) h') : S 273 [.str w] h post k := by
  have p1 := Pre.push h (AO.map [(.str w, .int .i64 0)])
  have p2 := Pre.push (h ++ [AO.map [(.str w, .int .i64 0)]]) (AO.row [.str w] 0 0 false)
  have hm0 : (h ++ [AO.map []])[h.length]? = some (AO.map []) := by simp
  have hmf : mfind (.str w) [] = some none := rfl
  have hset : List.set (h ++ [AO.map []]) h.length (AO.map (mput (.str w) (.int .i64 0) [])) = h ++ [AO.map [(.str w, .int .i64 0)]] := by simp [mput]
  refine S_of rfl T273 ?_; unfold fi273
  simp (maxSteps := 1000000) (disch := first | omega | rfl | (simp only [zL, two63, room] <;> omega) | fail) only [↓reduceIte, ↓zP, zW, WOp, evOp, evBin, binI, binSh, binS, evNil, keyIs, keyEq, mkv, AV.cells, AV.sc, optv, bnd, env, put, Env.get, Env.set, Env.del, Env.dels, Env.init, res1, resL, resV, fillP, splice, newRow, Nat.reduceEqDiff, Nat.reduceLT, Nat.reduceLeDiff, Nat.reduceAdd, Nat.reduceMul, Nat.reduceSub, Nat.reduceBEq, reduceCtorEq, ↓zR, zQ, Tr, StA, StT, hm0, hmf, hset]
  refine lp_bf0 hg hw (c := h.length) (b := h) (Nat.le_refl _) 59050 0 [(w, 0)] _ _ (by omega) (BI.start w) ?_ ?_ (p1.trans p2) ?_
  · unfold MapIs
    rw [p2.2 h.length (by simp)]
    simp [encE]
  · unfold OwL Own
    exact ⟨rfl, rfl, rfl, by simp, [.str w], 0, by simp, Nat.le_refl _, rfl, rfl⟩
  intro h' es' hb hm hp'
  simp (maxSteps := 1000000) (disch := first | omega | rfl | (simp only [zL, two63, room] <;> omega) | fail) only [↓reduceIte, ↓zP, zW, WOp, evOp, evBin, binI, binSh, binS, evNil, keyIs, keyEq, mkv, AV.cells, AV.sc, optv, bnd, env, put, Env.get, Env.set, Env.del, Env.dels, Env.init, res1, resL, resV, fillP, splice, newRow, Nat.reduceEqDiff, Nat.reduceLT, Nat.reduceLeDiff, Nat.reduceAdd, Nat.reduceMul, Nat.reduceSub, Nat.reduceBEq, reduceCtorEq, ↓zR, zQ, Tr, StA, StT]
  exact hp h.length h' es' hb hm (Nat.le_refl _) hp'
end Go.Proofs.YtcflenomogpdbaaDoor.Ab

/- EXCHANGES of the reference: first and last lines, how many plays lead to the last line, by what is known already. -/
namespace Go.Proofs.YtcflenomogpdbaaDoor.Ab
open Go
set_option maxRecDepth 100000
set_option maxHeartbeats 4000000

theorem lp_liTimes (b : UInt8) {h : AH} {R : X → Env → AH → Prop} : ∀ (n : Nat) (out : Ln), out.length + n ≤ 1000 → R (.exit 0) [(5, .str (out ++ List.replicate n b))] h →
    Cx (.loop lp124_0) [(0, .str [b]), (1, .int .i64 n), (5, .str out)] h R k k
  | 0, out, hn, hR => by
    rw [w_loopb (c := lp124_0) (d := lb124_0) rfl]; unfold lb124_0
    simp (maxSteps := 1000000) (disch := first | omega | rfl | (simp only [zL, two63, room] <;> omega) | fail) only [↓reduceIte, ↓zP, zW, WOp, evOp, evBin, binI, binSh, binS, evNil, keyIs, keyEq, mkv, AV.cells, AV.sc, optv, bnd, env, put, Env.get, Env.set, Env.del, Env.dels, Env.init, res1, resL, resV, fillP, splice, newRow, Nat.reduceEqDiff, Nat.reduceLT, Nat.reduceLeDiff, Nat.reduceAdd, Nat.reduceMul, Nat.reduceSub, Nat.reduceBEq, reduceCtorEq, ↓zR, zQ, Tr, StA, StT]
    simpa using hR
  | n + 1, out, hn, hR => by
    have ih := lp_liTimes b (h := h) (R := R) n (out ++ [b])
    have hg : ((n + 1 : Nat) : Int) > 0 := by omega
    have hs : ((n + 1 : Nat) : Int) - 1 = (n : Int) := by omega
    have hl : out.length + [b].length ≤ two63 := by simp only [two63, List.length_cons, List.length_nil]; omega
    rw [w_loopb (c := lp124_0) (d := lb124_0) rfl]; unfold lb124_0
    simp (maxSteps := 1000000) (disch := first | omega | rfl | (simp only [zL, two63, room] <;> omega) | fail) only [↓reduceIte, ↓zP, zW, WOp, evOp, evBin, binI, binSh, binS, evNil, keyIs, keyEq, mkv, AV.cells, AV.sc, optv, bnd, env, put, Env.get, Env.set, Env.del, Env.dels, Env.init, res1, resL, resV, fillP, splice, newRow, Nat.reduceEqDiff, Nat.reduceLT, Nat.reduceLeDiff, Nat.reduceAdd, Nat.reduceMul, Nat.reduceSub, Nat.reduceBEq, reduceCtorEq, ↓zR, zQ, Tr, StA, StT, hg, hs, hl]
    rw [w_loopn (c := lp124_0) rfl]
    simp (maxSteps := 1000000) (disch := first | omega | rfl | (simp only [zL, two63, room] <;> omega) | fail) only [↓reduceIte, ↓zP, zW, WOp, evOp, evBin, binI, binSh, binS, evNil, keyIs, keyEq, mkv, AV.cells, AV.sc, optv, bnd, env, put, Env.get, Env.set, Env.del, Env.dels, Env.init, res1, resL, resV, fillP, splice, newRow, Nat.reduceEqDiff, Nat.reduceLT, Nat.reduceLeDiff, Nat.reduceAdd, Nat.reduceMul, Nat.reduceSub, Nat.reduceBEq, reduceCtorEq, ↓zR, zQ, Tr, StA, StT]
    refine ih (by simp; omega) ?_
    rw [List.append_assoc, List.singleton_append, ← List.replicate_succ]
    exact hR
theorem e_liTimes (b : UInt8) (n : Nat) (hn : n ≤ 1000) {h : AH} {post : AV → AH → Prop} : S 124 [.str [b], .int .i64 n] h post k = post (.str (List.replicate n b)) h := by
  refine S_eq fun post hp => ?_
  refine S_of rfl T124 ?_; unfold fi124
  simp (maxSteps := 1000000) (disch := first | omega | rfl | (simp only [zL, two63, room] <;> omega) | fail) only [↓reduceIte, ↓zP, zW, WOp, evOp, evBin, binI, binSh, binS, evNil, keyIs, keyEq, mkv, AV.cells, AV.sc, optv, bnd, env, put, Env.get, Env.set, Env.del, Env.dels, Env.init, res1, resL, resV, fillP, splice, newRow, Nat.reduceEqDiff, Nat.reduceLT, Nat.reduceLeDiff, Nat.reduceAdd, Nat.reduceMul, Nat.reduceSub, Nat.reduceBEq, reduceCtorEq, ↓zR, zQ, Tr, StA, StT]
  refine lp_liTimes b n [] (by simpa using hn) ?_
  simp (maxSteps := 1000000) (disch := first | omega | rfl | (simp only [zL, two63, room] <;> omega) | fail) only [↓reduceIte, ↓zP, zW, WOp, evOp, evBin, binI, binSh, binS, evNil, keyIs, keyEq, mkv, AV.cells, AV.sc, optv, bnd, env, put, Env.get, Env.set, Env.del, Env.dels, Env.init, res1, resL, resV, fillP, splice, newRow, Nat.reduceEqDiff, Nat.reduceLT, Nat.reduceLeDiff, Nat.reduceAdd, Nat.reduceMul, Nat.reduceSub, Nat.reduceBEq, reduceCtorEq, ↓zR, zQ, Tr, StA, StT]
  exact hp
theorem e_liFirst (t g f : Nat) (ht : t ≤ 100) (hg : g ≤ 100) (hf : f ≤ 100) {h : AH} {post : AV → AH → Prop} : S 100 [.int .i64 t, .int .i64 g, .int .i64 f] h post k = post (.str (lnF t g f)) h := by
  refine S_eq fun post hp => ?_
  have l1 : (List.replicate t (84 : UInt8)).length + (List.replicate g (46 : UInt8)).length ≤ two63 := by simp only [List.length_replicate, two63]; omega
  have l2 : (List.replicate t (84 : UInt8) ++ List.replicate g (46 : UInt8)).length + (List.replicate f (70 : UInt8)).length ≤ two63 := by simp only [List.length_append, List.length_replicate, two63]; omega
  refine S_of rfl T100 ?_; unfold fi100
  simp (maxSteps := 1000000) (disch := first | omega | rfl | (simp only [zL, two63, room] <;> omega) | fail) only [↓reduceIte, ↓zP, zW, WOp, evOp, evBin, binI, binSh, binS, evNil, keyIs, keyEq, mkv, AV.cells, AV.sc, optv, bnd, env, put, Env.get, Env.set, Env.del, Env.dels, Env.init, res1, resL, resV, fillP, splice, newRow, Nat.reduceEqDiff, Nat.reduceLT, Nat.reduceLeDiff, Nat.reduceAdd, Nat.reduceMul, Nat.reduceSub, Nat.reduceBEq, reduceCtorEq, ↓zR, zQ, Tr, StA, StT, e_liTimes 84 t (by omega), e_liTimes 46 g (by omega), e_liTimes 70 f (by omega), l1, l2]
  exact hp
theorem e_liLast (w : Ln) (hw : w.length ≤ 100) {h : AH} {post : AV → AH → Prop} : S 251 [.str w] h post k = post (.str (lnL w)) h := by
  refine S_eq fun post hp => ?_
  have ht := List.count_le_length (a := (84 : UInt8)) (l := w)
  have hg := List.count_le_length (a := (46 : UInt8)) (l := w)
  have hf := List.count_le_length (a := (70 : UInt8)) (l := w)
  have l1 : (List.replicate (w.count 70) (70 : UInt8)).length + (List.replicate (w.count 46) (46 : UInt8)).length ≤ two63 := by simp only [List.length_replicate, two63]; omega
  have l2 : (List.replicate (w.count 70) (70 : UInt8) ++ List.replicate (w.count 46) (46 : UInt8)).length + (List.replicate (w.count 84) (84 : UInt8)).length ≤ two63 := by simp only [List.length_append, List.length_replicate, two63]; omega
  refine S_of rfl T251 ?_; unfold fi251
  simp (maxSteps := 1000000) (disch := first | omega | rfl | (simp only [zL, two63, room] <;> omega) | fail) only [↓reduceIte, ↓zP, zW, WOp, evOp, evBin, binI, binSh, binS, evNil, keyIs, keyEq, mkv, AV.cells, AV.sc, optv, bnd, env, put, Env.get, Env.set, Env.del, Env.dels, Env.init, res1, resL, resV, fillP, splice, newRow, Nat.reduceEqDiff, Nat.reduceLT, Nat.reduceLeDiff, Nat.reduceAdd, Nat.reduceMul, Nat.reduceSub, Nat.reduceBEq, reduceCtorEq, ↓zR, zQ, Tr, StA, StT, e_liCountT w (by omega), e_liCountF w (by omega), e_liCountD w (by omega), e_liTimes 84 (w.count 84) (by omega), e_liTimes 46 (w.count 46) (by omega), e_liTimes 70 (w.count 70) (by omega), l1, l2]
  exact hp

/-! ### Moves keep what a line has -/
theorem count_made' {w : Ln} {i t : Nat} (h : Mv w i t) (x : UInt8) : (madeB w i t).count x = w.count x := by
  have hne := h.ne
  obtain ⟨h1, h2, h3, h4⟩ := h
  have e1 := count_set (b := w.getD i 0) (x := x) (l := w) (i := t) h2
  have e2 := count_set (b := 46) (x := x) (l := w.set t (w.getD i 0)) (i := i) (by simpa using h1)
  rw [getD_setL h2, if_neg (Ne.symm hne)] at e2
  rw [h3] at e1
  unfold madeB
  omega
theorem lnL_made {w : Ln} {i t : Nat} (h : Mv w i t) : lnL (madeB w i t) = lnL w := by
  unfold lnL
  rw [count_made' h, count_made' h, count_made' h]

/-! ### What is known -/
def OkW (gl : Ln) (w : Ln) : Prop := lnL w = gl ∧ w.all isSign = true ∧ w.length = gl.length ∧ gl.length ≤ 8
theorem OkW.made {gl w : Ln} (ho : OkW gl w) {i t : Nat} (h : Mv w i t) : OkW gl (madeB w i t) := ⟨by rw [lnL_made h]; exact ho.1, signs_made h ho.2.1, by rw [madeB_length]; exact ho.2.2.1, ho.2.2.2⟩
def KW (gl : Ln) (c : Nat) (h : AH) (K : List Ln) : Prop := ∃ v1 v2 W, h[c]? = some (.row [v1, v2] 0 0 false) ∧ OwL 1 encS [] h v1 K ∧ OwL 1 encI [] h v2 W ∧ rowOf v1 ≠ some c ∧ rowOf v2 ≠ some c ∧ (∀ r, rowOf v1 = some r → rowOf v2 ≠ some r) ∧
  K.length = W.length ∧ K.Nodup ∧ (∀ x ∈ K, OkW gl x) ∧ ∀ (i : Nat) x b, K[i]? = some x → W[i]? = some b → b = (cE gl x : Nat)
theorem KW.lt {gl : Ln} {c : Nat} {h : AH} {K : List Ln} (hk : KW gl c h K) : c < h.length := by
  obtain ⟨_, _, _, h1, _⟩ := hk
  exact (List.getElem?_eq_some_iff.1 h1).1
theorem KW.gr_lt {gl : Ln} {c : Nat} {h : AH} {K : List Ln} (hk : KW gl c h K) {i : Nat} (hg : gr c h i) : i < h.length := by
  have hlt := hk.lt
  obtain ⟨v1, v2, W, h1, h2, h3, _⟩ := hk
  rcases hg with rfl | ⟨u1, u2, h4, h5⟩
  · exact hlt
  · rw [h1] at h4
    simp only [Option.some.injEq, AO.row.injEq, List.cons.injEq, and_true, true_and] at h4
    obtain ⟨rfl, rfl⟩ := h4
    rcases h5 with h5 | h5
    · exact own_lt h2 h5
    · exact own_lt h3 h5
theorem KW.pre {gl : Ln} {c : Nat} {h h' : AH} {K : List Ln} (hk : KW gl c h K) (hp : Pre h h') : KW gl c h' K := by
  have hlt := hk.lt
  obtain ⟨v1, v2, W, h1, h2, h3, h4⟩ := hk
  exact ⟨v1, v2, W, by rw [hp.2 c hlt]; exact h1, h2.pre hp, h3.pre hp, h4⟩
theorem KW.fresh {gl : Ln} {c : Nat} {h h' : AH} {K : List Ln} (hk : KW gl c h K) (hp : Pre h h') {r : Nat} (hr : h.length ≤ r) : ¬ gr c h' r := by
  rw [gr_pre hp hk.lt]
  intro hg
  have := hk.gr_lt hg
  omega
theorem OwL.slcW {α : Type} {esz : Nat} {enc : α → List AV} {gl : Ln} {c : Nat} {h h' : AH} {v : AV} {L : List α} {K : List Ln} (ho : OwL esz enc h h' v L) (hk : KW gl c h K) (hp : Pre h h') : SlcG esz enc c h' v L :=
  ⟨ho.slc, fun _ hr => hk.fresh hp (own_ge ho hr)⟩
theorem KW.few {gl : Ln} {c : Nat} {h : AH} {K : List Ln} (hk : KW gl c h K) : K.length ≤ 6561 := by
  obtain ⟨_, _, _, _, _, _, _, _, _, _, hnd, hok, _⟩ := hk
  by_cases hK : K = []
  · subst hK; simp
  obtain ⟨x0, l, rfl⟩ := List.exists_cons_of_ne_nil hK
  have h8 := (hok x0 (by simp)).2.2.2
  have := nodup_bound (A := [46, 70, 84]) (n := gl.length) hnd (fun x hx => ⟨(hok x hx).2.2.1, fun b hb => by
    have := List.all_eq_true.1 (hok x hx).2.1 b hb
    unfold isSign at this
    simp at this ⊢
    rcases this with h | h
    · rcases h with h | h <;> simp [h]
    · simp [h]⟩)
  exact Nat.le_trans this (Nat.le_trans (Nat.pow_le_pow_right (by simp) h8) (by decide))
def CameW (n : Nat) (K K' : List Ln) : Prop := ∀ x ∈ K', x ∈ K ∨ mu x < n
theorem CameW.refl (n : Nat) (K : List Ln) : CameW n K K := fun _ h => .inl h
theorem CameW.trans {n : Nat} {a b c : List Ln} (x : CameW n a b) (y : CameW n b c) : CameW n a c := fun k hk => by
  rcases y k hk with h | h
  · exact x k h
  · exact .inr h
theorem CameW.mono {n m : Nat} {a b : List Ln} (x : CameW n a b) (hm : n ≤ m) : CameW m a b := fun k hk => by
  rcases x k hk with h | h
  · exact .inl h
  · exact .inr (by omega)
/-- The search among what is known. -/
theorem lp_ef0 {c : Nat} {h : AH} {v1 v2 : AV} {K : List Ln} {W : List Int} (hrow : h[c]? = some (.row [v1, v2] 0 0 false)) (h1 : Slc 1 encS h v1 K) (h2 : Slc 1 encI h v2 W) (hlen : K.length = W.length) (hK : K.length < 2 ^ 39) (key : Ln) {R : X → Env → AH → Prop} :
    ∀ (rest pre : List Ln), K = pre ++ rest → (∀ (i : Nat) b, K[i]? = some key → W[i]? = some b → R .ret [(4, .int .i64 b)] h) → (key ∉ rest → R (.exit 0) [(0, .ptr c 0 0 2), (1, .str key)] h) →
    Cx (.loop lp244_0) [(0, .ptr c 0 0 2), (1, .str key), (13, v1), (14, .int .i64 K.length), (15, .int .i64 pre.length)] h R k k
  | [], pre, hpre, hf, hR => by
    subst hpre
    rw [w_loopb (c := lp244_0) (d := lb244_0) rfl]; unfold lb244_0
    simp only [List.append_nil]
    simp (maxSteps := 1000000) (disch := first | omega | rfl | (simp only [zL, two63, room] <;> omega) | fail) only [↓reduceIte, ↓zP, zW, WOp, evOp, evBin, binI, binSh, binS, evNil, keyIs, keyEq, mkv, AV.cells, AV.sc, optv, bnd, env, put, Env.get, Env.set, Env.del, Env.dels, Env.init, res1, resL, resV, fillP, splice, newRow, Nat.reduceEqDiff, Nat.reduceLT, Nat.reduceLeDiff, Nat.reduceAdd, Nat.reduceMul, Nat.reduceSub, Nat.reduceBEq, reduceCtorEq, ↓zR, zQ, Tr, StA, StT]
    exact hR (by simp)
  | x :: rest, pre, hpre, hf, hR => by
    have ih := lp_ef0 hrow h1 h2 hlen hK key (R := R) rest (pre ++ [x])
    have hrd : rdRow h c 0 1 1 = some [v2] := by simp [rdRow, hrow]
    subst hpre
    obtain ⟨r1, k1, o1, rfl, hr⟩ := h1.at hlS
    have hl : (pre ++ x :: rest).length = pre.length + 1 + rest.length := by simp; omega
    obtain ⟨b, hb⟩ : ∃ b, W[pre.length]? = some b := ⟨W[pre.length]'(by omega), by simp⟩
    have hW : W = W.take pre.length ++ b :: W.drop (pre.length + 1) := by
      have hlt : pre.length < W.length := by omega
      have := List.getElem_of_getElem? hb
      obtain ⟨_, e⟩ := this
      rw [← e, ← List.drop_eq_getElem_cons, List.take_append_drop]
    have hwl : (W.take pre.length).length = pre.length := by simp; omega
    rw [hW] at h2
    obtain ⟨r2, k2, o2, rfl, hr2⟩ := h2.at hlI
    rw [hwl] at hr2
    have hlW : W.length = pre.length + 1 + rest.length := by omega
    rw [← hW, hlW] at hrd
    rw [hl] at ih hK ⊢
    rw [w_loopb (c := lp244_0) (d := lb244_0) rfl]; unfold lb244_0
    have hlt : (pre.length : Int) < ((pre.length + 1 + rest.length : Nat) : Int) := by omega
    have hw : (pre.length : Int) + 1 = ((pre ++ [x]).length : Int) := by simp
    cases e : (x == key)
    · simp (maxSteps := 1000000) (disch := first | omega | rfl | (simp only [zL, two63, room] <;> omega) | fail) only [↓reduceIte, ↓zP, zW, WOp, evOp, evBin, binI, binSh, binS, evNil, keyIs, keyEq, mkv, AV.cells, AV.sc, optv, bnd, env, put, Env.get, Env.set, Env.del, Env.dels, Env.init, res1, resL, resV, fillP, splice, newRow, Nat.reduceEqDiff, Nat.reduceLT, Nat.reduceLeDiff, Nat.reduceAdd, Nat.reduceMul, Nat.reduceSub, Nat.reduceBEq, reduceCtorEq, ↓zR, zQ, Tr, StA, StT, hlt, hr, e, hw]
      rw [w_loopn (c := lp244_0) rfl]
      simp (maxSteps := 1000000) (disch := first | omega | rfl | (simp only [zL, two63, room] <;> omega) | fail) only [↓reduceIte, ↓zP, zW, WOp, evOp, evBin, binI, binSh, binS, evNil, keyIs, keyEq, mkv, AV.cells, AV.sc, optv, bnd, env, put, Env.get, Env.set, Env.del, Env.dels, Env.init, res1, resL, resV, fillP, splice, newRow, Nat.reduceEqDiff, Nat.reduceLT, Nat.reduceLeDiff, Nat.reduceAdd, Nat.reduceMul, Nat.reduceSub, Nat.reduceBEq, reduceCtorEq, ↓zR, zQ, Tr, StA, StT]
      refine ih (by simp) hf ?_
      intro hn
      refine hR ?_
      rw [List.mem_cons]
      rintro (rfl | hn')
      · simp at e
      · exact hn hn'
    · simp (maxSteps := 1000000) (disch := first | omega | rfl | (simp only [zL, two63, room] <;> omega) | fail) only [↓reduceIte, ↓zP, zW, WOp, evOp, evBin, binI, binSh, binS, evNil, keyIs, keyEq, mkv, AV.cells, AV.sc, optv, bnd, env, put, Env.get, Env.set, Env.del, Env.dels, Env.init, res1, resL, resV, fillP, splice, newRow, Nat.reduceEqDiff, Nat.reduceLT, Nat.reduceLeDiff, Nat.reduceAdd, Nat.reduceMul, Nat.reduceSub, Nat.reduceBEq, reduceCtorEq, ↓zR, zQ, Tr, StA, StT, hlt, hr, e, hrd, hr2]
      refine hf pre.length b ?_ hb
      rw [beq_iff_eq] at e
      subst e; simp
def EFrom (gl : Ln) (n : Nat) : Prop := ∀ (w : Ln) (c : Nat) (h : AH) (K : List Ln), mu w < n → OkW gl w → KW gl c h K → ∀ post : AV → AH → Prop,
  (∀ h' K', FrG c h h' → KW gl c h' K' → CameW (mu w + 1) K K' → post (.int .i64 (cE gl w : Nat)) h') → S 244 [.ptr c 0 0 2, .str w] h post k
theorem lp_ef1 {gl : Ln} {n : Nat} (ih : EFrom gl n) {c : Nat} {w : Ln} (hn : mu w < n + 1) (hok : OkW gl w) (hne : w ≠ gl) (vm : AV) {h0 : AH} {K0 : List Ln} {R : X → Env → AH → Prop} :
    ∀ (mr mp : List (Int × Int)) (h : AH) (K : List Ln), movesB w [84, 70] = mp ++ mr → FrG c h0 h → KW gl c h K → CameW (mu w) K0 K → SlcG 2 encM c h vm (movesB w [84, 70]) →
    (∀ h' K', FrG c h0 h' → KW gl c h' K' → CameW (mu w) K0 K' → R (.exit 2) [(0, .ptr c 0 0 2), (1, .str w), (7, .int .i64 (cE gl w : Nat))] h') →
    Cx (.loop lp244_1) [(0, .ptr c 0 0 2), (1, .str w), (7, .int .i64 (((mp.map (mkM w)).map (cE gl)).sum : Nat)), (36, vm), (37, .int .i64 (movesB w [84, 70]).length), (38, .int .i64 mp.length)] h R k k
  | [], mp, h, K, hmp, hf, hk, hc, hsm, hR => by
    have hl : (movesB w [84, 70]).length = mp.length := by rw [hmp]; simp
    have hn : ((mp.map (mkM w)).map (cE gl)).sum = cE gl w := by
      rw [cE_ne hne, nx_eq, hmp, List.append_nil]
    rw [w_loopb (c := lp244_1) (d := lb244_1) rfl]; unfold lb244_1
    rw [hl, hn]
    simp (maxSteps := 1000000) (disch := first | omega | rfl | (simp only [zL, two63, room] <;> omega) | fail) only [↓reduceIte, ↓zP, zW, WOp, evOp, evBin, binI, binSh, binS, evNil, keyIs, keyEq, mkv, AV.cells, AV.sc, optv, bnd, env, put, Env.get, Env.set, Env.del, Env.dels, Env.init, res1, resL, resV, fillP, splice, newRow, Nat.reduceEqDiff, Nat.reduceLT, Nat.reduceLeDiff, Nat.reduceAdd, Nat.reduceMul, Nat.reduceSub, Nat.reduceBEq, reduceCtorEq, ↓zR, zQ, Tr, StA, StT]
    exact hR h K hf hk hc
  | m :: mr, mp, h, K, hmp, hf, hk, hc, hsm, hR => by
    have ihl := lp_ef1 ih hn hok hne vm (c := c) (h0 := h0) (K0 := K0) (R := R) mr (mp ++ [m])
    have hmm : m ∈ movesB w [84, 70] := by rw [hmp]; simp
    obtain ⟨i, t', rfl, hmv⟩ := movesB_mv hmm
    have hwl : w.length ≤ 8 := by rw [hok.2.2.1]; exact hok.2.2.2
    have hlen := movesB_len w [84, 70]
    have hml : (movesB w [84, 70]).length = mp.length + 1 + mr.length := by rw [hmp]; simp; omega
    have hsm' := hsm
    rw [hmp] at hsm'
    obtain ⟨r1, k1, o1, hv1, hr⟩ := hsm'.1.at hlM
    rw [← hmp, hml] at hv1
    subst hv1
    rw [hml] at ihl ⊢
    have hlt : (mp.length : Int) < ((mp.length + 1 + mr.length : Nat) : Int) := by omega
    have hw1 : (mp.length : Int) + 1 = ((mp ++ [((i : Int), (t' : Int))]).length : Int) := by simp
    have hle := cE_lt (g := gl) hwl
    have hsum : ((mp.map (mkM w)).map (cE gl)).sum + cE gl (madeB w i t') ≤ cE gl w := by
      rw [cE_ne hne, nx_eq, hmp, List.map_append, List.map_append, List.sum_append, List.map_cons, List.map_cons, List.sum_cons]
      show _ + cE gl (madeB w i t') ≤ _ + (cE gl (madeB w i t') + _)
      omega
    have hs1 : ((((mp.map (mkM w)).map (cE gl)).sum : Nat) : Int) + ((cE gl (madeB w i t') : Nat) : Int) = (((((mp ++ [((i : Int), (t' : Int))]).map (mkM w)).map (cE gl)).sum : Nat) : Int) := by
      rw [List.map_append, List.map_append, List.sum_append]
      show _ = (((_ + [cE gl (madeB w i t')].sum : Nat)) : Int)
      simp
    rw [w_loopb (c := lp244_1) (d := lb244_1) rfl]; unfold lb244_1
    simp (maxSteps := 1000000) (disch := first | omega | rfl | (simp only [zL, two63, room] <;> omega) | fail) only [↓reduceIte, ↓zP, zW, WOp, evOp, evBin, binI, binSh, binS, evNil, keyIs, keyEq, mkv, AV.cells, AV.sc, optv, bnd, env, put, Env.get, Env.set, Env.del, Env.dels, Env.init, res1, resL, resV, fillP, splice, newRow, Nat.reduceEqDiff, Nat.reduceLT, Nat.reduceLeDiff, Nat.reduceAdd, Nat.reduceMul, Nat.reduceSub, Nat.reduceBEq, reduceCtorEq, ↓zR, zQ, Tr, StA, StT, hlt, hr]
    refine c_liMake w i t' hmv.fst hmv.snd hmv.ne (by omega) ?_
    intro h2 hp2
    have hp1 := (Pre.push h (AO.row (encM ((i : Int), (t' : Int))) 0 0 false)).trans hp2
    have hf1 : FrG c h h2 := hp1.frg hk.lt
    simp (maxSteps := 1000000) (disch := first | omega | rfl | (simp only [zL, two63, room] <;> omega) | fail) only [↓reduceIte, ↓zP, zW, WOp, evOp, evBin, binI, binSh, binS, evNil, keyIs, keyEq, mkv, AV.cells, AV.sc, optv, bnd, env, put, Env.get, Env.set, Env.del, Env.dels, Env.init, res1, resL, resV, fillP, splice, newRow, Nat.reduceEqDiff, Nat.reduceLT, Nat.reduceLeDiff, Nat.reduceAdd, Nat.reduceMul, Nat.reduceSub, Nat.reduceBEq, reduceCtorEq, ↓zR, zQ, Tr, StA, StT]
    have hmu := mu_made hmv
    refine ih _ _ _ _ (by omega) (hok.made hmv) (hk.pre hp1) _ ?_
    intro h4 K4 hf4 hk4 hc4
    have hf03 : FrG c h h4 := hf1.trans hf4
    simp (maxSteps := 1000000) (disch := first | omega | rfl | (simp only [zL, two63, room] <;> omega) | fail) only [↓reduceIte, ↓zP, zW, WOp, evOp, evBin, binI, binSh, binS, evNil, keyIs, keyEq, mkv, AV.cells, AV.sc, optv, bnd, env, put, Env.get, Env.set, Env.del, Env.dels, Env.init, res1, resL, resV, fillP, splice, newRow, Nat.reduceEqDiff, Nat.reduceLT, Nat.reduceLeDiff, Nat.reduceAdd, Nat.reduceMul, Nat.reduceSub, Nat.reduceBEq, reduceCtorEq, ↓zR, zQ, Tr, StA, StT, hw1, hs1]
    rw [w_loopn (c := lp244_1) rfl]
    simp (maxSteps := 1000000) (disch := first | omega | rfl | (simp only [zL, two63, room] <;> omega) | fail) only [↓reduceIte, ↓zP, zW, WOp, evOp, evBin, binI, binSh, binS, evNil, keyIs, keyEq, mkv, AV.cells, AV.sc, optv, bnd, env, put, Env.get, Env.set, Env.del, Env.dels, Env.init, res1, resL, resV, fillP, splice, newRow, Nat.reduceEqDiff, Nat.reduceLT, Nat.reduceLeDiff, Nat.reduceAdd, Nat.reduceMul, Nat.reduceSub, Nat.reduceBEq, reduceCtorEq, ↓zR, zQ, Tr, StA, StT]
    exact ihl h4 K4 (by rw [hmp]; simp) (hf.trans hf03) hk4 (hc.trans (hc4.mono (by omega))) (hsm.fr hf03) hR
theorem ef_tail {gl : Ln} {c : Nat} {h h2 : AH} {K K2 : List Ln} {w : Ln} (hf2 : FrG c h h2) (hk2 : KW gl c h2 K2) (hc2' : CameW (mu w) K K2) (hnot : w ∉ K) (hok : OkW gl w) :
    ∃ u1 u2 w1 w2 gB gC gE gF, rdRow h2 c 0 0 1 = some [u1] ∧ apRow (h2 ++ [AO.row [.str w] 0 0 false]) 1 u1 1 [.str w] = some (w1, gB) ∧ w1.cells = [w1] ∧ wrRow gB c 0 0 [w1] = some gC ∧ rdRow gC c 0 1 1 = some [u2] ∧
      apRow (gC ++ [AO.row [.int .i64 (cE gl w : Nat)] 0 0 false]) 1 u2 1 [.int .i64 (cE gl w : Nat)] = some (w2, gE) ∧ w2.cells = [w2] ∧ wrRow gE c 0 1 [w2] = some gF ∧
      FrG c h gF ∧ KW gl c gF (K2 ++ [w]) ∧ CameW (mu w + 1) K (K2 ++ [w]) := by
  have hnot2 : w ∉ K2 := by
    intro hin
    rcases hc2' _ hin with h1 | h1
    · exact hnot h1
    · omega
  have hK2 := hk2.few
  obtain ⟨u1, u2, W2, hrow2, po1, po2, m1, m2, m3, hlen2, hnd2, hal2, hgood2⟩ := hk2
  have hrd2 : rdRow h2 c 0 0 1 = some [u1] := by simp [rdRow, hrow2]
  generalize hA : h2 ++ [AO.row [.str w] 0 0 false] = gA
  have pA : Pre h2 gA := hA ▸ Pre.push _ _
  have lA : gA.length = h2.length + 1 := by rw [← hA]; simp
  obtain ⟨w1, gB, apB, owB, _⟩ := apA hlS scS (b := []) (po1.pre pA) (by simp) w (by omega)
  obtain ⟨fB1, fB2, fB3⟩ := apRow_fr apB
  have hc2 := (List.getElem?_eq_some_iff.1 hrow2).1
  have rcB : gB[c]? = some (.row [u1, u2] 0 0 false) := by rw [fB1 c (by omega) m1, pA.2 c hc2, hrow2]
  have qB := owB.cells
  have wB : wrRow gB c 0 0 [w1] = some (gB.set c (.row [w1, u2] 0 0 false)) := by simp [wrRow, rcB, splice, owB.sc1]
  have hlc : c < gB.length := by omega
  generalize hC : gB.set c (.row [w1, u2] 0 0 false) = gC at *
  have lC : gC.length = gB.length := by rw [← hC]; simp
  have rcC : gC[c]? = some (.row [w1, u2] 0 0 false) := by rw [← hC, List.getElem?_set, if_pos rfl, if_pos hlc]
  have oC : ∀ i, i ≠ c → gC[i]? = gB[i]? := fun i hi => by rw [← hC, List.getElem?_set, if_neg (Ne.symm hi)]
  have rdC : rdRow gC c 0 1 1 = some [u2] := by simp [rdRow, rcC]
  generalize hD : gC ++ [AO.row [.int .i64 (cE gl w : Nat)] 0 0 false] = gD
  have pD : Pre gC gD := hD ▸ Pre.push _ _
  have lD : gD.length = gC.length + 1 := by rw [← hD]; simp
  have l2 : ∀ r, rowOf u2 = some r → r < h2.length := fun r hr => own_lt po2 hr
  have l1 : ∀ r, rowOf u1 = some r → r < h2.length := fun r hr => own_lt po1 hr
  have po2C : OwL 1 encI [] gC u2 W2 := by
    refine own_row po2 fun r hr => ?_
    have h1 := l2 r hr
    rw [oC r (fun e => m2 (e ▸ hr)), fB1 r (by omega) (fun e => m3 r e hr), pA.2 r h1]
  obtain ⟨w2, gE, apE, owE, _⟩ := apA hlI scI (b := []) (po2C.pre pD) (by simp) ((cE gl w : Nat) : Int) (by omega)
  obtain ⟨fE1, fE2, fE3⟩ := apRow_fr apE
  have rcE : gE[c]? = some (.row [w1, u2] 0 0 false) := by rw [fE1 c (by omega) m2, pD.2 c (by omega), rcC]
  have qE := owE.cells
  have wE : wrRow gE c 0 1 [w2] = some (gE.set c (.row [w1, w2] 0 0 false)) := by simp [wrRow, rcE, splice, owE.sc1]
  have hlE : c < gE.length := by omega
  refine ⟨u1, u2, w1, w2, gB, gC, gE, gE.set c (.row [w1, w2] 0 0 false), hrd2, apB, qB, wB, rdC, by rw [hD]; exact apE, qE, wE, ?_⟩
  have d1 : ∀ r, rowOf w1 = some r → (rowOf u1 = some r ∨ r = gA.length) := fB3
  have d2 : ∀ r, rowOf w2 = some r → (rowOf u2 = some r ∨ r = gD.length) := fE3
  have c1 : rowOf w1 ≠ some c := fun e => by
    rcases d1 c e with h1 | h1
    · exact m1 h1
    · omega
  have c2 : rowOf w2 ≠ some c := fun e => by
    rcases d2 c e with h1 | h1
    · exact m2 h1
    · omega
  have x1 : ∀ r, rowOf w1 = some r → gE[r]? = gB[r]? := fun r hr => by
    have h3 : r ≠ c := fun e => c1 (e ▸ hr)
    have h4 : r < gB.length := own_lt owB hr
    have h5 : rowOf u2 ≠ some r := by
      intro e
      have := l2 r e
      rcases d1 r hr with h1 | h1
      · exact m3 r h1 e
      · omega
    rw [fE1 r (by omega) h5, pD.2 r (by omega), oC r h3]
  refine ⟨hf2.trans ?_, ?_, ?_⟩
  · refine ⟨by simp; omega, fun i hi hg => ?_⟩
    have g1 : i ≠ c := fun e => hg (.inl e)
    have g2 : rowOf u1 ≠ some i := fun e => hg (.inr ⟨u1, u2, hrow2, .inl e⟩)
    have g3 : rowOf u2 ≠ some i := fun e => hg (.inr ⟨u1, u2, hrow2, .inr e⟩)
    refine ⟨?_, ?_⟩
    · rw [List.getElem?_set, if_neg (Ne.symm g1), fE1 i (by omega) g3, pD.2 i (by omega), oC i g1, fB1 i (by omega) g2, pA.2 i hi]
    · rintro (e | ⟨y1, y2, e1, e2⟩)
      · exact g1 e
      · rw [List.getElem?_set, if_pos rfl, if_pos hlE] at e1
        simp only [Option.some.injEq, AO.row.injEq, List.cons.injEq, and_true, true_and] at e1
        obtain ⟨rfl, rfl⟩ := e1
        rcases e2 with e2 | e2
        · rcases d1 i e2 with h1 | h1
          · exact g2 h1
          · omega
        · rcases d2 i e2 with h1 | h1
          · exact g3 h1
          · omega
  · refine ⟨w1, w2, W2 ++ [((cE gl w : Nat) : Int)], by rw [List.getElem?_set, if_pos rfl, if_pos hlE], ?_, ?_, c1, c2, ?_, by simp [hlen2], ?_, ?_, ?_⟩
    · refine own_row owB fun r hr => ?_
      rw [List.getElem?_set, if_neg (by intro e; subst e; exact c1 hr), x1 r hr]
    · refine own_row owE fun r hr => ?_
      rw [List.getElem?_set, if_neg (by intro e; subst e; exact c2 hr)]
    · intro r h1 h3
      rcases d1 r h1 with h4 | h4 <;> rcases d2 r h3 with h5 | h5
      · exact m3 r h4 h5
      · have := l1 r h4; omega
      · have := l2 r h5; omega
      · omega
    · rw [List.nodup_append]
      exact ⟨hnd2, by simp, fun a ha b hb' => by simp at hb'; subst hb'; rintro rfl; exact hnot2 ha⟩
    · intro x hx
      rcases List.mem_append.1 hx with hx | hx
      · exact hal2 x hx
      · simp at hx; subst hx; exact hok
    · intro i x b hx hb'
      by_cases hi : i < K2.length
      · rw [List.getElem?_append_left hi] at hx
        rw [List.getElem?_append_left (by omega)] at hb'
        exact hgood2 i x b hx hb'
      · have hi2 : i = K2.length := by
          have := (List.getElem?_eq_some_iff.1 hx).1
          simp at this; omega
        subst hi2
        rw [List.getElem?_append_right (Nat.le_refl _)] at hx
        rw [List.getElem?_append_right (by omega)] at hb'
        simp at hx
        rw [show K2.length - W2.length = 0 by omega] at hb'
        simp at hb'
        subst hb'
        subst hx
        rfl
  · intro x hx
    rcases List.mem_append.1 hx with hx | hx
    · exact (hc2'.mono (by omega)) x hx
    · simp at hx; subst hx; exact .inr (by omega)
theorem c_efrom (gl : Ln) : ∀ n : Nat, EFrom gl n
  | 0 => fun w c h K hn _ _ _ _ => by omega
  | n + 1 => by
    intro w c h K hn hok hk post hp
    have ih := c_efrom gl n
    have hwl : w.length ≤ 8 := by rw [hok.2.2.1]; exact hok.2.2.2
    have hK := hk.few
    have hk0 := hk
    obtain ⟨v1, v2, W, hrow, ho1, ho2, n1, n2, n3, hlen, hnd, hal, hgood⟩ := hk
    have hrd : rdRow h c 0 0 1 = some [v1] := by simp [rdRow, hrow]
    refine S_of rfl T244 ?_; unfold fi244
    have hv1 := fun g => Slc.lenV (ho1.slc) (g := g) (ρ := fun _ => _) (x := .t 0) rfl; simp only [evOp] at hv1
    simp (maxSteps := 1000000) (disch := first | omega | rfl | (simp only [zL, two63, room] <;> omega) | fail) only [↓reduceIte, ↓zP, zW, WOp, evOp, evBin, binI, binSh, binS, evNil, keyIs, keyEq, mkv, AV.cells, AV.sc, optv, bnd, env, put, Env.get, Env.set, Env.del, Env.dels, Env.init, res1, resL, resV, fillP, splice, newRow, Nat.reduceEqDiff, Nat.reduceLT, Nat.reduceLeDiff, Nat.reduceAdd, Nat.reduceMul, Nat.reduceSub, Nat.reduceBEq, reduceCtorEq, ↓zR, zQ, Tr, StA, StT, hrd, hv1]
    refine lp_ef0 hrow ho1.slc ho2.slc hlen (by omega) w K [] rfl ?_ ?_
    · intro i b h1 h2
      obtain rfl := hgood i _ b h1 h2
      simp (maxSteps := 1000000) (disch := first | omega | rfl | (simp only [zL, two63, room] <;> omega) | fail) only [↓reduceIte, ↓zP, zW, WOp, evOp, evBin, binI, binSh, binS, evNil, keyIs, keyEq, mkv, AV.cells, AV.sc, optv, bnd, env, put, Env.get, Env.set, Env.del, Env.dels, Env.init, res1, resL, resV, fillP, splice, newRow, Nat.reduceEqDiff, Nat.reduceLT, Nat.reduceLeDiff, Nat.reduceAdd, Nat.reduceMul, Nat.reduceSub, Nat.reduceBEq, reduceCtorEq, ↓zR, zQ, Tr, StA, StT]
      exact hp h K (FrG.refl _ _) hk0 (CameW.refl _ _)
    · intro hnot
      by_cases hwg : w = gl
      · have hb : (w == lnL w) = true := by rw [hok.1, beq_iff_eq]; exact hwg
        obtain ⟨u1, u2, w1, w2, gB, gC, gE, gF, t1, t2, t3, t4, t5, t6, t7, t8, t9, t10, t11⟩ := ef_tail (FrG.refl c h) hk0 (CameW.refl _ _) hnot hok
        have h1 : cE gl w = 1 := by rw [hwg, cE_self]
        rw [h1] at t6 hp
        have z : ((1 : Nat) : Int) = 1 := rfl
        rw [z] at t6
        simp only [AV.cells] at t3 t7
        simp (maxSteps := 1000000) (disch := first | omega | rfl | (simp only [zL, two63, room] <;> omega) | fail) only [↓reduceIte, ↓zP, zW, WOp, evOp, evBin, binI, binSh, binS, evNil, keyIs, keyEq, mkv, AV.cells, AV.sc, optv, bnd, env, put, Env.get, Env.set, Env.del, Env.dels, Env.init, res1, resL, resV, fillP, splice, newRow, Nat.reduceEqDiff, Nat.reduceLT, Nat.reduceLeDiff, Nat.reduceAdd, Nat.reduceMul, Nat.reduceSub, Nat.reduceBEq, reduceCtorEq, ↓zR, zQ, Tr, StA, StT, e_liLast w (by omega), hb, t1, t2, t3, t4, t5, t6, t7, t8]
        exact hp gF (K ++ [w]) t9 t10 t11
      · have hb : (w == lnL w) = false := by rw [hok.1, beq_eq_false_iff_ne]; exact hwg
        simp (maxSteps := 1000000) (disch := first | omega | rfl | (simp only [zL, two63, room] <;> omega) | fail) only [↓reduceIte, ↓zP, zW, WOp, evOp, evBin, binI, binSh, binS, evNil, keyIs, keyEq, mkv, AV.cells, AV.sc, optv, bnd, env, put, Env.get, Env.set, Env.del, Env.dels, Env.init, res1, resL, resV, fillP, splice, newRow, Nat.reduceEqDiff, Nat.reduceLT, Nat.reduceLeDiff, Nat.reduceAdd, Nat.reduceMul, Nat.reduceSub, Nat.reduceBEq, reduceCtorEq, ↓zR, zQ, Tr, StA, StT, e_liLast w (by omega), hb]
        refine c_liMoves w hok.2.1 (by omega) true true ?_
        intro vm h2 ho2 hp2
        rw [liMovesB_eq, show kindsS true true = [84, 70] from rfl] at ho2
        have hsm := ho2.slcW hk0 hp2
        have hf2 := hp2.frg (c := c) hk0.lt
        have hlen := movesB_len w [84, 70]
        have hv2 := fun g => Slc.lenV (hsm.1) (g := g) (ρ := fun _ => _) (x := .t 0) rfl; simp only [evOp] at hv2
        have z : (0 : Int) = (((([] : List (Int × Int)).map (mkM w)).map (cE gl)).sum : Nat) := rfl
        simp (maxSteps := 1000000) (disch := first | omega | rfl | (simp only [zL, two63, room] <;> omega) | fail) only [↓reduceIte, ↓zP, zW, WOp, evOp, evBin, binI, binSh, binS, evNil, keyIs, keyEq, mkv, AV.cells, AV.sc, optv, bnd, env, put, Env.get, Env.set, Env.del, Env.dels, Env.init, res1, resL, resV, fillP, splice, newRow, Nat.reduceEqDiff, Nat.reduceLT, Nat.reduceLeDiff, Nat.reduceAdd, Nat.reduceMul, Nat.reduceSub, Nat.reduceBEq, reduceCtorEq, ↓zR, zQ, Tr, StA, StT, hv2]
        rw [z]
        refine lp_ef1 ih hn hok hwg vm (h0 := h) (K0 := K) (movesB w [84, 70]) [] h2 K rfl hf2 (hk0.pre hp2) (CameW.refl _ _) hsm ?_
        intro h3 K3 hf3 hk3 hc3
        obtain ⟨u1, u2, w1, w2, gB, gC, gE, gF, t1, t2, t3, t4, t5, t6, t7, t8, t9, t10, t11⟩ := ef_tail hf3 hk3 hc3 hnot hok
        simp only [AV.cells] at t3 t7
        simp (maxSteps := 1000000) (disch := first | omega | rfl | (simp only [zL, two63, room] <;> omega) | fail) only [↓reduceIte, ↓zP, zW, WOp, evOp, evBin, binI, binSh, binS, evNil, keyIs, keyEq, mkv, AV.cells, AV.sc, optv, bnd, env, put, Env.get, Env.set, Env.del, Env.dels, Env.init, res1, resL, resV, fillP, splice, newRow, Nat.reduceEqDiff, Nat.reduceLT, Nat.reduceLeDiff, Nat.reduceAdd, Nat.reduceMul, Nat.reduceSub, Nat.reduceBEq, reduceCtorEq, ↓zR, zQ, Tr, StA, StT, t1, t2, t3, t4, t5, t6, t7, t8]
        exact hp gF (K3 ++ [w]) t9 t10 t11
end Go.Proofs.YtcflenomogpdbaaDoor.Ab

/- PLAIN LAWS: the layers of live lines. -/
namespace Go.Proofs.YtcflenomogpdbaaDoor.Ab
open Go

def swAdd (g : Ln) (acc : List Ln) (v : Ln) : List Ln := if 0 < cE g v ∧ v ∉ acc then acc ++ [v] else acc
def swAll (g : Ln) (acc l : List Ln) : List Ln := l.foldl (swAdd g) acc
theorem swAll_cons (g : Ln) (acc : List Ln) (v : Ln) (l : List Ln) : swAll g acc (v :: l) = swAll g (swAdd g acc v) l := rfl
theorem swAll_app (g : Ln) (acc l l' : List Ln) : swAll g acc (l ++ l') = swAll g (swAll g acc l) l' := List.foldl_append
theorem swAdd_mem (g : Ln) (acc : List Ln) (v x : Ln) : x ∈ swAdd g acc v ↔ x ∈ acc ∨ (x = v ∧ 0 < cE g v) := by
  unfold swAdd
  split
  · rename_i h
    rw [List.mem_append, List.mem_singleton]
    constructor
    · rintro (h1 | h1)
      · exact .inl h1
      · exact .inr ⟨h1, h.1⟩
    · rintro (h1 | ⟨h1, _⟩)
      · exact .inl h1
      · exact .inr h1
  · rename_i h
    constructor
    · exact .inl
    · rintro (h1 | ⟨rfl, h2⟩)
      · exact h1
      · exact Classical.byContradiction fun hn => h ⟨h2, hn⟩
theorem swAll_mem (g x : Ln) : ∀ (l acc : List Ln), x ∈ swAll g acc l ↔ x ∈ acc ∨ (x ∈ l ∧ 0 < cE g x)
  | [], acc => by simp [swAll]
  | v :: l, acc => by
    rw [swAll_cons, swAll_mem g x l, swAdd_mem]
    constructor
    · rintro ((h | ⟨rfl, h⟩) | ⟨h, h2⟩)
      · exact .inl h
      · exact .inr ⟨by simp, h⟩
      · exact .inr ⟨by simp [h], h2⟩
    · rintro (h | ⟨h, h2⟩)
      · exact .inl (.inl h)
      · rcases List.mem_cons.1 h with rfl | h
        · exact .inl (.inr ⟨rfl, h2⟩)
        · exact .inr ⟨h, h2⟩
theorem swAdd_nodup {g : Ln} {acc : List Ln} (h : acc.Nodup) (v : Ln) : (swAdd g acc v).Nodup := by
  unfold swAdd
  split
  · rename_i hh
    rw [List.nodup_append]
    exact ⟨h, by simp, fun a ha b hb => by simp at hb; subst hb; rintro rfl; exact hh.2 ha⟩
  · exact h
theorem swAll_nodup {g : Ln} : ∀ (l : List Ln) {acc : List Ln}, acc.Nodup → (swAll g acc l).Nodup
  | [], _, h => h
  | v :: l, _, h => swAll_nodup l (swAdd_nodup h v)
def swNext (g : Ln) (now : List Ln) : List Ln := swAll g [] (now.flatMap nx)
def lv (g w : Ln) : Nat → List Ln
  | 0 => [w]
  | j + 1 => swNext g (lv g w j)
def lvs (g w : Ln) (n : Nat) : List (List Ln) := (List.range n).map (lv g w)
theorem lvs_succ (g w : Ln) (n : Nat) : lvs g w (n + 1) = lvs g w n ++ [lv g w n] := by unfold lvs; rw [List.range_succ, List.map_append]; rfl
theorem lv_nodup (g w : Ln) : ∀ j, (lv g w j).Nodup
  | 0 => by simp [lv]
  | j + 1 => swAll_nodup _ List.nodup_nil
theorem lv_mem {g w : Ln} (hw : 0 < cE g w) : ∀ (j : Nat) (v : Ln), v ∈ lv g w j ↔ v ∈ lay w j ∧ 0 < cE g v
  | 0, v => by
    simp only [lv, lay, List.mem_singleton]
    exact ⟨fun h => ⟨h, h ▸ hw⟩, fun h => h.1⟩
  | j + 1, v => by
    show v ∈ swAll g [] ((lv g w j).flatMap nx) ↔ v ∈ stepL (lay w j) ∧ _
    rw [swAll_mem, stepL_mem]
    constructor
    · rintro (h | ⟨h, h2⟩)
      · simp at h
      · obtain ⟨u, hu, hv⟩ := List.mem_flatMap.1 h
        exact ⟨⟨u, ((lv_mem hw j u).1 hu).1, hv⟩, h2⟩
    · rintro ⟨⟨u, hu, hv⟩, h2⟩
      exact .inr ⟨List.mem_flatMap.2 ⟨u, (lv_mem hw j u).2 ⟨hu, cE_up hv h2⟩, hv⟩, h2⟩
theorem lv_sub {g w : Ln} : ∀ (j : Nat) (v : Ln), v ∈ lv g w j → v ∈ lay w j
  | 0, v, h => by simpa [lv, lay] using h
  | j + 1, v, h => by
    rcases (swAll_mem g v _ _).1 (show v ∈ swAll g [] ((lv g w j).flatMap nx) from h) with h | ⟨h, _⟩
    · simp at h
    · obtain ⟨u, hu, hv⟩ := List.mem_flatMap.1 h
      exact (stepL_mem _ _).2 ⟨u, lv_sub j u hu, hv⟩
theorem lv_end (g w : Ln) : lv g w (mu w + 1) = [] := by
  refine List.eq_nil_iff_forall_not_mem.2 fun v hv => ?_
  have := lv_sub _ _ hv
  rw [lay_end] at this
  simp at this
/-- A line is live: on a play from the first line to the last. -/
def liveB (g f w : Ln) : Bool := decide (0 < cE g w ∧ 0 < cE w f)
theorem live_iff {g f w : Ln} (hf : 0 < cE g f) : (∃ j, w ∈ lv g f j) ↔ 0 < cE g w ∧ 0 < cE w f := by
  rw [cE_iff w f]
  constructor
  · rintro ⟨j, h⟩
    obtain ⟨h1, h2⟩ := (lv_mem hf j w).1 h
    exact ⟨h2, j, h1⟩
  · rintro ⟨h2, j, h1⟩
    exact ⟨j, (lv_mem hf j w).2 ⟨h1, h2⟩⟩
theorem live_first {g f w : Ln} (h1 : 0 < cE g w) (h2 : 0 < cE w f) : 0 < cE g f := by
  rw [cE_iff] at *
  obtain ⟨i, hi⟩ := h1
  obtain ⟨j, hj⟩ := h2
  exact ⟨j + i, lay_trans hj hi⟩
theorem lv_after {g w : Ln} {N : Nat} (h : lv g w N = []) : ∀ d, lv g w (N + d) = []
  | 0 => h
  | d + 1 => by
    show swAll g [] ((lv g w (N + d)).flatMap nx) = []
    rw [lv_after h d]; rfl
theorem lvs_any {g w v : Ln} {N : Nat} (h : lv g w N = []) : (∃ L ∈ lvs g w N, v ∈ L) ↔ ∃ j, v ∈ lv g w j := by
  constructor
  · rintro ⟨L, hL, hv⟩
    unfold lvs at hL
    obtain ⟨j, _, rfl⟩ := List.mem_map.1 hL
    exact ⟨j, hv⟩
  · rintro ⟨j, hv⟩
    by_cases hj : j < N
    · exact ⟨lv g w j, List.mem_map.2 ⟨j, by simpa using hj, rfl⟩, hv⟩
    · have := lv_after h (j - N)
      rw [show N + (j - N) = j by omega] at this
      rw [this] at hv; simp at hv
end Go.Proofs.YtcflenomogpdbaaDoor.Ab
