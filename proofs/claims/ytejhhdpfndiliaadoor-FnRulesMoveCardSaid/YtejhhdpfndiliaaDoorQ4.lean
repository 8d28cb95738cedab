/- Part 5 of the proof of a law of the given program: the rules that it leans on, and what the functions that it reaches answer; the conditions stand with each theorem. -/
import Derived.Test.YtejhhdpfndiliaaDoorQ3
set_option linter.unusedSimpArgs false
set_option linter.unusedVariables false
/- PLAIN LAWS: how many plays lead from a line to another; which lines are live. -/
namespace Go.Proofs.YtejhhdpfndiliaaDoor.Ab
open Go

/-- How many plays lead from w to g. -/
def swNx (g w : Ln) : List Ln := if w = g then [] else nx w
def swSt (g w : Ln) (l : List Nat) : Nat := if w = g then 1 else l.sum
def cE (g w : Ln) : Nat := rc (swNx g) (swSt g) mu w
theorem cE_eq (g w : Ln) : cE g w = if w = g then 1 else ((nx w).map (cE g)).sum := by
  have hm : ∀ s, ∀ s' ∈ swNx g s, mu s' < mu s := by
    intro s s' hs
    unfold swNx at hs
    split at hs
    · simp at hs
    · exact nextB_mu hs
  unfold cE
  rw [rc_eq (swNx g) (swSt g) (mu := mu) hm w]
  unfold swSt swNx
  split <;> rfl
theorem cE_self (g : Ln) : cE g g = 1 := by rw [cE_eq, if_pos rfl]
theorem cE_ne {g w : Ln} (h : w ≠ g) : cE g w = ((nx w).map (cE g)).sum := by rw [cE_eq, if_neg h]
theorem sum_pos_iff {α : Type} (f : α → Nat) : ∀ l : List α, 0 < (l.map f).sum ↔ ∃ x ∈ l, 0 < f x
  | [] => by simp
  | a :: l => by
    rw [List.map_cons, List.sum_cons]
    constructor
    · intro h
      by_cases ha : 0 < f a
      · exact ⟨a, by simp, ha⟩
      · obtain ⟨x, hx, h2⟩ := (sum_pos_iff f l).1 (by omega)
        exact ⟨x, by simp [hx], h2⟩
    · rintro ⟨x, hx, h2⟩
      rcases List.mem_cons.1 hx with rfl | hx
      · omega
      · have := (sum_pos_iff f l).2 ⟨x, hx, h2⟩; omega
theorem lay_front (w v : Ln) : ∀ j, v ∈ lay w (j + 1) ↔ ∃ u ∈ nx w, v ∈ lay u j
  | 0 => by
    rw [show lay w (0 + 1) = stepL (lay w 0) from rfl, stepL_mem]
    simp only [lay, List.mem_singleton]
    constructor
    · rintro ⟨u, rfl, h⟩; exact ⟨v, h, rfl⟩
    · rintro ⟨u, h, rfl⟩; exact ⟨w, rfl, h⟩
  | j + 1 => by
    rw [show lay w (j + 1 + 1) = stepL (lay w (j + 1)) from rfl, stepL_mem]
    constructor
    · rintro ⟨u, hu, h⟩
      obtain ⟨x, hx, hux⟩ := (lay_front w u j).1 hu
      exact ⟨x, hx, (stepL_mem _ _).2 ⟨u, hux, h⟩⟩
    · rintro ⟨x, hx, h⟩
      obtain ⟨u, hu, hv⟩ := (stepL_mem _ _).1 h
      exact ⟨u, (lay_front w u j).2 ⟨x, hx, hu⟩, hv⟩
theorem cE_pos (g : Ln) : ∀ (n : Nat) (w : Ln), mu w < n → (0 < cE g w ↔ ∃ j, g ∈ lay w j)
  | 0, _, h => by omega
  | n + 1, w, hn => by
    by_cases e : w = g
    · subst e
      rw [cE_self]
      exact ⟨fun _ => ⟨0, by simp [lay]⟩, fun _ => by omega⟩
    · rw [cE_ne e, sum_pos_iff]
      constructor
      · rintro ⟨u, hu, h⟩
        obtain ⟨j, hj⟩ := (cE_pos g n u (by have := nextB_mu hu; omega)).1 h
        exact ⟨j + 1, (lay_front w g j).2 ⟨u, hu, hj⟩⟩
      · rintro ⟨j, hj⟩
        cases j with
        | zero => simp only [lay, List.mem_singleton] at hj; exact absurd hj.symm e
        | succ j =>
          obtain ⟨u, hu, h⟩ := (lay_front w g j).1 hj
          exact ⟨u, hu, (cE_pos g n u (by have := nextB_mu hu; omega)).2 ⟨j, h⟩⟩
theorem cE_iff (g w : Ln) : 0 < cE g w ↔ ∃ j, g ∈ lay w j := cE_pos g (mu w + 1) w (by omega)
theorem cE_up {g u v : Ln} (h : v ∈ nx u) (hv : 0 < cE g v) : 0 < cE g u := by
  rw [cE_iff] at hv ⊢
  obtain ⟨j, hj⟩ := hv
  exact ⟨j + 1, (lay_front u g j).2 ⟨v, h, hj⟩⟩
theorem lay_trans {w v x : Ln} {i j : Nat} (h1 : v ∈ lay w i) : x ∈ lay v j → x ∈ lay w (i + j) := by
  induction j generalizing x with
  | zero => intro h; simp only [lay, List.mem_singleton] at h; subst h; exact h1
  | succ j ih =>
    intro h
    obtain ⟨u, hu, hx⟩ := (stepL_mem _ _).1 h
    exact (stepL_mem _ _).2 ⟨u, ih hu, hx⟩

/-! ### Few plays: they fit into 63 bits -/
theorem flat_few {β : Type} {f : Nat → List β} : ∀ {l : List Nat}, (∀ i ∈ l, (f i).length ≤ 1) → (l.flatMap f).length ≤ l.length
  | [], _ => by simp
  | a :: l, h => by
    have h1 := h a (by simp)
    have h2 := flat_few (l := l) fun i hi => h i (by simp [hi])
    simp only [List.flatMap_cons, List.length_append, List.length_cons]; omega
theorem flat_less {β : Type} {f : Nat → List β} : ∀ {l : List Nat} {t : Nat}, (∀ i ∈ l, (f i).length ≤ 1) → t ∈ l → f t = [] → (l.flatMap f).length + 1 ≤ l.length
  | [], _, _, h, _ => by simp at h
  | a :: l, t, h, ht, he => by
    have h1 := h a (by simp)
    have h2 : ∀ i ∈ l, (f i).length ≤ 1 := fun i hi => h i (by simp [hi])
    simp only [List.flatMap_cons, List.length_append, List.length_cons]
    rcases List.mem_cons.1 ht with rfl | ht
    · have := flat_few h2
      rw [he, List.length_nil]; omega
    · have := flat_less h2 ht he; omega
theorem nx_len {w : Ln} : (nx w).length ≤ w.length - 1 := by
  cases hn : nx w with
  | nil => simp
  | cons v l =>
    rw [← hn]
    have hin : v ∈ nx w := by rw [hn]; simp
    obtain ⟨i, t, hm, hv, _⟩ := nextB_mv (kinds := [84, 70]) hin
    obtain ⟨_, ht, h46, _⟩ := hv
    have h0 : moveB w [84, 70] t = [] := by
      unfold moveB
      split
      · rw [has2, h46]; rfl
      · rfl
    have := flat_less (f := moveB w [84, 70]) (l := List.range w.length) (t := t) (fun i _ => moveB_len _ _ i) (by simpa using ht) h0
    unfold nx nextB movesB
    rw [List.length_map]
    rw [List.length_range] at this
    omega
theorem sum_le_mul {α : Type} (f : α → Nat) (B : Nat) : ∀ l : List α, (∀ x ∈ l, f x ≤ B) → (l.map f).sum ≤ l.length * B
  | [], _ => by simp
  | a :: l, h => by
    have h1 := h a (by simp)
    have h2 := sum_le_mul f B l fun x hx => h x (by simp [hx])
    rw [List.map_cons, List.sum_cons, List.length_cons, Nat.succ_mul]; omega
theorem nx_length {w v : Ln} (h : v ∈ nx w) : v.length = w.length := nextB_length h
theorem nx_inv {w v : Ln} (h : v ∈ nx w) : inv w = inv v + 1 := by
  obtain ⟨i, t, _, hm, rfl⟩ := nextB_mv h
  exact inv_made hm
theorem cE_pow (g : Ln) : ∀ (n : Nat) (w : Ln), inv w < n → w.length ≤ 8 → cE g w ≤ 7 ^ inv w
  | 0, _, h, _ => by omega
  | n + 1, w, hn, hw => by
    by_cases e : w = g
    · subst e; rw [cE_self]; exact Nat.pos_of_ne_zero (by simp)
    · rw [cE_ne e]
      cases hi : inv w with
      | zero =>
        cases hx : nx w with
        | nil => simp
        | cons v l => have := nx_inv (w := w) (v := v) (by rw [hx]; simp); omega
      | succ k =>
        have h1 := sum_le_mul (cE g) (7 ^ k) (nx w) fun v hv => by
          have e1 := nx_inv hv
          have e2 := cE_pow g n v (by omega) (by rw [nx_length hv]; exact hw)
          rw [show inv v = k by omega] at e2; exact e2
        have h2 := nx_len (w := w)
        rw [Nat.pow_succ, Nat.mul_comm]
        exact Nat.le_trans h1 (Nat.mul_le_mul_right _ (by omega))
theorem inv_le : ∀ w : Ln, inv w ≤ w.count 84 * w.count 46 + w.count 84 * w.count 70 + w.count 46 * w.count 70
  | [] => by simp [inv]
  | a :: l => by
    have ih := inv_le l
    unfold inv cr
    by_cases h84 : a = 84
    · subst h84
      simp only [List.count_cons, beq_self_eq_true, if_true, show ((84 : UInt8) == 46) = false from rfl, show ((84 : UInt8) == 70) = false from rfl, Bool.false_eq_true, if_false, Nat.add_zero, Nat.add_mul, Nat.one_mul]
      omega
    · by_cases h46 : a = 46
      · subst h46
        simp only [List.count_cons, beq_self_eq_true, if_true, show ((46 : UInt8) == 84) = false from rfl, show ((46 : UInt8) == 70) = false from rfl, show ((46 : UInt8) = 84) = False from by simp, Bool.false_eq_true, if_false, Nat.add_zero, Nat.add_mul, Nat.one_mul, Nat.mul_add, Nat.mul_one]
        omega
      · by_cases h70 : a = 70
        · subst h70
          simp only [List.count_cons, beq_self_eq_true, if_true, show ((70 : UInt8) == 84) = false from rfl, show ((70 : UInt8) == 46) = false from rfl, show ((70 : UInt8) = 84) = False from by simp, show ((70 : UInt8) = 46) = False from by simp, Bool.false_eq_true, if_false, Nat.add_zero, Nat.mul_add, Nat.mul_one]
          omega
        · have e1 : (a == 84) = false := by simpa using h84
          have e2 : (a == 46) = false := by simpa using h46
          have e3 : (a == 70) = false := by simpa using h70
          simp only [List.count_cons, e1, e2, e3, h84, h46, Bool.false_eq_true, if_false, Nat.add_zero]
          omega
theorem count3 : ∀ w : Ln, w.count 84 + w.count 46 + w.count 70 ≤ w.length
  | [] => by simp
  | a :: l => by
    have ih := count3 l
    simp only [List.count_cons, List.length_cons, beq_iff_eq]
    by_cases h84 : a = 84
    · subst h84; simp; omega
    · by_cases h46 : a = 46
      · subst h46; simp; omega
      · simp only [h84, h46, if_false]; split <;> omega
theorem prod_le : ∀ t < 9, ∀ g < 9, ∀ f < 9, t + g + f ≤ 8 → t * g + t * f + g * f ≤ 21 := by decide
theorem inv_few {w : Ln} (hw : w.length ≤ 8) : inv w ≤ 21 := by
  have h1 := count3 w
  have h2 := inv_le w
  have := prod_le (w.count 84) (by omega) (w.count 46) (by omega) (w.count 70) (by omega) (by omega)
  omega
theorem cE_lt {g w : Ln} (hw : w.length ≤ 8) : cE g w < 2 ^ 60 := by
  have h1 := cE_pow g (inv w + 1) w (by omega) hw
  have h2 := Nat.pow_le_pow_right (n := 7) (by omega) (inv_few hw)
  have h3 : (7 : Nat) ^ 21 < 2 ^ 60 := by decide
  omega
end Go.Proofs.YtejhhdpfndiliaaDoor.Ab

/- EXCHANGES by the program: first and last lines, how many plays lead to a line. -/
namespace Go.Proofs.YtejhhdpfndiliaaDoor.Ab
open Go
set_option maxRecDepth 100000
set_option maxHeartbeats 4000000

def lnF (t g f : Nat) : Ln := List.replicate t 84 ++ List.replicate g 46 ++ List.replicate f 70
def lnL (w : Ln) : Ln := List.replicate (w.count 70) 70 ++ List.replicate (w.count 46) 46 ++ List.replicate (w.count 84) 84
theorem repB (b : UInt8) : ∀ n : Nat, Go.Lib.repeatL [b] n = List.replicate n b
  | 0 => rfl
  | n + 1 => by rw [Go.Lib.repeatL, repB b n, List.replicate_succ]; rfl
theorem enc84 : (Utf8.encode (84 : Int)).data.toList = [84] := by decide +kernel
theorem enc70 : (Utf8.encode (70 : Int)).data.toList = [70] := by decide +kernel
def swV (g w : Ln) : AV := .int .i64 (cE g w : Nat)
def Mg (g : Ln) (c : Nat) (h : AH) : Prop := Mh (fun w : Ln => w) (swV g) c h ∧ ∃ es v, h[c]? = some (.map es) ∧ mfind (.str g) es = some (some v)
theorem Mg.lt {g : Ln} {c : Nat} {h : AH} (hm : Mg g c h) : c < h.length := hm.1.lt
theorem Mg.pre {g : Ln} {c : Nat} {h h' : AH} (hm : Mg g c h) (hp : Pre h h') : Mg g c h' := by
  have hl := hm.lt
  obtain ⟨h1, es, v, h2, h3⟩ := hm
  exact ⟨h1.pre hp, es, v, by rw [hp.2 c hl]; exact h2, h3⟩
theorem Mg.prey {g : Ln} {c : Nat} {h h' : AH} (hm : Mg g c h) (he : h'[c]? = h[c]?) : Mg g c h' := by
  obtain ⟨⟨es', g1, g2, g3⟩, es, v, h2, h3⟩ := hm
  exact ⟨⟨es', by rw [he]; exact g1, g2, g3⟩, es, v, by rw [he]; exact h2, h3⟩
theorem Mg.put {g : Ln} {c : Nat} {h : AH} (hm : Mg g c h) (w : Ln) : ∃ es, h[c]? = some (.map es) ∧ (∃ o, mfind (.str w) es = some o) ∧ Mg g c (h.set c (.map (mput (.str w) (swV g w) es))) := by
  obtain ⟨h1, es, v, h2, h3⟩ := hm
  have hk : StrK es := by obtain ⟨es', a, b, _⟩ := h1; rw [h2] at a; cases a; exact b
  obtain ⟨es', a, b, d⟩ := h1.put (fun s s' (e : s = s') => by rw [e]) w
  rw [h2] at a; cases a
  refine ⟨es, h2, b, d, ?_⟩
  have hl := (List.getElem?_eq_some_iff.1 h2).1
  refine ⟨_, if (g == w) then swV g w else v, by rw [List.getElem?_set, if_pos rfl, if_pos hl], ?_⟩
  rw [mfind_mput hk]
  split <;> first | rfl | exact h3
theorem Mg.new {g : Ln} {h : AH} : Mg g h.length (h ++ [.map [(.str g, .int .i64 1)]]) := by
  refine ⟨⟨[(.str g, .int .i64 1)], by simp, ?_, ?_⟩, [(.str g, .int .i64 1)], .int .i64 1, by simp, by simp [mfind, keyEq]⟩
  · intro kv hkv; simp only [List.mem_singleton] at hkv; subst hkv; exact ⟨g, rfl⟩
  · intro s v hv
    simp only [mfind, keyEq] at hv
    by_cases e : s = g
    · subst e
      simp at hv
      subst hv
      unfold swV; rw [cE_self]; rfl
    · have : (s == g) = false := by simpa using e
      rw [this] at hv; simp at hv
end Go.Proofs.YtejhhdpfndiliaaDoor.Ab

/- slices.DeleteFunc on moves, where the function handed on writes into a map. -/
namespace Go.Proofs.YtejhhdpfndiliaaDoor.Ab
open Go
set_option maxRecDepth 100000
set_option maxHeartbeats 4000000

/-- All old rows are as they were, but for the slice's own and the map. -/
def PreY (v : AV) (cm : Nat) (h h' : AH) : Prop := h.length ≤ h'.length ∧ ∀ i, i < h.length → i ≠ cm → rowOf v ≠ some i → h'[i]? = h[i]?
theorem PreY.refl (v : AV) (cm : Nat) (h : AH) : PreY v cm h h := ⟨Nat.le_refl _, fun _ _ _ _ => rfl⟩
theorem PreY.trans {v : AV} {cm : Nat} {a b c : AH} (x : PreY v cm a b) (y : PreY v cm b c) : PreY v cm a c := ⟨Nat.le_trans x.1 y.1, fun i hi h1 h2 => by rw [y.2 i (Nat.lt_of_lt_of_le hi x.1) h1 h2, x.2 i hi h1 h2]⟩
theorem PreX.y {v : AV} {cm : Nat} {h h' : AH} (hp : PreX cm h h') : PreY v cm h h' := ⟨hp.1, fun i hi h1 _ => hp.2 i hi h1⟩
theorem PreV.y {v : AV} {cm : Nat} {h h' : AH} (hp : PreV v h h') : PreY v cm h h' := ⟨hp.1, fun i hi _ h2 => hp.2 i hi fun c kk off n e hv => by subst hv; rintro rfl; exact h2 rfl⟩
theorem OwW.stay {α : Type} {esz : Nat} {enc : α → List AV} {b h h' : AH} {v : AV} {L : List α} (ho : OwW esz enc b h v L) (hr : ∀ r, rowOf v = some r → h'[r]? = h[r]?) : OwW esz enc b h' v L := by
  unfold OwW at ho ⊢
  cases v <;> simp only [rowOf] at ho hr ⊢ <;> first
    | exact ho
    | (obtain ⟨h1, h2, h3, A, Z, fl, h4, h5⟩ := ho
       exact ⟨h1, h2, h3, A, Z, fl, by rw [hr _ rfl]; exact h4, h5⟩)
theorem OwW.row {α : Type} {esz : Nat} {enc : α → List AV} {b h : AH} {c kk off n e : Nat} {L : List α} (ho : OwW esz enc b h (.slice c kk off n e) L) : c < h.length ∧ b.length ≤ c := by
  unfold OwW at ho
  obtain ⟨_, _, h3, A, Z, fl, h4, _⟩ := ho
  exact ⟨(List.getElem?_eq_some_iff.1 h4).1, h3⟩

theorem flat_rep2 : ∀ n : Nat, (List.replicate n [AV.int .i64 0, AV.int .i64 0]).flatten = (List.replicate n ((0 : Int), (0 : Int))).flatMap encM
  | 0 => rfl
  | n + 1 => by rw [List.replicate_succ, List.replicate_succ, List.flatten_cons, List.flatMap_cons, flat_rep2 n]
/-- The part behind i laid to zero. -/
theorem OwW.clear {b h : AH} {c kk off n : Nat} {L M : List (Int × Int)} (ho : OwW 2 encM b h (.slice c kk off n 2) (L ++ M)) (hM : M ≠ []) : ∃ h', wrRow h c kk (off + L.length * 2) ((List.replicate M.length ((0 : Int), (0 : Int))).flatMap encM) = some h' ∧ OwW 2 encM b h' (.slice c kk off L.length 2) L ∧ PreV (.slice c kk off n 2) h h' := by
  unfold OwW at ho
  obtain ⟨_, hn, hb, A, Z, fl, h4, h5, h6⟩ := ho
  have hlt := (List.getElem?_eq_some_iff.1 h4).1
  have hpl := flat_len hlM L
  have hml := flat_len hlM M
  have hrl := flat_len hlM (List.replicate M.length ((0 : Int), (0 : Int)))
  rw [List.length_replicate] at hrl
  have hsc : ((List.replicate M.length ((0 : Int), (0 : Int))).flatMap encM).all AV.sc = true := by
    rw [List.all_eq_true]
    intro y hy
    obtain ⟨a, _, ha⟩ := List.mem_flatMap.1 hy
    simp only [encM, List.mem_cons, List.not_mem_nil, or_false] at ha
    rcases ha with rfl | rfl <;> rfl
  have hrow : A ++ (L ++ M).flatMap encM ++ Z = A ++ (L.flatMap encM ++ (M.flatMap encM ++ Z)) := by simp
  rw [hrow] at h4
  refine ⟨h.set c (.row (A ++ (L.flatMap encM ++ ((List.replicate M.length ((0 : Int), (0 : Int))).flatMap encM ++ Z))) kk kk false), ?_, ?_, ?_⟩
  · unfold wrRow
    rw [h4]
    simp only
    rw [if_pos ⟨trivial, h5, by simp only [List.length_append, hpl, hml, hrl, h6]; omega, hsc⟩, splice_all _ _ _ _ _ (by omega) (by omega)]
  · unfold OwW
    refine ⟨rfl, rfl, hb, A, (List.replicate M.length ((0 : Int), (0 : Int))).flatMap encM ++ Z, kk, ?_, Nat.le_refl _, h6⟩
    rw [List.getElem?_set, if_pos rfl, if_pos hlt, List.append_assoc]
  · exact ⟨by simp, fun i _ hc => by rw [List.getElem?_set, if_neg (hc c kk off _ 2 rfl ·.symm)]⟩
theorem OwW.cut {b h : AH} {c kk off n : Nat} {L : List (Int × Int)} (ho : OwW 2 encM b h (.slice c kk off n 2) (L ++ [])) : OwW 2 encM b h (.slice c kk off L.length 2) L := by
  unfold OwW at ho ⊢
  simp only [List.append_nil] at ho
  exact ⟨rfl, rfl, ho.2.2⟩
end Go.Proofs.YtejhhdpfndiliaaDoor.Ab

/- THE WAY that all have to go, the pairs, the moves from the other side: what moves make of them. -/
namespace Go.Proofs.YtejhhdpfndiliaaDoor.Ab
open Go

def inw (f : UInt8 → UInt8 → Nat) : List UInt8 → Nat
  | [] => 0
  | a :: l => (l.map (f a)).sum + inw f l
def crossB (f : UInt8 → UInt8 → Nat) (A B : List UInt8) : Nat := (A.map fun a => (B.map (f a)).sum).sum
theorem inv_append (f : UInt8 → UInt8 → Nat) : ∀ A B : List UInt8, inw f (A ++ B) = inw f A + inw f B + crossB f A B
  | [], B => by simp [inw, crossB]
  | a :: A, B => by
    simp only [List.cons_append, inw, inv_append f A B, List.map_append, List.sum_append, crossB, List.map_cons, List.sum_cons]
    omega
theorem inv_mid (f : UInt8 → UInt8 → Nat) (A B X X' : List UInt8) (hX : ∀ g : UInt8 → Nat, (X'.map g).sum = (X.map g).sum) : inw f (A ++ (X' ++ B)) + inw f X = inw f (A ++ (X ++ B)) + inw f X' := by
  have h1 : crossB f X' B = crossB f X B := hX _
  have h2 : crossB f A (X' ++ B) = crossB f A (X ++ B) := by
    unfold crossB
    congr 1
    refine List.map_congr_left fun a _ => ?_
    rw [List.map_append, List.map_append, List.sum_append, List.sum_append, hX]
  simp only [inv_append, h1, h2]
  omega
theorem inv_rev (f : UInt8 → UInt8 → Nat) : ∀ l : List UInt8, inw f l.reverse = inw (fun a b => f b a) l
  | [] => rfl
  | a :: l => by
    rw [List.reverse_cons, inv_append, inv_rev f l]
    have : crossB f l.reverse [a] = (l.map fun b => f b a).sum := by
      simp [crossB, List.map_reverse, List.sum_reverse]
    rw [this]
    simp only [inw, List.map_nil, List.sum_nil]
    omega
theorem inv_map (f : UInt8 → UInt8 → Nat) (g : UInt8 → UInt8) : ∀ l : List UInt8, inw f (l.map g) = inw (fun a b => f (g a) (g b)) l
  | [] => rfl
  | a :: l => by
    simp only [List.map_cons, inw, inv_map f g l, List.map_map]
    rfl
theorem inv_zero {f : UInt8 → UInt8 → Nat} : ∀ {l : List UInt8}, l.Pairwise (fun a b => f a b = 0) → inw f l = 0
  | [], _ => rfl
  | a :: l, h => by
    rw [List.pairwise_cons] at h
    have : (l.map (f a)).sum = 0 := by
      have : l.map (f a) = l.map fun _ => 0 := List.map_congr_left fun b hb => h.1 b hb
      rw [this]
      clear this h
      induction l with
      | nil => rfl
      | cons b l ih => simpa using ih
    simp only [inw, this, inv_zero h.2]

def vW (a b : UInt8) : Nat := if a = 84 then (if b = 70 then 2 else if b = 46 then 1 else 0) else if a = 46 then (if b = 70 then 1 else 0) else 0
def vP (a b : UInt8) : Nat := if a = 84 then (if b = 70 then 1 else 0) else 0
def wayN (w : List UInt8) : Nat := inw vW w

theorem sumW84 : ∀ l : List UInt8, (l.map (vW 84)).sum = 2 * l.count 70 + l.count 46
  | [] => rfl
  | b :: l => by
    rw [List.map_cons, List.sum_cons, sumW84 l]
    by_cases h1 : b = 70
    · subst h1; simp [vW, List.count_cons]; omega
    · by_cases h2 : b = 46
      · subst h2; simp [vW, List.count_cons]; omega
      · simp [vW, List.count_cons, h1, h2]
theorem sumW46 : ∀ l : List UInt8, (l.map (vW 46)).sum = l.count 70
  | [] => rfl
  | b :: l => by
    rw [List.map_cons, List.sum_cons, sumW46 l]
    by_cases h1 : b = 70
    · subst h1; simp [vW, List.count_cons]; omega
    · simp [vW, List.count_cons, h1]
theorem sum_z {α : Type} : ∀ l : List α, (l.map fun _ => 0).sum = 0
  | [] => rfl
  | _ :: l => by simpa using sum_z l
theorem sumW70 (l : List UInt8) : (l.map (vW 70)).sum = 0 := by
  have : l.map (vW 70) = l.map fun _ => 0 := List.map_congr_left fun b _ => rfl
  rw [this, sum_z]
theorem sumP84 : ∀ l : List UInt8, (l.map (vP 84)).sum = l.count 70
  | [] => rfl
  | b :: l => by
    rw [List.map_cons, List.sum_cons, sumP84 l]
    by_cases h1 : b = 70
    · subst h1; simp [vP, List.count_cons]; omega
    · simp [vP, List.count_cons, h1]
theorem sumPx {a : UInt8} (ha : a ≠ 84) (l : List UInt8) : (l.map (vP a)).sum = 0 := by
  have : l.map (vP a) = l.map fun _ => 0 := List.map_congr_left fun b _ => by simp [vP, ha]
  rw [this, sum_z]
theorem sign3 {b : UInt8} (h : isSign b = true) : b = 84 ∨ b = 46 ∨ b = 70 := by
  unfold isSign at h
  simp only [Bool.or_eq_true, beq_iff_eq] at h
  rcases h with (h | h) | h
  · exact .inl h
  · exact .inr (.inr h)
  · exact .inr (.inl h)
theorem signs_cons {b : UInt8} {l : List UInt8} : signs (b :: l) ↔ isSign b = true ∧ signs l := by
  unfold signs; rw [List.all_cons, Bool.and_eq_true]
theorem cnt3 : ∀ {l : List UInt8}, signs l → l.length = l.count 84 + l.count 46 + l.count 70
  | [], _ => rfl
  | b :: l, h => by
    rw [signs_cons] at h
    have := cnt3 h.2
    rcases sign3 h.1 with rfl | rfl | rfl <;> simp [List.count_cons] <;> omega

/-! ### Pairs -/
theorem pairsL_inv : ∀ (l : List UInt8) (t s : Nat), pairsL l t s = s + t * l.count 70 + inw vP l
  | [], t, s => by simp [pairsL, inw]
  | b :: l, t, s => by
    simp only [pairsL, inw]
    by_cases h1 : b = 84
    · subst h1
      simp only [beq_self_eq_true, if_true, pairsL_inv l, sumP84]
      have : (84 :: l : List UInt8).count 70 = l.count 70 := by simp [List.count_cons]
      rw [this, Nat.succ_mul]; omega
    · have e1 : (b == 84) = false := by simpa using h1
      by_cases h2 : b = 70
      · subst h2
        have : (70 :: l : List UInt8).count 70 = l.count 70 + 1 := by simp [List.count_cons]
        simp only [e1, beq_self_eq_true, if_true, Bool.false_eq_true, if_false, pairsL_inv l, sumPx h1, this, Nat.mul_succ]
        omega
      · have e2 : (b == 70) = false := by simpa using h2
        have : (b :: l : List UInt8).count 70 = l.count 70 := by simp [List.count_cons, h2]
        simp only [e1, e2, Bool.false_eq_true, if_false, pairsL_inv l, sumPx h1, this]
        omega
theorem pairsB_inv (w : List UInt8) : pairsB w = inw vP w := by
  unfold pairsB; rw [pairsL_inv]; omega

/-! ### Moves -/
theorem set2 (A B : List UInt8) (x y v u : UInt8) : ((A ++ ([x, y] ++ B)).set (A.length + 1) v).set A.length u = A ++ ([u, v] ++ B) := by
  simp [List.set_append]
theorem set2' (A B : List UInt8) (x y v u : UInt8) : ((A ++ ([x, y] ++ B)).set A.length v).set (A.length + 1) u = A ++ ([v, u] ++ B) := by
  simp [List.set_append]
theorem set3 (A B : List UInt8) (x y z v u : UInt8) : ((A ++ ([x, y, z] ++ B)).set (A.length + 2) v).set A.length u = A ++ ([u, y, v] ++ B) := by
  simp [List.set_append]
theorem set3' (A B : List UInt8) (x y z v u : UInt8) : ((A ++ ([x, y, z] ++ B)).set A.length v).set (A.length + 2) u = A ++ ([v, y, u] ++ B) := by
  simp [List.set_append]
theorem splitW2 {w : List UInt8} {i : Nat} (h : i + 1 < w.length) : w = w.take i ++ ([w.getD i 0, w.getD (i + 1) 0] ++ w.drop (i + 2)) := by
  have e1 : w.getD i 0 = w[i] := by simp [List.getD_eq_getElem?_getD, show i < w.length by omega]
  have e2 : w.getD (i + 1) 0 = w[i + 1] := by simp [List.getD_eq_getElem?_getD, h]
  rw [e1, e2]
  simp
theorem splitW3 {w : List UInt8} {i : Nat} (h : i + 2 < w.length) : w = w.take i ++ ([w.getD i 0, w.getD (i + 1) 0, w.getD (i + 2) 0] ++ w.drop (i + 3)) := by
  have e1 : w.getD i 0 = w[i] := by simp [List.getD_eq_getElem?_getD, show i < w.length by omega]
  have e2 : w.getD (i + 1) 0 = w[i + 1] := by simp [List.getD_eq_getElem?_getD, show i + 1 < w.length by omega]
  have e3 : w.getD (i + 2) 0 = w[i + 2] := by simp [List.getD_eq_getElem?_getD, h]
  rw [e1, e2, e3]
  simp
/-- How a move turns a line. -/
theorem mv_parts {w : List UInt8} {i t : Nat} (h : Mv w i t) : ∃ A X X' B, w = A ++ (X ++ B) ∧ madeB w i t = A ++ (X' ++ B) ∧
    ((t = i + 1 ∧ X = [84, 46] ∧ X' = [46, 84]) ∨ (t = i + 2 ∧ X = [84, 70, 46] ∧ X' = [46, 70, 84]) ∨ (t + 1 = i ∧ X = [46, 70] ∧ X' = [70, 46]) ∨ (t + 2 = i ∧ X = [46, 84, 70] ∧ X' = [70, 84, 46])) := by
  obtain ⟨hi, ht, h46, h⟩ := h
  unfold madeB
  rcases h with ⟨ha, rfl | ⟨rfl, hb⟩⟩ | ⟨ha, rfl | ⟨rfl, hb⟩⟩
  · have hs := splitW2 ht
    have hA : (w.take i).length = i := by simp; omega
    rw [ha, h46] at hs
    refine ⟨w.take i, _, _, _, hs, ?_, .inl ⟨rfl, rfl, rfl⟩⟩
    have := set2 (w.take i) (w.drop (i + 2)) 84 46 84 46
    rw [hA, ← hs] at this
    rw [ha]; exact this
  · have hs := splitW3 ht
    have hA : (w.take i).length = i := by simp; omega
    rw [ha, hb, h46] at hs
    refine ⟨w.take i, _, _, _, hs, ?_, .inr (.inl ⟨rfl, rfl, rfl⟩)⟩
    have := set3 (w.take i) (w.drop (i + 3)) 84 70 46 84 46
    rw [hA, ← hs] at this
    rw [ha]; exact this
  · have hs := splitW2 hi
    have hA : (w.take t).length = t := by simp; omega
    rw [ha, h46] at hs
    refine ⟨w.take t, _, _, _, hs, ?_, .inr (.inr (.inl ⟨rfl, rfl, rfl⟩))⟩
    have := set2' (w.take t) (w.drop (t + 2)) 46 70 70 46
    rw [hA, ← hs] at this
    rw [ha]; exact this
  · have hs := splitW3 hi
    have hA : (w.take t).length = t := by simp; omega
    have hb' : w.getD (t + 1) 0 = 84 := hb
    rw [ha, hb', h46] at hs
    refine ⟨w.take t, _, _, _, hs, ?_, .inr (.inr (.inr ⟨rfl, rfl, rfl⟩))⟩
    have := set3' (w.take t) (w.drop (t + 3)) 46 84 70 70 46
    rw [hA, ← hs] at this
    rw [ha]; exact this
def isJ (i t : Nat) : Bool := decide (t = i + 2 ∨ t + 2 = i)
theorem made_way {w : List UInt8} {i t : Nat} (h : Mv w i t) : wayN (madeB w i t) + (if isJ i t then 2 else 1) = wayN w ∧ pairsB (madeB w i t) + (if isJ i t then 1 else 0) = pairsB w := by
  rw [pairsB_inv, pairsB_inv]
  unfold wayN
  obtain ⟨A, X, X', B, hw, hm, hc⟩ := mv_parts h
  rw [hm]
  have hX : ∀ g : UInt8 → Nat, (X'.map g).sum = (X.map g).sum := by
    intro g
    rcases hc with ⟨_, rfl, rfl⟩ | ⟨_, rfl, rfl⟩ | ⟨_, rfl, rfl⟩ | ⟨_, rfl, rfl⟩ <;> simp <;> omega
  have h1 := inv_mid vW A B X X' hX
  have h2 := inv_mid vP A B X X' hX
  rw [← hw] at h1 h2
  rcases hc with ⟨rfl, rfl, rfl⟩ | ⟨rfl, rfl, rfl⟩ | ⟨rfl, rfl, rfl⟩ | ⟨rfl, rfl, rfl⟩
  · have hj : isJ i (i + 1) = false := by simp [isJ]; omega
    have a1 : inw vW [84, 46] = 1 := by decide
    have a2 : inw vW [46, 84] = 0 := by decide
    have a3 : inw vP [84, 46] = 0 := by decide
    have a4 : inw vP [46, 84] = 0 := by decide
    simp only [hj, Bool.false_eq_true, if_false]; omega
  · have hj : isJ i (i + 2) = true := by simp [isJ]
    have a1 : inw vW [84, 70, 46] = 3 := by decide
    have a2 : inw vW [46, 70, 84] = 1 := by decide
    have a3 : inw vP [84, 70, 46] = 1 := by decide
    have a4 : inw vP [46, 70, 84] = 0 := by decide
    simp only [hj, if_true]; omega
  · have hj : isJ (t + 1) t = false := by simp [isJ]; omega
    have a1 : inw vW [46, 70] = 1 := by decide
    have a2 : inw vW [70, 46] = 0 := by decide
    have a3 : inw vP [46, 70] = 0 := by decide
    have a4 : inw vP [70, 46] = 0 := by decide
    simp only [hj, Bool.false_eq_true, if_false]; omega
  · have hj : isJ (t + 2) t = true := by simp [isJ]
    have a1 : inw vW [46, 84, 70] = 3 := by decide
    have a2 : inw vW [70, 84, 46] = 1 := by decide
    have a3 : inw vP [46, 84, 70] = 1 := by decide
    have a4 : inw vP [70, 84, 46] = 0 := by decide
    simp only [hj, if_true]; omega

/-! ### The way, as both sides count it -/
def wayL : List UInt8 → Int → Int → Int → Int → Int
  | [], _, _, _, s => s
  | b :: l, t, f, i, s => if b == 84 then wayL l (t + 1) f (i + 1) (s + (t - i)) else if b == 70 then wayL l t (f + 1) (i + 1) (s + (i - f)) else wayL l t f (i + 1) s
theorem wayL_inv : ∀ (l : List UInt8) (d i f : Nat) (t s : Int), signs l → (i : Int) - f = d → t = i + (l.count 46 + l.count 70 : Nat) → wayL l t f i s = s + (d * l.count 70 + inw vW l : Nat)
  | [], d, i, f, t, s, _, _, _ => by simp [wayL, inw]
  | b :: l, d, i, f, t, s, hg, hd, ht => by
    rw [signs_cons] at hg
    rcases sign3 hg.1 with rfl | rfl | rfl
    · have c1 : (84 :: l : List UInt8).count 46 = l.count 46 := by simp [List.count_cons]
      have c2 : (84 :: l : List UInt8).count 70 = l.count 70 := by simp [List.count_cons]
      rw [c1, c2] at ht
      have := wayL_inv l (d + 1) (i + 1) f (t + 1) (s + (t - i)) hg.2 (by omega) (by omega)
      simp only [wayL, beq_self_eq_true, if_true, inw, sumW84, c2]
      rw [show ((i : Int) + 1) = ((i + 1 : Nat) : Int) by omega, this, Nat.succ_mul]
      omega
    · have c1 : (46 :: l : List UInt8).count 46 = l.count 46 + 1 := by simp [List.count_cons]
      have c2 : (46 :: l : List UInt8).count 70 = l.count 70 := by simp [List.count_cons]
      rw [c1, c2] at ht
      have := wayL_inv l (d + 1) (i + 1) f t s hg.2 (by omega) (by omega)
      have e1 : ((46 : UInt8) == 84) = false := rfl
      have e2 : ((46 : UInt8) == 70) = false := rfl
      simp only [wayL, e1, e2, Bool.false_eq_true, if_false, inw, sumW46, c2]
      rw [show ((i : Int) + 1) = ((i + 1 : Nat) : Int) by omega, this, Nat.succ_mul]
      omega
    · have c1 : (70 :: l : List UInt8).count 46 = l.count 46 := by simp [List.count_cons]
      have c2 : (70 :: l : List UInt8).count 70 = l.count 70 + 1 := by simp [List.count_cons]
      rw [c1, c2] at ht
      have := wayL_inv l d (i + 1) (f + 1) t (s + (i - f)) hg.2 (by omega) (by omega)
      have e1 : ((70 : UInt8) == 84) = false := rfl
      simp only [wayL, e1, beq_self_eq_true, Bool.false_eq_true, if_false, if_true, inw, sumW70, c2]
      rw [show ((i : Int) + 1) = ((i + 1 : Nat) : Int) by omega, show ((f : Int) + 1) = ((f + 1 : Nat) : Int) by omega, this, Nat.mul_succ]
      omega
theorem wayL_N {w : List UInt8} (hg : signs w) : wayL w ((w.length : Int) - (w.count 84 : Nat)) 0 0 0 = (wayN w : Nat) := by
  have := wayL_inv w 0 0 0 ((w.length : Int) - (w.count 84 : Nat)) 0 hg (by omega) (by have := cnt3 hg; omega)
  simpa [wayN] using this
def psB (b : UInt8) : Nat → List UInt8 → Nat
  | _, [] => 0
  | k, x :: l => (if x = b then k else 0) + psB b (k + 1) l
def tri : Nat → Nat
  | 0 => 0
  | m + 1 => tri m + m
theorem ps_way : ∀ (w : List UInt8) (k : Nat), signs w → psB 70 k w + w.count 84 * (k + w.count 46 + w.count 70) + tri (w.count 84) = psB 84 k w + w.count 70 * k + tri (w.count 70) + inw vW w
  | [], k, _ => by simp [psB, tri, inw]
  | b :: l, k, hg => by
    rw [signs_cons] at hg
    have ih := ps_way l (k + 1) hg.2
    generalize hT : l.count 84 = T at ih
    generalize hG : l.count 46 = G at ih
    generalize hF : l.count 70 = FF at ih
    have m1 : T * (k + 1 + G + FF) = T * (k + G + FF) + T := by rw [show k + 1 + G + FF = k + G + FF + 1 by omega, Nat.mul_succ]
    have m2 : FF * (k + 1) = FF * k + FF := Nat.mul_succ _ _
    rw [m1, m2] at ih
    rcases sign3 hg.1 with rfl | rfl | rfl
    · have c1 : (84 :: l : List UInt8).count 84 = T + 1 := by simp [List.count_cons, hT]
      have c2 : (84 :: l : List UInt8).count 46 = G := by simp [List.count_cons, hG]
      have c3 : (84 :: l : List UInt8).count 70 = FF := by simp [List.count_cons, hF]
      have p1 : psB 70 k (84 :: l) = psB 70 (k + 1) l := by simp [psB]
      have p2 : psB 84 k (84 :: l) = k + psB 84 (k + 1) l := by simp [psB]
      rw [c1, c2, c3, p1, p2, Nat.succ_mul]
      simp only [tri, inw, sumW84, hF, hG]
      omega
    · have c1 : (46 :: l : List UInt8).count 84 = T := by simp [List.count_cons, hT]
      have c2 : (46 :: l : List UInt8).count 46 = G + 1 := by simp [List.count_cons, hG]
      have c3 : (46 :: l : List UInt8).count 70 = FF := by simp [List.count_cons, hF]
      have p1 : psB 70 k (46 :: l) = psB 70 (k + 1) l := by simp [psB]
      have p2 : psB 84 k (46 :: l) = psB 84 (k + 1) l := by simp [psB]
      rw [c1, c2, c3, p1, p2, show k + (G + 1) + FF = k + G + FF + 1 by omega, Nat.mul_succ]
      simp only [inw, sumW46, hF]
      omega
    · have c1 : (70 :: l : List UInt8).count 84 = T := by simp [List.count_cons, hT]
      have c2 : (70 :: l : List UInt8).count 46 = G := by simp [List.count_cons, hG]
      have c3 : (70 :: l : List UInt8).count 70 = FF + 1 := by simp [List.count_cons, hF]
      have p1 : psB 70 k (70 :: l) = k + psB 70 (k + 1) l := by simp [psB]
      have p2 : psB 84 k (70 :: l) = psB 84 (k + 1) l := by simp [psB]
      rw [c1, c2, c3, p1, p2, show k + G + (FF + 1) = k + G + FF + 1 by omega, Nat.mul_succ, Nat.succ_mul]
      simp only [tri, inw, sumW70]
      omega
def lastB (w : List UInt8) : List UInt8 := List.replicate (w.count 70) 70 ++ List.replicate (w.count 46) 46 ++ List.replicate (w.count 84) 84
theorem lastB_count (w : List UInt8) : (lastB w).count 84 = w.count 84 ∧ (lastB w).count 46 = w.count 46 ∧ (lastB w).count 70 = w.count 70 := by
  simp [lastB, List.count_append, List.count_replicate]
theorem lastB_signs (w : List UInt8) : signs (lastB w) := by
  unfold signs
  rw [List.all_eq_true]
  intro x hx
  simp only [lastB, List.mem_append, List.mem_replicate] at hx
  rcases hx with (⟨_, rfl⟩ | ⟨_, rfl⟩) | ⟨_, rfl⟩ <;> rfl
theorem lastB_len {w : List UInt8} (hg : signs w) : (lastB w).length = w.length := by
  have := cnt3 hg
  simp [lastB]; omega
theorem lastB_way (w : List UInt8) : wayN (lastB w) = 0 := by
  refine inv_zero ?_
  unfold lastB
  rw [List.pairwise_append, List.pairwise_append]
  refine ⟨⟨?_, ?_, ?_⟩, ?_, ?_⟩
  · rw [List.pairwise_replicate]; exact .inr rfl
  · rw [List.pairwise_replicate]; exact .inr rfl
  · intro a ha b hb
    rw [List.eq_of_mem_replicate ha, List.eq_of_mem_replicate hb]; rfl
  · rw [List.pairwise_replicate]; exact .inr rfl
  · intro a ha b hb
    rw [List.eq_of_mem_replicate hb]
    rw [List.mem_append] at ha
    rcases ha with ha | ha <;> rw [List.eq_of_mem_replicate ha] <;> rfl
theorem way_ps {w : List UInt8} (hg : signs w) : ((psB 84 0 (lastB w) : Nat) : Int) - (psB 84 0 w : Nat) + (psB 70 0 w : Nat) - (psB 70 0 (lastB w) : Nat) = (wayN w : Nat) := by
  have h1 := ps_way w 0 hg
  have h2 := ps_way (lastB w) 0 (lastB_signs w)
  obtain ⟨k1, k2, k3⟩ := lastB_count w
  have h3 := lastB_way w
  unfold wayN at h3 ⊢
  rw [k1, k2, k3, h3] at h2
  omega
theorem way_other (w : List UInt8) : wayN (otherL w) = wayN w := by
  unfold wayN otherL
  rw [inv_rev, inv_map]
  congr 1
  funext a b
  unfold vW otherB
  by_cases a1 : a = 84
  · subst a1
    by_cases b1 : b = 84
    · subst b1; rfl
    · by_cases b2 : b = 70
      · subst b2; rfl
      · by_cases b3 : b = 46
        · subst b3; rfl
        · simp [b1, b2, b3]
  · by_cases a2 : a = 70
    · subst a2
      by_cases b1 : b = 84
      · subst b1; rfl
      · by_cases b2 : b = 70
        · subst b2; rfl
        · by_cases b3 : b = 46
          · subst b3; rfl
          · simp [b1, b2, b3]
    · by_cases a3 : a = 46
      · subst a3
        by_cases b1 : b = 84
        · subst b1; rfl
        · by_cases b2 : b = 70
          · subst b2; rfl
          · simp [b1, b2]
      · simp [a1, a2, a3]
end Go.Proofs.YtejhhdpfndiliaaDoor.Ab

/- MOVES as lists: which are in them, in which order, those from the other side. -/
namespace Go.Proofs.YtejhhdpfndiliaaDoor.Ab
open Go

theorem mem_moves {w kd : List UInt8} {i t : Nat} : (((i : Int), (t : Int)) ∈ movesB w kd) ↔ Mv w i t ∧ hasB kd (w.getD i 0) = true := by
  simp only [movesB, List.mem_flatMap, List.mem_range]
  constructor
  · rintro ⟨j, hj, hm⟩
    unfold moveB at hm
    split at hm
    · rename_i t1 hg
      split at hm
      · rename_i hk
        simp only [List.mem_singleton, Prod.mk.injEq] at hm
        obtain ⟨e1, e2⟩ := hm
        have : i = j := by omega
        subst this
        obtain ⟨t', e3, hm⟩ := goalB_mv hj hg
        have : t = t' := by omega
        subst this
        exact ⟨hm, hk⟩
      · simp at hm
    · simp at hm
  · rintro ⟨hm, hk⟩
    refine ⟨i, hm.1, ?_⟩
    unfold moveB
    rw [mv_goalB hm]
    simp only [hk, if_true, List.mem_singleton]
theorem moves_sorted (w kd : List UInt8) : (movesB w kd).Pairwise fun a b => a.1 < b.1 := by
  unfold movesB
  rw [List.pairwise_flatMap]
  have hm : ∀ i, ∀ x ∈ moveB w kd i, x.1 = (i : Int) := by
    intro i x hx
    unfold moveB at hx
    split at hx
    · split at hx
      · simp only [List.mem_singleton] at hx; subst hx; rfl
      · simp at hx
    · simp at hx
  refine ⟨?_, ?_⟩
  · intro i _
    unfold moveB
    split
    · split <;> simp
    · simp
  · refine List.Pairwise.imp ?_ (List.pairwise_lt_range)
    intro a b hab x hx y hy
    rw [hm a x hx, hm b y hy]
    omega
theorem sum_add {α : Type} {f g p : α → Nat} : ∀ {l : List α}, (∀ x ∈ l, p x = f x + g x) → (l.map p).sum = (l.map f).sum + (l.map g).sum
  | [], _ => rfl
  | a :: l, h => by
    have := sum_add (l := l) (fun x hx => h x (by simp [hx]))
    simp only [List.map_cons, List.sum_cons, this, h a (by simp)]
    omega
theorem moves_len (w kd : List UInt8) : (movesB w kd).length = ((List.range w.length).map fun i => (moveB w kd i).length).sum := by
  unfold movesB; rw [List.length_flatMap]
theorem goal_sign {w : List UInt8} {i : Nat} {t : Int} (hg : goalB w i = some t) : w.getD i 0 = 84 ∨ w.getD i 0 = 70 := by
  by_cases hi : i < w.length
  · obtain ⟨t', _, hm⟩ := goalB_mv hi hg
    rcases hm.2.2.2 with h | h
    · exact .inl h.1
    · exact .inr h.1
  · have : w.getD i 0 = 0 := by simp [List.getD_eq_getElem?_getD, List.getElem?_eq_none (show w.length ≤ i by omega)]
    unfold goalB at hg
    rw [this] at hg
    simp [stepB] at hg
theorem moveB_count (w : List UInt8) (i : Nat) : (moveB w [84, 70] i).length = (moveB w [84] i).length + (moveB w [70] i).length := by
  unfold moveB
  cases hg : goalB w i with
  | none => rfl
  | some t =>
    rcases goal_sign hg with h | h <;> rw [h] <;> rfl
theorem moves_split (w : List UInt8) : (movesB w [84, 70]).length = (movesB w [84]).length + (movesB w [70]).length := by
  rw [moves_len, moves_len, moves_len]
  exact sum_add fun i _ => moveB_count w i

/-! ### From the other side -/
theorem otherB_two (b : UInt8) : otherB (otherB b) = b := by
  unfold otherB
  by_cases h1 : b = 84
  · subst h1; rfl
  · by_cases h2 : b = 70
    · subst h2; rfl
    · simp [h1, h2]
theorem other_two (w : List UInt8) : otherL (otherL w) = w := by
  unfold otherL
  rw [List.map_reverse, List.reverse_reverse, List.map_map]
  have : (otherB ∘ otherB) = id := by funext b; exact otherB_two b
  rw [this, List.map_id]
theorem other_get {w : List UInt8} {j : Nat} (hj : j < w.length) : (otherL w).getD (w.length - 1 - j) 0 = otherB (w.getD j 0) := by
  have h1 : w.length - 1 - j < (otherL w).length := by rw [otherL_len]; omega
  have e1 : (otherL w).getD (w.length - 1 - j) 0 = (otherL w)[w.length - 1 - j] := by simp [List.getD_eq_getElem?_getD, h1]
  have e2 : w.getD j 0 = w[j] := by simp [List.getD_eq_getElem?_getD, hj]
  rw [e1, e2]
  simp only [otherL, List.getElem_reverse, List.length_map, List.getElem_map]
  congr 2
  omega
theorem mv_other {w : List UInt8} {i t : Nat} (h : Mv w i t) : Mv (otherL w) (w.length - 1 - i) (w.length - 1 - t) := by
  obtain ⟨hi, ht, h46, h⟩ := h
  refine ⟨by rw [otherL_len]; omega, by rw [otherL_len]; omega, by rw [other_get ht, h46]; rfl, ?_⟩
  rcases h with ⟨ha, h⟩ | ⟨ha, h⟩
  · right
    refine ⟨by rw [other_get hi, ha]; rfl, ?_⟩
    rcases h with rfl | ⟨rfl, hb⟩
    · left; omega
    · right
      refine ⟨by omega, ?_⟩
      rw [show w.length - 1 - i - 1 = w.length - 1 - (i + 1) by omega, other_get (by omega), hb]; rfl
  · left
    refine ⟨by rw [other_get hi, ha]; rfl, ?_⟩
    rcases h with h | ⟨h, hb⟩
    · left; omega
    · right
      refine ⟨by omega, ?_⟩
      rw [show w.length - 1 - i + 1 = w.length - 1 - (i - 1) by omega, other_get (by omega), hb]; rfl
theorem moveB_iff (w : List UInt8) {i : Nat} (hi : i < w.length) : (moveB w [84, 70] i).length = 1 ↔ ∃ t, Mv w i t := by
  unfold moveB
  cases hg : goalB w i with
  | none =>
    simp only [List.length_nil]
    constructor
    · intro h; omega
    · rintro ⟨t, h⟩
      rw [mv_goalB h] at hg; cases hg
  | some t =>
    have hk : hasB [84, 70] (w.getD i 0) = true := by rcases goal_sign hg with h | h <;> rw [h] <;> rfl
    simp only [hk, if_true, List.length_singleton, true_iff]
    obtain ⟨t', _, hm⟩ := goalB_mv hi hg
    exact ⟨t', hm⟩
theorem moveB_other {w : List UInt8} {i : Nat} (hi : i < w.length) : (moveB (otherL w) [84, 70] (w.length - 1 - i)).length = (moveB w [84, 70] i).length := by
  have h1 := moveB_iff w hi
  have h2 := moveB_iff (otherL w) (i := w.length - 1 - i) (by rw [otherL_len]; omega)
  have l1 := moveB_len w [84, 70] i
  have l2 := moveB_len (otherL w) [84, 70] (w.length - 1 - i)
  have hiff : (∃ t, Mv (otherL w) (w.length - 1 - i) t) ↔ ∃ t, Mv w i t := by
    constructor
    · rintro ⟨t, h⟩
      have := mv_other h
      rw [other_two, otherL_len, show w.length - 1 - (w.length - 1 - i) = i by omega] at this
      exact ⟨_, this⟩
    · rintro ⟨t, h⟩
      exact ⟨_, mv_other h⟩
  rw [← h1, ← h2] at hiff
  by_cases h : (moveB w [84, 70] i).length = 1
  · rw [h, hiff.2 h]
  · have : ¬ (moveB (otherL w) [84, 70] (w.length - 1 - i)).length = 1 := fun hh => h (hiff.1 hh)
    omega
theorem moves_other_len (w : List UInt8) : (movesB (otherL w) [84, 70]).length = (movesB w [84, 70]).length := by
  rw [moves_len, moves_len, otherL_len]
  have h1 : ((List.range w.length).map fun i => (moveB w [84, 70] i).length) = (List.range w.length).map ((fun i => (moveB (otherL w) [84, 70] i).length) ∘ fun i => w.length - 1 - i) :=
    List.map_congr_left fun i hi => (moveB_other (List.mem_range.1 hi)).symm
  rw [h1, ← List.map_map]
  have h2 : (List.range w.length).map (fun i => w.length - 1 - i) = (List.range w.length).reverse := by
    refine List.ext_getElem (by simp) ?_
    intro n h3 h4
    simp
  rw [h2, List.map_reverse, List.sum_reverse]
theorem moves_toad {w : List UInt8} {i t : Nat} (h : Mv w i t) : (movesB w [84]).contains (((i : Int), (t : Int)) : Int × Int) = decide ((t : Int) > i) ∧ (movesB w [70]).contains (((i : Int), (t : Int)) : Int × Int) = !decide ((t : Int) > i) ∧
    (movesB (otherL w) [84, 70]).contains (((w.length : Int) - 1 - i, (w.length : Int) - 1 - t) : Int × Int) = true := by
  have hm := h
  obtain ⟨hi, ht, h46, hk⟩ := h
  have e1 : (w.length : Int) - 1 - i = ((w.length - 1 - i : Nat) : Int) := by omega
  have e2 : (w.length : Int) - 1 - t = ((w.length - 1 - t : Nat) : Int) := by omega
  have ho := mv_other hm
  have hok : hasB [84, 70] ((otherL w).getD (w.length - 1 - i) 0) = true := by
    rcases ho.2.2.2 with h | h <;> rw [h.1] <;> rfl
  have r3 : (movesB (otherL w) [84, 70]).contains (((w.length : Int) - 1 - i, (w.length : Int) - 1 - t) : Int × Int) = true := by
    rw [e1, e2]
    exact List.contains_iff_mem.2 (mem_moves.2 ⟨ho, hok⟩)
  refine ⟨?_, ?_, r3⟩
  · rcases hk with ⟨ha, hk⟩ | ⟨ha, hk⟩
    · rw [decide_eq_true (by omega)]
      exact List.contains_iff_mem.2 (mem_moves.2 ⟨hm, by rw [ha]; rfl⟩)
    · rw [decide_eq_false (by omega)]
      cases e : (movesB w [84]).contains (((i : Int), (t : Int)) : Int × Int)
      · rfl
      · have := (mem_moves.1 (List.contains_iff_mem.1 e)).2
        rw [ha] at this; cases this
  · rcases hk with ⟨ha, hk⟩ | ⟨ha, hk⟩
    · rw [decide_eq_true (by omega)]
      cases e : (movesB w [70]).contains (((i : Int), (t : Int)) : Int × Int)
      · rfl
      · have := (mem_moves.1 (List.contains_iff_mem.1 e)).2
        rw [ha] at this; cases this
    · rw [decide_eq_false (by omega)]
      exact List.contains_iff_mem.2 (mem_moves.2 ⟨hm, by rw [ha]; rfl⟩)
theorem good_other {w : List UInt8} (h : goodLine w = true) : goodLine (otherL w) = true := by
  unfold goodLine at *
  simp only [Bool.and_eq_true, decide_eq_true_eq] at *
  rw [otherL_len]
  exact ⟨h.1, otherL_signs h.2⟩
theorem good_made {w : List UInt8} {i t : Nat} (h : goodLine w = true) (hm : Mv w i t) : goodLine (madeB w i t) = true := by
  unfold goodLine at *
  simp only [Bool.and_eq_true, decide_eq_true_eq] at *
  rw [madeB_length]
  refine ⟨h.1, ?_⟩
  rw [List.all_eq_true] at *
  intro x hx
  unfold madeB at hx
  rcases List.mem_or_eq_of_mem_set hx with hx | rfl
  · rcases List.mem_or_eq_of_mem_set hx with hx | rfl
    · exact h.2 x hx
    · rcases hm.2.2.2 with h | h <;> rw [h.1] <;> rfl
  · rfl
end Go.Proofs.YtejhhdpfndiliaaDoor.Ab

/- PLAIN: plays of a game: the best moves, the play, the longest and the shortest play, how many there are; the other side. -/
namespace Go.Proofs.YtejhhdpfndiliaaDoor.Ab
open Go

/-! ### Longest, shortest, how many -/
def shF : List Nat → Nat
  | [] => 0
  | x :: l => l.foldl (fun a y => min a (y + 1)) (x + 1)
def loF (l : List Nat) : Nat := l.foldl (fun a y => max a (y + 1)) 0
def lnSt (_ : List UInt8 × Bool) (l : List (Nat × Nat × Nat)) : Nat × Nat × Nat := (loF (l.map (·.1)), shF (l.map (·.2.1)), if l = [] then 1 else (l.map (·.2.2)).sum)
def lnB (w : List UInt8) (t : Bool) : Nat × Nat × Nat := rc winNx lnSt (fun s => mu s.1) (w, t)
theorem lnB_eq (w : List UInt8) (t : Bool) : lnB w t = lnSt (w, t) ((movesB w (kindS t)).map fun m => lnB (madeB w m.1.toNat m.2.toNat) (!t)) := by
  unfold lnB
  have hm : ∀ s : List UInt8 × Bool, ∀ s' ∈ winNx s, mu s'.1 < mu s.1 := by
    intro s s' hs
    simp only [winNx, List.mem_map] at hs
    obtain ⟨v, hv, rfl⟩ := hs
    exact nextB_mu hv
  rw [rc_eq winNx lnSt (mu := fun s => mu s.1) hm (w, t)]
  simp only [winNx, nextB, List.map_map, Function.comp_def]
theorem foldl_max_le : ∀ (l : List Nat) (a : Nat), a ≤ l.foldl (fun a y => max a (y + 1)) a
  | [], a => Nat.le_refl a
  | y :: l, a => by
    have := foldl_max_le l (max a (y + 1))
    simp only [List.foldl_cons]; omega
theorem foldl_max_mem : ∀ (l : List Nat) (a y : Nat), y ∈ l → y + 1 ≤ l.foldl (fun a y => max a (y + 1)) a
  | x :: l, a, y, h => by
    simp only [List.foldl_cons]
    rcases List.mem_cons.1 h with rfl | h
    · have := foldl_max_le l (max a (y + 1)); omega
    · exact foldl_max_mem l _ y h
theorem foldl_min_le : ∀ (l : List Nat) (a : Nat), l.foldl (fun a y => min a (y + 1)) a ≤ a
  | [], a => Nat.le_refl a
  | y :: l, a => by
    have := foldl_min_le l (min a (y + 1))
    simp only [List.foldl_cons]; omega
theorem foldl_min_mem : ∀ (l : List Nat) (a y : Nat), y ∈ l → l.foldl (fun a y => min a (y + 1)) a ≤ y + 1
  | x :: l, a, y, h => by
    simp only [List.foldl_cons]
    rcases List.mem_cons.1 h with rfl | h
    · have := foldl_min_le l (min a (y + 1)); omega
    · exact foldl_min_mem l _ y h
theorem loF_mem {l : List Nat} {y : Nat} (h : y ∈ l) : y + 1 ≤ loF l := foldl_max_mem l 0 y h
theorem shF_mem {l : List Nat} {y : Nat} (h : y ∈ l) : shF l ≤ y + 1 := by
  cases l with
  | nil => simp at h
  | cons x l =>
    unfold shF
    rcases List.mem_cons.1 h with rfl | h
    · exact foldl_min_le l _
    · exact foldl_min_mem l _ y h
theorem ln_step {w : List UInt8} {t : Bool} {m : Int × Int} (h : m ∈ movesB w (kindS t)) :
    (lnB (madeB w m.1.toNat m.2.toNat) (!t)).1 + 1 ≤ (lnB w t).1 ∧ (lnB w t).2.1 ≤ (lnB (madeB w m.1.toNat m.2.toNat) (!t)).2.1 + 1 := by
  rw [lnB_eq w t]
  simp only [lnSt, List.map_map]
  exact ⟨loF_mem (List.mem_map.2 ⟨m, h, rfl⟩), shF_mem (List.mem_map.2 ⟨m, h, rfl⟩)⟩
theorem ln_none {w : List UInt8} {t : Bool} (h : movesB w (kindS t) = []) : lnB w t = (0, 0, 1) := by
  rw [lnB_eq w t, h]; rfl

/-! ### The play -/
def bestB (w : List UInt8) (t : Bool) : List (Int × Int) := (movesB w (kindS t)).filter fun m => !winB (madeB w m.1.toNat m.2.toNat) (!t)
def gmB (w : List UInt8) (t : Bool) : Option (Int × Int) := (bestB w t ++ movesB w (kindS t)).head?
theorem gmB_mem {w : List UInt8} {t : Bool} {m : Int × Int} (h : gmB w t = some m) : m ∈ movesB w (kindS t) := by
  have := List.mem_of_mem_head? (by rw [← gmB]; exact h : m ∈ (bestB w t ++ movesB w (kindS t)).head?)
  rcases List.mem_append.1 this with h | h
  · exact (List.mem_filter.1 h).1
  · exact h
theorem gmB_none {w : List UInt8} {t : Bool} (h : gmB w t = none) : movesB w (kindS t) = [] := by
  unfold gmB at h
  rw [List.head?_eq_none_iff] at h
  exact (List.append_eq_nil_iff.1 h).2
theorem gmB_some {w : List UInt8} {t : Bool} (h : movesB w (kindS t) ≠ []) : ∃ m, gmB w t = some m := by
  cases e : gmB w t with
  | none => exact absurd (gmB_none e) h
  | some m => exact ⟨m, rfl⟩
def plyN : Nat → List UInt8 → Bool → List (Int × Int)
  | 0, _, _ => []
  | n + 1, w, t => match gmB w t with
    | none => []
    | some m => m :: plyN n (madeB w m.1.toNat m.2.toNat) (!t)
def plyB (w : List UInt8) (t : Bool) : List (Int × Int) := plyN (mu w) w t
theorem mvm {w : List UInt8} {t : Bool} {m : Int × Int} (h : m ∈ movesB w (kindS t)) : mu (madeB w m.1.toNat m.2.toNat) < mu w := by
  obtain ⟨i, t', rfl, hm⟩ := movesB_mv h
  exact mu_made hm
theorem plyN_eq : ∀ (n m : Nat) (w : List UInt8) (t : Bool), mu w ≤ n → mu w ≤ m → plyN n w t = plyN m w t
  | 0, 0, _, _, _, _ => rfl
  | 0, m + 1, w, t, h, _ => by
    simp only [plyN]
    cases e : gmB w t with
    | none => rfl
    | some x => have := mvm (gmB_mem e); omega
  | n + 1, 0, w, t, _, h => by
    simp only [plyN]
    cases e : gmB w t with
    | none => rfl
    | some x => have := mvm (gmB_mem e); omega
  | n + 1, m + 1, w, t, h1, h2 => by
    simp only [plyN]
    cases e : gmB w t with
    | none => rfl
    | some x =>
      have := mvm (gmB_mem e)
      simp only
      rw [plyN_eq n m _ _ (by omega) (by omega)]
theorem plyB_none {w : List UInt8} {t : Bool} (h : gmB w t = none) : plyB w t = [] := by
  unfold plyB
  rw [plyN_eq (mu w) (mu w + 1) w t (Nat.le_refl _) (by omega)]
  simp only [plyN, h]
theorem plyB_some {w : List UInt8} {t : Bool} {m : Int × Int} (h : gmB w t = some m) : plyB w t = m :: plyB (madeB w m.1.toNat m.2.toNat) (!t) := by
  unfold plyB
  rw [plyN_eq (mu w) (mu w + 1) w t (Nat.le_refl _) (by omega)]
  simp only [plyN, h]
  have := mvm (gmB_mem h)
  rw [plyN_eq (mu w) (mu (madeB w m.1.toNat m.2.toNat)) _ _ (by omega) (Nat.le_refl _)]
theorem win_best (w : List UInt8) (t : Bool) : winB w t = decide (0 < (bestB w t).length) := by
  rw [winB_eq]
  unfold bestB
  rw [Bool.eq_iff_iff, List.any_eq_true, decide_eq_true_eq, List.length_pos_iff_exists_mem]
  simp only [List.mem_filter]
/-- Who wins makes the last move; the play is no longer than the longest one, no shorter than the shortest one. -/
theorem ply_facts : ∀ (n : Nat) (w : List UInt8) (t : Bool), mu w < n → decide ((plyB w t).length % 2 = 1) = winB w t ∧ (plyB w t).length ≤ (lnB w t).1 ∧ (lnB w t).2.1 ≤ (plyB w t).length
  | 0, _, _, h => by omega
  | n + 1, w, t, h => by
    cases e : gmB w t with
    | none =>
      have hn := gmB_none e
      rw [plyB_none e, ln_none hn, winB_eq, hn]
      simp
    | some m =>
      have hm := gmB_mem e
      obtain ⟨h1, h2, h3⟩ := ply_facts n (madeB w m.1.toNat m.2.toNat) (!t) (by have := mvm hm; omega)
      obtain ⟨k1, k2⟩ := ln_step hm
      rw [plyB_some e, List.length_cons]
      refine ⟨?_, by omega, by omega⟩
      have hw : winB w t = !winB (madeB w m.1.toNat m.2.toNat) (!t) := by
        rw [win_best]
        cases hb : bestB w t with
        | nil =>
          have hx : m ∉ bestB w t := by rw [hb]; simp
          unfold bestB at hx
          rw [List.mem_filter] at hx
          cases hv : winB (madeB w m.1.toNat m.2.toNat) (!t)
          · exact absurd ⟨hm, by rw [hv]; rfl⟩ hx
          · rfl
        | cons x l =>
          unfold gmB at e
          rw [hb] at e
          simp only [List.cons_append, List.head?_cons, Option.some.injEq] at e
          subst e
          have hx : x ∈ bestB w t := by rw [hb]; simp
          unfold bestB at hx
          have := (List.mem_filter.1 hx).2
          rw [this]; rfl
      rw [hw, ← h1, Bool.eq_iff_iff]
      simp only [decide_eq_true_eq, Bool.not_eq_true', decide_eq_false_iff_not]
      omega
theorem ply_zero (w : List UInt8) (t : Bool) : ((lnB w t).1 = 0 ↔ (plyB w t).length = 0) ∧ ((plyB w t).length = 0 ↔ movesB w (kindS t) = []) := by
  by_cases h : movesB w (kindS t) = []
  · have : gmB w t = none := by unfold gmB bestB; rw [h]; rfl
    rw [ln_none h, plyB_none this, h]; simp
  · obtain ⟨m, hm⟩ := gmB_some h
    have := (ln_step (gmB_mem hm)).1
    rw [plyB_some hm, List.length_cons]
    exact ⟨⟨fun h => by omega, fun h => by omega⟩, ⟨fun h => by omega, fun h' => absurd h' h⟩⟩
theorem sh_lo (w : List UInt8) (t : Bool) : (lnB w t).2.1 ≤ (lnB w t).1 := by
  obtain ⟨_, h2, h3⟩ := ply_facts (mu w + 1) w t (by omega)
  omega

/-! ### The other side -/
theorem made_other {w : List UInt8} {i t : Nat} (hi : i < w.length) (ht : t < w.length) : madeB (otherL w) (w.length - 1 - i) (w.length - 1 - t) = otherL (madeB w i t) := by
  have hg := other_get hi
  unfold madeB
  rw [hg]
  apply List.ext_getElem
  · simp [otherL]
  · intro j h1 h2
    have hj : j < w.length := by simpa [otherL] using h2
    simp only [otherL, List.getElem_set, List.getElem_reverse, List.getElem_map, List.length_map, List.length_set]
    by_cases e1 : w.length - 1 - i = j
    · rw [if_pos e1, if_pos (show i = w.length - 1 - j by omega)]; rfl
    · rw [if_neg e1, if_neg (show ¬ i = w.length - 1 - j by omega)]
      by_cases e2 : w.length - 1 - t = j
      · rw [if_pos e2, if_pos (show t = w.length - 1 - j by omega)]
      · rw [if_neg e2, if_neg (show ¬ t = w.length - 1 - j by omega)]
theorem kind_other (t : Bool) (b : UInt8) : hasB (kindS (!t)) (otherB b) = hasB (kindS t) b := by
  have e : ∀ (t : Bool) (b : UInt8), hasB (kindS t) b = if t then b == 84 else b == 70 := by
    intro t b
    have := hasB_kinds t (!t) b
    cases t
    · simpa [kindsS, kindS] using this
    · simpa [kindsS, kindS] using this
  rw [e, e]
  unfold otherB
  by_cases h1 : b = 84
  · subst h1; cases t <;> rfl
  · by_cases h2 : b = 70
    · subst h2; cases t <;> rfl
    · have g1 : (b == 84) = false := by simpa using h1
      have g2 : (b == 70) = false := by simpa using h2
      cases t <;> simp [h1, h2, g1, g2]
theorem win_other : ∀ (n : Nat) (w : List UInt8) (t : Bool), mu w < n → winB (otherL w) (!t) = winB w t
  | 0, _, _, h => by omega
  | n + 1, w, t, h => by
    rw [winB_eq (otherL w), winB_eq w, Bool.eq_iff_iff, List.any_eq_true, List.any_eq_true]
    constructor
    · rintro ⟨m, hm, hv⟩
      obtain ⟨i, u, rfl, hmv⟩ := movesB_mv hm
      have hk := (mem_moves.1 hm).2
      have h1 := mv_other hmv
      rw [other_two, otherL_len] at h1
      have hi := hmv.1
      have hu := hmv.2.1
      rw [otherL_len] at hi hu
      refine ⟨(((w.length - 1 - i : Nat) : Int), ((w.length - 1 - u : Nat) : Int)), mem_moves.2 ⟨h1, ?_⟩, ?_⟩
      · have hg := other_get (w := w) (j := w.length - 1 - i) (by omega)
        rw [show w.length - 1 - (w.length - 1 - i) = i by omega] at hg
        rw [hg, kind_other] at hk
        exact hk
      · simp only [Int.toNat_natCast] at hv ⊢
        have hm2 := made_other h1.1 h1.2.1
        rw [show w.length - 1 - (w.length - 1 - i) = i by omega, show w.length - 1 - (w.length - 1 - u) = u by omega] at hm2
        rw [hm2, win_other n _ (!t) (by have := mu_made h1; omega)] at hv
        exact hv
    · rintro ⟨m, hm, hv⟩
      obtain ⟨i, u, rfl, hmv⟩ := movesB_mv hm
      have hk := (mem_moves.1 hm).2
      refine ⟨(((w.length - 1 - i : Nat) : Int), ((w.length - 1 - u : Nat) : Int)), mem_moves.2 ⟨mv_other hmv, ?_⟩, ?_⟩
      · rw [other_get hmv.1, kind_other]; exact hk
      · simp only [Int.toNat_natCast] at hv ⊢
        rw [made_other hmv.1 hmv.2.1, win_other n _ (!t) (by have := mu_made hmv; omega)]
        exact hv

/-! ### Few games: they fit into 63 bits -/
def dep (w : List UInt8) : Nat := wayN w - pairsB w
theorem pairs_way : ∀ l : List UInt8, inw vP l ≤ inw vW l ∧ inw vW l ≤ inw vP l + (l.count 84 * l.count 46 + l.count 84 * l.count 70 + l.count 46 * l.count 70)
  | [] => by simp [inw]
  | a :: l => by
    obtain ⟨h1, h2⟩ := pairs_way l
    simp only [inw, cntB]
    by_cases h84 : a = 84
    · subst h84
      rw [sumP84, sumW84]
      simp only [if_true, show ((84 : UInt8) = 46) = False from by simp, show ((84 : UInt8) = 70) = False from by simp, if_false, Nat.add_zero, Nat.add_mul, Nat.one_mul]
      omega
    · rw [sumPx h84]
      by_cases h46 : a = 46
      · subst h46
        rw [sumW46]
        simp only [show ((46 : UInt8) = 84) = False from by simp, if_true, show ((46 : UInt8) = 70) = False from by simp, if_false, Nat.add_zero, Nat.add_mul, Nat.one_mul, Nat.mul_add, Nat.mul_one]
        omega
      · by_cases h70 : a = 70
        · subst h70
          rw [sumW70]
          simp only [show ((70 : UInt8) = 84) = False from by simp, show ((70 : UInt8) = 46) = False from by simp, if_true, if_false, Nat.add_zero, Nat.mul_add, Nat.mul_one]
          omega
        · have hz : (l.map (vW a)).sum = 0 := by
            have : l.map (vW a) = l.map fun _ => 0 := List.map_congr_left fun b _ => by unfold vW; simp [h84, h46]
            rw [this, sum_z]
          rw [hz]
          simp only [h84, h46, h70, if_false, Nat.add_zero]
          omega
  where cntB {x b : UInt8} {l : List UInt8} : (x :: l).count b = l.count b + if x = b then 1 else 0 := by
          rw [List.count_cons]; simp
theorem dep_made {w : List UInt8} {i t : Nat} (h : Mv w i t) : dep (madeB w i t) + 1 = dep w := by
  obtain ⟨h1, h2⟩ := made_way h
  have h3 := (pairs_way w).1
  have h4 := (pairs_way (madeB w i t)).1
  rw [← pairsB_inv] at h3 h4
  unfold dep
  change pairsB w ≤ wayN w at h3
  change pairsB (madeB w i t) ≤ wayN (madeB w i t) at h4
  cases hj : isJ i t <;> rw [hj] at h1 h2 <;> simp only [if_true, if_false, Bool.false_eq_true] at h1 h2 <;> omega
theorem count_madeG {w : List UInt8} {i t : Nat} (h : Mv w i t) (b : UInt8) : (madeB w i t).count b = w.count b := by
  obtain ⟨A, X, X', B, hw, hm, hc⟩ := mv_parts h
  rw [hm]
  conv => rhs; rw [hw]
  simp only [List.count_append]
  have : X'.count b = X.count b := by
    rcases hc with ⟨_, rfl, rfl⟩ | ⟨_, rfl, rfl⟩ | ⟨_, rfl, rfl⟩ | ⟨_, rfl, rfl⟩ <;> simp only [List.count_cons, List.count_nil] <;> omega
  rw [this]
def knd (t : Bool) : UInt8 := if t then 84 else 70
theorem countP_range {w : List UInt8} (p : UInt8 → Bool) : ((List.range w.length).filter fun i => p (w.getD i 0)).length = (w.filter p).length := by
  have : w = (List.range w.length).map fun i => w.getD i 0 := by
    apply List.ext_getElem
    · simp
    · intro j h1 h2; simp [List.getD_eq_getElem?_getD, h1]
  conv => rhs; rw [this, List.filter_map, List.length_map]
  rfl
theorem cnt_range (w : List UInt8) (b : UInt8) : ((List.range w.length).filter fun i => w.getD i 0 == b).length = w.count b := by
  rw [countP_range (fun x => x == b), List.count_eq_length_filter]
theorem has_kind (t : Bool) (b : UInt8) : hasB (kindS t) b = (b == knd t) := by
  have := hasB_kinds t (!t) b
  cases t <;> simpa [kindsS, kindS, knd] using this
theorem moves_few (w : List UInt8) (t : Bool) : (movesB w (kindS t)).length ≤ min (w.count (knd t)) (w.count 46) := by
  have hs := moves_sorted w (kindS t)
  have hmem : ∀ m ∈ movesB w (kindS t), ∃ i u : Nat, m = ((i : Int), (u : Int)) ∧ Mv w i u ∧ w.getD i 0 = knd t := by
    intro m hm
    obtain ⟨i, u, rfl, hmv⟩ := movesB_mv hm
    refine ⟨i, u, rfl, hmv, ?_⟩
    have := (mem_moves.1 hm).2
    rw [has_kind] at this
    simpa using this
  have n1 : ((movesB w (kindS t)).map fun m => m.1.toNat).Nodup := by
    rw [List.Nodup, List.pairwise_map]
    refine List.Pairwise.imp_of_mem ?_ hs
    intro a b ha hb hab
    obtain ⟨i, u, rfl, h1, _⟩ := hmem a ha
    obtain ⟨j, v, rfl, h2, _⟩ := hmem b hb
    simp only at hab ⊢
    omega
  have n2 : ((movesB w (kindS t)).map fun m => m.2.toNat).Nodup := by
    rw [List.Nodup, List.pairwise_map]
    refine List.Pairwise.imp_of_mem ?_ hs
    intro a b ha hb hab
    obtain ⟨i, u, rfl, h1, k1⟩ := hmem a ha
    obtain ⟨j, v, rfl, h2, k2⟩ := hmem b hb
    simp only [Int.toNat_natCast] at hab ⊢
    rintro rfl
    obtain ⟨_, _, _, h1⟩ := h1
    obtain ⟨_, _, _, h2⟩ := h2
    cases t
    · have e1 : w.getD i 0 = 70 := k1
      have e2 : w.getD j 0 = 70 := k2
      rw [e1] at h1
      rw [e2] at h2
      rcases h1 with ⟨h1, _⟩ | ⟨_, h1⟩
      · cases h1
      · rcases h2 with ⟨h2, _⟩ | ⟨_, h2⟩
        · cases h2
        · rcases h1 with h1 | ⟨h1, _⟩
          · rcases h2 with h2 | ⟨h2, h3⟩
            · omega
            · have : j - 1 = i := by omega
              rw [this, e1] at h3; cases h3
          · rcases h2 with h2 | ⟨h2, h3⟩ <;> omega
    · have e1 : w.getD i 0 = 84 := k1
      have e2 : w.getD j 0 = 84 := k2
      rw [e1] at h1
      rw [e2] at h2
      rcases h1 with ⟨_, h1⟩ | ⟨h1, _⟩
      · rcases h2 with ⟨_, h2⟩ | ⟨h2, _⟩
        · rcases h1 with h1 | ⟨h1, h3⟩
          · rcases h2 with h2 | ⟨h2, _⟩ <;> omega
          · rcases h2 with h2 | ⟨h2, _⟩
            · have : i + 1 = j := by omega
              rw [this, e2] at h3; cases h3
            · omega
        · cases h2
      · cases h1
  have l1 := List.Nodup.length_le_of_subset n1 (l₂ := (List.range w.length).filter fun i => w.getD i 0 == knd t) (by
    intro x hx
    obtain ⟨m, hm, rfl⟩ := List.mem_map.1 hx
    obtain ⟨i, u, rfl, h1, k1⟩ := hmem m hm
    rw [List.mem_filter, List.mem_range]
    exact ⟨h1.1, by simpa using k1⟩)
  have l2 := List.Nodup.length_le_of_subset n2 (l₂ := (List.range w.length).filter fun i => w.getD i 0 == 46) (by
    intro x hx
    obtain ⟨m, hm, rfl⟩ := List.mem_map.1 hx
    obtain ⟨i, u, rfl, h1, k1⟩ := hmem m hm
    rw [List.mem_filter, List.mem_range]
    exact ⟨h1.2.1, by simpa using h1.2.2.1⟩)
  rw [cnt_range, List.length_map] at l1 l2
  omega
def br (w : List UInt8) (t : Bool) : Nat := max 1 (min (w.count (knd t)) (w.count 46))
theorem sum_le_mulN {α : Type} (f : α → Nat) (B : Nat) : ∀ l : List α, (∀ x ∈ l, f x ≤ B) → (l.map f).sum ≤ l.length * B
  | [], _ => by simp
  | a :: l, h => by
    have h1 := h a (by simp)
    have h2 := sum_le_mulN f B l fun x hx => h x (by simp [hx])
    rw [List.map_cons, List.sum_cons, List.length_cons, Nat.succ_mul]; omega
theorem games_pow : ∀ (n : Nat) (w : List UInt8) (t : Bool), dep w = n → 1 ≤ (lnB w t).2.2 ∧ (lnB w t).2.2 ≤ br w t ^ ((n + 1) / 2) * br w (!t) ^ (n / 2) := by
  intro n
  induction n with
  | zero =>
    intro w t hd
    have hm : movesB w (kindS t) = [] := by
      cases e : movesB w (kindS t) with
      | nil => rfl
      | cons m l =>
        obtain ⟨i, u, rfl, hmv⟩ := movesB_mv (w := w) (kinds := kindS t) (m := m) (by rw [e]; simp)
        have := dep_made hmv; omega
    rw [ln_none hm]; simp
  | succ n ih =>
    intro w t hd
    by_cases hm : movesB w (kindS t) = []
    · rw [ln_none hm]
      refine ⟨Nat.le_refl _, ?_⟩
      exact Nat.mul_pos (Nat.pow_pos (by unfold br; omega)) (Nat.pow_pos (by unfold br; omega))
    · have hk : ∀ m ∈ movesB w (kindS t), 1 ≤ (lnB (madeB w m.1.toNat m.2.toNat) (!t)).2.2 ∧ (lnB (madeB w m.1.toNat m.2.toNat) (!t)).2.2 ≤ br w (!t) ^ ((n + 1) / 2) * br w t ^ (n / 2) := by
        intro m hmm
        obtain ⟨i, u, rfl, hmv⟩ := movesB_mv hmm
        have hd2 := dep_made hmv
        have := ih (madeB w i u) (!t) (by omega)
        have hb : ∀ s, br (madeB w i u) s = br w s := fun s => by unfold br; rw [count_madeG hmv, count_madeG hmv]
        rw [hb, hb, Bool.not_not] at this
        simpa using this
      have he : (lnB w t).2.2 = ((movesB w (kindS t)).map fun m => (lnB (madeB w m.1.toNat m.2.toNat) (!t)).2.2).sum := by
        rw [lnB_eq w t]
        simp only [lnSt, List.map_eq_nil_iff, hm, if_false, List.map_map]
        rfl
      rw [he]
      constructor
      · cases e : movesB w (kindS t) with
        | nil => exact absurd e hm
        | cons m l =>
          have := (hk m (by rw [e]; simp)).1
          simp only [List.map_cons, List.sum_cons]; omega
      · have h1 := sum_le_mulN (fun m : Int × Int => (lnB (madeB w m.1.toNat m.2.toNat) (!t)).2.2) (br w (!t) ^ ((n + 1) / 2) * br w t ^ (n / 2)) (movesB w (kindS t)) fun m hmm => (hk m hmm).2
        have h2 := moves_few w t
        have h3 : (movesB w (kindS t)).length ≤ br w t := by unfold br; omega
        have h4 := Nat.mul_le_mul_right (br w (!t) ^ ((n + 1) / 2) * br w t ^ (n / 2)) h3
        refine Nat.le_trans h1 (Nat.le_trans h4 (Nat.le_of_eq ?_))
        rw [show (n + 1 + 1) / 2 = n / 2 + 1 by omega, Nat.pow_succ]
        rw [← Nat.mul_assoc, Nat.mul_comm (br w t) (br w (!t) ^ ((n + 1) / 2)), Nat.mul_assoc, Nat.mul_comm (br w t) (br w t ^ (n / 2)), Nat.mul_comm]
theorem games_all : ((List.range 11).all fun t => (List.range 11).all fun g => (List.range 11).all fun f => decide (10 < t + g + f) ||
    decide ((max 1 (min t g)) ^ ((t * g + t * f + g * f + 1) / 2) * (max 1 (min f g)) ^ ((t * g + t * f + g * f) / 2) < 2 ^ 60 ∧ (max 1 (min f g)) ^ ((t * g + t * f + g * f + 1) / 2) * (max 1 (min t g)) ^ ((t * g + t * f + g * f) / 2) < 2 ^ 60)) = true := by decide +kernel
theorem games_lt {w : List UInt8} (t : Bool) (hg : signs w) (hl : w.length ≤ 10) : 1 ≤ (lnB w t).2.2 ∧ (lnB w t).2.2 < 2 ^ 60 := by
  obtain ⟨h1, h2⟩ := games_pow (dep w) w t rfl
  refine ⟨h1, Nat.lt_of_le_of_lt h2 ?_⟩
  have hc := cnt3 hg
  have hd : dep w ≤ w.count 84 * w.count 46 + w.count 84 * w.count 70 + w.count 46 * w.count 70 := by
    have := (pairs_way w).2
    have h3 := pairsB_inv w
    unfold dep wayN
    omega
  have e1 := List.all_eq_true.1 games_all (w.count 84) (List.mem_range.2 (by omega))
  have e2 := List.all_eq_true.1 e1 (w.count 46) (List.mem_range.2 (by omega))
  have e3 := List.all_eq_true.1 e2 (w.count 70) (List.mem_range.2 (by omega))
  rw [Bool.or_eq_true, decide_eq_true_eq, decide_eq_true_eq] at e3
  have e4 := e3.resolve_left (by omega)
  have mono : ∀ P Q : Nat, 1 ≤ P → 1 ≤ Q → ∀ D, dep w ≤ D → P ^ ((dep w + 1) / 2) * Q ^ (dep w / 2) ≤ P ^ ((D + 1) / 2) * Q ^ (D / 2) := by
    intro P Q hP hQ D hD
    exact Nat.mul_le_mul (Nat.pow_le_pow_right hP (by omega)) (Nat.pow_le_pow_right hQ (by omega))
  cases t
  · exact Nat.lt_of_le_of_lt (mono _ _ (by unfold br; omega) (by unfold br; omega) _ hd) e4.2
  · exact Nat.lt_of_le_of_lt (mono _ _ (by unfold br; omega) (by unfold br; omega) _ hd) e4.1
end Go.Proofs.YtejhhdpfndiliaaDoor.Ab

/- CHOICES that are drawn from bytes: of what is drawn, only the bounds are told. -/
namespace Go.Proofs.YtejhhdpfndiliaaDoor.Ab
open Go
set_option maxRecDepth 100000
set_option maxHeartbeats 4000000

/-- A reader of bytes, made in b; so many bytes at most have been taken. -/
def Cur (b : AH) (cv : AV) (bs : List UInt8) (K : Nat) (h : AH) : Prop := Slc 1 encU b cv bs ∧ bs.length < 2 ^ 40 ∧ Pre b h ∧ ∃ (a : Nat) (s : Int), a ≤ K ∧ h[b.length]? = some (.row [cv, .int .i64 a, .int .u64 s] 0 0 false)
theorem Cur.le {b : AH} {cv : AV} {bs : List UInt8} {K K' : Nat} {h : AH} (hc : Cur b cv bs K h) (hk : K ≤ K') : Cur b cv bs K' h := by
  obtain ⟨h1, h2, h3, a, s, h4, h5⟩ := hc
  exact ⟨h1, h2, h3, a, s, by omega, h5⟩
theorem Cur.lt {b : AH} {cv : AV} {bs : List UInt8} {K : Nat} {h : AH} (hc : Cur b cv bs K h) : b.length < h.length := by
  obtain ⟨h1, h2, h3, a, s, h4, h5⟩ := hc
  exact (List.getElem?_eq_some_iff.1 h5).1
theorem Cur.pre {b : AH} {cv : AV} {bs : List UInt8} {K : Nat} {h h' : AH} (hc : Cur b cv bs K h) (hp : Pre h h') : Cur b cv bs K h' := by
  have hl := hc.lt
  obtain ⟨h1, h2, h3, a, s, h4, h5⟩ := hc
  exact ⟨h1, h2, h3.trans hp, a, s, h4, by rw [hp.2 _ hl]; exact h5⟩
theorem Cur.new {b : AH} {cv : AV} {bs : List UInt8} (hs : Slc 1 encU b cv bs) (hb : bs.length < 2 ^ 40) : Cur b cv bs 0 (b ++ [.row [cv, .int .i64 0, .int .u64 0] 0 0 false]) :=
  ⟨hs, hb, Pre.push _ _, 0, 0, Nat.le_refl _, by simp⟩
theorem Cur.done {b : AH} {cv : AV} {bs : List UInt8} {K : Nat} {h : AH} (hc : Cur b cv bs K h) : Pre b h := hc.2.2.1

theorem bits255 (x : Int) : ∃ n : Nat, n < 256 ∧ bits .and .u64 x 255 = n := by
  refine ⟨(BitVec.ofInt 64 x &&& BitVec.ofInt 64 255).toNat, ?_, ?_⟩
  · rw [BitVec.toNat_and]
    refine Nat.lt_of_le_of_lt Nat.and_le_right ?_
    decide
  · have h1 : (BitVec.ofInt 64 x &&& BitVec.ofInt 64 255).toNat < 256 := by
      rw [BitVec.toNat_and]
      refine Nat.lt_of_le_of_lt Nat.and_le_right ?_
      decide
    unfold bits
    show IntKind.u64.wrap ((BitVec.ofInt 64 x &&& BitVec.ofInt 64 255).toNat : Int) = _
    rw [IntKind.wrap_u64]
    omega

section
variable {b : AH} {cv : AV} {bs : List UInt8} {K : Nat} {h : AH} {post : AV → AH → Prop}

theorem c_next (hc : Cur b cv bs K h) (hK : K < 2 ^ 50) (hp : ∀ (x : Nat) h', x < 256 → Cur b cv bs (K + 1) h' → PreX b.length h h' → post (.int .i64 x) h') : S 107 [.ptr b.length 0 0 3] h post k := by
  have hl := hc.lt
  obtain ⟨hs, hbs, hpre, a, s, ha, hr⟩ := hc
  have r0 : rdRow h b.length 0 0 1 = some [cv] := by simp [rdRow, hr]
  have r1 : rdRow h b.length 0 1 1 = some [.int .i64 a] := by simp [rdRow, hr]
  have hset : ∀ o, (h.set b.length o)[b.length]? = some o := fun o => by rw [List.getElem?_set, if_pos rfl, if_pos hl]
  have w1 : ∀ v, wrRow h b.length 0 1 [.int .i64 v] = some (h.set b.length (.row [cv, .int .i64 v, .int .u64 s] 0 0 false)) := fun v => by simp [wrRow, hr, splice, AV.sc]
  have w2 : ∀ v y, wrRow (h.set b.length (.row [cv, y, .int .u64 s] 0 0 false)) b.length 0 2 [.int .u64 v] = some (h.set b.length (.row [cv, y, .int .u64 v] 0 0 false)) := fun v y => by simp [wrRow, hset, splice, AV.sc]
  have q0 : ∀ x y z, rdRow (h.set b.length (.row [x, y, z] 0 0 false)) b.length 0 0 1 = some [x] := fun x y z => by simp [rdRow, hset]
  have q1 : ∀ x y z, rdRow (h.set b.length (.row [x, y, z] 0 0 false)) b.length 0 1 1 = some [y] := fun x y z => by simp [rdRow, hset]
  have q2 : ∀ x y z, rdRow (h.set b.length (.row [x, y, z] 0 0 false)) b.length 0 2 1 = some [z] := fun x y z => by simp [rdRow, hset]
  have s2 : rdRow h b.length 0 2 1 = some [.int .u64 s] := by simp [rdRow, hr]
  have hw : IntKind.i64.wrap ((a : Int) + 1) = ((a + 1 : Nat) : Int) := by rw [IntKind.wrap_i64]; omega
  have fin0 : ∀ (x : Nat) (t : Int), x < 256 → post (.int .i64 x) (h.set b.length (.row [cv, .int .i64 ((a + 1 : Nat) : Int), .int .u64 t] 0 0 false)) := by
    intro x t hx
    refine hp x _ hx ⟨hs, hbs, hpre.set (Nat.le_refl _), a + 1, t, by omega, hset _⟩ (PreX.refl _ _).set
  have fin : ∀ (q t : Int), post (.int .i64 (IntKind.i64.wrap (bits .and .u64 q 255))) (h.set b.length (.row [cv, .int .i64 ((a + 1 : Nat) : Int), .int .u64 t] 0 0 false)) := by
    intro q t
    obtain ⟨n, hn, e⟩ := bits255 q
    rw [e, show IntKind.i64.wrap (n : Int) = n by rw [IntKind.wrap_i64]; omega]
    exact fin0 n t hn
  refine S_of rfl T107 ?_; unfold fi107
  rcases hs.cases with ⟨rfl, rfl⟩ | ⟨rfl, rfl⟩ | ⟨c, kk, off, hv⟩
  · have n1 : ¬ ((a : Int) < 0) := by omega
    have n2 : ¬ (((a + 1 : Nat) : Int) ≤ 0) := by omega
    simp (maxSteps := 1000000) (disch := first | omega | rfl | (simp only [zL, two63, room] <;> omega) | fail) only [↓reduceIte, ↓zP, zW, WOp, evOp, evBin, binI, binSh, binS, evNil, keyIs, keyEq, mkv, AV.cells, AV.sc, optv, bnd, env, put, Env.get, Env.set, Env.del, Env.dels, Env.init, res1, resL, resV, fillP, splice, newRow, Nat.reduceEqDiff, Nat.reduceLT, Nat.reduceLeDiff, Nat.reduceAdd, Nat.reduceMul, Nat.reduceSub, Nat.reduceBEq, reduceCtorEq, ↓zR, zQ, Tr, StA, StT, r0, r1, n1, n2, w1, w2, q0, q1, q2, s2, hw]
    exact fin _ _
  · have n1 : ¬ ((a : Int) < 0) := by omega
    have n2 : ¬ (((a + 1 : Nat) : Int) ≤ 0) := by omega
    simp (maxSteps := 1000000) (disch := first | omega | rfl | (simp only [zL, two63, room] <;> omega) | fail) only [↓reduceIte, ↓zP, zW, WOp, evOp, evBin, binI, binSh, binS, evNil, keyIs, keyEq, mkv, AV.cells, AV.sc, optv, bnd, env, put, Env.get, Env.set, Env.del, Env.dels, Env.init, res1, resL, resV, fillP, splice, newRow, Nat.reduceEqDiff, Nat.reduceLT, Nat.reduceLeDiff, Nat.reduceAdd, Nat.reduceMul, Nat.reduceSub, Nat.reduceBEq, reduceCtorEq, ↓zR, zQ, Tr, StA, StT, r0, r1, n1, n2, w1, w2, q0, q1, q2, s2, hw]
    exact fin _ _
  · by_cases hlt : a < bs.length
    · have hL : bs = bs.take a ++ bs[a] :: bs.drop (a + 1) := by
        have := (List.take_append_drop a bs).symm
        rwa [List.drop_eq_getElem_cons hlt] at this
      have hs2 := hs
      rw [hv, hL] at hs2
      have hrd := rdRow_pre hpre (hs2.rd hlU)
      rw [List.length_take, show min a bs.length = a by omega] at hrd
      subst hv
      have n1 : (a : Int) < (bs.length : Int) := by omega
      have n2 : ((a + 1 : Nat) : Int) ≤ (bs.length : Int) := by omega
      have hx : (bs[a]).toNat < 256 := bs[a].toNat_lt
      have hrd' : rdRow h c kk (off + a * 1) 1 = some [.int .u8 (bs[a]).toNat] := hrd
      generalize (bs[a]).toNat = x at hrd' hx
      have hwx : IntKind.i64.wrap (x : Int) = x := by rw [IntKind.wrap_i64]; omega
      simp (maxSteps := 1000000) (disch := first | omega | rfl | (simp only [zL, two63, room] <;> omega) | fail) only [↓reduceIte, ↓zP, zW, WOp, evOp, evBin, binI, binSh, binS, evNil, keyIs, keyEq, mkv, AV.cells, AV.sc, optv, bnd, env, put, Env.get, Env.set, Env.del, Env.dels, Env.init, res1, resL, resV, fillP, splice, newRow, Nat.reduceEqDiff, Nat.reduceLT, Nat.reduceLeDiff, Nat.reduceAdd, Nat.reduceMul, Nat.reduceSub, Nat.reduceBEq, reduceCtorEq, ↓zR, zQ, Tr, StA, StT, r0, r1, n1, n2, w1, w2, q0, q1, q2, s2, hw, hrd', hwx]
      exact fin0 x _ hx
    · subst hv
      have n1 : ¬ ((a : Int) < (bs.length : Int)) := by omega
      have n2 : ¬ (((a + 1 : Nat) : Int) ≤ (bs.length : Int)) := by omega
      simp (maxSteps := 1000000) (disch := first | omega | rfl | (simp only [zL, two63, room] <;> omega) | fail) only [↓reduceIte, ↓zP, zW, WOp, evOp, evBin, binI, binSh, binS, evNil, keyIs, keyEq, mkv, AV.cells, AV.sc, optv, bnd, env, put, Env.get, Env.set, Env.del, Env.dels, Env.init, res1, resL, resV, fillP, splice, newRow, Nat.reduceEqDiff, Nat.reduceLT, Nat.reduceLeDiff, Nat.reduceAdd, Nat.reduceMul, Nat.reduceSub, Nat.reduceBEq, reduceCtorEq, ↓zR, zQ, Tr, StA, StT, r0, r1, n1, n2, w1, w2, q0, q1, q2, s2, hw]
      exact fin _ _

/-- pick: less than n. -/
theorem c_pick (hc : Cur b cv bs K h) (hK : K < 2 ^ 49) (n : Nat) (hn : n < 2 ^ 40) (hp : ∀ (x : Nat) h', (x < n ∨ x = 0) → Cur b cv bs (K + 2) h' → PreX b.length h h' → post (.int .i64 x) h') : S 63 [.ptr b.length 0 0 3, .int .i64 n] h post k := by
  refine S_of rfl T63 ?_; unfold fi63
  by_cases h1 : n ≤ 1
  · have n1 : (n : Int) ≤ 1 := by omega
    simp (maxSteps := 1000000) (disch := first | omega | rfl | (simp only [zL, two63, room] <;> omega) | fail) only [↓reduceIte, ↓zP, zW, WOp, evOp, evBin, binI, binSh, binS, evNil, keyIs, keyEq, mkv, AV.cells, AV.sc, optv, bnd, env, put, Env.get, Env.set, Env.del, Env.dels, Env.init, res1, resL, resV, fillP, splice, newRow, Nat.reduceEqDiff, Nat.reduceLT, Nat.reduceLeDiff, Nat.reduceAdd, Nat.reduceMul, Nat.reduceSub, Nat.reduceBEq, reduceCtorEq, ↓zR, zQ, Tr, StA, StT, n1]
    exact hp 0 h (.inr rfl) (hc.le (by omega)) (PreX.refl _ _)
  have n1 : ¬ ((n : Int) ≤ 1) := by omega
  have fin : ∀ (x : Nat) h', Cur b cv bs (K + 2) h' → PreX b.length h h' → post (.int .i64 ((x : Int).tmod n)) h' := by
    intro x h' hc' hx
    have : (x : Int).tmod n = ((x % n : Nat) : Int) := by rw [Int.tmod_eq_emod_of_nonneg (by omega)]; omega
    rw [this]
    exact hp _ h' (.inl (Nat.mod_lt _ (by omega))) hc' hx
  have n0 : ((n : Int) == 0) = false := by simp; omega
  have n0' : ¬ ((n : Int) = 0) := by omega
  simp (maxSteps := 1000000) (disch := first | omega | rfl | (simp only [zL, two63, room] <;> omega) | fail) only [↓reduceIte, ↓zP, zW, WOp, evOp, evBin, binI, binSh, binS, evNil, keyIs, keyEq, mkv, AV.cells, AV.sc, optv, bnd, env, put, Env.get, Env.set, Env.del, Env.dels, Env.init, res1, resL, resV, fillP, splice, newRow, Nat.reduceEqDiff, Nat.reduceLT, Nat.reduceLeDiff, Nat.reduceAdd, Nat.reduceMul, Nat.reduceSub, Nat.reduceBEq, reduceCtorEq, ↓zR, zQ, Tr, StA, StT, n1]
  refine c_next hc (by omega) ?_
  intro x h2 hx hc2 hp2
  by_cases h3 : 200 < n
  · have n2 : (n : Int) > 200 := by omega
    have w1 : IntKind.i64.wrap ((x : Int) * 256) = ((x * 256 : Nat) : Int) := by rw [IntKind.wrap_i64]; omega
    simp (maxSteps := 1000000) (disch := first | omega | rfl | (simp only [zL, two63, room] <;> omega) | fail) only [↓reduceIte, ↓zP, zW, WOp, evOp, evBin, binI, binSh, binS, evNil, keyIs, keyEq, mkv, AV.cells, AV.sc, optv, bnd, env, put, Env.get, Env.set, Env.del, Env.dels, Env.init, res1, resL, resV, fillP, splice, newRow, Nat.reduceEqDiff, Nat.reduceLT, Nat.reduceLeDiff, Nat.reduceAdd, Nat.reduceMul, Nat.reduceSub, Nat.reduceBEq, reduceCtorEq, ↓zR, zQ, Tr, StA, StT, n2, w1]
    refine c_next hc2 (by omega) ?_
    intro y h3 hy hc3 hp3
    have w2 : IntKind.i64.wrap (((x * 256 : Nat) : Int) + (y : Int)) = ((x * 256 + y : Nat) : Int) := by rw [IntKind.wrap_i64]; omega
    simp (maxSteps := 1000000) (disch := first | omega | rfl | (simp only [zL, two63, room] <;> omega) | fail) only [↓reduceIte, ↓zP, zW, WOp, evOp, evBin, binI, binSh, binS, evNil, keyIs, keyEq, mkv, AV.cells, AV.sc, optv, bnd, env, put, Env.get, Env.set, Env.del, Env.dels, Env.init, res1, resL, resV, fillP, splice, newRow, Nat.reduceEqDiff, Nat.reduceLT, Nat.reduceLeDiff, Nat.reduceAdd, Nat.reduceMul, Nat.reduceSub, Nat.reduceBEq, reduceCtorEq, ↓zR, zQ, Tr, StA, StT, w2, n0, n0']
    exact fin _ _ hc3 (hp2.trans hp3)
  · have n2 : ¬ ((n : Int) > 200) := by omega
    simp (maxSteps := 1000000) (disch := first | omega | rfl | (simp only [zL, two63, room] <;> omega) | fail) only [↓reduceIte, ↓zP, zW, WOp, evOp, evBin, binI, binSh, binS, evNil, keyIs, keyEq, mkv, AV.cells, AV.sc, optv, bnd, env, put, Env.get, Env.set, Env.del, Env.dels, Env.init, res1, resL, resV, fillP, splice, newRow, Nat.reduceEqDiff, Nat.reduceLT, Nat.reduceLeDiff, Nat.reduceAdd, Nat.reduceMul, Nat.reduceSub, Nat.reduceBEq, reduceCtorEq, ↓zR, zQ, Tr, StA, StT, n2, n0, n0']
    exact fin _ _ (hc2.le (by omega)) hp2
theorem c_one (hc : Cur b cv bs K h) (hK : K < 2 ^ 49) (n : Nat) (hn : n < 2 ^ 40) (hp : ∀ (x : Bool) h', Cur b cv bs (K + 2) h' → PreX b.length h h' → post (.bool x) h') : S 64 [.ptr b.length 0 0 3, .int .i64 n] h post k := by
  refine S_of rfl T64 ?_; unfold fi64
  simp (maxSteps := 1000000) (disch := first | omega | rfl | (simp only [zL, two63, room] <;> omega) | fail) only [↓reduceIte, ↓zP, zW, WOp, evOp, evBin, binI, binSh, binS, evNil, keyIs, keyEq, mkv, AV.cells, AV.sc, optv, bnd, env, put, Env.get, Env.set, Env.del, Env.dels, Env.init, res1, resL, resV, fillP, splice, newRow, Nat.reduceEqDiff, Nat.reduceLT, Nat.reduceLeDiff, Nat.reduceAdd, Nat.reduceMul, Nat.reduceSub, Nat.reduceBEq, reduceCtorEq, ↓zR, zQ, Tr, StA, StT]
  refine c_pick hc hK n hn ?_
  intro x h' _ hc' hp'
  simp (maxSteps := 1000000) (disch := first | omega | rfl | (simp only [zL, two63, room] <;> omega) | fail) only [↓reduceIte, ↓zP, zW, WOp, evOp, evBin, binI, binSh, binS, evNil, keyIs, keyEq, mkv, AV.cells, AV.sc, optv, bnd, env, put, Env.get, Env.set, Env.del, Env.dels, Env.init, res1, resL, resV, fillP, splice, newRow, Nat.reduceEqDiff, Nat.reduceLT, Nat.reduceLeDiff, Nat.reduceAdd, Nat.reduceMul, Nat.reduceSub, Nat.reduceBEq, reduceCtorEq, ↓zR, zQ, Tr, StA, StT]
  exact hp _ h' hc' hp'
/-- An element of a list. -/
theorem c_of (hc : Cur b cv bs K h) (hK : K < 2 ^ 49) {lv : AV} {L : List (List UInt8)} (hs : Slc 1 encS h lv L) (hne : ∀ r, rowOf lv = some r → r ≠ b.length) (h0 : 0 < L.length) (hL : L.length < 2 ^ 40)
    (hp : ∀ x ∈ L, ∀ h', Cur b cv bs (K + 2) h' → PreX b.length h h' → post (.str x) h') : S 71 [.ptr b.length 0 0 3, lv] h post k := by
  rcases hs.cases with ⟨rfl, rfl⟩ | ⟨rfl, rfl⟩ | ⟨c, kk, off, rfl⟩
  · simp at h0
  · simp at h0
  refine S_of rfl T71 ?_; unfold fi71
  simp (maxSteps := 1000000) (disch := first | omega | rfl | (simp only [zL, two63, room] <;> omega) | fail) only [↓reduceIte, ↓zP, zW, WOp, evOp, evBin, binI, binSh, binS, evNil, keyIs, keyEq, mkv, AV.cells, AV.sc, optv, bnd, env, put, Env.get, Env.set, Env.del, Env.dels, Env.init, res1, resL, resV, fillP, splice, newRow, Nat.reduceEqDiff, Nat.reduceLT, Nat.reduceLeDiff, Nat.reduceAdd, Nat.reduceMul, Nat.reduceSub, Nat.reduceBEq, reduceCtorEq, ↓zR, zQ, Tr, StA, StT]
  refine c_pick hc hK L.length hL ?_
  intro x h2 hx hc2 hp2
  have hlt : x < L.length := by omega
  have hLe : L = L.take x ++ L[x] :: L.drop (x + 1) := by
    have := (List.take_append_drop x L).symm
    rwa [List.drop_eq_getElem_cons hlt] at this
  have hs2 := hs
  rw [hLe] at hs2
  have hrd := rdRow_prex hp2 (hne c rfl) (hs2.rd hlS)
  rw [List.length_take, show min x L.length = x by omega] at hrd
  have hrd' : rdRow h2 c kk (off + x * 1) 1 = some [.str L[x]] := hrd
  have n1 : (x : Int) < (L.length : Int) := by omega
  simp (maxSteps := 1000000) (disch := first | omega | rfl | (simp only [zL, two63, room] <;> omega) | fail) only [↓reduceIte, ↓zP, zW, WOp, evOp, evBin, binI, binSh, binS, evNil, keyIs, keyEq, mkv, AV.cells, AV.sc, optv, bnd, env, put, Env.get, Env.set, Env.del, Env.dels, Env.init, res1, resL, resV, fillP, splice, newRow, Nat.reduceEqDiff, Nat.reduceLT, Nat.reduceLeDiff, Nat.reduceAdd, Nat.reduceMul, Nat.reduceSub, Nat.reduceBEq, reduceCtorEq, ↓zR, zQ, Tr, StA, StT, n1, hrd']
  exact hp _ (List.getElem_mem hlt) h2 hc2 hp2
/-- A number of a list. -/
theorem c_among (hc : Cur b cv bs K h) (hK : K < 2 ^ 49) {lv : AV} {L : List Int} (hs : Slc 1 encI h lv L) (hne : ∀ r, rowOf lv = some r → r ≠ b.length) (h0 : 0 < L.length) (hL : L.length < 2 ^ 40)
    (hp : ∀ x ∈ L, ∀ h', Cur b cv bs (K + 2) h' → PreX b.length h h' → post (.int .i64 x) h') : S 62 [.ptr b.length 0 0 3, lv] h post k := by
  rcases hs.cases with ⟨rfl, rfl⟩ | ⟨rfl, rfl⟩ | ⟨c, kk, off, rfl⟩
  · simp at h0
  · simp at h0
  refine S_of rfl T62 ?_; unfold fi62
  simp (maxSteps := 1000000) (disch := first | omega | rfl | (simp only [zL, two63, room] <;> omega) | fail) only [↓reduceIte, ↓zP, zW, WOp, evOp, evBin, binI, binSh, binS, evNil, keyIs, keyEq, mkv, AV.cells, AV.sc, optv, bnd, env, put, Env.get, Env.set, Env.del, Env.dels, Env.init, res1, resL, resV, fillP, splice, newRow, Nat.reduceEqDiff, Nat.reduceLT, Nat.reduceLeDiff, Nat.reduceAdd, Nat.reduceMul, Nat.reduceSub, Nat.reduceBEq, reduceCtorEq, ↓zR, zQ, Tr, StA, StT]
  refine c_pick hc hK L.length hL ?_
  intro x h2 hx hc2 hp2
  have hlt : x < L.length := by omega
  have hLe : L = L.take x ++ L[x] :: L.drop (x + 1) := by
    have := (List.take_append_drop x L).symm
    rwa [List.drop_eq_getElem_cons hlt] at this
  have hs2 := hs
  rw [hLe] at hs2
  have hrd := rdRow_prex hp2 (hne c rfl) (hs2.rd hlI)
  rw [List.length_take, show min x L.length = x by omega] at hrd
  have hrd' : rdRow h2 c kk (off + x * 1) 1 = some [.int .i64 L[x]] := hrd
  have n1 : (x : Int) < (L.length : Int) := by omega
  simp (maxSteps := 1000000) (disch := first | omega | rfl | (simp only [zL, two63, room] <;> omega) | fail) only [↓reduceIte, ↓zP, zW, WOp, evOp, evBin, binI, binSh, binS, evNil, keyIs, keyEq, mkv, AV.cells, AV.sc, optv, bnd, env, put, Env.get, Env.set, Env.del, Env.dels, Env.init, res1, resL, resV, fillP, splice, newRow, Nat.reduceEqDiff, Nat.reduceLT, Nat.reduceLeDiff, Nat.reduceAdd, Nat.reduceMul, Nat.reduceSub, Nat.reduceBEq, reduceCtorEq, ↓zR, zQ, Tr, StA, StT, n1, hrd']
  exact hp _ (List.getElem_mem hlt) h2 hc2 hp2
end
theorem slc_litS (h : AH) (L : List (List UInt8)) : Slc 1 encS (h ++ [.row (L.map AV.str) 0 0 false]) (.slice h.length 0 0 L.length 1) L := by
  have e : L.flatMap encS = L.map AV.str := by
    induction L with
    | nil => rfl
    | cons a L ih => rw [List.flatMap_cons, ih]; rfl
  unfold Slc Sl
  refine ⟨rfl, rfl, by simp [e], ?_⟩
  rw [e]
  exact rdRow_push h _ false (by simp)
theorem slc_litI (h : AH) (L : List Int) : Slc 1 encI (h ++ [.row (L.map (AV.int .i64)) 0 0 false]) (.slice h.length 0 0 L.length 1) L := by
  have e : L.flatMap encI = L.map (AV.int .i64) := by
    induction L with
    | nil => rfl
    | cons a L ih => rw [List.flatMap_cons, ih]; rfl
  unfold Slc Sl
  refine ⟨rfl, rfl, by simp [e], ?_⟩
  rw [e]
  exact rdRow_push h _ false (by simp)
theorem Pre.x2 {h h1 h2 : AH} {c : Nat} (hp : Pre h h1) (hx : PreX c h1 h2) : PreX c h h2 := (hp.x c).trans hx

/-! ### Lines -/
theorem lp_liTimesG (b : UInt8) {h : AH} {R : X → Env → AH → Prop} : ∀ (n : Nat) (out : List UInt8), out.length + n ≤ 1000 → R (.exit 0) [(5, .str (out ++ List.replicate n b))] h →
    Cx (.loop lp124_0) [(0, .str [b]), (1, .int .i64 n), (5, .str out)] h R k k
  | 0, out, hn, hR => by
    rw [w_loopb (c := lp124_0) (d := lb124_0) rfl]; unfold lb124_0
    simp (maxSteps := 1000000) (disch := first | omega | rfl | (simp only [zL, two63, room] <;> omega) | fail) only [↓reduceIte, ↓zP, zW, WOp, evOp, evBin, binI, binSh, binS, evNil, keyIs, keyEq, mkv, AV.cells, AV.sc, optv, bnd, env, put, Env.get, Env.set, Env.del, Env.dels, Env.init, res1, resL, resV, fillP, splice, newRow, Nat.reduceEqDiff, Nat.reduceLT, Nat.reduceLeDiff, Nat.reduceAdd, Nat.reduceMul, Nat.reduceSub, Nat.reduceBEq, reduceCtorEq, ↓zR, zQ, Tr, StA, StT]
    simpa using hR
  | n + 1, out, hn, hR => by
    have ih := lp_liTimesG b (h := h) (R := R) n (out ++ [b])
    have hg : ((n + 1 : Nat) : Int) > 0 := by omega
    have hs : ((n + 1 : Nat) : Int) - 1 = (n : Int) := by omega
    have hl : out.length + [b].length ≤ two63 := by simp only [two63, List.length_cons, List.length_nil]; omega
    rw [w_loopb (c := lp124_0) (d := lb124_0) rfl]; unfold lb124_0
    simp (maxSteps := 1000000) (disch := first | omega | rfl | (simp only [zL, two63, room] <;> omega) | fail) only [↓reduceIte, ↓zP, zW, WOp, evOp, evBin, binI, binSh, binS, evNil, keyIs, keyEq, mkv, AV.cells, AV.sc, optv, bnd, env, put, Env.get, Env.set, Env.del, Env.dels, Env.init, res1, resL, resV, fillP, splice, newRow, Nat.reduceEqDiff, Nat.reduceLT, Nat.reduceLeDiff, Nat.reduceAdd, Nat.reduceMul, Nat.reduceSub, Nat.reduceBEq, reduceCtorEq, ↓zR, zQ, Tr, StA, StT, hg, hs, hl]
    rw [w_loopn (c := lp124_0) rfl]
    simp (maxSteps := 1000000) (disch := first | omega | rfl | (simp only [zL, two63, room] <;> omega) | fail) only [↓reduceIte, ↓zP, zW, WOp, evOp, evBin, binI, binSh, binS, evNil, keyIs, keyEq, mkv, AV.cells, AV.sc, optv, bnd, env, put, Env.get, Env.set, Env.del, Env.dels, Env.init, res1, resL, resV, fillP, splice, newRow, Nat.reduceEqDiff, Nat.reduceLT, Nat.reduceLeDiff, Nat.reduceAdd, Nat.reduceMul, Nat.reduceSub, Nat.reduceBEq, reduceCtorEq, ↓zR, zQ, Tr, StA, StT]
    refine ih (by simp; omega) ?_
    rw [List.append_assoc, List.singleton_append, ← List.replicate_succ]
    exact hR
theorem e_liTimesG (b : UInt8) (n : Nat) (hn : n ≤ 1000) {h : AH} {post : AV → AH → Prop} : S 124 [.str [b], .int .i64 n] h post k = post (.str (List.replicate n b)) h := by
  refine S_eq fun post hp => ?_
  refine S_of rfl T124 ?_; unfold fi124
  simp (maxSteps := 1000000) (disch := first | omega | rfl | (simp only [zL, two63, room] <;> omega) | fail) only [↓reduceIte, ↓zP, zW, WOp, evOp, evBin, binI, binSh, binS, evNil, keyIs, keyEq, mkv, AV.cells, AV.sc, optv, bnd, env, put, Env.get, Env.set, Env.del, Env.dels, Env.init, res1, resL, resV, fillP, splice, newRow, Nat.reduceEqDiff, Nat.reduceLT, Nat.reduceLeDiff, Nat.reduceAdd, Nat.reduceMul, Nat.reduceSub, Nat.reduceBEq, reduceCtorEq, ↓zR, zQ, Tr, StA, StT]
  refine lp_liTimesG b n [] (by simpa using hn) ?_
  simp (maxSteps := 1000000) (disch := first | omega | rfl | (simp only [zL, two63, room] <;> omega) | fail) only [↓reduceIte, ↓zP, zW, WOp, evOp, evBin, binI, binSh, binS, evNil, keyIs, keyEq, mkv, AV.cells, AV.sc, optv, bnd, env, put, Env.get, Env.set, Env.del, Env.dels, Env.init, res1, resL, resV, fillP, splice, newRow, Nat.reduceEqDiff, Nat.reduceLT, Nat.reduceLeDiff, Nat.reduceAdd, Nat.reduceMul, Nat.reduceSub, Nat.reduceBEq, reduceCtorEq, ↓zR, zQ, Tr, StA, StT]
  exact hp
theorem e_liFirstG (t g f : Nat) (ht : t ≤ 100) (hg : g ≤ 100) (hf : f ≤ 100) {h : AH} {post : AV → AH → Prop} : S 100 [.int .i64 t, .int .i64 g, .int .i64 f] h post k = post (.str (List.replicate t 84 ++ List.replicate g 46 ++ List.replicate f 70)) h := by
  refine S_eq fun post hp => ?_
  refine S_of rfl T100 ?_; unfold fi100
  have l1 : (List.replicate t (84 : UInt8)).length + (List.replicate g (46 : UInt8)).length ≤ two63 := by simp [two63]; omega
  have l2 : (List.replicate t (84 : UInt8) ++ List.replicate g 46).length + (List.replicate f (70 : UInt8)).length ≤ two63 := by simp [two63]; omega
  simp (maxSteps := 1000000) (disch := first | omega | rfl | (simp only [zL, two63, room] <;> omega) | fail) only [↓reduceIte, ↓zP, zW, WOp, evOp, evBin, binI, binSh, binS, evNil, keyIs, keyEq, mkv, AV.cells, AV.sc, optv, bnd, env, put, Env.get, Env.set, Env.del, Env.dels, Env.init, res1, resL, resV, fillP, splice, newRow, Nat.reduceEqDiff, Nat.reduceLT, Nat.reduceLeDiff, Nat.reduceAdd, Nat.reduceMul, Nat.reduceSub, Nat.reduceBEq, reduceCtorEq, ↓zR, zQ, Tr, StA, StT, e_liTimesG 84 t (by omega), e_liTimesG 46 g (by omega), e_liTimesG 70 f (by omega), l1, l2]
  exact hp

section
variable {b : AH} {cv : AV} {bs : List UInt8} {post : AV → AH → Prop}
theorem lp_sure {R : X → Env → AH → Prop} : ∀ (d : Nat) (w : List UInt8) (K : Nat) (h : AH), Cur b cv bs K h → K + 2 * d < 2 ^ 49 → w.length + d < 2 ^ 30 → signs w →
    (∀ w' h', w'.length = w.length + d → signs w' → Cur b cv bs (K + 2 * d) h' → PreX b.length h h' → R (.exit 0) [(0, .ptr b.length 0 0 3), (5, .str w')] h') →
    Cx (.loop lp99_0) [(0, .ptr b.length 0 0 3), (5, .str w), (6, .int .i64 d)] h R k k
  | 0, w, K, h, hc, hK, hw, hg, hR => by
    have n1 : ¬ (((0 : Nat) : Int) > 0) := by omega
    rw [w_loopb (c := lp99_0) (d := lb99_0) rfl]; unfold lb99_0
    simp (maxSteps := 1000000) (disch := first | omega | rfl | (simp only [zL, two63, room] <;> omega) | fail) only [↓reduceIte, ↓zP, zW, WOp, evOp, evBin, binI, binSh, binS, evNil, keyIs, keyEq, mkv, AV.cells, AV.sc, optv, bnd, env, put, Env.get, Env.set, Env.del, Env.dels, Env.init, res1, resL, resV, fillP, splice, newRow, Nat.reduceEqDiff, Nat.reduceLT, Nat.reduceLeDiff, Nat.reduceAdd, Nat.reduceMul, Nat.reduceSub, Nat.reduceBEq, reduceCtorEq, ↓zR, zQ, Tr, StA, StT, n1]
    exact hR w h rfl hg hc (PreX.refl _ _)
  | d + 1, w, K, h, hc, hK, hw, hg, hR => by
    have ih := lp_sure (R := R) d
    have n1 : ((d + 1 : Nat) : Int) > 0 := by omega
    have hs : ((d + 1 : Nat) : Int) - 1 = (d : Int) := by omega
    have hwr : IntKind.i64.wrap (d : Int) = (d : Int) := wrap_i (by omega)
    rw [w_loopb (c := lp99_0) (d := lb99_0) rfl]; unfold lb99_0
    simp (maxSteps := 1000000) (disch := first | omega | rfl | (simp only [zL, two63, room] <;> omega) | fail) only [↓reduceIte, ↓zP, zW, WOp, evOp, evBin, binI, binSh, binS, evNil, keyIs, keyEq, mkv, AV.cells, AV.sc, optv, bnd, env, put, Env.get, Env.set, Env.del, Env.dels, Env.init, res1, resL, resV, fillP, splice, newRow, Nat.reduceEqDiff, Nat.reduceLT, Nat.reduceLeDiff, Nat.reduceAdd, Nat.reduceMul, Nat.reduceSub, Nat.reduceBEq, reduceCtorEq, ↓zR, zQ, Tr, StA, StT, n1]
    refine c_of (hc.pre (Pre.push _ _)) (by omega) (slc_litS h [[84], [70], [46], [84], [70]]) (fun r hr => by cases hr; have := hc.lt; omega) (by simp) (by simp) ?_
    intro x hx h2 hc2 hp2
    have hx1 : x.length = 1 := by
      simp only [List.mem_cons, List.not_mem_nil, or_false] at hx
      rcases hx with rfl | rfl | rfl | rfl | rfl <;> rfl
    have hxg : signs x := by
      simp only [List.mem_cons, List.not_mem_nil, or_false] at hx
      rcases hx with rfl | rfl | rfl | rfl | rfl <;> rfl
    have hl : w.length + x.length ≤ two63 := by simp only [two63]; omega
    simp (maxSteps := 1000000) (disch := first | omega | rfl | (simp only [zL, two63, room] <;> omega) | fail) only [↓reduceIte, ↓zP, zW, WOp, evOp, evBin, binI, binSh, binS, evNil, keyIs, keyEq, mkv, AV.cells, AV.sc, optv, bnd, env, put, Env.get, Env.set, Env.del, Env.dels, Env.init, res1, resL, resV, fillP, splice, newRow, Nat.reduceEqDiff, Nat.reduceLT, Nat.reduceLeDiff, Nat.reduceAdd, Nat.reduceMul, Nat.reduceSub, Nat.reduceBEq, reduceCtorEq, ↓zR, zQ, Tr, StA, StT, hl, hs, hwr]
    rw [w_loopn (c := lp99_0) rfl]
    simp (maxSteps := 1000000) (disch := first | omega | rfl | (simp only [zL, two63, room] <;> omega) | fail) only [↓reduceIte, ↓zP, zW, WOp, evOp, evBin, binI, binSh, binS, evNil, keyIs, keyEq, mkv, AV.cells, AV.sc, optv, bnd, env, put, Env.get, Env.set, Env.del, Env.dels, Env.init, res1, resL, resV, fillP, splice, newRow, Nat.reduceEqDiff, Nat.reduceLT, Nat.reduceLeDiff, Nat.reduceAdd, Nat.reduceMul, Nat.reduceSub, Nat.reduceBEq, reduceCtorEq, ↓zR, zQ, Tr, StA, StT]
    refine ih (w ++ x) (K + 2) h2 hc2 (by omega) (by simp; omega) ?_ ?_
    · unfold signs at *
      rw [List.all_append, hg, hxg]; rfl
    · intro w' h' h1 h3 h4 h5
      refine hR w' h' (by simp at h1; omega) h3 (h4.le (by omega)) ((Pre.push _ _).x2 (hp2.trans h5))
variable {K : Nat} {h : AH}
theorem put_signs {w : List UInt8} (hg : signs w) (i : Nat) : signs (w.take i ++ [46] ++ w.drop (i + 1)) := by
  unfold signs at *
  rw [List.all_eq_true] at *
  intro x hx
  simp only [List.mem_append, List.mem_singleton] at hx
  rcases hx with (hx | rfl) | hx
  · exact hg x (List.mem_of_mem_take hx)
  · rfl
  · exact hg x (List.mem_of_mem_drop hx)
theorem c_sureLine (hc : Cur b cv bs K h) (n : Nat) (hn : n < 2 ^ 20) (h0 : 0 < n) (hK : K < 2 ^ 48) (hp : ∀ w h', 1 ≤ w.length → w.length ≤ n → signs w → Cur b cv bs (K + 2 * n + 6) h' → PreX b.length h h' → post (.str w) h') :
    S 99 [.ptr b.length 0 0 3, .int .i64 n] h post k := by
  refine S_of rfl T99 ?_; unfold fi99
  simp (maxSteps := 1000000) (disch := first | omega | rfl | (simp only [zL, two63, room] <;> omega) | fail) only [↓reduceIte, ↓zP, zW, WOp, evOp, evBin, binI, binSh, binS, evNil, keyIs, keyEq, mkv, AV.cells, AV.sc, optv, bnd, env, put, Env.get, Env.set, Env.del, Env.dels, Env.init, res1, resL, resV, fillP, splice, newRow, Nat.reduceEqDiff, Nat.reduceLT, Nat.reduceLeDiff, Nat.reduceAdd, Nat.reduceMul, Nat.reduceSub, Nat.reduceBEq, reduceCtorEq, ↓zR, zQ, Tr, StA, StT]
  refine c_pick hc (by omega) n (by omega) ?_
  intro x h2 hx hc2 hp2
  have hw : IntKind.i64.wrap (1 + (x : Int)) = ((x + 1 : Nat) : Int) := by rw [IntKind.wrap_i64]; omega
  simp (maxSteps := 1000000) (disch := first | omega | rfl | (simp only [zL, two63, room] <;> omega) | fail) only [↓reduceIte, ↓zP, zW, WOp, evOp, evBin, binI, binSh, binS, evNil, keyIs, keyEq, mkv, AV.cells, AV.sc, optv, bnd, env, put, Env.get, Env.set, Env.del, Env.dels, Env.init, res1, resL, resV, fillP, splice, newRow, Nat.reduceEqDiff, Nat.reduceLT, Nat.reduceLeDiff, Nat.reduceAdd, Nat.reduceMul, Nat.reduceSub, Nat.reduceBEq, reduceCtorEq, ↓zR, zQ, Tr, StA, StT, hw]
  refine lp_sure (x + 1) [] (K + 2) h2 hc2 (by omega) (by simp; omega) (by rfl) ?_
  intro w h3 hl hg hc3 hp3
  have hl' : w.length = x + 1 := by simpa using hl
  have hp23 := hp2.trans hp3
  have stop : ∀ K' h', K' ≤ K + 2 * n + 6 → Cur b cv bs K' h' → PreX b.length h h' → post (.str w) h' := fun K' h' h1 h4 h5 => hp w h' (by omega) (by omega) hg (h4.le h1) h5
  by_cases h46 : w.count 46 = 0
  · have n1 : ((w.count 46 : Nat) : Int) = 0 := by omega
    have n1' : (((w.count 46 : Nat) : Int) == 0) = true := by simp [h46]
    simp (maxSteps := 1000000) (disch := first | omega | rfl | (simp only [zL, two63, room] <;> omega) | fail) only [↓reduceIte, ↓zP, zW, WOp, evOp, evBin, binI, binSh, binS, evNil, keyIs, keyEq, mkv, AV.cells, AV.sc, optv, bnd, env, put, Env.get, Env.set, Env.del, Env.dels, Env.init, res1, resL, resV, fillP, splice, newRow, Nat.reduceEqDiff, Nat.reduceLT, Nat.reduceLeDiff, Nat.reduceAdd, Nat.reduceMul, Nat.reduceSub, Nat.reduceBEq, reduceCtorEq, ↓zR, zQ, Tr, StA, StT, e_liCountD w (by omega), n1', h46]
    refine c_one hc3 (by omega) 8 (by omega) ?_
    intro o h4 hc4 hp4
    cases o
    · simp (maxSteps := 1000000) (disch := first | omega | rfl | (simp only [zL, two63, room] <;> omega) | fail) only [↓reduceIte, ↓zP, zW, WOp, evOp, evBin, binI, binSh, binS, evNil, keyIs, keyEq, mkv, AV.cells, AV.sc, optv, bnd, env, put, Env.get, Env.set, Env.del, Env.dels, Env.init, res1, resL, resV, fillP, splice, newRow, Nat.reduceEqDiff, Nat.reduceLT, Nat.reduceLeDiff, Nat.reduceAdd, Nat.reduceMul, Nat.reduceSub, Nat.reduceBEq, reduceCtorEq, ↓zR, zQ, Tr, StA, StT]
      refine c_pick hc4 (by omega) w.length (by omega) ?_
      intro y h5 hy hc5 hp5
      have hyl : y < w.length := by omega
      simp (maxSteps := 1000000) (disch := first | omega | rfl | (simp only [zL, two63, room] <;> omega) | fail) only [↓reduceIte, ↓zP, zW, WOp, evOp, evBin, binI, binSh, binS, evNil, keyIs, keyEq, mkv, AV.cells, AV.sc, optv, bnd, env, put, Env.get, Env.set, Env.del, Env.dels, Env.init, res1, resL, resV, fillP, splice, newRow, Nat.reduceEqDiff, Nat.reduceLT, Nat.reduceLeDiff, Nat.reduceAdd, Nat.reduceMul, Nat.reduceSub, Nat.reduceBEq, reduceCtorEq, ↓zR, zQ, Tr, StA, StT]
      refine c_liPut w y [46] hyl (by omega) (by simp) ?_
      simp (maxSteps := 1000000) (disch := first | omega | rfl | (simp only [zL, two63, room] <;> omega) | fail) only [↓reduceIte, ↓zP, zW, WOp, evOp, evBin, binI, binSh, binS, evNil, keyIs, keyEq, mkv, AV.cells, AV.sc, optv, bnd, env, put, Env.get, Env.set, Env.del, Env.dels, Env.init, res1, resL, resV, fillP, splice, newRow, Nat.reduceEqDiff, Nat.reduceLT, Nat.reduceLeDiff, Nat.reduceAdd, Nat.reduceMul, Nat.reduceSub, Nat.reduceBEq, reduceCtorEq, ↓zR, zQ, Tr, StA, StT]
      refine hp _ h5 ?_ ?_ (put_signs hg y) (hc5.le (by omega)) (hp23.trans (hp4.trans hp5))
      · simp; omega
      · simp; omega
    · simp (maxSteps := 1000000) (disch := first | omega | rfl | (simp only [zL, two63, room] <;> omega) | fail) only [↓reduceIte, ↓zP, zW, WOp, evOp, evBin, binI, binSh, binS, evNil, keyIs, keyEq, mkv, AV.cells, AV.sc, optv, bnd, env, put, Env.get, Env.set, Env.del, Env.dels, Env.init, res1, resL, resV, fillP, splice, newRow, Nat.reduceEqDiff, Nat.reduceLT, Nat.reduceLeDiff, Nat.reduceAdd, Nat.reduceMul, Nat.reduceSub, Nat.reduceBEq, reduceCtorEq, ↓zR, zQ, Tr, StA, StT]
      exact stop _ h4 (by omega) hc4 (hp23.trans hp4)
  · have n1' : (((w.count 46 : Nat) : Int) == 0) = false := by simp; omega
    simp (maxSteps := 1000000) (disch := first | omega | rfl | (simp only [zL, two63, room] <;> omega) | fail) only [↓reduceIte, ↓zP, zW, WOp, evOp, evBin, binI, binSh, binS, evNil, keyIs, keyEq, mkv, AV.cells, AV.sc, optv, bnd, env, put, Env.get, Env.set, Env.del, Env.dels, Env.init, res1, resL, resV, fillP, splice, newRow, Nat.reduceEqDiff, Nat.reduceLT, Nat.reduceLeDiff, Nat.reduceAdd, Nat.reduceMul, Nat.reduceSub, Nat.reduceBEq, reduceCtorEq, ↓zR, zQ, Tr, StA, StT, e_liCountD w (by omega), n1']
    exact stop _ h3 (by omega) hc3 hp23
theorem c_line (hc : Cur b cv bs K h) (hK : K < 2 ^ 47) (hp : ∀ w h', w.length ≤ 13 → Cur b cv bs (K + 40) h' → PreX b.length h h' → post (.str w) h') : S 101 [.ptr b.length 0 0 3] h post k := by
  refine S_of rfl T101 ?_; unfold fi101
  simp (maxSteps := 1000000) (disch := first | omega | rfl | (simp only [zL, two63, room] <;> omega) | fail) only [↓reduceIte, ↓zP, zW, WOp, evOp, evBin, binI, binSh, binS, evNil, keyIs, keyEq, mkv, AV.cells, AV.sc, optv, bnd, env, put, Env.get, Env.set, Env.del, Env.dels, Env.init, res1, resL, resV, fillP, splice, newRow, Nat.reduceEqDiff, Nat.reduceLT, Nat.reduceLeDiff, Nat.reduceAdd, Nat.reduceMul, Nat.reduceSub, Nat.reduceBEq, reduceCtorEq, ↓zR, zQ, Tr, StA, StT]
  refine c_pick hc (by omega) 16 (by omega) ?_
  intro x h2 hx hc2 hp2
  by_cases hx0 : x = 0
  · subst hx0
    simp (maxSteps := 1000000) (disch := first | omega | rfl | (simp only [zL, two63, room] <;> omega) | fail) only [↓reduceIte, ↓zP, zW, WOp, evOp, evBin, binI, binSh, binS, evNil, keyIs, keyEq, mkv, AV.cells, AV.sc, optv, bnd, env, put, Env.get, Env.set, Env.del, Env.dels, Env.init, res1, resL, resV, fillP, splice, newRow, Nat.reduceEqDiff, Nat.reduceLT, Nat.reduceLeDiff, Nat.reduceAdd, Nat.reduceMul, Nat.reduceSub, Nat.reduceBEq, reduceCtorEq, ↓zR, zQ, Tr, StA, StT]
    refine c_of (hc2.pre (Pre.push _ _)) (by omega) (slc_litS h2 [[], [120], [84, 32, 70], [84, 46, 70, 46, 84, 46, 70, 46, 84, 46, 70, 46, 84], [116, 46, 102]]) (fun r hr => by cases hr; have := hc2.lt; omega) (by simp) (by simp) ?_
    intro x hx h3 hc3 hp3
    simp (maxSteps := 1000000) (disch := first | omega | rfl | (simp only [zL, two63, room] <;> omega) | fail) only [↓reduceIte, ↓zP, zW, WOp, evOp, evBin, binI, binSh, binS, evNil, keyIs, keyEq, mkv, AV.cells, AV.sc, optv, bnd, env, put, Env.get, Env.set, Env.del, Env.dels, Env.init, res1, resL, resV, fillP, splice, newRow, Nat.reduceEqDiff, Nat.reduceLT, Nat.reduceLeDiff, Nat.reduceAdd, Nat.reduceMul, Nat.reduceSub, Nat.reduceBEq, reduceCtorEq, ↓zR, zQ, Tr, StA, StT]
    refine hp x h3 ?_ (hc3.le (by omega)) (hp2.trans ((Pre.push _ _).x2 hp3))
    simp only [List.mem_cons, List.not_mem_nil, or_false] at hx
    rcases hx with rfl | rfl | rfl | rfl | rfl <;> simp
  by_cases hx3 : x ≤ 3
  · have ww : ∀ y : Nat, y ≤ 2 → IntKind.i64.wrap (1 + (y : Int)) = ((y + 1 : Nat) : Int) := fun y hy => by rw [IntKind.wrap_i64]; omega
    have fin : ∀ (y1 y2 y3 : Nat) g, y1 ≤ 2 → y2 ≤ 2 → y3 ≤ 2 → Cur b cv bs (K + 8) g → PreX b.length h g → post (.str (List.replicate (y1 + 1) 84 ++ List.replicate (y2 + 1) 46 ++ List.replicate (y3 + 1) 70)) g := by
      intro y1 y2 y3 g h1 h2 h3 h4 h5
      exact hp _ g (by simp; omega) (h4.le (by omega)) h5
    obtain rfl | rfl | rfl : x = 1 ∨ x = 2 ∨ x = 3 := by omega
    all_goals
      simp (maxSteps := 1000000) (disch := first | omega | rfl | (simp only [zL, two63, room] <;> omega) | fail) only [↓reduceIte, ↓zP, zW, WOp, evOp, evBin, binI, binSh, binS, evNil, keyIs, keyEq, mkv, AV.cells, AV.sc, optv, bnd, env, put, Env.get, Env.set, Env.del, Env.dels, Env.init, res1, resL, resV, fillP, splice, newRow, Nat.reduceEqDiff, Nat.reduceLT, Nat.reduceLeDiff, Nat.reduceAdd, Nat.reduceMul, Nat.reduceSub, Nat.reduceBEq, reduceCtorEq, ↓zR, zQ, Tr, StA, StT]
      refine c_pick hc2 (by omega) 3 (by omega) ?_
      intro y1 g1 hy1 hg1 hpg1
      have y1' : y1 ≤ 2 := by omega
      simp (maxSteps := 1000000) (disch := first | omega | rfl | (simp only [zL, two63, room] <;> omega) | fail) only [↓reduceIte, ↓zP, zW, WOp, evOp, evBin, binI, binSh, binS, evNil, keyIs, keyEq, mkv, AV.cells, AV.sc, optv, bnd, env, put, Env.get, Env.set, Env.del, Env.dels, Env.init, res1, resL, resV, fillP, splice, newRow, Nat.reduceEqDiff, Nat.reduceLT, Nat.reduceLeDiff, Nat.reduceAdd, Nat.reduceMul, Nat.reduceSub, Nat.reduceBEq, reduceCtorEq, ↓zR, zQ, Tr, StA, StT, ww y1 y1']
      refine c_pick hg1 (by omega) 2 (by omega) ?_
      intro y2 g2 hy2 hg2 hpg2
      have y2' : y2 ≤ 2 := by omega
      simp (maxSteps := 1000000) (disch := first | omega | rfl | (simp only [zL, two63, room] <;> omega) | fail) only [↓reduceIte, ↓zP, zW, WOp, evOp, evBin, binI, binSh, binS, evNil, keyIs, keyEq, mkv, AV.cells, AV.sc, optv, bnd, env, put, Env.get, Env.set, Env.del, Env.dels, Env.init, res1, resL, resV, fillP, splice, newRow, Nat.reduceEqDiff, Nat.reduceLT, Nat.reduceLeDiff, Nat.reduceAdd, Nat.reduceMul, Nat.reduceSub, Nat.reduceBEq, reduceCtorEq, ↓zR, zQ, Tr, StA, StT, ww y2 y2']
      refine c_pick hg2 (by omega) 3 (by omega) ?_
      intro y3 g3 hy3 hg3 hpg3
      have y3' : y3 ≤ 2 := by omega
      simp (maxSteps := 1000000) (disch := first | omega | rfl | (simp only [zL, two63, room] <;> omega) | fail) only [↓reduceIte, ↓zP, zW, WOp, evOp, evBin, binI, binSh, binS, evNil, keyIs, keyEq, mkv, AV.cells, AV.sc, optv, bnd, env, put, Env.get, Env.set, Env.del, Env.dels, Env.init, res1, resL, resV, fillP, splice, newRow, Nat.reduceEqDiff, Nat.reduceLT, Nat.reduceLeDiff, Nat.reduceAdd, Nat.reduceMul, Nat.reduceSub, Nat.reduceBEq, reduceCtorEq, ↓zR, zQ, Tr, StA, StT, ww y3 y3', e_liFirstG (y1 + 1) (y2 + 1) (y3 + 1) (by omega) (by omega) (by omega)]
      exact fin y1 y2 y3 g3 y1' y2' y3' (hg3.le (by omega)) (hp2.trans (hpg1.trans (hpg2.trans hpg3)))
  · have n0 : ((x : Int) == 0) = false := by simp; omega
    have n1 : ((x : Int) == 1) = false := by simp; omega
    have n2 : ((x : Int) == 2) = false := by simp; omega
    have n3 : ((x : Int) == 3) = false := by simp; omega
    simp (maxSteps := 1000000) (disch := first | omega | rfl | (simp only [zL, two63, room] <;> omega) | fail) only [↓reduceIte, ↓zP, zW, WOp, evOp, evBin, binI, binSh, binS, evNil, keyIs, keyEq, mkv, AV.cells, AV.sc, optv, bnd, env, put, Env.get, Env.set, Env.del, Env.dels, Env.init, res1, resL, resV, fillP, splice, newRow, Nat.reduceEqDiff, Nat.reduceLT, Nat.reduceLeDiff, Nat.reduceAdd, Nat.reduceMul, Nat.reduceSub, Nat.reduceBEq, reduceCtorEq, ↓zR, zQ, Tr, StA, StT, n0, n1, n2, n3]
    refine c_sureLine hc2 9 (by omega) (by omega) (by omega) ?_
    intro w h3 h1 h4 _ hc3 hp3
    simp (maxSteps := 1000000) (disch := first | omega | rfl | (simp only [zL, two63, room] <;> omega) | fail) only [↓reduceIte, ↓zP, zW, WOp, evOp, evBin, binI, binSh, binS, evNil, keyIs, keyEq, mkv, AV.cells, AV.sc, optv, bnd, env, put, Env.get, Env.set, Env.del, Env.dels, Env.init, res1, resL, resV, fillP, splice, newRow, Nat.reduceEqDiff, Nat.reduceLT, Nat.reduceLeDiff, Nat.reduceAdd, Nat.reduceMul, Nat.reduceSub, Nat.reduceBEq, reduceCtorEq, ↓zR, zQ, Tr, StA, StT]
    exact hp w h3 (by omega) (hc3.le (by omega)) (hp2.trans hp3)
end
end Go.Proofs.YtejhhdpfndiliaaDoor.Ab

/- WHAT BOTH SIDES' functions of lines answer: moves, ways, pairs, jumps. -/
namespace Go.Proofs.YtejhhdpfndiliaaDoor.Ab
open Go
set_option maxRecDepth 100000
set_option maxHeartbeats 4000000

theorem good_all {w : List UInt8} (h : goodLine w = true) : 1 ≤ w.length ∧ w.length ≤ 12 ∧ signs w := by
  unfold goodLine at h
  simp only [Bool.and_eq_true, decide_eq_true_eq] at h
  exact ⟨h.1.1, h.1.2, h.2⟩
theorem c_IsLine (s : List UInt8) (hs : s.length < 2 ^ 60) {h : AH} {post : AV → AH → Prop} (hp : post (.bool (goodLine s)) h) : S 106 [.str s] h post k := by
  refine S_of rfl T106 ?_; unfold fi106
  simp (maxSteps := 1000000) (disch := first | omega | rfl | (simp only [zL, two63, room] <;> omega) | fail) only [↓reduceIte, ↓zP, zW, WOp, evOp, evBin, binI, binSh, binS, evNil, keyIs, keyEq, mkv, AV.cells, AV.sc, optv, bnd, env, put, Env.get, Env.set, Env.del, Env.dels, Env.init, res1, resL, resV, fillP, splice, newRow, Nat.reduceEqDiff, Nat.reduceLT, Nat.reduceLeDiff, Nat.reduceAdd, Nat.reduceMul, Nat.reduceSub, Nat.reduceBEq, reduceCtorEq, ↓zR, zQ, Tr, StA, StT]
  refine c_isLineOf s 12 (by omega) hs ?_
  have : (decide (1 ≤ (s.length : Int) ∧ (s.length : Int) ≤ 12) && s.all isSign) = goodLine s := by
    unfold goodLine
    congr 1
    exact decide_eq_decide.2 (by omega)
  rw [this]
  simp (maxSteps := 1000000) (disch := first | omega | rfl | (simp only [zL, two63, room] <;> omega) | fail) only [↓reduceIte, ↓zP, zW, WOp, evOp, evBin, binI, binSh, binS, evNil, keyIs, keyEq, mkv, AV.cells, AV.sc, optv, bnd, env, put, Env.get, Env.set, Env.del, Env.dels, Env.init, res1, resL, resV, fillP, splice, newRow, Nat.reduceEqDiff, Nat.reduceLT, Nat.reduceLeDiff, Nat.reduceAdd, Nat.reduceMul, Nat.reduceSub, Nat.reduceBEq, reduceCtorEq, ↓zR, zQ, Tr, StA, StT]
  exact hp
theorem e_IsLine (s : List UInt8) (hs : s.length < 2 ^ 60) {h : AH} {post : AV → AH → Prop} : S 106 [.str s] h post k = post (.bool (goodLine s)) h := S_eq fun _ => c_IsLine s hs
theorem e_liGoodG (s : List UInt8) (hs : s.length < 2 ^ 60) {h : AH} {post : AV → AH → Prop} : S 104 [.str s] h post k = post (.bool (goodLine s)) h := S_eq fun _ hp => c_liGood s hs hp
def mvG (kd w : List UInt8) : List (Int × Int) := if goodLine w then movesB w kd else []
theorem c_movesIn (w kd : List UInt8) (hw : w.length < 2 ^ 60) {h : AH} {post : AV → AH → Prop} (hp : ∀ v h', OwL 2 encM h h' v (mvG kd w) → Pre h h' → post (.tup [v, .bool (goodLine w)]) h') : S 59 [.str w, .str kd] h post k := by
  refine S_of rfl T59 ?_; unfold fi59
  unfold mvG at hp
  cases hg : goodLine w <;> rw [hg] at hp
  · simp (maxSteps := 1000000) (disch := first | omega | rfl | (simp only [zL, two63, room] <;> omega) | fail) only [↓reduceIte, ↓zP, zW, WOp, evOp, evBin, binI, binSh, binS, evNil, keyIs, keyEq, mkv, AV.cells, AV.sc, optv, bnd, env, put, Env.get, Env.set, Env.del, Env.dels, Env.init, res1, resL, resV, fillP, splice, newRow, Nat.reduceEqDiff, Nat.reduceLT, Nat.reduceLeDiff, Nat.reduceAdd, Nat.reduceMul, Nat.reduceSub, Nat.reduceBEq, reduceCtorEq, ↓zR, zQ, Tr, StA, StT, e_IsLine w hw, hg]
    exact hp .nilS h OwL.nil (Pre.refl h)
  · have hl := good_all hg
    simp (maxSteps := 1000000) (disch := first | omega | rfl | (simp only [zL, two63, room] <;> omega) | fail) only [↓reduceIte, ↓zP, zW, WOp, evOp, evBin, binI, binSh, binS, evNil, keyIs, keyEq, mkv, AV.cells, AV.sc, optv, bnd, env, put, Env.get, Env.set, Env.del, Env.dels, Env.init, res1, resL, resV, fillP, splice, newRow, Nat.reduceEqDiff, Nat.reduceLT, Nat.reduceLeDiff, Nat.reduceAdd, Nat.reduceMul, Nat.reduceSub, Nat.reduceBEq, reduceCtorEq, ↓zR, zQ, Tr, StA, StT, e_IsLine w hw, hg]
    refine c_moves w kd (by omega) ?_
    intro v h' ho hp'
    simp (maxSteps := 1000000) (disch := first | omega | rfl | (simp only [zL, two63, room] <;> omega) | fail) only [↓reduceIte, ↓zP, zW, WOp, evOp, evBin, binI, binSh, binS, evNil, keyIs, keyEq, mkv, AV.cells, AV.sc, optv, bnd, env, put, Env.get, Env.set, Env.del, Env.dels, Env.init, res1, resL, resV, fillP, splice, newRow, Nat.reduceEqDiff, Nat.reduceLT, Nat.reduceLeDiff, Nat.reduceAdd, Nat.reduceMul, Nat.reduceSub, Nat.reduceBEq, reduceCtorEq, ↓zR, zQ, Tr, StA, StT]
    exact hp v h' ho hp'
theorem c_MovesOf (w : List UInt8) (hw : w.length < 2 ^ 60) {h : AH} {post : AV → AH → Prop} (hp : ∀ v h', OwL 2 encM h h' v (mvG [84, 70] w) → Pre h h' → post (.tup [v, .bool (goodLine w)]) h') : S 19 [.str w] h post k := by
  refine S_of rfl T19 ?_; unfold fi19
  simp (maxSteps := 1000000) (disch := first | omega | rfl | (simp only [zL, two63, room] <;> omega) | fail) only [↓reduceIte, ↓zP, zW, WOp, evOp, evBin, binI, binSh, binS, evNil, keyIs, keyEq, mkv, AV.cells, AV.sc, optv, bnd, env, put, Env.get, Env.set, Env.del, Env.dels, Env.init, res1, resL, resV, fillP, splice, newRow, Nat.reduceEqDiff, Nat.reduceLT, Nat.reduceLeDiff, Nat.reduceAdd, Nat.reduceMul, Nat.reduceSub, Nat.reduceBEq, reduceCtorEq, ↓zR, zQ, Tr, StA, StT]
  refine c_movesIn w [84, 70] hw ?_
  intro v h' ho hp'
  simp (maxSteps := 1000000) (disch := first | omega | rfl | (simp only [zL, two63, room] <;> omega) | fail) only [↓reduceIte, ↓zP, zW, WOp, evOp, evBin, binI, binSh, binS, evNil, keyIs, keyEq, mkv, AV.cells, AV.sc, optv, bnd, env, put, Env.get, Env.set, Env.del, Env.dels, Env.init, res1, resL, resV, fillP, splice, newRow, Nat.reduceEqDiff, Nat.reduceLT, Nat.reduceLeDiff, Nat.reduceAdd, Nat.reduceMul, Nat.reduceSub, Nat.reduceBEq, reduceCtorEq, ↓zR, zQ, Tr, StA, StT]
  exact hp v h' ho hp'
def wayG (w : List UInt8) : Int := if goodLine w then (wayN w : Nat) else 0
theorem psB_le (b : UInt8) : ∀ (l : List UInt8) (k : Nat), psB b k l ≤ l.length * (k + l.length)
  | [], k => by simp [psB]
  | x :: l, k => by
    have := psB_le b l (k + 1)
    simp only [psB, List.length_cons]
    have h1 : (l.length + 1) * (k + (l.length + 1)) = l.length * (k + (l.length + 1)) + (k + (l.length + 1)) := Nat.succ_mul _ _
    have h2 : l.length * (k + 1 + l.length) = l.length * (k + (l.length + 1)) := by rw [show k + 1 + l.length = k + (l.length + 1) by omega]
    split <;> omega
def pairsG (w : List UInt8) : Int := if goodLine w then (pairsB w : Nat) else 0
def blkG (w : List UInt8) : Bool := goodLine w && (movesB w [84, 70]).isEmpty
theorem len_beq {α : Type} (l : List α) : (((l.length : Nat) : Int) == 0) = l.isEmpty := by
  cases l with
  | nil => rfl
  | cons a l =>
    have : ¬ (((l.length + 1 : Nat) : Int) = 0) := by omega
    simpa using this
def othG (w : List UInt8) : List UInt8 := if goodLine w then otherL w else []
end Go.Proofs.YtejhhdpfndiliaaDoor.Ab

/- MOVES that can be made, jumps, lists of moves that are compared; moves that are drawn. -/
namespace Go.Proofs.YtejhhdpfndiliaaDoor.Ab
open Go
set_option maxRecDepth 100000
set_option maxHeartbeats 4000000

theorem seqM (a b c d : Int) : seqL [0, 0] [.int .i64 a, .int .i64 b] [.int .i64 c, .int .i64 d] = some (((a, b) : Int × Int) == (c, d)) := by
  simp only [seqL, keyIs, keyEq, Bool.and_true, if_true]
  rfl
theorem canB_mv {w : List UInt8} {i t : Int} (h : canB w (i, t) = true) : ∃ i' t' : Nat, i = i' ∧ t = t' ∧ Mv w i' t' := by
  unfold canB at h
  obtain ⟨h1, h2, h3⟩ := of_decide_eq_true h
  exact ⟨i.toNat, t.toNat, by simp only at h1; omega, by simp only at h2; omega, h3⟩
def okG (w : List UInt8) (m : Int × Int) : Bool := goodLine w && canB w m
def mkG (w : List UInt8) (m : Int × Int) : List UInt8 := if okG w m then madeB w m.1.toNat m.2.toNat else []
def jmG (w : List UInt8) (m : Int × Int) : Bool := okG w m && isJ m.1.toNat m.2.toNat
theorem mvRow (h : AH) (i t : Int) : rdRow (h ++ [AO.row [AV.int .i64 i, AV.int .i64 t] 0 0 false]) h.length 0 0 2 = some [.int .i64 i, .int .i64 t] ∧ rdRow (h ++ [AO.row [AV.int .i64 i, AV.int .i64 t] 0 0 false]) h.length 0 0 1 = some [.int .i64 i] ∧ rdRow (h ++ [AO.row [AV.int .i64 i, AV.int .i64 t] 0 0 false]) h.length 0 1 1 = some [.int .i64 t] := by
  refine ⟨?_, ?_, ?_⟩ <;> rw [rd_last] <;> simp
theorem Mv.far {w : List UInt8} {i t : Nat} (h : Mv w i t) : t = i + 1 ∨ t = i + 2 ∨ t + 1 = i ∨ t + 2 = i := by
  obtain ⟨_, _, _, h | h⟩ := h <;> omega
theorem lp_yMoves {v u : AV} {L : List (Int × Int)} (hlen : L.length < 2 ^ 30) {h : AH} (hs : Slc 2 encM h v L) (ht : Slc 2 encM h u L) {R : X → Env → AH → Prop} (hR : R (.exit 0) [] h) : ∀ (rest pre : List (Int × Int)), L = pre ++ rest →
    Cx (.loop lp16_0) [(0, v), (1, u), (12, .int .i64 L.length), (13, .int .i64 pre.length)] h R k k
  | [], pre, hL => by
    have hl : L.length = pre.length := by rw [hL]; simp
    rw [hl]
    rw [w_loopb (c := lp16_0) (d := lb16_0) rfl]; unfold lb16_0
    simp (maxSteps := 1000000) (disch := first | omega | rfl | (simp only [zL, two63, room] <;> omega) | fail) only [↓reduceIte, ↓zP, zW, WOp, evOp, evBin, binI, binSh, binS, evNil, keyIs, keyEq, mkv, AV.cells, AV.sc, optv, bnd, env, put, Env.get, Env.set, Env.del, Env.dels, Env.init, res1, resL, resV, fillP, splice, newRow, Nat.reduceEqDiff, Nat.reduceLT, Nat.reduceLeDiff, Nat.reduceAdd, Nat.reduceMul, Nat.reduceSub, Nat.reduceBEq, reduceCtorEq, ↓zR, zQ, Tr, StA, StT]
    exact hR
  | x :: rest, pre, hL => by
    have ih := lp_yMoves hlen hs ht (R := R) hR rest (pre ++ [x]) (by rw [hL]; simp)
    have hl : L.length = pre.length + 1 + rest.length := by rw [hL]; simp; omega
    have hs' := hs
    have ht' := ht
    rw [hL] at hs' ht'
    obtain ⟨r1, k1, o1, hve, hr⟩ := hs'.at hlM
    obtain ⟨r2, k2, o2, hue, hr2⟩ := ht'.at hlM
    rw [← hL, hl] at hve hue
    subst hve
    subst hue
    rw [hl] at ih ⊢
    have hr' : rdRow h r1 k1 (o1 + pre.length * 2) 2 = some [.int .i64 x.1, .int .i64 x.2] := hr
    have hr2' : rdRow h r2 k2 (o2 + pre.length * 2) 2 = some [.int .i64 x.1, .int .i64 x.2] := hr2
    have hlt : (pre.length : Int) < ((pre.length + 1 + rest.length : Nat) : Int) := by omega
    have hw1 : (pre.length : Int) + 1 = ((pre ++ [x]).length : Int) := by simp
    have hw2 : IntKind.i64.wrap ((pre ++ [x]).length : Int) = ((pre ++ [x]).length : Int) := wrap_i (by simp; omega)
    have hx : (((x.1, x.2) : Int × Int) == (x.1, x.2)) = true := by simp
    rw [w_loopb (c := lp16_0) (d := lb16_0) rfl]; unfold lb16_0
    simp (maxSteps := 1000000) (disch := first | omega | rfl | (simp only [zL, two63, room] <;> omega) | fail) only [↓reduceIte, ↓zP, zW, WOp, evOp, evBin, binI, binSh, binS, evNil, keyIs, keyEq, mkv, AV.cells, AV.sc, optv, bnd, env, put, Env.get, Env.set, Env.del, Env.dels, Env.init, res1, resL, resV, fillP, splice, newRow, Nat.reduceEqDiff, Nat.reduceLT, Nat.reduceLeDiff, Nat.reduceAdd, Nat.reduceMul, Nat.reduceSub, Nat.reduceBEq, reduceCtorEq, ↓zR, zQ, Tr, StA, StT, hlt, hr', hr2', seqM, hx, hw1, hw2]
    try refine w_drw ?_
    try (simp (maxSteps := 1000000) (disch := first | omega | rfl | (simp only [zL, two63, room] <;> omega) | fail) only [↓reduceIte, ↓zP, zW, WOp, evOp, evBin, binI, binSh, binS, evNil, keyIs, keyEq, mkv, AV.cells, AV.sc, optv, bnd, env, put, Env.get, Env.set, Env.del, Env.dels, Env.init, res1, resL, resV, fillP, splice, newRow, Nat.reduceEqDiff, Nat.reduceLT, Nat.reduceLeDiff, Nat.reduceAdd, Nat.reduceMul, Nat.reduceSub, Nat.reduceBEq, reduceCtorEq, ↓zR, zQ, Tr, StA, StT, hlt, hr', hr2', seqM, hx, hw1, hw2])
    rw [w_loopn (c := lp16_0) rfl]
    simp (maxSteps := 1000000) (disch := first | omega | rfl | (simp only [zL, two63, room] <;> omega) | fail) only [↓reduceIte, ↓zP, zW, WOp, evOp, evBin, binI, binSh, binS, evNil, keyIs, keyEq, mkv, AV.cells, AV.sc, optv, bnd, env, put, Env.get, Env.set, Env.del, Env.dels, Env.init, res1, resL, resV, fillP, splice, newRow, Nat.reduceEqDiff, Nat.reduceLT, Nat.reduceLeDiff, Nat.reduceAdd, Nat.reduceMul, Nat.reduceSub, Nat.reduceBEq, reduceCtorEq, ↓zR, zQ, Tr, StA, StT]
    exact ih
theorem c_yMoves {v u : AV} {L : List (Int × Int)} (hlen : L.length < 2 ^ 30) {h : AH} (hs : Slc 2 encM h v L) (ht : Slc 2 encM h u L) {post : AV → AH → Prop} (hp : post (.bool true) h) : S 16 [v, u] h post k := by
  refine S_of rfl T16 ?_; unfold fi16
  have hv := fun g => Slc.lenV (hs) (g := g) (ρ := fun _ => _) (x := .t 0) rfl; simp only [evOp] at hv
  have hu := fun g => Slc.lenV (ht) (g := g) (ρ := fun _ => _) (x := .t 0) rfl; simp only [evOp] at hu
  simp (maxSteps := 1000000) (disch := first | omega | rfl | (simp only [zL, two63, room] <;> omega) | fail) only [↓reduceIte, ↓zP, zW, WOp, evOp, evBin, binI, binSh, binS, evNil, keyIs, keyEq, mkv, AV.cells, AV.sc, optv, bnd, env, put, Env.get, Env.set, Env.del, Env.dels, Env.init, res1, resL, resV, fillP, splice, newRow, Nat.reduceEqDiff, Nat.reduceLT, Nat.reduceLeDiff, Nat.reduceAdd, Nat.reduceMul, Nat.reduceSub, Nat.reduceBEq, reduceCtorEq, ↓zR, zQ, Tr, StA, StT, hv, hu]
  refine lp_yMoves hlen hs ht ?_ L [] rfl
  simp (maxSteps := 1000000) (disch := first | omega | rfl | (simp only [zL, two63, room] <;> omega) | fail) only [↓reduceIte, ↓zP, zW, WOp, evOp, evBin, binI, binSh, binS, evNil, keyIs, keyEq, mkv, AV.cells, AV.sc, optv, bnd, env, put, Env.get, Env.set, Env.del, Env.dels, Env.init, res1, resL, resV, fillP, splice, newRow, Nat.reduceEqDiff, Nat.reduceLT, Nat.reduceLeDiff, Nat.reduceAdd, Nat.reduceMul, Nat.reduceSub, Nat.reduceBEq, reduceCtorEq, ↓zR, zQ, Tr, StA, StT]
  exact hp
theorem lp_yIn {v : AV} {L : List (Int × Int)} (hlen : L.length < 2 ^ 30) {b : AH} (hs : Slc 2 encM b v L) (p : Nat) (m : Int × Int) (hm : rdRow b p 0 0 2 = some [.int .i64 m.1, .int .i64 m.2]) {R : X → Env → AH → Prop} : ∀ (rest pre : List (Int × Int)) (h : AH), L = pre ++ rest → Pre b h →
    (∀ h', Pre b h' → rest.contains m = false → R (.exit 0) [] h') → (∀ h', Pre b h' → rest.contains m = true → R .ret [(4, .bool true)] h') →
    Cx (.loop lp15_0) [(3, .ptr p 0 0 2), (7, v), (8, .int .i64 L.length), (9, .int .i64 pre.length)] h R k k
  | [], pre, h, hL, hp, h1, h2 => by
    have hl : L.length = pre.length := by rw [hL]; simp
    rw [hl]
    rw [w_loopb (c := lp15_0) (d := lb15_0) rfl]; unfold lb15_0
    simp (maxSteps := 1000000) (disch := first | omega | rfl | (simp only [zL, two63, room] <;> omega) | fail) only [↓reduceIte, ↓zP, zW, WOp, evOp, evBin, binI, binSh, binS, evNil, keyIs, keyEq, mkv, AV.cells, AV.sc, optv, bnd, env, put, Env.get, Env.set, Env.del, Env.dels, Env.init, res1, resL, resV, fillP, splice, newRow, Nat.reduceEqDiff, Nat.reduceLT, Nat.reduceLeDiff, Nat.reduceAdd, Nat.reduceMul, Nat.reduceSub, Nat.reduceBEq, reduceCtorEq, ↓zR, zQ, Tr, StA, StT]
    exact h1 h hp rfl
  | x :: rest, pre, h, hL, hp, h1, h2 => by
    have ih := lp_yIn hlen hs p m hm (R := R) rest (pre ++ [x])
    have hl : L.length = pre.length + 1 + rest.length := by rw [hL]; simp; omega
    have hs' := hs.pre hp
    rw [hL] at hs'
    obtain ⟨r1, k1, o1, hve, hr⟩ := hs'.at hlM
    rw [← hL, hl] at hve
    subst hve
    rw [hl] at ih ⊢
    have hr' : rdRow h r1 k1 (o1 + pre.length * 2) 2 = some [.int .i64 x.1, .int .i64 x.2] := hr
    have hp2 : Pre b (h ++ [AO.row [AV.int .i64 x.1, AV.int .i64 x.2] 0 0 false]) := hp.trans (Pre.push _ _)
    have hm2 := rdRow_pre hp2 hm
    have hm3 := rdRow_pre hp hm
    have hpl := rd_lt hm3
    have hlt : (pre.length : Int) < ((pre.length + 1 + rest.length : Nat) : Int) := by omega
    have hw1 : (pre.length : Int) + 1 = ((pre ++ [x]).length : Int) := by simp
    have hw2 : IntKind.i64.wrap ((pre ++ [x]).length : Int) = ((pre ++ [x]).length : Int) := wrap_i (by simp; omega)
    rw [w_loopb (c := lp15_0) (d := lb15_0) rfl]; unfold lb15_0
    cases e : (((x.1, x.2) : Int × Int) == (m.1, m.2))
    · simp (maxSteps := 1000000) (disch := first | omega | rfl | (simp only [zL, two63, room] <;> omega) | fail) only [↓reduceIte, ↓zP, zW, WOp, evOp, evBin, binI, binSh, binS, evNil, keyIs, keyEq, mkv, AV.cells, AV.sc, optv, bnd, env, put, Env.get, Env.set, Env.del, Env.dels, Env.init, res1, resL, resV, fillP, splice, newRow, Nat.reduceEqDiff, Nat.reduceLT, Nat.reduceLeDiff, Nat.reduceAdd, Nat.reduceMul, Nat.reduceSub, Nat.reduceBEq, reduceCtorEq, ↓zR, zQ, Tr, StA, StT, hlt, hr', hm2, hm3, hpl, seqM, e, hw1, hw2]
      rw [w_loopn (c := lp15_0) rfl]
      simp (maxSteps := 1000000) (disch := first | omega | rfl | (simp only [zL, two63, room] <;> omega) | fail) only [↓reduceIte, ↓zP, zW, WOp, evOp, evBin, binI, binSh, binS, evNil, keyIs, keyEq, mkv, AV.cells, AV.sc, optv, bnd, env, put, Env.get, Env.set, Env.del, Env.dels, Env.init, res1, resL, resV, fillP, splice, newRow, Nat.reduceEqDiff, Nat.reduceLT, Nat.reduceLeDiff, Nat.reduceAdd, Nat.reduceMul, Nat.reduceSub, Nat.reduceBEq, reduceCtorEq, ↓zR, zQ, Tr, StA, StT]
      have hc : (x :: rest).contains m = rest.contains m := by
        rw [List.contains_cons, show (m == x) = (x == m) from BEq.comm, show (x == m) = false from e]; rfl
      refine ih _ (by rw [hL]; simp) hp2 (fun h' q1 q2 => h1 h' q1 (by rw [hc]; exact q2)) (fun h' q1 q2 => h2 h' q1 (by rw [hc]; exact q2))
    · simp (maxSteps := 1000000) (disch := first | omega | rfl | (simp only [zL, two63, room] <;> omega) | fail) only [↓reduceIte, ↓zP, zW, WOp, evOp, evBin, binI, binSh, binS, evNil, keyIs, keyEq, mkv, AV.cells, AV.sc, optv, bnd, env, put, Env.get, Env.set, Env.del, Env.dels, Env.init, res1, resL, resV, fillP, splice, newRow, Nat.reduceEqDiff, Nat.reduceLT, Nat.reduceLeDiff, Nat.reduceAdd, Nat.reduceMul, Nat.reduceSub, Nat.reduceBEq, reduceCtorEq, ↓zR, zQ, Tr, StA, StT, hlt, hr', hm2, hm3, hpl, seqM, e]
      refine h2 _ hp2 ?_
      rw [List.contains_cons, show (m == x) = (x == m) from BEq.comm, show (x == m) = true from e]; rfl
theorem c_yIn {v : AV} {L : List (Int × Int)} (hlen : L.length < 2 ^ 30) (i t : Int) {h : AH} (hs : Slc 2 encM h v L) {post : AV → AH → Prop} (hp : ∀ h', Pre h h' → post (.bool (L.contains (i, t))) h') : S 15 [v, mvV i t] h post k := by
  obtain ⟨q, -, -⟩ := mvRow h i t
  refine S_of rfl T15 ?_; unfold fi15
  have hs2 := hs.pre (Pre.push h (AO.row [AV.int .i64 i, AV.int .i64 t] 0 0 false))
  have hv := fun g => Slc.lenV (hs2) (g := g) (ρ := fun _ => _) (x := .t 0) rfl; simp only [evOp] at hv
  simp (maxSteps := 1000000) (disch := first | omega | rfl | (simp only [zL, two63, room] <;> omega) | fail) only [↓reduceIte, ↓zP, zW, WOp, evOp, evBin, binI, binSh, binS, evNil, keyIs, keyEq, mkv, AV.cells, AV.sc, optv, bnd, env, put, Env.get, Env.set, Env.del, Env.dels, Env.init, res1, resL, resV, fillP, splice, newRow, Nat.reduceEqDiff, Nat.reduceLT, Nat.reduceLeDiff, Nat.reduceAdd, Nat.reduceMul, Nat.reduceSub, Nat.reduceBEq, reduceCtorEq, ↓zR, zQ, Tr, StA, StT, hv]
  refine lp_yIn hlen hs2 h.length (i, t) q L [] _ rfl (Pre.refl _) ?_ ?_
  · intro h' hp' e
    rw [e] at hp
    simp (maxSteps := 1000000) (disch := first | omega | rfl | (simp only [zL, two63, room] <;> omega) | fail) only [↓reduceIte, ↓zP, zW, WOp, evOp, evBin, binI, binSh, binS, evNil, keyIs, keyEq, mkv, AV.cells, AV.sc, optv, bnd, env, put, Env.get, Env.set, Env.del, Env.dels, Env.init, res1, resL, resV, fillP, splice, newRow, Nat.reduceEqDiff, Nat.reduceLT, Nat.reduceLeDiff, Nat.reduceAdd, Nat.reduceMul, Nat.reduceSub, Nat.reduceBEq, reduceCtorEq, ↓zR, zQ, Tr, StA, StT]
    exact hp h' ((Pre.push _ _).trans hp')
  · intro h' hp' e
    rw [e] at hp
    simp (maxSteps := 1000000) (disch := first | omega | rfl | (simp only [zL, two63, room] <;> omega) | fail) only [↓reduceIte, ↓zP, zW, WOp, evOp, evBin, binI, binSh, binS, evNil, keyIs, keyEq, mkv, AV.cells, AV.sc, optv, bnd, env, put, Env.get, Env.set, Env.del, Env.dels, Env.init, res1, resL, resV, fillP, splice, newRow, Nat.reduceEqDiff, Nat.reduceLT, Nat.reduceLeDiff, Nat.reduceAdd, Nat.reduceMul, Nat.reduceSub, Nat.reduceBEq, reduceCtorEq, ↓zR, zQ, Tr, StA, StT]
    exact hp h' ((Pre.push _ _).trans hp')
theorem Slc.fldM {h : AH} {c kk off n e : Nat} {pre rest : List (Int × Int)} {x : Int × Int} (hs : Slc 2 encM h (.slice c kk off n e) (pre ++ x :: rest)) : rdRow h c kk (off + pre.length * 2 + 0) 1 = some [.int .i64 x.1] ∧ rdRow h c kk (off + pre.length * 2 + 1) 1 = some [.int .i64 x.2] := by
  have hr := hs.rd hlM
  exact ⟨rd_part hr (o := 0) (m := 1) (by omega), rd_part hr (o := 1) (m := 1) (by omega)⟩
theorem lp_yOrder {c kk off : Nat} {L : List (Int × Int)} (hlen : L.length < 2 ^ 30) {h : AH} (hs : Slc 2 encM h (.slice c kk off L.length 2) L) (ho : L.Pairwise fun a b => a.1 < b.1) {R : X → Env → AH → Prop} (hR : R (.exit 0) [] h) : ∀ (rest pre : List (Int × Int)) (y : Int × Int), L = pre ++ y :: rest →
    Cx (.loop lp17_0) [(0, .slice c kk off L.length 2), (3, .int .i64 ((pre.length + 1 : Nat) : Int))] h R k k
  | [], pre, y, hL => by
    have hl : L.length = pre.length + 1 := by rw [hL]; simp
    have hn : ¬ (((pre.length + 1 : Nat) : Int) < ((pre.length + 1 : Nat) : Int)) := by omega
    rw [hl]
    rw [w_loopb (c := lp17_0) (d := lb17_0) rfl]; unfold lb17_0
    simp (maxSteps := 1000000) (disch := first | omega | rfl | (simp only [zL, two63, room] <;> omega) | fail) only [↓reduceIte, ↓zP, zW, WOp, evOp, evBin, binI, binSh, binS, evNil, keyIs, keyEq, mkv, AV.cells, AV.sc, optv, bnd, env, put, Env.get, Env.set, Env.del, Env.dels, Env.init, res1, resL, resV, fillP, splice, newRow, Nat.reduceEqDiff, Nat.reduceLT, Nat.reduceLeDiff, Nat.reduceAdd, Nat.reduceMul, Nat.reduceSub, Nat.reduceBEq, reduceCtorEq, ↓zR, zQ, Tr, StA, StT, hn]
    exact hR
  | x :: rest, pre, y, hL => by
    have ih := lp_yOrder hlen hs ho (R := R) hR rest (pre ++ [y]) x (by rw [hL]; simp)
    have hl : L.length = pre.length + 2 + rest.length := by rw [hL]; simp; omega
    have hxy : y.1 < x.1 := by
      rw [hL, List.pairwise_append] at ho
      have := ho.2.1
      rw [List.pairwise_cons] at this
      exact this.1 x (by simp)
    have hs1 := hs
    have hs2 := hs
    rw [show L = pre ++ y :: (x :: rest) from hL] at hs1
    rw [show L = (pre ++ [y]) ++ x :: rest by rw [hL]; simp] at hs2
    obtain ⟨a1, a2⟩ := hs1.fldM
    obtain ⟨b1, b2⟩ := hs2.fldM
    rw [show (pre ++ [y]).length = pre.length + 1 by simp] at b1 b2 ih
    have hlt : ((pre.length + 1 : Nat) : Int) < ((pre.length + 2 + rest.length : Nat) : Int) := by omega
    have hlt2 : (pre.length : Int) < ((pre.length + 2 + rest.length : Nat) : Int) := by omega
    have hw0 : ((pre.length + 1 : Nat) : Int) - 1 = (pre.length : Int) := by omega
    have hw0' : IntKind.i64.wrap (pre.length : Int) = (pre.length : Int) := wrap_i (by omega)
    have hw1 : ((pre.length + 1 : Nat) : Int) + 1 = ((pre.length + 1 + 1 : Nat) : Int) := by omega
    have hw2 : IntKind.i64.wrap ((pre.length + 1 + 1 : Nat) : Int) = ((pre.length + 1 + 1 : Nat) : Int) := wrap_i (by omega)
    have g1 : ¬ (y.1 > x.1) := by omega
    have g2 : (y.1 == x.1) = false := by
      rw [beq_eq_false_iff_ne]; omega
    rw [hl] at ih ⊢
    rw [w_loopb (c := lp17_0) (d := lb17_0) rfl]; unfold lb17_0
    simp (maxSteps := 1000000) (disch := first | omega | rfl | (simp only [zL, two63, room] <;> omega) | fail) only [↓reduceIte, ↓zP, zW, WOp, evOp, evBin, binI, binSh, binS, evNil, keyIs, keyEq, mkv, AV.cells, AV.sc, optv, bnd, env, put, Env.get, Env.set, Env.del, Env.dels, Env.init, res1, resL, resV, fillP, splice, newRow, Nat.reduceEqDiff, Nat.reduceLT, Nat.reduceLeDiff, Nat.reduceAdd, Nat.reduceMul, Nat.reduceSub, Nat.reduceBEq, reduceCtorEq, ↓zR, zQ, Tr, StA, StT, hlt, hlt2, hw0, hw0', a1, a2, b1, b2, g1, g2, hw1, hw2]
    try refine w_drw ?_
    try (simp (maxSteps := 1000000) (disch := first | omega | rfl | (simp only [zL, two63, room] <;> omega) | fail) only [↓reduceIte, ↓zP, zW, WOp, evOp, evBin, binI, binSh, binS, evNil, keyIs, keyEq, mkv, AV.cells, AV.sc, optv, bnd, env, put, Env.get, Env.set, Env.del, Env.dels, Env.init, res1, resL, resV, fillP, splice, newRow, Nat.reduceEqDiff, Nat.reduceLT, Nat.reduceLeDiff, Nat.reduceAdd, Nat.reduceMul, Nat.reduceSub, Nat.reduceBEq, reduceCtorEq, ↓zR, zQ, Tr, StA, StT, hlt, hlt2, hw0, hw0', a1, a2, b1, b2, g1, g2, hw1, hw2])
    rw [w_loopn (c := lp17_0) rfl]
    simp (maxSteps := 1000000) (disch := first | omega | rfl | (simp only [zL, two63, room] <;> omega) | fail) only [↓reduceIte, ↓zP, zW, WOp, evOp, evBin, binI, binSh, binS, evNil, keyIs, keyEq, mkv, AV.cells, AV.sc, optv, bnd, env, put, Env.get, Env.set, Env.del, Env.dels, Env.init, res1, resL, resV, fillP, splice, newRow, Nat.reduceEqDiff, Nat.reduceLT, Nat.reduceLeDiff, Nat.reduceAdd, Nat.reduceMul, Nat.reduceSub, Nat.reduceBEq, reduceCtorEq, ↓zR, zQ, Tr, StA, StT]
    exact ih
theorem c_yOrder {v : AV} {L : List (Int × Int)} (hlen : L.length < 2 ^ 30) {h : AH} (hs : Slc 2 encM h v L) (ho : L.Pairwise fun a b => a.1 < b.1) {post : AV → AH → Prop} (hp : post (.bool true) h) : S 17 [v] h post k := by
  refine S_of rfl T17 ?_; unfold fi17
  rcases hs.cases with ⟨rfl, h0⟩ | ⟨rfl, h0⟩ | ⟨c, kk, off, rfl⟩
  · simp (maxSteps := 1000000) (disch := first | omega | rfl | (simp only [zL, two63, room] <;> omega) | fail) only [↓reduceIte, ↓zP, zW, WOp, evOp, evBin, binI, binSh, binS, evNil, keyIs, keyEq, mkv, AV.cells, AV.sc, optv, bnd, env, put, Env.get, Env.set, Env.del, Env.dels, Env.init, res1, resL, resV, fillP, splice, newRow, Nat.reduceEqDiff, Nat.reduceLT, Nat.reduceLeDiff, Nat.reduceAdd, Nat.reduceMul, Nat.reduceSub, Nat.reduceBEq, reduceCtorEq, ↓zR, zQ, Tr, StA, StT]
    rw [w_loopb (c := lp17_0) (d := lb17_0) rfl]; unfold lb17_0
    simp (maxSteps := 1000000) (disch := first | omega | rfl | (simp only [zL, two63, room] <;> omega) | fail) only [↓reduceIte, ↓zP, zW, WOp, evOp, evBin, binI, binSh, binS, evNil, keyIs, keyEq, mkv, AV.cells, AV.sc, optv, bnd, env, put, Env.get, Env.set, Env.del, Env.dels, Env.init, res1, resL, resV, fillP, splice, newRow, Nat.reduceEqDiff, Nat.reduceLT, Nat.reduceLeDiff, Nat.reduceAdd, Nat.reduceMul, Nat.reduceSub, Nat.reduceBEq, reduceCtorEq, ↓zR, zQ, Tr, StA, StT]
    exact hp
  · simp (maxSteps := 1000000) (disch := first | omega | rfl | (simp only [zL, two63, room] <;> omega) | fail) only [↓reduceIte, ↓zP, zW, WOp, evOp, evBin, binI, binSh, binS, evNil, keyIs, keyEq, mkv, AV.cells, AV.sc, optv, bnd, env, put, Env.get, Env.set, Env.del, Env.dels, Env.init, res1, resL, resV, fillP, splice, newRow, Nat.reduceEqDiff, Nat.reduceLT, Nat.reduceLeDiff, Nat.reduceAdd, Nat.reduceMul, Nat.reduceSub, Nat.reduceBEq, reduceCtorEq, ↓zR, zQ, Tr, StA, StT]
    rw [w_loopb (c := lp17_0) (d := lb17_0) rfl]; unfold lb17_0
    simp (maxSteps := 1000000) (disch := first | omega | rfl | (simp only [zL, two63, room] <;> omega) | fail) only [↓reduceIte, ↓zP, zW, WOp, evOp, evBin, binI, binSh, binS, evNil, keyIs, keyEq, mkv, AV.cells, AV.sc, optv, bnd, env, put, Env.get, Env.set, Env.del, Env.dels, Env.init, res1, resL, resV, fillP, splice, newRow, Nat.reduceEqDiff, Nat.reduceLT, Nat.reduceLeDiff, Nat.reduceAdd, Nat.reduceMul, Nat.reduceSub, Nat.reduceBEq, reduceCtorEq, ↓zR, zQ, Tr, StA, StT]
    exact hp
  · cases L with
    | nil =>
      simp (maxSteps := 1000000) (disch := first | omega | rfl | (simp only [zL, two63, room] <;> omega) | fail) only [↓reduceIte, ↓zP, zW, WOp, evOp, evBin, binI, binSh, binS, evNil, keyIs, keyEq, mkv, AV.cells, AV.sc, optv, bnd, env, put, Env.get, Env.set, Env.del, Env.dels, Env.init, res1, resL, resV, fillP, splice, newRow, Nat.reduceEqDiff, Nat.reduceLT, Nat.reduceLeDiff, Nat.reduceAdd, Nat.reduceMul, Nat.reduceSub, Nat.reduceBEq, reduceCtorEq, ↓zR, zQ, Tr, StA, StT]
      rw [w_loopb (c := lp17_0) (d := lb17_0) rfl]; unfold lb17_0
      simp (maxSteps := 1000000) (disch := first | omega | rfl | (simp only [zL, two63, room] <;> omega) | fail) only [↓reduceIte, ↓zP, zW, WOp, evOp, evBin, binI, binSh, binS, evNil, keyIs, keyEq, mkv, AV.cells, AV.sc, optv, bnd, env, put, Env.get, Env.set, Env.del, Env.dels, Env.init, res1, resL, resV, fillP, splice, newRow, Nat.reduceEqDiff, Nat.reduceLT, Nat.reduceLeDiff, Nat.reduceAdd, Nat.reduceMul, Nat.reduceSub, Nat.reduceBEq, reduceCtorEq, ↓zR, zQ, Tr, StA, StT]
      exact hp
    | cons y rest =>
      simp (maxSteps := 1000000) (disch := first | omega | rfl | (simp only [zL, two63, room] <;> omega) | fail) only [↓reduceIte, ↓zP, zW, WOp, evOp, evBin, binI, binSh, binS, evNil, keyIs, keyEq, mkv, AV.cells, AV.sc, optv, bnd, env, put, Env.get, Env.set, Env.del, Env.dels, Env.init, res1, resL, resV, fillP, splice, newRow, Nat.reduceEqDiff, Nat.reduceLT, Nat.reduceLeDiff, Nat.reduceAdd, Nat.reduceMul, Nat.reduceSub, Nat.reduceBEq, reduceCtorEq, ↓zR, zQ, Tr, StA, StT]
      refine lp_yOrder hlen hs ho ?_ rest [] y rfl
      simp (maxSteps := 1000000) (disch := first | omega | rfl | (simp only [zL, two63, room] <;> omega) | fail) only [↓reduceIte, ↓zP, zW, WOp, evOp, evBin, binI, binSh, binS, evNil, keyIs, keyEq, mkv, AV.cells, AV.sc, optv, bnd, env, put, Env.get, Env.set, Env.del, Env.dels, Env.init, res1, resL, resV, fillP, splice, newRow, Nat.reduceEqDiff, Nat.reduceLT, Nat.reduceLeDiff, Nat.reduceAdd, Nat.reduceMul, Nat.reduceSub, Nat.reduceBEq, reduceCtorEq, ↓zR, zQ, Tr, StA, StT]
      exact hp
theorem c_big {cv mv : AV} {cs ms : List UInt8} {h : AH} (hs : Slc 1 encU h cv cs) (ht : Slc 1 encU h mv ms) {post : AV → AH → Prop} (hp : ∀ b, (b = false → cs.length ≤ 1048576 ∧ ms.length ≤ 1048576) → post (.bool b) h) : S 22 [cv, mv] h post k := by
  refine S_of rfl T22 ?_; unfold fi22
  have hv := fun g => Slc.lenV (hs) (g := g) (ρ := fun _ => _) (x := .t 0) rfl; simp only [evOp] at hv
  have hu := fun g => Slc.lenV (ht) (g := g) (ρ := fun _ => _) (x := .t 0) rfl; simp only [evOp] at hu
  by_cases h1 : (cs.length : Int) > 1048576
  · simp (maxSteps := 1000000) (disch := first | omega | rfl | (simp only [zL, two63, room] <;> omega) | fail) only [↓reduceIte, ↓zP, zW, WOp, evOp, evBin, binI, binSh, binS, evNil, keyIs, keyEq, mkv, AV.cells, AV.sc, optv, bnd, env, put, Env.get, Env.set, Env.del, Env.dels, Env.init, res1, resL, resV, fillP, splice, newRow, Nat.reduceEqDiff, Nat.reduceLT, Nat.reduceLeDiff, Nat.reduceAdd, Nat.reduceMul, Nat.reduceSub, Nat.reduceBEq, reduceCtorEq, ↓zR, zQ, Tr, StA, StT, hv, hu, h1]
    exact hp true (fun h => by cases h)
  · have w1 : IntKind.i64.wrap (1048576 - (cs.length : Int)) = 1048576 - (cs.length : Int) := wrap_i (by omega)
    by_cases h2 : (ms.length : Int) > 1048576 - (cs.length : Int)
    · simp (maxSteps := 1000000) (disch := first | omega | rfl | (simp only [zL, two63, room] <;> omega) | fail) only [↓reduceIte, ↓zP, zW, WOp, evOp, evBin, binI, binSh, binS, evNil, keyIs, keyEq, mkv, AV.cells, AV.sc, optv, bnd, env, put, Env.get, Env.set, Env.del, Env.dels, Env.init, res1, resL, resV, fillP, splice, newRow, Nat.reduceEqDiff, Nat.reduceLT, Nat.reduceLeDiff, Nat.reduceAdd, Nat.reduceMul, Nat.reduceSub, Nat.reduceBEq, reduceCtorEq, ↓zR, zQ, Tr, StA, StT, hv, hu, h1, w1, h2]
      exact hp true (fun h => by cases h)
    · simp (maxSteps := 1000000) (disch := first | omega | rfl | (simp only [zL, two63, room] <;> omega) | fail) only [↓reduceIte, ↓zP, zW, WOp, evOp, evBin, binI, binSh, binS, evNil, keyIs, keyEq, mkv, AV.cells, AV.sc, optv, bnd, env, put, Env.get, Env.set, Env.del, Env.dels, Env.init, res1, resL, resV, fillP, splice, newRow, Nat.reduceEqDiff, Nat.reduceLT, Nat.reduceLeDiff, Nat.reduceAdd, Nat.reduceMul, Nat.reduceSub, Nat.reduceBEq, reduceCtorEq, ↓zR, zQ, Tr, StA, StT, hv, hu, h1, w1, h2]
      exact hp false (fun _ => by omega)
end Go.Proofs.YtejhhdpfndiliaaDoor.Ab

/- LINES AND MOVES that are drawn. -/
namespace Go.Proofs.YtejhhdpfndiliaaDoor.Ab
open Go
set_option maxRecDepth 100000
set_option maxHeartbeats 4000000

/-- Where a drawn move is put. -/
theorem wr_res {h g : AH} (hp : Pre (h ++ [AO.row [.int .i64 0, .int .i64 0] 0 0 false]) g) (x y : Int) : wrRow g h.length 0 0 [.int .i64 x, .int .i64 y] = some (g.set h.length (.row [.int .i64 x, .int .i64 y] 0 0 false)) ∧
    rdRow (g.set h.length (.row [.int .i64 x, .int .i64 y] 0 0 false)) h.length 0 0 2 = some [.int .i64 x, .int .i64 y] ∧ Pre h (g.set h.length (.row [.int .i64 x, .int .i64 y] 0 0 false)) := by
  have hl : h.length < g.length := by have := hp.1; simp at this; omega
  have hr : g[h.length]? = some (.row [.int .i64 0, .int .i64 0] 0 0 false) := by rw [hp.2 _ (by simp)]; simp
  refine ⟨by simp [wrRow, hr, splice, AV.sc], ?_, ((Pre.push h _).trans hp).set (Nat.le_refl _)⟩
  unfold rdRow
  rw [List.getElem?_set, if_pos rfl, if_pos hl]
  simp
end Go.Proofs.YtejhhdpfndiliaaDoor.Ab

/- RANKS of lines: how many lines there are, which rank a line has, which line a rank has. -/
namespace Go.Proofs.YtejhhdpfndiliaaDoor.Ab
open Go

/-- n, times (a + k) over k, for so many k. -/
def loopN (a : Nat) : Nat → Nat → Nat → Nat
  | 0, _, n => n
  | m + 1, k, n => loopN a m (k + 1) (n * (a + k) / k)
/-- How many lines there are. -/
def mM (t g f : Nat) : Nat := loopN (t + g) f 1 (loopN t g 1 1)
def mS (t g f : Nat) : Nat := loopN g f 1 (loopN (g + f) t 1 1)
def gM (t g f : Nat) : Nat := if 0 < g then mM t (g - 1) f else 0
def fM (t g f : Nat) : Nat := if 0 < f then mM t g (f - 1) else 0
def tM (t g f : Nat) : Nat := if 0 < t then mM (t - 1) g f else 0
def allT (P : Nat → Nat → Nat → Bool) : Bool := (List.range 13).all fun t => (List.range (13 - t)).all fun g => (List.range (13 - t - g)).all fun f => P t g f
theorem allT_get {P : Nat → Nat → Nat → Bool} (h : allT P = true) {t g f : Nat} (hs : t + g + f ≤ 12) : P t g f = true := by
  have h1 := List.all_eq_true.1 h t (List.mem_range.2 (by omega))
  have h2 := List.all_eq_true.1 h1 g (List.mem_range.2 (by omega))
  exact List.all_eq_true.1 h2 f (List.mem_range.2 (by omega))
theorem mM_all : allT (fun t g f => decide (mS t g f = mM t g f) && (decide (t + g + f = 0) || decide (mM t g f = gM t g f + fM t g f + tM t g f)) && decide (mM t g f < 1000000) && decide (0 < mM t g f)) = true := by decide +kernel
theorem mM_facts {t g f : Nat} (hs : t + g + f ≤ 12) : mS t g f = mM t g f ∧ (0 < t + g + f → mM t g f = gM t g f + fM t g f + tM t g f) ∧ mM t g f < 1000000 ∧ 0 < mM t g f := by
  have := allT_get mM_all hs
  simp only [Bool.and_eq_true, Bool.or_eq_true, decide_eq_true_eq] at this
  obtain ⟨⟨⟨h1, h2⟩, h3⟩, h4⟩ := this
  exact ⟨h1, fun h => h2.resolve_left (by omega), h3, h4⟩

def bel (t g f : Nat) (x : UInt8) : Nat := if x = 46 then 0 else if x = 70 then gM t g f else gM t g f + fM t g f
def rankN : List UInt8 → Nat
  | [] => 0
  | x :: l => bel ((x :: l).count 84) ((x :: l).count 46) ((x :: l).count 70) x + rankN l
def mW (w : List UInt8) : Nat := mM (w.count 84) (w.count 46) (w.count 70)
theorem cntB1 (x b : UInt8) (l : List UInt8) : (x :: l).count b = l.count b + if x = b then 1 else 0 := by
  rw [List.count_cons]
  simp
/-- What is below a sign, and those that begin with it, are below the next sign. -/
theorem bel_next {x : UInt8} {l : List UInt8} (hg : signs (x :: l)) (hl : (x :: l).length ≤ 12) : bel ((x :: l).count 84) ((x :: l).count 46) ((x :: l).count 70) x + mW l ≤ mW (x :: l) ∧
    ∀ y : UInt8, isSign y = true → x < y → bel ((x :: l).count 84) ((x :: l).count 46) ((x :: l).count 70) x + mW l ≤ bel ((x :: l).count 84) ((x :: l).count 46) ((x :: l).count 70) y := by
  have hc := cnt3 hg
  have hp := (mM_facts (t := (x :: l).count 84) (g := (x :: l).count 46) (f := (x :: l).count 70) (by omega)).2.1 (by rw [← hc]; simp)
  have hx := (signs_cons.1 hg).1
  unfold mW
  rw [cntB1, cntB1, cntB1] at hp ⊢
  rcases sign3 hx with rfl | rfl | rfl
  · simp only [show ((84 : UInt8) = 46) = False by decide, show ((84 : UInt8) = 70) = False by decide, if_true, if_false, Nat.add_zero] at hp ⊢
    unfold bel
    simp only [show ((84 : UInt8) = 46) = False by decide, show ((84 : UInt8) = 70) = False by decide, if_false]
    have : tM (l.count 84 + 1) (l.count 46) (l.count 70) = mM (l.count 84) (l.count 46) (l.count 70) := by unfold tM; rw [if_pos (by omega), Nat.add_sub_cancel]
    refine ⟨by omega, ?_⟩
    intro y hy hlt
    rcases sign3 hy with rfl | rfl | rfl <;> exact absurd hlt (by decide)
  · simp only [show ((46 : UInt8) = 84) = False by decide, show ((46 : UInt8) = 70) = False by decide, if_true, if_false, Nat.add_zero] at hp ⊢
    have hgM : gM (l.count 84) (l.count 46 + 1) (l.count 70) = mM (l.count 84) (l.count 46) (l.count 70) := by unfold gM; rw [if_pos (by omega), Nat.add_sub_cancel]
    have hb : bel (l.count 84) (l.count 46 + 1) (l.count 70) 46 = 0 := rfl
    rw [hb]
    refine ⟨by omega, ?_⟩
    intro y hy hlt
    rcases sign3 hy with rfl | rfl | rfl
    · have : bel (l.count 84) (l.count 46 + 1) (l.count 70) 84 = gM (l.count 84) (l.count 46 + 1) (l.count 70) + fM (l.count 84) (l.count 46 + 1) (l.count 70) := rfl
      omega
    · exact absurd hlt (by decide)
    · have : bel (l.count 84) (l.count 46 + 1) (l.count 70) 70 = gM (l.count 84) (l.count 46 + 1) (l.count 70) := rfl
      omega
  · simp only [show ((70 : UInt8) = 84) = False by decide, show ((70 : UInt8) = 46) = False by decide, if_true, if_false, Nat.add_zero] at hp ⊢
    have hfM : fM (l.count 84) (l.count 46) (l.count 70 + 1) = mM (l.count 84) (l.count 46) (l.count 70) := by unfold fM; rw [if_pos (by omega), Nat.add_sub_cancel]
    have hb : bel (l.count 84) (l.count 46) (l.count 70 + 1) 70 = gM (l.count 84) (l.count 46) (l.count 70 + 1) := rfl
    rw [hb]
    refine ⟨by omega, ?_⟩
    intro y hy hlt
    rcases sign3 hy with rfl | rfl | rfl
    · have : bel (l.count 84) (l.count 46) (l.count 70 + 1) 84 = gM (l.count 84) (l.count 46) (l.count 70 + 1) + fM (l.count 84) (l.count 46) (l.count 70 + 1) := rfl
      omega
    · exact absurd hlt (by decide)
    · exact absurd hlt (by decide)
theorem rank_lt : ∀ {w : List UInt8}, signs w → w.length ≤ 12 → rankN w < mW w
  | [], _, _ => by decide
  | x :: l, hg, hl => by
    have h1 := rank_lt (signs_cons.1 hg).2 (by simp at hl; omega)
    have h2 := (bel_next hg hl).1
    simp only [rankN]
    omega
/-- Ranks of lines with as many of each tell their order. -/
theorem rank_lex : ∀ {w v : List UInt8}, signs w → signs v → w.length ≤ 12 → (∀ b, w.count b = v.count b) → (rankN w = rankN v → w = v) ∧ (rankN w < rankN v → Op.bytesLess w v = true)
  | [], [], _, _, _, _ => ⟨fun _ => rfl, fun h => absurd h (by decide)⟩
  | [], y :: m, _, _, _, hc => by
    have := hc y
    rw [List.count_nil, cntB1, if_pos rfl] at this
    omega
  | x :: l, [], _, _, _, hc => by
    have := hc x
    rw [List.count_nil, cntB1, if_pos rfl] at this
    omega
  | x :: l, y :: m, hg, hv, hl, hc => by
    have hx := (signs_cons.1 hg).1
    have hy := (signs_cons.1 hv).1
    have hlen : (y :: m).length ≤ 12 := by
      have h1 := cnt3 hg
      have h2 := cnt3 hv
      rw [hc, hc, hc] at h1
      omega
    by_cases hxy : x = y
    · subst hxy
      have ih := rank_lex (w := l) (v := m) (signs_cons.1 hg).2 (signs_cons.1 hv).2 (by simp at hl; omega) (fun b => by
        have := hc b
        rw [cntB1, cntB1] at this
        omega)
      have hirr : (x < x) = False := eq_false (by rw [UInt8.lt_iff_toNat_lt]; omega)
      simp only [rankN, hc, Op.bytesLess, hirr, decide_false, beq_self_eq_true, Bool.true_and, Bool.false_or]
      exact ⟨fun h => by rw [ih.1 (by omega)], fun h => ih.2 (by omega)⟩
    · have hlx := rank_lt (signs_cons.1 hg).2 (by simp at hl; omega)
      have hlm := rank_lt (signs_cons.1 hv).2 (by simp at hlen; omega)
      rcases Nat.lt_trichotomy x.toNat y.toNat with h | h | h
      · have hlt : x < y := UInt8.lt_iff_toNat_lt.2 h
        have := (bel_next hg hl).2 y hy hlt
        simp only [rankN]
        rw [hc, hc, hc] at this ⊢
        refine ⟨fun h => by omega, fun _ => ?_⟩
        simp only [Op.bytesLess, hlt, decide_true, Bool.true_or]
      · exact absurd (UInt8.toNat_inj.1 h) hxy
      · have hlt : y < x := UInt8.lt_iff_toNat_lt.2 h
        have := (bel_next hv hlen).2 x hx hlt
        simp only [rankN]
        rw [hc, hc, hc]
        refine ⟨fun h => by omega, fun h => by omega⟩
/-- The line of a rank. -/
def unr : Nat → Nat → Nat → Nat → Nat → List UInt8
  | 0, _, _, _, _ => []
  | n + 1, t, g, f, r => if r < gM t g f then 46 :: unr n t (g - 1) f r else if r < gM t g f + fM t g f then 70 :: unr n t g (f - 1) (r - gM t g f) else 84 :: unr n (t - 1) g f (r - (gM t g f + fM t g f))
theorem unr_ok : ∀ (n t g f r : Nat), t + g + f = n → n ≤ 12 → r < mM t g f → signs (unr n t g f r) ∧ (unr n t g f r).count 84 = t ∧ (unr n t g f r).count 46 = g ∧ (unr n t g f r).count 70 = f ∧ rankN (unr n t g f r) = r
  | 0, t, g, f, r, hs, hn, hr => by
    obtain rfl : t = 0 := by omega
    obtain rfl : g = 0 := by omega
    obtain rfl : f = 0 := by omega
    have : mM 0 0 0 = 1 := by decide
    rw [this] at hr
    exact ⟨rfl, rfl, rfl, rfl, by simp only [unr, rankN]; omega⟩
  | n + 1, t, g, f, r, hs, hn, hr => by
    have hp := (mM_facts (t := t) (g := g) (f := f) (by omega)).2.1 (by omega)
    simp only [unr]
    by_cases h1 : r < gM t g f
    · rw [if_pos h1]
      have hg0 : 0 < g := by
        by_cases h : 0 < g
        · exact h
        · unfold gM at h1; rw [if_neg h] at h1; omega
      have hm : gM t g f = mM t (g - 1) f := by unfold gM; rw [if_pos hg0]
      obtain ⟨i1, i2, i3, i4, i5⟩ := unr_ok n t (g - 1) f r (by omega) (by omega) (by omega)
      have c1 := cntB1 46 84 (unr n t (g - 1) f r)
      have c2 := cntB1 46 46 (unr n t (g - 1) f r)
      have c3 := cntB1 46 70 (unr n t (g - 1) f r)
      rw [i2] at c1; rw [i3] at c2; rw [i4] at c3
      rw [if_neg (by decide)] at c1 c3
      rw [if_pos rfl] at c2
      refine ⟨signs_cons.2 ⟨rfl, i1⟩, by omega, by omega, by omega, ?_⟩
      simp only [rankN, i5]
      simp [bel]
    · rw [if_neg h1]
      by_cases h2 : r < gM t g f + fM t g f
      · rw [if_pos h2]
        have hf0 : 0 < f := by
          by_cases h : 0 < f
          · exact h
          · unfold fM at h2; rw [if_neg h] at h2; omega
        have hm : fM t g f = mM t g (f - 1) := by unfold fM; rw [if_pos hf0]
        obtain ⟨i1, i2, i3, i4, i5⟩ := unr_ok n t g (f - 1) (r - gM t g f) (by omega) (by omega) (by omega)
        have c1 := cntB1 70 84 (unr n t g (f - 1) (r - gM t g f))
        have c2 := cntB1 70 46 (unr n t g (f - 1) (r - gM t g f))
        have c3 := cntB1 70 70 (unr n t g (f - 1) (r - gM t g f))
        rw [i2] at c1; rw [i3] at c2; rw [i4] at c3
        rw [if_neg (by decide)] at c1 c2
        rw [if_pos rfl] at c3
        have e1 : t + 0 = t := rfl
        rw [Nat.add_zero] at c1 c2
        rw [show f - 1 + 1 = f by omega] at c3
        refine ⟨signs_cons.2 ⟨rfl, i1⟩, c1, c2, c3, ?_⟩
        simp only [rankN, i5, c1, c2, c3]
        have : bel t g f 70 = gM t g f := rfl
        omega
      · rw [if_neg h2]
        have ht0 : 0 < t := by
          by_cases h : 0 < t
          · exact h
          · have : tM t g f = 0 := by unfold tM; rw [if_neg h]
            omega
        have hm : tM t g f = mM (t - 1) g f := by unfold tM; rw [if_pos ht0]
        obtain ⟨i1, i2, i3, i4, i5⟩ := unr_ok n (t - 1) g f (r - (gM t g f + fM t g f)) (by omega) (by omega) (by omega)
        have c1 := cntB1 84 84 (unr n (t - 1) g f (r - (gM t g f + fM t g f)))
        have c2 := cntB1 84 46 (unr n (t - 1) g f (r - (gM t g f + fM t g f)))
        have c3 := cntB1 84 70 (unr n (t - 1) g f (r - (gM t g f + fM t g f)))
        rw [i2] at c1; rw [i3] at c2; rw [i4] at c3
        rw [if_neg (by decide)] at c2 c3
        rw [if_pos rfl] at c1
        rw [Nat.add_zero] at c2 c3
        rw [show t - 1 + 1 = t by omega] at c1
        refine ⟨signs_cons.2 ⟨rfl, i1⟩, c1, c2, c3, ?_⟩
        simp only [rankN, i5, c1, c2, c3]
        have : bel t g f 84 = gM t g f + fM t g f := rfl
        omega
/-- A line is the line of its rank. -/
theorem unr_rank {w : List UInt8} (hg : signs w) (hl : w.length ≤ 12) : unr w.length (w.count 84) (w.count 46) (w.count 70) (rankN w) = w := by
  have hc := cnt3 hg
  obtain ⟨i1, i2, i3, i4, i5⟩ := unr_ok w.length (w.count 84) (w.count 46) (w.count 70) (rankN w) (by omega) hl (rank_lt hg hl)
  have hlen := cnt3 i1
  rw [i2, i3, i4] at hlen
  refine (rank_lex i1 hg (by omega) ?_).1 i5
  intro b
  by_cases h1 : b = 84
  · rw [h1]; exact i2
  · by_cases h2 : b = 46
    · rw [h2]; exact i3
    · by_cases h3 : b = 70
      · rw [h3]; exact i4
      · have no : ∀ {l : List UInt8}, signs l → l.count b = 0 := by
          intro l hl
          rw [List.count_eq_zero]
          intro hb
          rcases sign3 (List.all_eq_true.1 hl b hb) with h | h | h
          · exact h1 h
          · exact h2 h
          · exact h3 h
        rw [no i1, no hg]
end Go.Proofs.YtejhhdpfndiliaaDoor.Ab

/- WHAT BOTH SIDES' functions answer on numbers of lines, first and last lines. -/
namespace Go.Proofs.YtejhhdpfndiliaaDoor.Ab
open Go
set_option maxRecDepth 100000
set_option maxHeartbeats 4000000

def firB (t g f : Nat) : List UInt8 := List.replicate t 84 ++ List.replicate g 46 ++ List.replicate f 70
theorem repG (b : UInt8) : ∀ n : Nat, Go.Lib.repeatL [b] n = List.replicate n b
  | 0 => rfl
  | n + 1 => by rw [Go.Lib.repeatL, repG b n, List.replicate_succ]; rfl
theorem encG84 : (Utf8.encode (84 : Int)).data.toList = [84] := by decide +kernel
theorem encG70 : (Utf8.encode (70 : Int)).data.toList = [70] := by decide +kernel
def lasG (w : List UInt8) : List UInt8 := if goodLine w then lastB w else []
def cnG (w : List UInt8) (b : UInt8) : Int := if goodLine w then (w.count b : Nat) else 0
theorem step_ok {a k n m : Nat} (hk : 0 < k) (hak : a + k ≤ 24) (hb : n * 24 ^ (m + 1) ≤ 24 ^ 13) : n * (a + k) ≤ 24 ^ 13 ∧ n * (a + k) / k * 24 ^ m ≤ 24 ^ 13 := by
  have h1 : n * (a + k) ≤ n * 24 := Nat.mul_le_mul_left _ hak
  have h2 : n * 24 ≤ n * 24 ^ (m + 1) := Nat.mul_le_mul_left _ (by rw [Nat.pow_succ]; exact Nat.le_mul_of_pos_left _ (Nat.pos_of_ne_zero (by simp)))
  have h3 : n * (a + k) / k ≤ n * (a + k) := Nat.div_le_self _ _
  refine ⟨by omega, ?_⟩
  have h4 : n * (a + k) / k * 24 ^ m ≤ n * 24 * 24 ^ m := Nat.mul_le_mul_right _ (by omega)
  have h5 : n * 24 * 24 ^ m = n * 24 ^ (m + 1) := by rw [Nat.pow_succ, Nat.mul_comm (24 ^ m) 24, Nat.mul_assoc]
  omega
theorem p13 : (24 : Nat) ^ 13 < 2 ^ 62 := by decide
theorem wrap_lt {q : Nat} (h : q < 2 ^ 62) : ((q : Int) + 9223372036854775808) % 18446744073709551616 - 9223372036854775808 = q := by omega
theorem loop_ok {a : Nat} : ∀ (m k0 n : Nat) (j : Nat), 0 < k0 → a + k0 + m ≤ 25 → n * 24 ^ (m + j) ≤ 24 ^ 13 → loopN a m k0 n * 24 ^ j ≤ 24 ^ 13
  | 0, k0, n, j, _, _, h => by simpa [loopN] using h
  | m + 1, k0, n, j, h0, h1, h => by
    have h2 : n * 24 ^ (m + j + 1) ≤ 24 ^ 13 := by rw [show m + j + 1 = m + 1 + j by omega]; exact h
    exact loop_ok m (k0 + 1) _ j (by omega) (by omega) (step_ok (a := a) h0 (by omega) h2).2
end Go.Proofs.YtejhhdpfndiliaaDoor.Ab

/- NUMBERS of toads, gaps and frogs: what both sides take, and what they tell of them. -/
namespace Go.Proofs.YtejhhdpfndiliaaDoor.Ab
open Go
set_option maxRecDepth 100000
set_option maxHeartbeats 4000000

def nmG (t g f : Int) : Bool := decide ((0 ≤ t ∧ t ≤ 12) ∧ (0 ≤ g ∧ g ≤ 12) ∧ (0 ≤ f ∧ f ≤ 12) ∧ 1 ≤ t + g + f ∧ t + g + f ≤ 12)
theorem nmG_no1 {t g f : Int} (h : ¬ (0 ≤ t ∧ t ≤ 12)) : nmG t g f = false := decide_eq_false fun hh => h hh.1
theorem nmG_no2 {t g f : Int} (h : ¬ (0 ≤ g ∧ g ≤ 12)) : nmG t g f = false := decide_eq_false fun hh => h hh.2.1
theorem nmG_no3 {t g f : Int} (h : ¬ (0 ≤ f ∧ f ≤ 12)) : nmG t g f = false := decide_eq_false fun hh => h hh.2.2.1
theorem nmG_yes {t g f : Int} (h1 : 0 ≤ t ∧ t ≤ 12) (h2 : 0 ≤ g ∧ g ≤ 12) (h3 : 0 ≤ f ∧ f ≤ 12) : nmG t g f = decide (1 ≤ t + g + f ∧ t + g + f ≤ 12) := by
  unfold nmG
  rw [decide_eq_decide]
  exact ⟨fun h => h.2.2.2, fun h => ⟨h1, h2, h3, h⟩⟩
theorem nmG_nat {t g f : Int} (h : nmG t g f = true) : ∃ t' g' f' : Nat, t = t' ∧ g = g' ∧ f = f' ∧ 1 ≤ t' + g' + f' ∧ t' + g' + f' ≤ 12 := by
  obtain ⟨h1, h2, h3, h4, h5⟩ := of_decide_eq_true h
  exact ⟨t.toNat, g.toNat, f.toNat, by omega, by omega, by omega, by omega, by omega⟩
def cnL (t g f : Int) : Int := if nmG t g f then (mM t.toNat g.toNat f.toNat : Nat) else 0
def fiL (t g f : Int) : List UInt8 := if nmG t g f then firB t.toNat g.toNat f.toNat else []
end Go.Proofs.YtejhhdpfndiliaaDoor.Ab

/- NUMBERS that are drawn. -/
namespace Go.Proofs.YtejhhdpfndiliaaDoor.Ab
open Go
set_option maxRecDepth 100000
set_option maxHeartbeats 4000000

end Go.Proofs.YtejhhdpfndiliaaDoor.Ab

/- MOVES that are drawn. -/
namespace Go.Proofs.YtejhhdpfndiliaaDoor.Ab
open Go
set_option maxRecDepth 100000
set_option maxHeartbeats 4000000

theorem PreX.ag {c : Nat} {h1 h2 h3 : AH} (x : PreX c h1 h2) (y : Ag h1.length h2 h3) : PreX c h1 h3 := ⟨Nat.le_trans x.1 y.1, fun i hi hc => by rw [y.2 i hi, x.2 i hi hc]⟩
theorem OwL.x {α : Type} {esz : Nat} {enc : α → List AV} {c : Nat} {B h h' : AH} {v : AV} {L : List α} (ho : OwL esz enc B h v L) (hp : PreX c h h') (hc : c < B.length) : OwL esz enc B h' v L :=
  own_row ho fun r hr => hp.2 r (own_lt ho hr) (by have := own_ge ho hr; omega)
theorem Cur.ag {b : AH} {cv : AV} {bs : List UInt8} {K : Nat} {h h' : AH} (hc : Cur b cv bs K h) {n : Nat} (hn : b.length < n) (ha : Ag n h h') : Cur b cv bs K h' := by
  obtain ⟨h1, h2, h3, a, s, h4, h5⟩ := hc
  exact ⟨h1, h2, h3.trans' (ha.mono (by omega)), a, s, h4, by rw [ha.2 _ hn]; exact h5⟩
theorem rd_row {h h' : AH} {c k off n : Nat} {cs : List AV} (hc : h'[c]? = h[c]?) (hr : rdRow h c k off n = some cs) : rdRow h' c k off n = some cs := by
  unfold rdRow at hr ⊢; rw [hc]; exact hr
theorem rd_app1 {h : AH} {o : AO} {c k off n : Nat} {cs : List AV} (hr : rdRow h c k off n = some cs) : rdRow (h ++ [o]) c k off n = some cs := rdRow_pre (Pre.push _ _) hr
theorem Slc.upTo {α : Type} {esz : Nat} {enc : α → List AV} (hl : ∀ x, (enc x).length = esz) {h : AH} {c kk off n e : Nat} {L : List α} (hs : Slc esz enc h (.slice c kk off n e) L) {j : Nat} (hj : j ≤ L.length) {o2 n2 : Nat} (ho : o2 = off) (hn : n2 = j) : Slc esz enc h (.slice c kk o2 n2 esz) (L.take j) := by
  subst ho hn
  obtain ⟨h1, rfl, h3⟩ := hs.all
  unfold Slc Sl
  have hle : (L.take n2).length = n2 := by simp; omega
  have hm := Nat.mul_le_mul_right e (show n2 ≤ n by omega)
  refine ⟨rfl, hle.symm, by rw [flat_len hl], ?_⟩
  have h4 := hs.all.2.2
  conv at h4 => rhs; rw [← List.take_append_drop n2 L, List.flatMap_append]
  have := Slc.ahead hl (pre := L.take n2) (rest := L.drop n2) (by rw [List.take_append_drop]; exact hs)
  exact this
end Go.Proofs.YtejhhdpfndiliaaDoor.Ab

/- GAMES of the program: one line, its best moves, the play. -/
namespace Go.Proofs.YtejhhdpfndiliaaDoor.Ab
open Go
set_option maxRecDepth 100000
set_option maxHeartbeats 4000000

/-- append to a slice of one's own that may be written; what lies behind it is given up. -/
theorem ap_w {α : Type} {esz : Nat} {enc : α → List AV} (hl : ∀ x, (enc x).length = esz) (hsc : ∀ x, (enc x).all AV.sc = true) {b h : AH} {v : AV} {L M : List α} (ho : OwW esz enc b h v L) (hb : b.length ≤ h.length) (hr : L.length + M.length ≤ 1099511627776) :
    ∃ v' h', apRow h esz v M.length (M.flatMap enc) = some (v', h') ∧ OwL esz enc b h' v' (L ++ M) ∧ (∀ i, i < h.length → rowOf v ≠ some i → h'[i]? = h[i]?) ∧ h.length ≤ h'.length := by
  have hscM : (M.flatMap enc).all AV.sc = true := by
    rw [List.all_eq_true]
    intro y hy
    obtain ⟨a, _, ha⟩ := List.mem_flatMap.1 hy
    exact List.all_eq_true.1 (hsc a) y ha
  have hml := flat_len hl M
  have hll := flat_len hl L
  have fresh : ∀ u : AV, L = [] → rowOf u = none → (u = .nilS ∨ u = .empS) → ∃ v' h', (if M.length = 0 then some (u, h) else if M.length ≤ room then (newRow h (M.flatMap enc)).map fun (c, h') => (AV.slice c 0 0 M.length esz, h') else none) = some (v', h') ∧ OwL esz enc b h' v' (L ++ M) ∧ (∀ i, i < h.length → rowOf u ≠ some i → h'[i]? = h[i]?) ∧ h.length ≤ h'.length := by
    intro u hL hu hu2
    subst hL
    by_cases h0 : M.length = 0
    · have : M = [] := List.eq_nil_of_length_eq_zero h0
      subst this
      refine ⟨u, h, by simp, ?_, fun _ _ _ => rfl, Nat.le_refl _⟩
      rcases hu2 with rfl | rfl
      · exact OwL.nil
      · exact OwL.emp
    · rw [if_neg h0, if_pos (by unfold room; simp at hr; omega)]
      refine ⟨.slice h.length 0 0 M.length esz, h ++ [.row (M.flatMap enc) 0 0 false], by simp only [newRow, hscM, if_true, Option.map_some], ?_, fun i hi _ => List.getElem?_append_left hi, by simp⟩
      unfold OwL Own
      simp only [List.nil_append]
      exact ⟨trivial, trivial, hml.symm, hb, _, 0, by rw [List.getElem?_append_right (Nat.le_refl _), Nat.sub_self]; rfl, Nat.le_refl _, by have := hml; rw [List.flatMap] at this; rw [this]; omega, rfl⟩
  unfold OwW at ho
  cases v <;> simp only at ho <;> first
    | exact fresh _ ho rfl (.inl rfl)
    | exact fresh _ ho rfl (.inr rfl)
    | exact ho.elim
    | skip
  rename_i c kk off len e
  obtain ⟨rfl, rfl, h3, A, Z, fl, h4, h5, h6⟩ := ho
  have hlt := (List.getElem?_eq_some_iff.1 h4).1
  have hfin : ∀ (k' fl' : Nat), fl' ≤ k' → OwL e enc b (h.set c (.row (A ++ L.flatMap enc ++ M.flatMap enc) k' fl' false)) (.slice c k' off (L.length + M.length) e) (L ++ M) := by
    intro k' fl' hk
    unfold OwL Own
    simp only
    refine ⟨trivial, by simp, by rw [List.flatMap_append, List.length_append, List.length_append, hll, hml, Nat.add_mul], h3, _, fl', by rw [List.getElem?_set, if_pos rfl, if_pos hlt], hk, ?_, ?_⟩
    · simp only [List.length_append, hll, hml, Nat.add_mul]; omega
    · rw [List.append_assoc, List.drop_left' h6, List.flatMap_append]
  have hfr : ∀ o, (∀ i, i < h.length → rowOf (.slice c kk off L.length e) ≠ some i → (h.set c o)[i]? = h[i]?) ∧ h.length ≤ (h.set c o).length := fun o => ⟨fun i _ hr => by rw [List.getElem?_set, if_neg (fun e => hr (by simp [rowOf, e]))], by simp⟩
  simp only [apRow, h4]
  by_cases hz : off + L.length * e = (A ++ L.flatMap enc ++ Z).length
  · rw [if_pos ⟨trivial, trivial, hz, h5, hscM, hr⟩]
    have hZ : Z = [] := by
      simp only [List.length_append, hll] at hz
      exact List.eq_nil_of_length_eq_zero (by omega)
    subst hZ
    rw [List.append_nil]
    exact ⟨_, _, rfl, hfin _ _ (by omega), (hfr _).1, (hfr _).2⟩
  · rw [if_neg (fun hh => hz hh.2.2.1), if_pos ⟨trivial, trivial, by simp only [List.length_append, hll]; omega, h5, hscM, hr⟩]
    have : (A ++ L.flatMap enc ++ Z).take (off + L.length * e) = A ++ L.flatMap enc := by
      rw [List.take_left' (by simp only [List.length_append, hll]; omega)]
    rw [this]
    exact ⟨_, _, rfl, hfin _ _ (by omega), (hfr _).1, (hfr _).2⟩

theorem Mh.keep {σ : Type} {key : σ → List UInt8} {val : σ → AV} {c : Nat} {h h' : AH} (hm : Mh key val c h) (hc : h'[c]? = h[c]?) : Mh key val c h' := by
  obtain ⟨es, h1, h2⟩ := hm
  exact ⟨es, by rw [hc]; exact h1, h2⟩
/-- A line of at most ten cells. -/
def plG10 (w : List UInt8) : Bool := decide (1 ≤ (w.length : Int) ∧ (w.length : Int) ≤ 10) && w.all isSign
theorem pl10 {w : List UInt8} (h : plG10 w = true) : 1 ≤ w.length ∧ w.length ≤ 10 ∧ signs w := by
  unfold plG10 at h
  rw [Bool.and_eq_true, decide_eq_true_eq] at h
  exact ⟨by omega, by omega, h.2⟩
theorem pl10_good (w : List UInt8) : plG10 w = (goodLine w && decide (w.length ≤ 10)) := by
  unfold plG10 goodLine
  cases w.all isSign
  · simp only [Bool.and_false, Bool.false_and]
  · rw [Bool.eq_iff_iff]
    simp only [Bool.and_true, Bool.and_eq_true, decide_eq_true_eq]
    omega
theorem join1 (x : List UInt8) : Go.Lib.join [x] [32] = x := by simp [Go.Lib.join, List.intercalate, List.intersperse]
theorem slc1 (h : AH) (x : List UInt8) : Slc 1 encS (h ++ [AO.row [.str x] 0 0 false]) (.slice h.length 0 0 1 1) [x] := ⟨rfl, rfl, rfl, by rw [show [x].length * 1 = 1 from rfl, rd_last, if_pos (by simp)]; rfl⟩
def wnG (w : List UInt8) (t : Bool) : Bool := plG10 w && winB w t
def ocG (w : List UInt8) : List UInt8 := if plG10 w then outcS (winB w true) (winB w false) else []
def bmG (w : List UInt8) (t : Bool) : List (Int × Int) := if plG10 w then bestB w t else []
def gmP (o : Option (Int × Int)) : Int × Int := match o with
  | some m => m
  | none => (0, 0)
def mvG10 (w : List UInt8) (t : Bool) : Option (Int × Int) := if plG10 w then gmB w t else none
theorem muF_leG (n : Nat) : ∀ (l : List UInt8) (i : Nat), i + l.length ≤ n → muF n i l ≤ l.length * n
  | [], _, _ => by simp [muF]
  | b :: l, i, h => by
    have := muF_leG n l (i + 1) (by simp at h; omega)
    have hb : fmu n i b ≤ n := by
      unfold fmu
      simp at h
      split
      · omega
      · split <;> omega
    simp only [muF, List.length_cons, Nat.succ_mul]
    omega
theorem mu_leG (w : List UInt8) : mu w ≤ w.length * w.length := muF_leG _ _ _ (by omega)
def gpG (w : List UInt8) (t : Bool) : List (Int × Int) := if plG10 w then plyB w t else []
end Go.Proofs.YtejhhdpfndiliaaDoor.Ab

/- PLAIN: moves by rules: what both sides list. -/
namespace Go.Proofs.YtejhhdpfndiliaaDoor.Ab
open Go

abbrev Ru := Bool × Bool × Bool
def passB (b c : UInt8) (own : Bool) : Bool := c == otherB b || (own && c == b)
/-- A move by a rule: own kinds jumped over, back, long. -/
def RcP (w : List UInt8) (r : Ru) (i t : Nat) : Prop := i < w.length ∧ t < w.length ∧ w.getD i 0 ≠ 46 ∧ w.getD t 0 = 46 ∧ ((w.getD i 0 = 84 ↔ i < t) ∨ r.2.1 = true) ∧ ((t ≤ i + 2 ∧ i ≤ t + 2) ∨ r.2.2 = true) ∧
  ∀ x, x < w.length → (i < x ∧ x < t ∨ t < x ∧ x < i) → passB (w.getD i 0) (w.getD x 0) r.1 = true
instance (w : List UInt8) (r : Ru) (i t : Nat) : Decidable (RcP w r i t) := by unfold RcP; infer_instance
def rcB (w : List UInt8) (r : Ru) (m : Int × Int) : Bool := decide (0 ≤ m.1 ∧ 0 ≤ m.2 ∧ RcP w r m.1.toNat m.2.toNat)
def mvRi (w : List UInt8) (r : Ru) (i : Nat) : List (Int × Int) := ((List.range w.length).filter fun t => decide (RcP w r i t)).map fun t : Nat => ((i : Int), (t : Int))
def mvR (w : List UInt8) (r : Ru) : List (Int × Int) := (List.range w.length).flatMap (mvRi w r)
theorem mem_mvRi {w : List UInt8} {r : Ru} {i : Nat} {m : Int × Int} : m ∈ mvRi w r i ↔ ∃ t : Nat, m = ((i : Int), (t : Int)) ∧ RcP w r i t := by
  unfold mvRi
  rw [List.mem_map]
  constructor
  · rintro ⟨t, ht, rfl⟩
    exact ⟨t, rfl, of_decide_eq_true (List.mem_filter.1 ht).2⟩
  · rintro ⟨t, rfl, h⟩
    exact ⟨t, List.mem_filter.2 ⟨List.mem_range.2 h.2.1, decide_eq_true h⟩, rfl⟩
theorem mem_mvR {w : List UInt8} {r : Ru} {m : Int × Int} : m ∈ mvR w r ↔ ∃ i t : Nat, m = ((i : Int), (t : Int)) ∧ RcP w r i t := by
  unfold mvR
  rw [List.mem_flatMap]
  constructor
  · rintro ⟨i, _, h⟩
    obtain ⟨t, rfl, h2⟩ := mem_mvRi.1 h
    exact ⟨i, t, rfl, h2⟩
  · rintro ⟨i, t, rfl, h⟩
    exact ⟨i, List.mem_range.2 h.1, mem_mvRi.2 ⟨t, rfl, h⟩⟩
theorem has_mvR (w : List UInt8) (r : Ru) (m : Int × Int) : (mvR w r).contains m = rcB w r m := by
  rw [Bool.eq_iff_iff, List.contains_iff_mem, mem_mvR]
  unfold rcB
  rw [decide_eq_true_iff]
  constructor
  · rintro ⟨i, t, rfl, h⟩
    exact ⟨by omega, by omega, by simpa using h⟩
  · obtain ⟨a, b⟩ := m
    rintro ⟨h1, h2, h3⟩
    simp only at h1 h2
    obtain ⟨a, rfl⟩ := Int.eq_ofNat_of_zero_le h1
    obtain ⟨b, rfl⟩ := Int.eq_ofNat_of_zero_le h2
    exact ⟨a, b, rfl, by simpa using h3⟩

/-! ### The program's search -/
/-- To the right: where the search stops. -/
def scR (w : List UInt8) (b : UInt8) (own : Bool) : Nat → Nat → Nat
  | 0, p => p
  | f + 1, p => if p < w.length ∧ passB b (w.getD p 0) own = true then scR w b own f (p + 1) else p
/-- To the left: how many cells are left of where the search stops, and that one. -/
def scL (w : List UInt8) (b : UInt8) (own : Bool) : Nat → Nat
  | 0 => 0
  | p + 1 => if passB b (w.getD p 0) own = true then scL w b own p else p + 1
theorem scR_ok (w : List UInt8) (b : UInt8) (own : Bool) : ∀ (f p : Nat), w.length ≤ f + p → p ≤ scR w b own f p ∧ (∀ x, p ≤ x → x < scR w b own f p → x < w.length ∧ passB b (w.getD x 0) own = true) ∧ ¬ (scR w b own f p < w.length ∧ passB b (w.getD (scR w b own f p) 0) own = true)
  | 0, p, h => by
    simp only [scR]
    exact ⟨Nat.le_refl _, fun x h1 h2 => by omega, fun h1 => by omega⟩
  | f + 1, p, h => by
    simp only [scR]
    split
    · rename_i hp
      obtain ⟨h1, h2, h3⟩ := scR_ok w b own f (p + 1) (by omega)
      refine ⟨by omega, fun x h4 h5 => ?_, h3⟩
      by_cases e : x = p
      · subst e; exact hp
      · exact h2 x (by omega) h5
    · rename_i hp
      exact ⟨Nat.le_refl _, fun x h1 h2 => by omega, hp⟩
theorem scL_ok (w : List UInt8) (b : UInt8) (own : Bool) : ∀ p : Nat, scL w b own p ≤ p ∧ (∀ x, scL w b own p ≤ x → x < p → passB b (w.getD x 0) own = true) ∧ (0 < scL w b own p → ¬ passB b (w.getD (scL w b own p - 1) 0) own = true)
  | 0 => ⟨Nat.le_refl _, fun x _ h => by omega, fun h => by simp [scL] at h⟩
  | p + 1 => by
    simp only [scL]
    split
    · rename_i hp
      obtain ⟨h1, h2, h3⟩ := scL_ok w b own p
      refine ⟨by omega, fun x h4 h5 => ?_, h3⟩
      by_cases e : x = p
      · subst e; exact hp
      · exact h2 x h4 (by omega)
    · rename_i hp
      exact ⟨Nat.le_refl _, fun x h1 h2 => by omega, fun _ => hp⟩
def isAn (b : UInt8) : Prop := b = 84 ∨ b = 70
theorem pass46 {b : UInt8} (hb : isAn b) (own : Bool) : ¬ passB b 46 own = true := by
  rcases hb with rfl | rfl <;> cases own <;> decide
def okDir (b : UInt8) (r : Ru) (right : Bool) : Bool := ((b == 84) == right) || r.2.1
/-- Where the program's search to the right leads. -/
theorem rc_right {w : List UInt8} {r : Ru} {i t : Nat} (hi : i < w.length) (hb : isAn (w.getD i 0)) (hit : i < t) :
    RcP w r i t ↔ t = scR w (w.getD i 0) r.1 w.length (i + 1) ∧ t < w.length ∧ w.getD t 0 = 46 ∧ okDir (w.getD i 0) r true = true ∧ (t ≤ i + 2 ∨ r.2.2 = true) := by
  obtain ⟨h1, h2, h3⟩ := scR_ok w (w.getD i 0) r.1 w.length (i + 1) (by omega)
  generalize scR w (w.getD i 0) r.1 w.length (i + 1) = q at *
  have hd : okDir (w.getD i 0) r true = true ↔ ((w.getD i 0 = 84 ↔ i < t) ∨ r.2.1 = true) := by
    unfold okDir
    rw [Bool.or_eq_true, beq_iff_eq, beq_iff_eq]
    simp [hit]
  constructor
  · rintro ⟨_, a2, a3, a4, a5, a6, a7⟩
    have hq : t = q := by
      rcases Nat.lt_trichotomy t q with h | h | h
      · have := (h2 t (by omega) h).2
        rw [a4] at this
        exact absurd this (pass46 hb _)
      · exact h
      · exact absurd ⟨by omega, a7 q (by omega) (.inl ⟨by omega, h⟩)⟩ h3
    exact ⟨hq, a2, a4, hd.2 a5, a6.imp And.left id⟩
  · rintro ⟨rfl, a2, a4, a5, a6⟩
    refine ⟨hi, a2, ?_, a4, hd.1 a5, a6.imp (fun h => ⟨h, by omega⟩) id, ?_⟩
    · rcases hb with h | h <;> rw [h] <;> decide
    · intro x hx hh
      rcases hh with ⟨g1, g2⟩ | ⟨g1, g2⟩
      · exact (h2 x (by omega) g2).2
      · omega
theorem rc_left {w : List UInt8} {r : Ru} {i t : Nat} (hi : i < w.length) (hb : isAn (w.getD i 0)) (hit : t < i) :
    RcP w r i t ↔ t + 1 = scL w (w.getD i 0) r.1 i ∧ w.getD t 0 = 46 ∧ okDir (w.getD i 0) r false = true ∧ (i ≤ t + 2 ∨ r.2.2 = true) := by
  obtain ⟨h1, h2, h3⟩ := scL_ok w (w.getD i 0) r.1 i
  generalize scL w (w.getD i 0) r.1 i = q at *
  have hd : okDir (w.getD i 0) r false = true ↔ ((w.getD i 0 = 84 ↔ i < t) ∨ r.2.1 = true) := by
    unfold okDir
    rw [Bool.or_eq_true, beq_iff_eq, beq_eq_false_iff_ne]
    have : ¬ i < t := by omega
    simp [this]
  constructor
  · rintro ⟨_, a2, a3, a4, a5, a6, a7⟩
    have hq : t + 1 = q := by
      rcases Nat.lt_trichotomy (t + 1) q with h | h | h
      · exact absurd (a7 (q - 1) (by omega) (.inr ⟨by omega, by omega⟩)) (h3 (by omega))
      · exact h
      · have := h2 t (by omega) hit
        rw [a4] at this
        exact absurd this (pass46 hb _)
    exact ⟨hq, a4, hd.2 a5, a6.imp And.right id⟩
  · rintro ⟨hq, a4, a5, a6⟩
    refine ⟨hi, by omega, ?_, a4, hd.1 a5, a6.imp (fun h => ⟨by omega, h⟩) id, ?_⟩
    · rcases hb with h | h <;> rw [h] <;> decide
    · intro x hx hh
      rcases hh with ⟨g1, g2⟩ | ⟨g1, g2⟩
      · omega
      · exact h2 x (by omega) g2
/-- What the program lists of a cell. -/
def goR (w : List UInt8) (r : Ru) (i : Nat) : Bool := decide (scR w (w.getD i 0) r.1 w.length (i + 1) < w.length ∧ w.getD (scR w (w.getD i 0) r.1 w.length (i + 1)) 0 = 46 ∧ (scR w (w.getD i 0) r.1 w.length (i + 1) ≤ i + 2 ∨ r.2.2 = true))
def goL (w : List UInt8) (r : Ru) (i : Nat) : Bool := decide (0 < scL w (w.getD i 0) r.1 i ∧ w.getD (scL w (w.getD i 0) r.1 i - 1) 0 = 46 ∧ (i ≤ scL w (w.getD i 0) r.1 i + 1 ∨ r.2.2 = true))
def lsL (w : List UInt8) (r : Ru) (i : Nat) : List (Int × Int) := if okDir (w.getD i 0) r false && goL w r i then [((i : Int), ((scL w (w.getD i 0) r.1 i : Nat) : Int) - 1)] else []
def lsR (w : List UInt8) (r : Ru) (i : Nat) : List (Int × Int) := if okDir (w.getD i 0) r true && goR w r i then [((i : Int), ((scR w (w.getD i 0) r.1 w.length (i + 1) : Nat) : Int))] else []
theorem nat_ext : ∀ {l l' : List Nat}, l.Pairwise (· < ·) → l'.Pairwise (· < ·) → (∀ x, x ∈ l ↔ x ∈ l') → l = l'
  | [], [], _, _, _ => rfl
  | [], b :: t, _, _, h => by have := (h b).2 (by simp); simp at this
  | a :: s, [], _, _, h => by have := (h a).1 (by simp); simp at this
  | a :: s, b :: t, h1, h2, h => by
    rw [List.pairwise_cons] at h1 h2
    obtain rfl : a = b := by
      have ha := (h a).1 (by simp)
      have hb := (h b).2 (by simp)
      rw [List.mem_cons] at ha hb
      rcases ha with rfl | ha
      · rfl
      · rcases hb with rfl | hb
        · rfl
        · have := h1.1 _ hb; have := h2.1 _ ha; omega
    congr 1
    refine nat_ext h1.2 h2.2 fun x => ?_
    have hx := h x
    rw [List.mem_cons, List.mem_cons] at hx
    constructor
    · intro hm
      rcases hx.1 (.inr hm) with rfl | h3
      · have := h1.1 _ hm; omega
      · exact h3
    · intro hm
      rcases hx.2 (.inr hm) with rfl | h3
      · have := h2.1 _ hm; omega
      · exact h3
theorem mvRi_eq {w : List UInt8} {r : Ru} {i : Nat} (hi : i < w.length) (hb : isAn (w.getD i 0)) : mvRi w r i = lsL w r i ++ lsR w r i := by
  have hL : lsL w r i = (if okDir (w.getD i 0) r false && goL w r i then [scL w (w.getD i 0) r.1 i - 1] else []).map fun t : Nat => ((i : Int), (t : Int)) := by
    unfold lsL
    split
    · rename_i h
      rw [Bool.and_eq_true] at h
      have := (of_decide_eq_true h.2).1
      simp only [List.map_cons, List.map_nil, List.cons.injEq, Prod.mk.injEq, and_true, true_and]
      omega
    · rfl
  have hR : lsR w r i = (if okDir (w.getD i 0) r true && goR w r i then [scR w (w.getD i 0) r.1 w.length (i + 1)] else []).map fun t : Nat => ((i : Int), (t : Int)) := by
    unfold lsR
    split <;> rfl
  rw [hL, hR, ← List.map_append]
  unfold mvRi
  congr 1
  obtain ⟨s1, s2, s3⟩ := scR_ok w (w.getD i 0) r.1 w.length (i + 1) (by omega)
  obtain ⟨u1, u2, u3⟩ := scL_ok w (w.getD i 0) r.1 i
  have hrs : (List.range w.length).Pairwise (· < ·) := by rw [List.range_eq_range']; exact List.pairwise_lt_range' (s := 0) (n := w.length) (step := 1)
  refine nat_ext (List.Pairwise.filter _ hrs) ?_ ?_
  · split <;> split
    · rename_i h _
      rw [Bool.and_eq_true] at h
      have := (of_decide_eq_true h.2).1
      rw [List.singleton_append, List.pairwise_cons]
      refine ⟨fun x hx => ?_, by simp⟩
      rw [List.mem_singleton] at hx
      omega
    · simp
    · simp
    · simp
  · intro x
    rw [List.mem_filter, List.mem_range, decide_eq_true_eq, List.mem_append]
    constructor
    · rintro ⟨hx, h⟩
      rcases Nat.lt_trichotomy x i with hxi | hxi | hxi
      · left
        obtain ⟨a1, a2, a3, a4⟩ := (rc_left hi hb hxi).1 h
        have hg : goL w r i = true := by
          unfold goL
          rw [← a1, decide_eq_true_eq]
          exact ⟨by omega, by simpa using a2, a4.imp (fun h => by omega) id⟩
        rw [if_pos (by rw [a3, hg]; rfl), List.mem_singleton]
        omega
      · subst hxi
        exact absurd h.2.2.2.1 h.2.2.1
      · right
        obtain ⟨a1, a2, a3, a4, a5⟩ := (rc_right hi hb hxi).1 h
        have hg : goR w r i = true := by
          unfold goR
          rw [← a1, decide_eq_true_eq]
          exact ⟨a2, a3, a5⟩
        rw [if_pos (by rw [a4, hg]; rfl), List.mem_singleton]
        exact a1
    · rintro (h | h)
      · split at h
        · rename_i hc
          rw [Bool.and_eq_true] at hc
          obtain ⟨g1, g2, g3⟩ := of_decide_eq_true hc.2
          rw [List.mem_singleton] at h
          subst h
          refine ⟨by omega, (rc_left hi hb (by omega)).2 ⟨by omega, g2, hc.1, g3.imp (fun h => by omega) id⟩⟩
        · simp at h
      · split at h
        · rename_i hc
          rw [Bool.and_eq_true] at hc
          obtain ⟨g1, g2, g3⟩ := of_decide_eq_true hc.2
          rw [List.mem_singleton] at h
          subst h
          exact ⟨g1, (rc_right hi hb (by omega)).2 ⟨rfl, g1, g2, hc.1, g3⟩⟩
        · simp at h
theorem mvRi_no {w : List UInt8} {r : Ru} {i : Nat} (h : w.getD i 0 = 46) : mvRi w r i = [] := by
  rw [List.eq_nil_iff_forall_not_mem]
  intro m hm
  obtain ⟨t, rfl, h2⟩ := mem_mvRi.1 hm
  exact h2.2.2.1 h
theorem mvR_sorted (w : List UInt8) (r : Ru) : (mvR w r).Pairwise fun a b => a.1 < b.1 ∨ a.1 = b.1 ∧ a.2 < b.2 := by
  unfold mvR
  rw [List.pairwise_flatMap]
  refine ⟨fun i _ => ?_, ?_⟩
  · unfold mvRi
    rw [List.pairwise_map]
    refine List.Pairwise.filter _ ?_
    have : (List.range w.length).Pairwise (· < ·) := by rw [List.range_eq_range']; exact List.pairwise_lt_range' (s := 0) (n := w.length) (step := 1)
    exact this.imp fun h => .inr ⟨rfl, by omega⟩
  · have : (List.range w.length).Pairwise (· < ·) := by rw [List.range_eq_range']; exact List.pairwise_lt_range' (s := 0) (n := w.length) (step := 1)
    refine this.imp fun {a b} h x hx y hy => ?_
    obtain ⟨t, rfl, _⟩ := mem_mvRi.1 hx
    obtain ⟨u, rfl, _⟩ := mem_mvRi.1 hy
    left
    simp only
    omega
end Go.Proofs.YtejhhdpfndiliaaDoor.Ab

/- RULES: moves by rules, the program's. -/
namespace Go.Proofs.YtejhhdpfndiliaaDoor.Ab
open Go
set_option maxRecDepth 100000
set_option maxHeartbeats 4000000

abbrev encR (r : Ru) : List AV := [.bool r.1, .bool r.2.1, .bool r.2.2]
theorem e_isReachG (s : List UInt8) (hs : s.length < 2 ^ 60) {h : AH} {post : AV → AH → Prop} : S 56 [.str s] h post k = post (.bool (plG10 s)) h := S_eq fun _ hp => by
  refine S_of rfl T56 ?_; unfold fi56
  simp (maxSteps := 1000000) (disch := first | omega | rfl | (simp only [zL, two63, room] <;> omega) | fail) only [↓reduceIte, ↓zP, zW, WOp, evOp, evBin, binI, binSh, binS, evNil, keyIs, keyEq, mkv, AV.cells, AV.sc, optv, bnd, env, put, Env.get, Env.set, Env.del, Env.dels, Env.init, res1, resL, resV, fillP, splice, newRow, Nat.reduceEqDiff, Nat.reduceLT, Nat.reduceLeDiff, Nat.reduceAdd, Nat.reduceMul, Nat.reduceSub, Nat.reduceBEq, reduceCtorEq, ↓zR, zQ, Tr, StA, StT]
  refine c_isLineOf s 10 (by omega) hs ?_
  simp (maxSteps := 1000000) (disch := first | omega | rfl | (simp only [zL, two63, room] <;> omega) | fail) only [↓reduceIte, ↓zP, zW, WOp, evOp, evBin, binI, binSh, binS, evNil, keyIs, keyEq, mkv, AV.cells, AV.sc, optv, bnd, env, put, Env.get, Env.set, Env.del, Env.dels, Env.init, res1, resL, resV, fillP, splice, newRow, Nat.reduceEqDiff, Nat.reduceLT, Nat.reduceLeDiff, Nat.reduceAdd, Nat.reduceMul, Nat.reduceSub, Nat.reduceBEq, reduceCtorEq, ↓zR, zQ, Tr, StA, StT]
  exact hp
theorem e_reFewG (s : List UInt8) (hs : s.length < 2 ^ 60) {h : AH} {post : AV → AH → Prop} : S 58 [.str s] h post k = post (.bool (plG10 s)) h := S_eq fun _ hp => by
  rw [pl10_good] at hp
  refine S_of rfl T58 ?_; unfold fi58
  cases hg : goodLine s <;> simp only [hg, Bool.false_and, Bool.true_and] at hp
  · simp (maxSteps := 1000000) (disch := first | omega | rfl | (simp only [zL, two63, room] <;> omega) | fail) only [↓reduceIte, ↓zP, zW, WOp, evOp, evBin, binI, binSh, binS, evNil, keyIs, keyEq, mkv, AV.cells, AV.sc, optv, bnd, env, put, Env.get, Env.set, Env.del, Env.dels, Env.init, res1, resL, resV, fillP, splice, newRow, Nat.reduceEqDiff, Nat.reduceLT, Nat.reduceLeDiff, Nat.reduceAdd, Nat.reduceMul, Nat.reduceSub, Nat.reduceBEq, reduceCtorEq, ↓zR, zQ, Tr, StA, StT, e_liGoodG s hs, hg]
    exact hp
  · have he : decide ((s.length : Int) ≤ 10) = decide (s.length ≤ 10) := decide_eq_decide.2 (by omega)
    by_cases hl : s.length ≤ 10
    · have n1 : (s.length : Int) ≤ 10 := by omega
      simp only [hl, decide_true] at hp
      simp (maxSteps := 1000000) (disch := first | omega | rfl | (simp only [zL, two63, room] <;> omega) | fail) only [↓reduceIte, ↓zP, zW, WOp, evOp, evBin, binI, binSh, binS, evNil, keyIs, keyEq, mkv, AV.cells, AV.sc, optv, bnd, env, put, Env.get, Env.set, Env.del, Env.dels, Env.init, res1, resL, resV, fillP, splice, newRow, Nat.reduceEqDiff, Nat.reduceLT, Nat.reduceLeDiff, Nat.reduceAdd, Nat.reduceMul, Nat.reduceSub, Nat.reduceBEq, reduceCtorEq, ↓zR, zQ, Tr, StA, StT, e_liGoodG s hs, hg, n1]
      exact hp
    · have n1 : ¬ ((s.length : Int) ≤ 10) := by omega
      simp only [hl, decide_false] at hp
      simp (maxSteps := 1000000) (disch := first | omega | rfl | (simp only [zL, two63, room] <;> omega) | fail) only [↓reduceIte, ↓zP, zW, WOp, evOp, evBin, binI, binSh, binS, evNil, keyIs, keyEq, mkv, AV.cells, AV.sc, optv, bnd, env, put, Env.get, Env.set, Env.del, Env.dels, Env.init, res1, resL, resV, fillP, splice, newRow, Nat.reduceEqDiff, Nat.reduceLT, Nat.reduceLeDiff, Nat.reduceAdd, Nat.reduceMul, Nat.reduceSub, Nat.reduceBEq, reduceCtorEq, ↓zR, zQ, Tr, StA, StT, e_liGoodG s hs, hg, n1]
      exact hp
theorem e_at (w : List UInt8) (i : Int) {h : AH} {post : AV → AH → Prop} : S 125 [.str w, .int .i64 i] h post k = post (by8 (atB w i)) h := S_eq fun _ hp => c_at w i hp
theorem e_other (b : UInt8) {h : AH} {post : AV → AH → Prop} : S 109 [by8 b] h post k = post (by8 (otherB b)) h := S_eq fun _ hp => c_other b hp
theorem e_stepOf (b : UInt8) {h : AH} {post : AV → AH → Prop} : S 103 [by8 b] h post k = post (.int .i64 (stepB b)) h := S_eq fun _ hp => c_stepOf b hp
theorem atB_out {w : List UInt8} {i : Int} (h : ¬ (0 ≤ i ∧ i < w.length)) : atB w i = 0 := by unfold atB; rw [if_neg h]
theorem an_zero {b : UInt8} (hb : isAn b) : ((0 : UInt8) == otherB b) = false ∧ ((0 : UInt8) == b) = false := by
  rcases hb with rfl | rfl <;> exact ⟨rfl, rfl⟩
theorem row3 {h : AH} {c : Nat} {x y z : AV} (hr : h[c]? = some (.row [x, y, z] 0 0 false)) : rdRow h c 0 0 1 = some [x] ∧ rdRow h c 0 1 1 = some [y] ∧ rdRow h c 0 2 1 = some [z] ∧ rdRow h c 0 0 3 = some [x, y, z] := by
  refine ⟨by simp [rdRow, hr], by simp [rdRow, hr], by simp [rdRow, hr], by simp [rdRow, hr]⟩
/-- One turn of the search. -/
theorem lp_go1 {w : List UInt8} {i : Nat} (hi : i < w.length) (r : Ru) {c7 : Nat} {h : AH} (h7 : h[c7]? = some (.row (encR r) 0 0 false)) (d to : Int) (hd : IntKind.i64.wrap (to + d) = to + d) {R : X → Env → AH → Prop}
    (h1 : (atB w to == otherB (w.getD i 0) || (r.1 && atB w to == w.getD i 0)) = true → Cx (.loop lp102_0) [(0, .str w), (1, .int .i64 i), (2, .int .i64 d), (7, .ptr c7 0 0 3), (10, .int .i64 (to + d))] h R k k)
    (h2 : (atB w to == otherB (w.getD i 0) || (r.1 && atB w to == w.getD i 0)) = false → R (.exit 0) [(0, .str w), (1, .int .i64 i), (2, .int .i64 d), (7, .ptr c7 0 0 3), (10, .int .i64 to)] h) :
    Cx (.loop lp102_0) [(0, .str w), (1, .int .i64 i), (2, .int .i64 d), (7, .ptr c7 0 0 3), (10, .int .i64 to)] h R k k := by
  obtain ⟨q0, q1, q2, q3⟩ := row3 h7
  have hil : (i : Int) < (w.length : Int) := by omega
  rw [w_loopb (c := lp102_0) (d := lb102_0) rfl]; unfold lb102_0
  cases e1 : (atB w to == otherB (w.getD i 0))
  · cases e2 : r.1
    · rw [e2] at q0
      simp (maxSteps := 1000000) (disch := first | omega | rfl | (simp only [zL, two63, room] <;> omega) | fail) only [↓reduceIte, ↓zP, zW, WOp, evOp, evBin, binI, binSh, binS, evNil, keyIs, keyEq, mkv, AV.cells, AV.sc, optv, bnd, env, put, Env.get, Env.set, Env.del, Env.dels, Env.init, res1, resL, resV, fillP, splice, newRow, Nat.reduceEqDiff, Nat.reduceLT, Nat.reduceLeDiff, Nat.reduceAdd, Nat.reduceMul, Nat.reduceSub, Nat.reduceBEq, reduceCtorEq, ↓zR, zQ, Tr, StA, StT, e_at, e_other, q0, hil, e1]
      exact h2 (by rw [e1, e2]; rfl)
    · rw [e2] at q0
      cases e3 : (atB w to == w.getD i 0)
      · simp (maxSteps := 1000000) (disch := first | omega | rfl | (simp only [zL, two63, room] <;> omega) | fail) only [↓reduceIte, ↓zP, zW, WOp, evOp, evBin, binI, binSh, binS, evNil, keyIs, keyEq, mkv, AV.cells, AV.sc, optv, bnd, env, put, Env.get, Env.set, Env.del, Env.dels, Env.init, res1, resL, resV, fillP, splice, newRow, Nat.reduceEqDiff, Nat.reduceLT, Nat.reduceLeDiff, Nat.reduceAdd, Nat.reduceMul, Nat.reduceSub, Nat.reduceBEq, reduceCtorEq, ↓zR, zQ, Tr, StA, StT, e_at, e_other, q0, hil, e1, e3]
        exact h2 (by rw [e1, e2, e3]; rfl)
      · simp (maxSteps := 1000000) (disch := first | omega | rfl | (simp only [zL, two63, room] <;> omega) | fail) only [↓reduceIte, ↓zP, zW, WOp, evOp, evBin, binI, binSh, binS, evNil, keyIs, keyEq, mkv, AV.cells, AV.sc, optv, bnd, env, put, Env.get, Env.set, Env.del, Env.dels, Env.init, res1, resL, resV, fillP, splice, newRow, Nat.reduceEqDiff, Nat.reduceLT, Nat.reduceLeDiff, Nat.reduceAdd, Nat.reduceMul, Nat.reduceSub, Nat.reduceBEq, reduceCtorEq, ↓zR, zQ, Tr, StA, StT, e_at, e_other, q0, hil, e1, e3, hd]
        rw [w_loopn (c := lp102_0) rfl]
        simp (maxSteps := 1000000) (disch := first | omega | rfl | (simp only [zL, two63, room] <;> omega) | fail) only [↓reduceIte, ↓zP, zW, WOp, evOp, evBin, binI, binSh, binS, evNil, keyIs, keyEq, mkv, AV.cells, AV.sc, optv, bnd, env, put, Env.get, Env.set, Env.del, Env.dels, Env.init, res1, resL, resV, fillP, splice, newRow, Nat.reduceEqDiff, Nat.reduceLT, Nat.reduceLeDiff, Nat.reduceAdd, Nat.reduceMul, Nat.reduceSub, Nat.reduceBEq, reduceCtorEq, ↓zR, zQ, Tr, StA, StT]
        exact h1 (by rw [e1, e2, e3]; rfl)
  · simp (maxSteps := 1000000) (disch := first | omega | rfl | (simp only [zL, two63, room] <;> omega) | fail) only [↓reduceIte, ↓zP, zW, WOp, evOp, evBin, binI, binSh, binS, evNil, keyIs, keyEq, mkv, AV.cells, AV.sc, optv, bnd, env, put, Env.get, Env.set, Env.del, Env.dels, Env.init, res1, resL, resV, fillP, splice, newRow, Nat.reduceEqDiff, Nat.reduceLT, Nat.reduceLeDiff, Nat.reduceAdd, Nat.reduceMul, Nat.reduceSub, Nat.reduceBEq, reduceCtorEq, ↓zR, zQ, Tr, StA, StT, e_at, e_other, q0, hil, e1, hd]
    rw [w_loopn (c := lp102_0) rfl]
    simp (maxSteps := 1000000) (disch := first | omega | rfl | (simp only [zL, two63, room] <;> omega) | fail) only [↓reduceIte, ↓zP, zW, WOp, evOp, evBin, binI, binSh, binS, evNil, keyIs, keyEq, mkv, AV.cells, AV.sc, optv, bnd, env, put, Env.get, Env.set, Env.del, Env.dels, Env.init, res1, resL, resV, fillP, splice, newRow, Nat.reduceEqDiff, Nat.reduceLT, Nat.reduceLeDiff, Nat.reduceAdd, Nat.reduceMul, Nat.reduceSub, Nat.reduceBEq, reduceCtorEq, ↓zR, zQ, Tr, StA, StT]
    exact h1 (by rw [e1]; rfl)
theorem lp_goR {w : List UInt8} {i : Nat} (hi : i < w.length) (hw : w.length < 2 ^ 30) (hb : isAn (w.getD i 0)) (r : Ru) {c7 : Nat} {h : AH} (h7 : h[c7]? = some (.row (encR r) 0 0 false)) {R : X → Env → AH → Prop} : ∀ (f p : Nat), w.length ≤ f + p → p ≤ w.length →
    R (.exit 0) [(0, .str w), (1, .int .i64 i), (2, .int .i64 1), (7, .ptr c7 0 0 3), (10, .int .i64 (scR w (w.getD i 0) r.1 f p))] h →
    Cx (.loop lp102_0) [(0, .str w), (1, .int .i64 i), (2, .int .i64 1), (7, .ptr c7 0 0 3), (10, .int .i64 p)] h R k k
  | 0, p, hf, hp, hR => by
    have h0 := atB_out (w := w) (i := (p : Int)) (by omega)
    obtain ⟨z1, z2⟩ := an_zero hb
    refine lp_go1 hi r h7 1 p (wrap_i (by omega)) (fun h => ?_) (fun _ => hR)
    rw [h0, z1, z2] at h
    simp at h
  | f + 1, p, hf, hp, hR => by
    refine lp_go1 hi r h7 1 p (wrap_i (by omega)) (fun h1 => ?_) (fun h1 => ?_)
    · have hpl : p < w.length := by
        by_cases hh : p < w.length
        · exact hh
        · rw [atB_out (by omega), (an_zero hb).1, (an_zero hb).2] at h1
          simp at h1
      rw [atB_in hpl] at h1
      have e : scR w (w.getD i 0) r.1 (f + 1) p = scR w (w.getD i 0) r.1 f (p + 1) := by simp only [scR]; rw [if_pos ⟨hpl, show passB (w.getD i 0) (w.getD p 0) r.1 = true from h1⟩]
      rw [e] at hR
      exact lp_goR hi hw hb r h7 f (p + 1) (by omega) (by omega) hR
    · have e : scR w (w.getD i 0) r.1 (f + 1) p = p := by
        simp only [scR]
        rw [if_neg]
        rintro ⟨h2, h3⟩
        rw [atB_in h2] at h1
        unfold passB at h3
        rw [h3] at h1
        cases h1
      rw [e] at hR
      exact hR
theorem lp_goL {w : List UInt8} {i : Nat} (hi : i < w.length) (hw : w.length < 2 ^ 30) (hb : isAn (w.getD i 0)) (r : Ru) {c7 : Nat} {h : AH} (h7 : h[c7]? = some (.row (encR r) 0 0 false)) {R : X → Env → AH → Prop} : ∀ (p : Nat), p ≤ w.length →
    R (.exit 0) [(0, .str w), (1, .int .i64 i), (2, .int .i64 (-1)), (7, .ptr c7 0 0 3), (10, .int .i64 ((scL w (w.getD i 0) r.1 p : Nat) - 1))] h →
    Cx (.loop lp102_0) [(0, .str w), (1, .int .i64 i), (2, .int .i64 (-1)), (7, .ptr c7 0 0 3), (10, .int .i64 ((p : Int) - 1))] h R k k
  | 0, hp, hR => by
    have h0 := atB_out (w := w) (i := ((0 : Nat) : Int) - 1) (by omega)
    obtain ⟨z1, z2⟩ := an_zero hb
    refine lp_go1 hi r h7 (-1) _ (wrap_i (by omega)) (fun h => ?_) (fun _ => hR)
    rw [h0, z1, z2] at h
    simp at h
  | p + 1, hp, hR => by
    have e0 : ((p + 1 : Nat) : Int) - 1 = (p : Int) := by omega
    rw [e0]
    refine lp_go1 hi r h7 (-1) p (wrap_i (by omega)) (fun h1 => ?_) (fun h1 => ?_)
    · rw [atB_in (by omega)] at h1
      have e : scL w (w.getD i 0) r.1 (p + 1) = scL w (w.getD i 0) r.1 p := by simp only [scL]; rw [if_pos (show passB (w.getD i 0) (w.getD p 0) r.1 = true from h1)]
      rw [e] at hR
      have := lp_goL hi hw hb r h7 p (by omega) hR
      rwa [show (p : Int) - 1 = (p : Int) + -1 by omega] at this
    · rw [atB_in (by omega)] at h1
      have e : scL w (w.getD i 0) r.1 (p + 1) = p + 1 := by
        simp only [scL]
        rw [if_neg]
        intro h3
        unfold passB at h3
        rw [h3] at h1
        cases h1
      rw [e, e0] at hR
      exact hR
theorem c_goalByR {w : List UInt8} {i : Nat} (hi : i < w.length) (hw : w.length < 2 ^ 30) (hb : isAn (w.getD i 0)) (r : Ru) {h : AH} {post : AV → AH → Prop} (hp : ∀ h', Pre h h' → post (.tup [.int .i64 (scR w (w.getD i 0) r.1 w.length (i + 1)), .bool (goR w r i)]) h') : S 102 [.str w, .int .i64 i, .int .i64 1, .agg (encR r)] h post k := by
  have p1 := Pre.push h (AO.row (encR r) 0 0 false)
  have h7 : (h ++ [AO.row (encR r) 0 0 false])[h.length]? = some (.row (encR r) 0 0 false) := by simp
  obtain ⟨q0, q1, q2, q3⟩ := row3 h7
  have w1 : IntKind.i64.wrap ((i : Int) + 1) = ((i + 1 : Nat) : Int) := by rw [IntKind.wrap_i64]; omega
  obtain ⟨s1, s2, s3⟩ := scR_ok w (w.getD i 0) r.1 w.length (i + 1) (by omega)
  have sN : scR w (w.getD i 0) r.1 w.length (i + 1) ≤ w.length := by
    by_cases hh : scR w (w.getD i 0) r.1 w.length (i + 1) ≤ w.length
    · exact hh
    · have := (s2 w.length (by omega) (by omega)).1; omega
  refine S_of rfl T102 ?_; unfold fi102
  simp (maxSteps := 1000000) (disch := first | omega | rfl | (simp only [zL, two63, room] <;> omega) | fail) only [↓reduceIte, ↓zP, zW, WOp, evOp, evBin, binI, binSh, binS, evNil, keyIs, keyEq, mkv, AV.cells, AV.sc, optv, bnd, env, put, Env.get, Env.set, Env.del, Env.dels, Env.init, res1, resL, resV, fillP, splice, newRow, Nat.reduceEqDiff, Nat.reduceLT, Nat.reduceLeDiff, Nat.reduceAdd, Nat.reduceMul, Nat.reduceSub, Nat.reduceBEq, reduceCtorEq, ↓zR, zQ, Tr, StA, StT, w1]
  refine lp_goR hi hw hb r h7 w.length (i + 1) (by omega) (by omega) ?_
  have hq := hp _ p1
  unfold goR at hq
  generalize scR w (w.getD i 0) r.1 w.length (i + 1) = q at *
  have w2 : IntKind.i64.wrap ((q : Int) - i) = (q : Int) - i := wrap_i (by omega)
  have w3 : IntKind.i64.wrap (((q : Int) - i) * 1) = (q : Int) - i := by rw [Int.mul_one]; exact wrap_i (by omega)
  have w4 : IntKind.i64.wrap ((q : Int) - i - 1) = (q : Int) - i - 1 := wrap_i (by omega)
  simp (maxSteps := 1000000) (disch := first | omega | rfl | (simp only [zL, two63, room] <;> omega) | fail) only [↓reduceIte, ↓zP, zW, WOp, evOp, evBin, binI, binSh, binS, evNil, keyIs, keyEq, mkv, AV.cells, AV.sc, optv, bnd, env, put, Env.get, Env.set, Env.del, Env.dels, Env.init, res1, resL, resV, fillP, splice, newRow, Nat.reduceEqDiff, Nat.reduceLT, Nat.reduceLeDiff, Nat.reduceAdd, Nat.reduceMul, Nat.reduceSub, Nat.reduceBEq, reduceCtorEq, ↓zR, zQ, Tr, StA, StT, w2, w3, w4]
  try refine w_drw ?_
  by_cases hqn : q < w.length
  · have ha := atB_in hqn
    cases e1 : (w.getD q 0 == 46)
    · rw [decide_eq_false (by rintro ⟨_, h2, _⟩; rw [h2] at e1; cases e1)] at hq
      simp (maxSteps := 1000000) (disch := first | omega | rfl | (simp only [zL, two63, room] <;> omega) | fail) only [↓reduceIte, ↓zP, zW, WOp, evOp, evBin, binI, binSh, binS, evNil, keyIs, keyEq, mkv, AV.cells, AV.sc, optv, bnd, env, put, Env.get, Env.set, Env.del, Env.dels, Env.init, res1, resL, resV, fillP, splice, newRow, Nat.reduceEqDiff, Nat.reduceLT, Nat.reduceLeDiff, Nat.reduceAdd, Nat.reduceMul, Nat.reduceSub, Nat.reduceBEq, reduceCtorEq, ↓zR, zQ, Tr, StA, StT, e_at, ha, e1, q2, w2, w3, w4]
      exact hq
    · have e1' : w.getD q 0 = 46 := by simpa using e1
      by_cases h2 : q ≤ i + 2
      · have n1 : (q : Int) - i - 1 ≤ 1 := by omega
        rw [decide_eq_true ⟨hqn, e1', .inl h2⟩] at hq
        simp (maxSteps := 1000000) (disch := first | omega | rfl | (simp only [zL, two63, room] <;> omega) | fail) only [↓reduceIte, ↓zP, zW, WOp, evOp, evBin, binI, binSh, binS, evNil, keyIs, keyEq, mkv, AV.cells, AV.sc, optv, bnd, env, put, Env.get, Env.set, Env.del, Env.dels, Env.init, res1, resL, resV, fillP, splice, newRow, Nat.reduceEqDiff, Nat.reduceLT, Nat.reduceLeDiff, Nat.reduceAdd, Nat.reduceMul, Nat.reduceSub, Nat.reduceBEq, reduceCtorEq, ↓zR, zQ, Tr, StA, StT, e_at, ha, e1, q2, n1, w2, w3, w4]
        exact hq
      · have n1 : ¬ ((q : Int) - i - 1 ≤ 1) := by omega
        have e3 : decide (q < w.length ∧ w.getD q 0 = 46 ∧ (q ≤ i + 2 ∨ r.2.2 = true)) = r.2.2 := by
          cases e4 : r.2.2
          · exact decide_eq_false (by rintro ⟨_, _, h3 | h3⟩; exact h2 h3; cases h3)
          · exact decide_eq_true ⟨hqn, e1', .inr rfl⟩
        rw [e3] at hq
        simp (maxSteps := 1000000) (disch := first | omega | rfl | (simp only [zL, two63, room] <;> omega) | fail) only [↓reduceIte, ↓zP, zW, WOp, evOp, evBin, binI, binSh, binS, evNil, keyIs, keyEq, mkv, AV.cells, AV.sc, optv, bnd, env, put, Env.get, Env.set, Env.del, Env.dels, Env.init, res1, resL, resV, fillP, splice, newRow, Nat.reduceEqDiff, Nat.reduceLT, Nat.reduceLeDiff, Nat.reduceAdd, Nat.reduceMul, Nat.reduceSub, Nat.reduceBEq, reduceCtorEq, ↓zR, zQ, Tr, StA, StT, e_at, ha, e1, q2, n1, w2, w3, w4]
        exact hq
  · have ha := atB_out (w := w) (i := (q : Int)) (by omega)
    have e1 : ((0 : UInt8) == 46) = false := rfl
    rw [decide_eq_false (by rintro ⟨h2, _⟩; exact hqn h2)] at hq
    simp (maxSteps := 1000000) (disch := first | omega | rfl | (simp only [zL, two63, room] <;> omega) | fail) only [↓reduceIte, ↓zP, zW, WOp, evOp, evBin, binI, binSh, binS, evNil, keyIs, keyEq, mkv, AV.cells, AV.sc, optv, bnd, env, put, Env.get, Env.set, Env.del, Env.dels, Env.init, res1, resL, resV, fillP, splice, newRow, Nat.reduceEqDiff, Nat.reduceLT, Nat.reduceLeDiff, Nat.reduceAdd, Nat.reduceMul, Nat.reduceSub, Nat.reduceBEq, reduceCtorEq, ↓zR, zQ, Tr, StA, StT, e_at, ha, e1, q2, w2, w3, w4]
    exact hq
theorem c_goalByL {w : List UInt8} {i : Nat} (hi : i < w.length) (hw : w.length < 2 ^ 30) (hb : isAn (w.getD i 0)) (r : Ru) {h : AH} {post : AV → AH → Prop} (hp : ∀ h', Pre h h' → post (.tup [.int .i64 ((scL w (w.getD i 0) r.1 i : Nat) - 1), .bool (goL w r i)]) h') : S 102 [.str w, .int .i64 i, .int .i64 (-1), .agg (encR r)] h post k := by
  have p1 := Pre.push h (AO.row (encR r) 0 0 false)
  have h7 : (h ++ [AO.row (encR r) 0 0 false])[h.length]? = some (.row (encR r) 0 0 false) := by simp
  obtain ⟨q0, q1, q2, q3⟩ := row3 h7
  have w1 : IntKind.i64.wrap ((i : Int) + -1) = (i : Int) - 1 := by rw [IntKind.wrap_i64]; omega
  obtain ⟨s1, s2, s3⟩ := scL_ok w (w.getD i 0) r.1 i
  refine S_of rfl T102 ?_; unfold fi102
  simp (maxSteps := 1000000) (disch := first | omega | rfl | (simp only [zL, two63, room] <;> omega) | fail) only [↓reduceIte, ↓zP, zW, WOp, evOp, evBin, binI, binSh, binS, evNil, keyIs, keyEq, mkv, AV.cells, AV.sc, optv, bnd, env, put, Env.get, Env.set, Env.del, Env.dels, Env.init, res1, resL, resV, fillP, splice, newRow, Nat.reduceEqDiff, Nat.reduceLT, Nat.reduceLeDiff, Nat.reduceAdd, Nat.reduceMul, Nat.reduceSub, Nat.reduceBEq, reduceCtorEq, ↓zR, zQ, Tr, StA, StT, w1]
  refine lp_goL hi hw hb r h7 i (by omega) ?_
  have hq := hp _ p1
  unfold goL at hq
  generalize scL w (w.getD i 0) r.1 i = q at *
  have w2 : IntKind.i64.wrap ((q : Int) - 1 - i) = (q : Int) - 1 - i := wrap_i (by omega)
  have w3 : IntKind.i64.wrap (((q : Int) - 1 - i) * -1) = (i : Int) - q + 1 := by rw [show ((q : Int) - 1 - i) * -1 = (i : Int) - q + 1 by omega]; exact wrap_i (by omega)
  have w4 : IntKind.i64.wrap ((i : Int) - q + 1 - 1) = (i : Int) - q := by rw [show (i : Int) - q + 1 - 1 = (i : Int) - q by omega]; exact wrap_i (by omega)
  simp (maxSteps := 1000000) (disch := first | omega | rfl | (simp only [zL, two63, room] <;> omega) | fail) only [↓reduceIte, ↓zP, zW, WOp, evOp, evBin, binI, binSh, binS, evNil, keyIs, keyEq, mkv, AV.cells, AV.sc, optv, bnd, env, put, Env.get, Env.set, Env.del, Env.dels, Env.init, res1, resL, resV, fillP, splice, newRow, Nat.reduceEqDiff, Nat.reduceLT, Nat.reduceLeDiff, Nat.reduceAdd, Nat.reduceMul, Nat.reduceSub, Nat.reduceBEq, reduceCtorEq, ↓zR, zQ, Tr, StA, StT, w2, w3, w4]
  try refine w_drw ?_
  by_cases hqn : 0 < q
  · have ha : atB w ((q : Int) - 1) = w.getD (q - 1) 0 := by
      rw [show (q : Int) - 1 = ((q - 1 : Nat) : Int) by omega]
      exact atB_in (by omega)
    cases e1 : (w.getD (q - 1) 0 == 46)
    · rw [decide_eq_false (by rintro ⟨_, h2, _⟩; rw [h2] at e1; cases e1)] at hq
      simp (maxSteps := 1000000) (disch := first | omega | rfl | (simp only [zL, two63, room] <;> omega) | fail) only [↓reduceIte, ↓zP, zW, WOp, evOp, evBin, binI, binSh, binS, evNil, keyIs, keyEq, mkv, AV.cells, AV.sc, optv, bnd, env, put, Env.get, Env.set, Env.del, Env.dels, Env.init, res1, resL, resV, fillP, splice, newRow, Nat.reduceEqDiff, Nat.reduceLT, Nat.reduceLeDiff, Nat.reduceAdd, Nat.reduceMul, Nat.reduceSub, Nat.reduceBEq, reduceCtorEq, ↓zR, zQ, Tr, StA, StT, e_at, ha, e1, q2, w2, w3, w4]
      exact hq
    · have e1' : w.getD (q - 1) 0 = 46 := by simpa using e1
      by_cases h2 : i ≤ q + 1
      · have n1 : (i : Int) - q ≤ 1 := by omega
        rw [decide_eq_true ⟨hqn, e1', .inl h2⟩] at hq
        simp (maxSteps := 1000000) (disch := first | omega | rfl | (simp only [zL, two63, room] <;> omega) | fail) only [↓reduceIte, ↓zP, zW, WOp, evOp, evBin, binI, binSh, binS, evNil, keyIs, keyEq, mkv, AV.cells, AV.sc, optv, bnd, env, put, Env.get, Env.set, Env.del, Env.dels, Env.init, res1, resL, resV, fillP, splice, newRow, Nat.reduceEqDiff, Nat.reduceLT, Nat.reduceLeDiff, Nat.reduceAdd, Nat.reduceMul, Nat.reduceSub, Nat.reduceBEq, reduceCtorEq, ↓zR, zQ, Tr, StA, StT, e_at, ha, e1, q2, n1, w2, w3, w4]
        exact hq
      · have n1 : ¬ ((i : Int) - q ≤ 1) := by omega
        have e3 : decide (0 < q ∧ w.getD (q - 1) 0 = 46 ∧ (i ≤ q + 1 ∨ r.2.2 = true)) = r.2.2 := by
          cases e4 : r.2.2
          · exact decide_eq_false (by rintro ⟨_, _, h3 | h3⟩; exact h2 h3; cases h3)
          · exact decide_eq_true ⟨hqn, e1', .inr rfl⟩
        rw [e3] at hq
        simp (maxSteps := 1000000) (disch := first | omega | rfl | (simp only [zL, two63, room] <;> omega) | fail) only [↓reduceIte, ↓zP, zW, WOp, evOp, evBin, binI, binSh, binS, evNil, keyIs, keyEq, mkv, AV.cells, AV.sc, optv, bnd, env, put, Env.get, Env.set, Env.del, Env.dels, Env.init, res1, resL, resV, fillP, splice, newRow, Nat.reduceEqDiff, Nat.reduceLT, Nat.reduceLeDiff, Nat.reduceAdd, Nat.reduceMul, Nat.reduceSub, Nat.reduceBEq, reduceCtorEq, ↓zR, zQ, Tr, StA, StT, e_at, ha, e1, q2, n1, w2, w3, w4]
        exact hq
  · have ha := atB_out (w := w) (i := (q : Int) - 1) (by omega)
    have e1 : ((0 : UInt8) == 46) = false := rfl
    rw [decide_eq_false (by rintro ⟨h2, _⟩; exact hqn h2)] at hq
    simp (maxSteps := 1000000) (disch := first | omega | rfl | (simp only [zL, two63, room] <;> omega) | fail) only [↓reduceIte, ↓zP, zW, WOp, evOp, evBin, binI, binSh, binS, evNil, keyIs, keyEq, mkv, AV.cells, AV.sc, optv, bnd, env, put, Env.get, Env.set, Env.del, Env.dels, Env.init, res1, resL, resV, fillP, splice, newRow, Nat.reduceEqDiff, Nat.reduceLT, Nat.reduceLeDiff, Nat.reduceAdd, Nat.reduceMul, Nat.reduceSub, Nat.reduceBEq, reduceCtorEq, ↓zR, zQ, Tr, StA, StT, e_at, ha, e1, q2, w2, w3, w4]
    exact hq
end Go.Proofs.YtejhhdpfndiliaaDoor.Ab

/- RULES: the program's list of moves, what can be made, what is made. -/
namespace Go.Proofs.YtejhhdpfndiliaaDoor.Ab
open Go
set_option maxRecDepth 100000
set_option maxHeartbeats 4000000

def lsD (w : List UInt8) (r : Ru) (i : Nat) (right : Bool) : List (Int × Int) := if right then lsR w r i else lsL w r i
def dirI (right : Bool) : Int := if right then 1 else -1
theorem lsD_len (w : List UInt8) (r : Ru) (i : Nat) (right : Bool) : (lsD w r i right).length ≤ 1 := by
  unfold lsD lsR lsL
  cases right <;> simp only [if_true, if_false, Bool.false_eq_true] <;> split <;> simp
def lsI (w : List UInt8) (r : Ru) (i : Nat) (right : Bool) : List (Int × Int) := if w.getD i 0 = 46 then [] else lsD w r i right
theorem sign3' {b : UInt8} (h : isSign b = true) : b = 84 ∨ b = 46 ∨ b = 70 := by
  unfold isSign at h
  simp only [Bool.or_eq_true, beq_iff_eq] at h
  rcases h with (h | h) | h <;> simp [h]
theorem mb_turn {w : List UInt8} (hw : w.length < 2 ^ 30) {i : Nat} (hi : i < w.length) (hsg : isSign (w.getD i 0) = true) (r : Ru) (right : Bool) (j : Nat) (hj : j < 2) {p3 q : Nat} {B h : AH} (hpB : p3 < B.length) (hp3 : h[p3]? = some (.row (encR r) 0 0 false)) (hq : h[q]? = some (.row [.int .i64 (-1), .int .i64 1] 0 0 false)) (hqj : rdRow h q 0 (j * 1) 1 = some [.int .i64 (dirI right)])
    (L I : AV) {v : AV} {out : List (Int × Int)} (ho : OwL 2 encM B h v out) (hb : B.length ≤ h.length) (hqv : rowOf v ≠ some q) (hlen : out.length < 2 ^ 30) {R : X → Env → AH → Prop}
    (hR : ∀ v' h', OwL 2 encM B h' v' (out ++ lsI w r i right) → Ag B.length h h' → h'[q]? = h[q]? → rowOf v' ≠ some q → Cx (.loop lp55_1) [(0, .str w), (3, .ptr p3 0 0 3), (5, v'), (6, .int .i64 i), (14, L), (15, I), (18, .slice q 0 0 2 1), (19, .int .i64 2), (20, .int .i64 ((j : Int) + 1))] h' R k k) :
    Cx (.loop lp55_1) [(0, .str w), (3, .ptr p3 0 0 3), (5, v), (6, .int .i64 i), (14, L), (15, I), (18, .slice q 0 0 2 1), (19, .int .i64 2), (20, .int .i64 j)] h R k k := by
  obtain ⟨q0, q1, q2, q3⟩ := row3 hp3
  have hil : (i : Int) < (w.length : Int) := by omega
  have hjl : (j : Int) < 2 := by omega
  have hjw : IntKind.i64.wrap ((j : Int) + 1) = (j : Int) + 1 := wrap_i (by omega)
  have hql := (List.getElem?_eq_some_iff.1 hq).1
  have skip : out ++ lsI w r i right = out → Cx (.loop lp55_1) [(0, .str w), (3, .ptr p3 0 0 3), (5, v), (6, .int .i64 i), (14, L), (15, I), (18, .slice q 0 0 2 1), (19, .int .i64 2), (20, .int .i64 ((j : Int) + 1))] h R k k := by
    intro e
    exact hR v h (by rw [e]; exact ho) (Ag.refl _ _) rfl hqv
  rw [w_loopb (c := lp55_1) (d := lb55_1) rfl]; unfold lb55_1
  rcases sign3' hsg with hb0 | hb0 | hb0
  case inr.inl =>
    have e1 : stepB (w.getD i 0) = 0 := by rw [hb0]; rfl
    simp (maxSteps := 1000000) (disch := first | omega | rfl | (simp only [zL, two63, room] <;> omega) | fail) only [↓reduceIte, ↓zP, zW, WOp, evOp, evBin, binI, binSh, binS, evNil, keyIs, keyEq, mkv, AV.cells, AV.sc, optv, bnd, env, put, Env.get, Env.set, Env.del, Env.dels, Env.init, res1, resL, resV, fillP, splice, newRow, Nat.reduceEqDiff, Nat.reduceLT, Nat.reduceLeDiff, Nat.reduceAdd, Nat.reduceMul, Nat.reduceSub, Nat.reduceBEq, reduceCtorEq, ↓zR, zQ, Tr, StA, StT, hjl, hqj, hil, e_stepOf, e1, hjw]
    rw [w_loopn (c := lp55_1) rfl]
    simp (maxSteps := 1000000) (disch := first | omega | rfl | (simp only [zL, two63, room] <;> omega) | fail) only [↓reduceIte, ↓zP, zW, WOp, evOp, evBin, binI, binSh, binS, evNil, keyIs, keyEq, mkv, AV.cells, AV.sc, optv, bnd, env, put, Env.get, Env.set, Env.del, Env.dels, Env.init, res1, resL, resV, fillP, splice, newRow, Nat.reduceEqDiff, Nat.reduceLT, Nat.reduceLeDiff, Nat.reduceAdd, Nat.reduceMul, Nat.reduceSub, Nat.reduceBEq, reduceCtorEq, ↓zR, zQ, Tr, StA, StT]
    exact skip (by unfold lsI; rw [if_pos hb0, List.append_nil])
  all_goals
    have han : isAn (w.getD i 0) := by rw [hb0]; first | exact .inl rfl | exact .inr rfl
    have hne : ¬ w.getD i 0 = 46 := by rw [hb0]; decide
    have hls : lsI w r i right = lsD w r i right := by unfold lsI; rw [if_neg hne]
    first | have e1 : stepB (w.getD i 0) = 1 := by rw [hb0]; rfl | have e1 : stepB (w.getD i 0) = -1 := by rw [hb0]; rfl
    cases hok : okDir (w.getD i 0) r right
    · have hnil : lsD w r i right = [] := by
        unfold lsD lsR lsL
        cases right
        · rw [hok]; rfl
        · rw [hok]; rfl
      unfold okDir at hok
      rw [Bool.or_eq_false_iff] at hok
      have hbk := hok.2
      have hdd := hok.1
      rw [hb0] at hdd
      rw [hbk] at q1
      cases right <;> first
        | (cases hdd; done)
        | (simp (maxSteps := 1000000) (disch := first | omega | rfl | (simp only [zL, two63, room] <;> omega) | fail) only [↓reduceIte, ↓zP, zW, WOp, evOp, evBin, binI, binSh, binS, evNil, keyIs, keyEq, mkv, AV.cells, AV.sc, optv, bnd, env, put, Env.get, Env.set, Env.del, Env.dels, Env.init, res1, resL, resV, fillP, splice, newRow, Nat.reduceEqDiff, Nat.reduceLT, Nat.reduceLeDiff, Nat.reduceAdd, Nat.reduceMul, Nat.reduceSub, Nat.reduceBEq, reduceCtorEq, ↓zR, zQ, Tr, StA, StT, hjl, hqj, hil, e_stepOf, e1, dirI, q1, hjw]
           rw [w_loopn (c := lp55_1) rfl]
           simp (maxSteps := 1000000) (disch := first | omega | rfl | (simp only [zL, two63, room] <;> omega) | fail) only [↓reduceIte, ↓zP, zW, WOp, evOp, evBin, binI, binSh, binS, evNil, keyIs, keyEq, mkv, AV.cells, AV.sc, optv, bnd, env, put, Env.get, Env.set, Env.del, Env.dels, Env.init, res1, resL, resV, fillP, splice, newRow, Nat.reduceEqDiff, Nat.reduceLT, Nat.reduceLeDiff, Nat.reduceAdd, Nat.reduceMul, Nat.reduceSub, Nat.reduceBEq, reduceCtorEq, ↓zR, zQ, Tr, StA, StT]
           exact skip (by rw [hls, hnil, List.append_nil]))
    · have hsum := hok
      unfold okDir at hsum
      rw [hb0] at hsum
      cases right
      · have hl2 : lsD w r i false = if goL w r i then [((i : Int), ((scL w (w.getD i 0) r.1 i : Nat) : Int) - 1)] else [] := by
          unfold lsD lsL
          rw [hok, Bool.true_and]; rfl
        try (have hbk : r.2.1 = true := by simpa using hsum
             rw [hbk] at q1)
        simp (maxSteps := 1000000) (disch := first | omega | rfl | (simp only [zL, two63, room] <;> omega) | fail) only [↓reduceIte, ↓zP, zW, WOp, evOp, evBin, binI, binSh, binS, evNil, keyIs, keyEq, mkv, AV.cells, AV.sc, optv, bnd, env, put, Env.get, Env.set, Env.del, Env.dels, Env.init, res1, resL, resV, fillP, splice, newRow, Nat.reduceEqDiff, Nat.reduceLT, Nat.reduceLeDiff, Nat.reduceAdd, Nat.reduceMul, Nat.reduceSub, Nat.reduceBEq, reduceCtorEq, ↓zR, zQ, Tr, StA, StT, hjl, hqj, hil, e_stepOf, e1, dirI, q1, q3, hjw]
        refine c_goalByL hi hw han r ?_
        intro h1 p1
        have hq1 := p1.2 q hql
        cases eg : goL w r i
        · rw [eg] at hl2
          simp only [Bool.false_eq_true, if_false] at hl2
          simp (maxSteps := 1000000) (disch := first | omega | rfl | (simp only [zL, two63, room] <;> omega) | fail) only [↓reduceIte, ↓zP, zW, WOp, evOp, evBin, binI, binSh, binS, evNil, keyIs, keyEq, mkv, AV.cells, AV.sc, optv, bnd, env, put, Env.get, Env.set, Env.del, Env.dels, Env.init, res1, resL, resV, fillP, splice, newRow, Nat.reduceEqDiff, Nat.reduceLT, Nat.reduceLeDiff, Nat.reduceAdd, Nat.reduceMul, Nat.reduceSub, Nat.reduceBEq, reduceCtorEq, ↓zR, zQ, Tr, StA, StT, hjw]
          rw [w_loopn (c := lp55_1) rfl]
          simp (maxSteps := 1000000) (disch := first | omega | rfl | (simp only [zL, two63, room] <;> omega) | fail) only [↓reduceIte, ↓zP, zW, WOp, evOp, evBin, binI, binSh, binS, evNil, keyIs, keyEq, mkv, AV.cells, AV.sc, optv, bnd, env, put, Env.get, Env.set, Env.del, Env.dels, Env.init, res1, resL, resV, fillP, splice, newRow, Nat.reduceEqDiff, Nat.reduceLT, Nat.reduceLeDiff, Nat.reduceAdd, Nat.reduceMul, Nat.reduceSub, Nat.reduceBEq, reduceCtorEq, ↓zR, zQ, Tr, StA, StT]
          exact hR v h1 (by rw [hls, hl2, List.append_nil]; exact ho.pre p1) (p1.ag hb) hq1 hqv
        · rw [eg] at hl2
          simp only [if_true] at hl2
          rw [hls, hl2] at hR
          generalize (((scL w (w.getD i 0) r.1 i : Nat) : Int) - 1) = toL at *
          generalize ((scR w (w.getD i 0) r.1 w.length (i + 1) : Nat) : Int) = toR at *
          obtain ⟨v', h2, ha, ho', hag⟩ := apA hlM scM ((ho.pre p1).pre (Pre.push h1 (AO.row [.int .i64 i, .int .i64 toL] 0 0 false))) (Nat.le_trans hb (Nat.le_trans p1.1 (Pre.push h1 (AO.row [.int .i64 i, .int .i64 toL] 0 0 false)).1)) ((i : Int), toL) (by omega)
          obtain ⟨f1, f2, f3⟩ := apRow_fr ha
          simp (maxSteps := 1000000) (disch := first | omega | rfl | (simp only [zL, two63, room] <;> omega) | fail) only [↓reduceIte, ↓zP, zW, WOp, evOp, evBin, binI, binSh, binS, evNil, keyIs, keyEq, mkv, AV.cells, AV.sc, optv, bnd, env, put, Env.get, Env.set, Env.del, Env.dels, Env.init, res1, resL, resV, fillP, splice, newRow, Nat.reduceEqDiff, Nat.reduceLT, Nat.reduceLeDiff, Nat.reduceAdd, Nat.reduceMul, Nat.reduceSub, Nat.reduceBEq, reduceCtorEq, ↓zR, zQ, Tr, StA, StT, ha, hjw]
          rw [w_loopn (c := lp55_1) rfl]
          simp (maxSteps := 1000000) (disch := first | omega | rfl | (simp only [zL, two63, room] <;> omega) | fail) only [↓reduceIte, ↓zP, zW, WOp, evOp, evBin, binI, binSh, binS, evNil, keyIs, keyEq, mkv, AV.cells, AV.sc, optv, bnd, env, put, Env.get, Env.set, Env.del, Env.dels, Env.init, res1, resL, resV, fillP, splice, newRow, Nat.reduceEqDiff, Nat.reduceLT, Nat.reduceLeDiff, Nat.reduceAdd, Nat.reduceMul, Nat.reduceSub, Nat.reduceBEq, reduceCtorEq, ↓zR, zQ, Tr, StA, StT]
          have hll : (h1 ++ [AO.row [.int .i64 i, .int .i64 toL] 0 0 false]).length = h1.length + 1 := by simp
          have hpl := p1.1
          refine hR v' h2 ho' ((p1.ag hb).trans (((Pre.push h1 (AO.row [.int .i64 i, .int .i64 toL] 0 0 false)).ag (Nat.le_trans hb p1.1)).trans hag)) ?_ ?_
          · rw [f1 q (by omega) hqv, (Pre.push h1 (AO.row [.int .i64 i, .int .i64 toL] 0 0 false)).2 q (by omega), hq1]
          · intro hr
            rcases f3 q hr with h4 | h4
            · exact hqv h4
            · omega
      · have hl2 : lsD w r i true = if goR w r i then [((i : Int), ((scR w (w.getD i 0) r.1 w.length (i + 1) : Nat) : Int))] else [] := by
          unfold lsD lsR
          rw [hok, Bool.true_and]; rfl
        try (have hbk : r.2.1 = true := by simpa using hsum
             rw [hbk] at q1)
        simp (maxSteps := 1000000) (disch := first | omega | rfl | (simp only [zL, two63, room] <;> omega) | fail) only [↓reduceIte, ↓zP, zW, WOp, evOp, evBin, binI, binSh, binS, evNil, keyIs, keyEq, mkv, AV.cells, AV.sc, optv, bnd, env, put, Env.get, Env.set, Env.del, Env.dels, Env.init, res1, resL, resV, fillP, splice, newRow, Nat.reduceEqDiff, Nat.reduceLT, Nat.reduceLeDiff, Nat.reduceAdd, Nat.reduceMul, Nat.reduceSub, Nat.reduceBEq, reduceCtorEq, ↓zR, zQ, Tr, StA, StT, hjl, hqj, hil, e_stepOf, e1, dirI, q1, q3, hjw]
        refine c_goalByR hi hw han r ?_
        intro h1 p1
        have hq1 := p1.2 q hql
        cases eg : goR w r i
        · rw [eg] at hl2
          simp only [Bool.false_eq_true, if_false] at hl2
          simp (maxSteps := 1000000) (disch := first | omega | rfl | (simp only [zL, two63, room] <;> omega) | fail) only [↓reduceIte, ↓zP, zW, WOp, evOp, evBin, binI, binSh, binS, evNil, keyIs, keyEq, mkv, AV.cells, AV.sc, optv, bnd, env, put, Env.get, Env.set, Env.del, Env.dels, Env.init, res1, resL, resV, fillP, splice, newRow, Nat.reduceEqDiff, Nat.reduceLT, Nat.reduceLeDiff, Nat.reduceAdd, Nat.reduceMul, Nat.reduceSub, Nat.reduceBEq, reduceCtorEq, ↓zR, zQ, Tr, StA, StT, hjw]
          rw [w_loopn (c := lp55_1) rfl]
          simp (maxSteps := 1000000) (disch := first | omega | rfl | (simp only [zL, two63, room] <;> omega) | fail) only [↓reduceIte, ↓zP, zW, WOp, evOp, evBin, binI, binSh, binS, evNil, keyIs, keyEq, mkv, AV.cells, AV.sc, optv, bnd, env, put, Env.get, Env.set, Env.del, Env.dels, Env.init, res1, resL, resV, fillP, splice, newRow, Nat.reduceEqDiff, Nat.reduceLT, Nat.reduceLeDiff, Nat.reduceAdd, Nat.reduceMul, Nat.reduceSub, Nat.reduceBEq, reduceCtorEq, ↓zR, zQ, Tr, StA, StT]
          exact hR v h1 (by rw [hls, hl2, List.append_nil]; exact ho.pre p1) (p1.ag hb) hq1 hqv
        · rw [eg] at hl2
          simp only [if_true] at hl2
          rw [hls, hl2] at hR
          generalize (((scL w (w.getD i 0) r.1 i : Nat) : Int) - 1) = toL at *
          generalize ((scR w (w.getD i 0) r.1 w.length (i + 1) : Nat) : Int) = toR at *
          obtain ⟨v', h2, ha, ho', hag⟩ := apA hlM scM ((ho.pre p1).pre (Pre.push h1 (AO.row [.int .i64 i, .int .i64 toR] 0 0 false))) (Nat.le_trans hb (Nat.le_trans p1.1 (Pre.push h1 (AO.row [.int .i64 i, .int .i64 toR] 0 0 false)).1)) ((i : Int), toR) (by omega)
          obtain ⟨f1, f2, f3⟩ := apRow_fr ha
          simp (maxSteps := 1000000) (disch := first | omega | rfl | (simp only [zL, two63, room] <;> omega) | fail) only [↓reduceIte, ↓zP, zW, WOp, evOp, evBin, binI, binSh, binS, evNil, keyIs, keyEq, mkv, AV.cells, AV.sc, optv, bnd, env, put, Env.get, Env.set, Env.del, Env.dels, Env.init, res1, resL, resV, fillP, splice, newRow, Nat.reduceEqDiff, Nat.reduceLT, Nat.reduceLeDiff, Nat.reduceAdd, Nat.reduceMul, Nat.reduceSub, Nat.reduceBEq, reduceCtorEq, ↓zR, zQ, Tr, StA, StT, ha, hjw]
          rw [w_loopn (c := lp55_1) rfl]
          simp (maxSteps := 1000000) (disch := first | omega | rfl | (simp only [zL, two63, room] <;> omega) | fail) only [↓reduceIte, ↓zP, zW, WOp, evOp, evBin, binI, binSh, binS, evNil, keyIs, keyEq, mkv, AV.cells, AV.sc, optv, bnd, env, put, Env.get, Env.set, Env.del, Env.dels, Env.init, res1, resL, resV, fillP, splice, newRow, Nat.reduceEqDiff, Nat.reduceLT, Nat.reduceLeDiff, Nat.reduceAdd, Nat.reduceMul, Nat.reduceSub, Nat.reduceBEq, reduceCtorEq, ↓zR, zQ, Tr, StA, StT]
          have hll : (h1 ++ [AO.row [.int .i64 i, .int .i64 toR] 0 0 false]).length = h1.length + 1 := by simp
          have hpl := p1.1
          refine hR v' h2 ho' ((p1.ag hb).trans (((Pre.push h1 (AO.row [.int .i64 i, .int .i64 toR] 0 0 false)).ag (Nat.le_trans hb p1.1)).trans hag)) ?_ ?_
          · rw [f1 q (by omega) hqv, (Pre.push h1 (AO.row [.int .i64 i, .int .i64 toR] 0 0 false)).2 q (by omega), hq1]
          · intro hr
            rcases f3 q hr with h4 | h4
            · exact hqv h4
            · omega
end Go.Proofs.YtejhhdpfndiliaaDoor.Ab

/- PLAYS move by move, both sides'. -/
namespace Go.Proofs.YtejhhdpfndiliaaDoor.Ab
open Go
set_option maxRecDepth 100000
set_option maxHeartbeats 4000000

/-- The line behind the moves that can be made, and how many. -/
def plG : List UInt8 → List (Int × Int) → List UInt8 × Nat
  | w, [] => (w, 0)
  | w, m :: ms => if canB w m then ((plG (madeB w m.1.toNat m.2.toNat) ms).1, (plG (madeB w m.1.toNat m.2.toNat) ms).2 + 1) else (w, 0)
theorem plG_le : ∀ (ms : List (Int × Int)) (w : List UInt8), (plG w ms).2 ≤ ms.length
  | [], w => Nat.le_refl _
  | m :: ms, w => by
    unfold plG
    split
    · have := plG_le ms (madeB w m.1.toNat m.2.toNat)
      simp only [List.length_cons]; omega
    · simp
end Go.Proofs.YtejhhdpfndiliaaDoor.Ab
