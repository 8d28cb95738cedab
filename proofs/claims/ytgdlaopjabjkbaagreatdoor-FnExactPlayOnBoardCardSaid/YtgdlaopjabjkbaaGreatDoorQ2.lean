/- Part 3 of the proof of a law of the given program: the rules that it leans on, and what the functions that it reaches answer; the conditions stand with each theorem. -/
import Derived.Orders
import Derived.LoopN
import Derived.Test.YtgdlaopjabjkbaaGreatDoorProg
import Derived.Laws.IdiomCopy
import Derived.Ground.SlsfProg
import Derived.Shelf.SlLaysF0
import Derived.Shelf.SlGeneric
import Derived.Shelf.Strings.Builder1
import Derived.Shelf.Strings.Builder2
import Derived.Shelf.Strings.OnBuilder
import Derived.Shelf.Strings.Trim
import Derived.Shelf.Small.Utf8
import Derived.Shelf.Small.Bits
import Derived.Shelf.Small.Strs
import Derived.Shelf.Small.Wraps
import Derived.Shelf.Utf8.RuneCount
import Derived.Shelf.Strconv.Itoa0
import Derived.Shelf.Strings.Search1
import Derived.Shelf.Strings.Search2
import Derived.Shelf.Strings.Search3
import Derived.Shelf.Strings.Count
import Derived.Shelf.LaysM
import Derived.Shelf.Strings.Shaped
import Derived.Shelf.Strings.Split
import Derived.Shelf.Strings.Replace
import Derived.Shelf.Strings.SplitShaped
import Derived.Shelf.Unicode.Decode
import Derived.Shelf.Strings.Runes
import Derived.Shelf.Strings.RuneCount
import Derived.Shelf.Strings.AsciiSet
import Derived.Shelf.Strings.Explode
import Derived.Shelf.Unicode.DecodeSlow
import Derived.Shelf.Unicode.DecodeAny
import Derived.Shelf.Unicode.DecodeLast
import Derived.Ground.Names2Prog
import Derived.Shelf.Slices.SearchI
import Derived.Shelf.SlSortCmp.NoneTotal
import Derived.Shelf.SlicesG.Cmp
import Derived.Lib.SlicesDelete
import Derived.Deep.RegionHeld
import Derived.Test.YtgdlaopjabjkbaaGreatDoorQ1
set_option linter.unusedSimpArgs false
set_option linter.unusedVariables false
/- REGIONS whose order is drawn: all that turns or reads the heap stands in one order. -/
namespace Go.Proofs.YtgdlaopjabjkbaaGreatDoor.Ab
open Go Go.RowKit

/-! ### The checker -/
def mkMask (o : Oper) (acc : List Nat) : Nat := o.after.toList.foldl (fun s e => if Region.binds .any e then s ||| 2 ^ e.on ||| acc.getD e.on 0 else s) 0
def masks : List Oper → List Nat → List Nat
  | [], acc => acc
  | o :: os, acc => masks os (acc ++ [mkMask o acc])
def I.reads (x : I) : List Nat := x.op.ods.flatMap Opd.ts ++ (match x.grd with | some (t, _) => [t] | none => [])
def clashK : K → K → Bool
  | .q, _ | _, .q => false
  | .l, .l => false
  | _, _ => true
def pairOk (ps : List (Nat × Nat)) (i j : Nat) (x y : I) (bit : Bool) : Bool :=
  bit || ((match x.dst, y.dst with
    | some t, some u => decide (t ≠ u)
    | _, _ => true) && (match x.dst with
    | some t => decide (t ∉ y.reads)
    | none => true) && (match y.dst with
    | some t => decide (t ∉ x.reads)
    | none => true) && (!(clashK x.op.kind y.op.kind) || (decide (x.op.kind = .l) && clashK y.op.kind .l && ps.contains (i, j)) || (decide (y.op.kind = .l) && clashK x.op.kind .l && ps.contains (j, i))))
def dstsOk (x y : I) : Bool := match x.dst, y.dst with
  | some t, some u => decide (t ≠ u)
  | _, _ => true
def pairsOk (ps : List (Nat × Nat)) (B : List Nat) (is : List I) (y : I) (j : Nat) : Bool := (List.range j).all fun i => match is[i]? with
  | some x => dstsOk x y && pairOk ps i j x y ((B.getD j 0).testBit i)
  | none => false
def edgesOk : List Oper → Nat → Bool
  | [], _ => true
  | o :: os, i => o.after.toList.all (fun e => !Region.binds .any e || decide (e.on < i)) && edgesOk os (i + 1)
def drwOk (ops : Array Oper) (is : List I) (ps : List (Nat × Nat)) : Bool :=
  let B := masks ops.toList []
  edgesOk ops.toList 0 && (List.range is.length).all fun j => match is[j]? with
    | some y => pairsOk ps B is y j
    | none => false

theorem mask_bit {o : Oper} {acc : List Nat} {i : Nat} (h : (mkMask o acc).testBit i = true) : ∃ e ∈ o.after.toList, Region.binds .any e = true ∧ (i = e.on ∨ (acc.getD e.on 0).testBit i = true) := by
  have gen : ∀ (l : List Edge) (s : Nat), (l.foldl (fun s e => if Region.binds .any e then s ||| 2 ^ e.on ||| acc.getD e.on 0 else s) s).testBit i = true → s.testBit i = true ∨ ∃ e ∈ l, Region.binds .any e = true ∧ (i = e.on ∨ (acc.getD e.on 0).testBit i = true) := by
    intro l
    induction l with
    | nil => intro s h; exact .inl h
    | cons e l ih =>
      intro s h
      simp only [List.foldl_cons] at h
      rcases ih _ h with h1 | ⟨e', he', h2⟩
      · split at h1
        · rename_i hb
          simp only [Nat.testBit_or, Bool.or_eq_true] at h1
          rcases h1 with (h1 | h1) | h1
          · exact .inl h1
          · refine .inr ⟨e, by simp, hb, .inl ?_⟩
            rw [Nat.testBit_two_pow] at h1
            exact (of_decide_eq_true h1).symm
          · exact .inr ⟨e, by simp, hb, .inr h1⟩
        · exact .inl h1
      · exact .inr ⟨e', by simp [he'], h2⟩
  rcases gen _ _ h with h1 | h1
  · simp at h1
  · exact h1

theorem masks_closed {S : Nat → Prop} : ∀ (os : List Oper) (acc : List Nat), (∀ k, k < acc.length → S k → ∀ i, (acc.getD k 0).testBit i = true → S i) →
    (∀ (k : Nat) (o : Oper), os[k]? = some o → S (acc.length + k) → ∀ e ∈ o.after.toList, Region.binds .any e = true → S e.on) → ∀ j, S j → ∀ i, ((masks os acc).getD j 0).testBit i = true → S i
  | [], acc, ha, _, j, hj, i, hb => by
    simp only [masks] at hb
    by_cases hlt : j < acc.length
    · exact ha j hlt hj i hb
    · rw [List.getD_eq_getElem?_getD, List.getElem?_eq_none (by omega)] at hb; simp at hb
  | o :: os, acc, ha, ho, j, hj, i, hb => by
    simp only [masks] at hb
    refine masks_closed os _ ?_ ?_ j hj i hb
    · intro k hk hSk i hb
      simp only [List.length_append, List.length_singleton] at hk
      by_cases hlt : k < acc.length
      · rw [List.getD_eq_getElem?_getD, List.getElem?_append_left hlt, ← List.getD_eq_getElem?_getD] at hb
        exact ha k hlt hSk i hb
      · have hke : k = acc.length := by omega
        subst hke
        rw [List.getD_eq_getElem?_getD, List.getElem?_append_right (Nat.le_refl _)] at hb
        simp only [Nat.sub_self, List.getElem?_cons_zero, Option.getD_some] at hb
        obtain ⟨e, he, hbd, h1⟩ := mask_bit hb
        have hSe := ho 0 o rfl hSk e he hbd
        rcases h1 with rfl | h1
        · exact hSe
        · by_cases hlt2 : e.on < acc.length
          · exact ha _ hlt2 hSe i h1
          · rw [List.getD_eq_getElem?_getD, List.getElem?_eq_none (by omega)] at h1; simp at h1
    · intro k o' hk hS
      refine ho (k + 1) o' (by simpa using hk) ?_
      simp only [List.length_append, List.length_singleton] at hS
      rwa [show acc.length + (k + 1) = acc.length + 1 + k by omega]

theorem edges_get : ∀ (os : List Oper) (b k : Nat) (o : Oper), edgesOk os b = true → os[k]? = some o → ∀ e ∈ o.after.toList, Region.binds .any e = true → e.on < b + k
  | [], _, _, _, _, h => by simp at h
  | o :: os, b, k, o', hc, h => by
    simp only [edgesOk, Bool.and_eq_true] at hc
    intro e he hb
    cases k with
    | zero =>
      simp at h; subst h
      have := List.all_eq_true.1 hc.1 e he
      simpa [hb] using this
    | succ k =>
      have := edges_get os (b + 1) k o' hc.2 (by simpa using h) e he hb
      omega

/-! ### The states between -/
theorem states {cf : CF} : ∀ (is : List I) (e : Env) (h : AH) (e' : Env) (h' : AH), evR cf is e h = some (e', h') → ∃ st : Nat → Env × AH, st 0 = (e, h) ∧ st is.length = (e', h') ∧ ∀ i x, is[i]? = some x → evI cf x (st i).1 (st i).2 = some (st (i + 1))
  | [], e, h, e', h', hev => by
    simp only [evR, Option.some.injEq, Prod.mk.injEq] at hev
    obtain ⟨rfl, rfl⟩ := hev
    exact ⟨fun _ => (e, h), rfl, rfl, fun i x hx => by simp at hx⟩
  | x :: is, e, h, e', h', hev => by
    simp only [evR] at hev
    split at hev
    · rename_i e1 h1 h2
      obtain ⟨st, s0, sn, ss⟩ := states is e1 h1 e' h' hev
      refine ⟨fun i => match i with | 0 => (e, h) | i + 1 => st i, rfl, sn, ?_⟩
      intro i y hy
      cases i with
      | zero => simp at hy; subst hy; simp only [h2, s0]
      | succ i => exact ss i y (by simpa using hy)
    · cases hev

theorem evI_env {cf : CF} {x : I} {e e' : Env} {h h' : AH} (hev : evI cf x e h = some (e', h')) {t : Nat} (ht : x.dst ≠ some t) : e'.get t = e.get t := by
  have key : ∀ v, (put e x.dst v).get t = e.get t := by
    intro v
    cases hd : x.dst with
    | none => rfl
    | some u =>
      simp only [put, Env.get_set]
      rw [if_neg]
      intro hu; subst hu; exact ht hd
  unfold evI at hev
  split at hev
  · simp only [Option.map_eq_some_iff, Prod.mk.injEq] at hev
    obtain ⟨⟨v, h2⟩, _, rfl, _⟩ := hev
    exact key v
  · split at hev
    · split at hev
      · simp only [Option.map_eq_some_iff, Prod.mk.injEq] at hev
        obtain ⟨⟨v, h2⟩, _, rfl, _⟩ := hev
        exact key v
      · simp only [Option.some.injEq, Prod.mk.injEq] at hev
        obtain ⟨rfl, _⟩ := hev
        exact key _
    · simp only [Option.some.injEq, Prod.mk.injEq] at hev
      obtain ⟨rfl, _⟩ := hev
      exact key _
    · cases hev

theorem evI_heap {cf : CF} {x : I} {e e' : Env} {h h' : AH} (hev : evI cf x e h = some (e', h')) (hk : clashK x.op.kind .l = false ∨ x.op.kind = .l) : h' = h := by
  have key : ∀ v h2, evOp cf (env e) h x.op = some (v, h2) → h2 = h := by
    intro v h2 ho
    rcases hk with hk | hk
    · cases hkk : x.op.kind <;> rw [hkk] at hk <;> simp [clashK] at hk
      · have := evOp_q hkk ho h
        rw [ho] at this; cases this; rfl
      · exact evOp_l_same hkk ho
    · exact evOp_l_same hk ho
  unfold evI at hev
  split at hev
  · simp only [Option.map_eq_some_iff, Prod.mk.injEq] at hev
    obtain ⟨⟨v, h2⟩, ho, _, rfl⟩ := hev
    exact key v _ ho
  · split at hev
    · split at hev
      · simp only [Option.map_eq_some_iff, Prod.mk.injEq] at hev
        obtain ⟨⟨v, h2⟩, ho, _, rfl⟩ := hev
        exact key v _ ho
      · simp only [Option.some.injEq, Prod.mk.injEq] at hev
        exact hev.2.symm
    · simp only [Option.some.injEq, Prod.mk.injEq] at hev
      exact hev.2.symm
    · cases hev

/-- Some slots of an environment alone. -/
def Env.only (l : List Nat) (e : Env) : Env := l.map fun t => (t, e.get t)
theorem only_get (l : List Nat) (e : Env) (t : Nat) : (Env.only l e).get t = if t ∈ l then e.get t else .undef := by
  induction l with
  | nil => simp [Env.only, Env.get]
  | cons u l ih =>
    simp only [Env.only, List.map_cons, Env.get, List.mem_cons]
    by_cases h : u = t
    · subst h; simp
    · rw [if_neg h]
      have := ih
      simp only [Env.only] at this
      rw [this]
      have h' : ¬ t = u := fun hh => h hh.symm
      simp only [h', false_or]


/-! ### What the checker gives -/
structure Fit (ps : List (Nat × Nat)) (B : List Nat) (is : List I) : Prop where
  dst : ∀ (i j : Nat) (x y : I) (t : Nat), i < j → is[i]? = some x → is[j]? = some y → x.dst = some t → y.dst = some t → False
  rd : ∀ (i j : Nat) (x y : I) (t : Nat), i < j → is[i]? = some x → is[j]? = some y → x.dst = some t → t ∈ y.reads → (B.getD j 0).testBit i = true
  wr : ∀ (i j : Nat) (x y : I) (t : Nat), i < j → is[i]? = some x → is[j]? = some y → y.dst = some t → t ∈ x.reads → (B.getD j 0).testBit i = true
  hp : ∀ (i j : Nat) (x y : I), i < j → is[i]? = some x → is[j]? = some y → clashK x.op.kind y.op.kind = true → (B.getD j 0).testBit i = true ∨ (x.op.kind = .l ∧ clashK y.op.kind .l = true ∧ (i, j) ∈ ps) ∨ (y.op.kind = .l ∧ clashK x.op.kind .l = true ∧ (j, i) ∈ ps)

theorem fit_of {ops : Array Oper} {is : List I} {ps : List (Nat × Nat)} (h : drwOk ops is ps = true) : Fit ps (masks ops.toList []) is ∧ edgesOk ops.toList 0 = true := by
  simp only [drwOk, Bool.and_eq_true] at h
  obtain ⟨he, h⟩ := h
  have pair : ∀ (i j : Nat) (x y : I), i < j → is[i]? = some x → is[j]? = some y → dstsOk x y = true ∧ pairOk ps i j x y (((masks ops.toList []).getD j 0).testBit i) = true := by
    intro i j x y hij hx hy
    have hj := (List.getElem?_eq_some_iff.1 hy).1
    have h1 := List.all_eq_true.1 h j (List.mem_range.2 hj)
    rw [hy] at h1
    have h2 := List.all_eq_true.1 h1 i (List.mem_range.2 hij)
    rw [hx] at h2
    simpa using h2
  refine ⟨⟨?_, ?_, ?_, ?_⟩, he⟩
  · intro i j x y t hij hx hy h1 h2
    have := (pair i j x y hij hx hy).1
    simp [dstsOk, h1, h2] at this
  · intro i j x y t hij hx hy h1 h2
    have := (pair i j x y hij hx hy).2
    simp only [pairOk, Bool.or_eq_true, Bool.and_eq_true] at this
    rcases this with h3 | h3
    · exact h3
    · have := h3.1.1.2
      simp [h1, h2] at this
  · intro i j x y t hij hx hy h1 h2
    have := (pair i j x y hij hx hy).2
    simp only [pairOk, Bool.or_eq_true, Bool.and_eq_true] at this
    rcases this with h3 | h3
    · exact h3
    · have := h3.1.2
      simp [h1, h2] at this
  · intro i j x y hij hx hy h1
    have := (pair i j x y hij hx hy).2
    simp only [pairOk, Bool.or_eq_true, Bool.and_eq_true] at this
    rcases this with h3 | h3
    · exact .inl h3
    · rcases h3.2 with (h4 | h4) | h4
      · simp [h1] at h4
      · exact .inr (.inl ⟨of_decide_eq_true h4.1.1, h4.1.2, List.contains_iff_mem.1 h4.2⟩)
      · exact .inr (.inr ⟨of_decide_eq_true h4.1.1, h4.1.2, List.contains_iff_mem.1 h4.2⟩)

def cnt (S : Nat → Bool) : Nat → Nat
  | 0 => 0
  | n + 1 => cnt S n + if S n then 0 else 1
theorem cnt_mono {S S' : Nat → Bool} (h : ∀ i, S i = true → S' i = true) : ∀ n, cnt S' n ≤ cnt S n
  | 0 => Nat.le_refl _
  | n + 1 => by
    have := cnt_mono h n
    simp only [cnt]
    cases h1 : S n
    · cases h2 : S' n <;> simp <;> omega
    · rw [h n h1]; simpa using this
theorem cnt_lt {S S' : Nat → Bool} (h : ∀ i, S i = true → S' i = true) {i : Nat} (h1 : S i = false) (h2 : S' i = true) : ∀ n, i < n → cnt S' n < cnt S n
  | 0, hn => by omega
  | n + 1, hn => by
    have hm := cnt_mono h n
    simp only [cnt]
    by_cases he : i = n
    · subst he; simp only [h1, h2, if_true, Bool.false_eq_true, if_false]; omega
    · have := cnt_lt h h1 h2 n (by omega)
      cases h3 : S n
      · cases h4 : S' n <;> simp <;> omega
      · rw [h n h3]; simpa using this
theorem cnt_zero {S : Nat → Bool} : ∀ n, cnt S n = 0 → ∀ i, i < n → S i = true
  | 0, _, i, hi => by omega
  | n + 1, h, i, hi => by
    simp only [cnt] at h
    by_cases he : i = n
    · subst he
      cases h1 : S i
      · simp [h1] at h
      · rfl
    · exact cnt_zero n (by omega) i (by omega)

section
variable {P : Program} {F : Nat → Nat} {base : Nat} {m m0 : Emb} {h h' : AH} {w w0 : World} {e e' : Env} {cf : CF} {nt : Nat} {ops : Array Oper} {Q : Exit → Act → World → Prop} {is : List I} {st : Nat → Env × AH}

theorem chk_get : ∀ {os : List Oper} {is : List I}, chkIs P F nt ops os is = true → os.length = is.length ∧ ∀ (i : Nat) (o : Oper) (x : I), os[i]? = some o → is[i]? = some x → chkI P F nt ops o x = true
  | [], [], _ => ⟨rfl, fun i o x h _ => by simp at h⟩
  | [], _ :: _, h => by simp [chkIs] at h
  | _ :: _, [], h => by simp [chkIs] at h
  | o :: os, x :: is, h => by
    simp only [chkIs, Bool.and_eq_true] at h
    obtain ⟨g1, g2⟩ := chk_get h.2
    refine ⟨by simp [g1], ?_⟩
    intro i o' x' h1 h2
    cases i with
    | zero => simp at h1 h2; subst h1; subst h2; exact h.1
    | succ i => exact g2 i o' x' (by simpa using h1) (by simpa using h2)

/-- No one writes a slot between: it is as it was. -/
theorem env_same (hst : ∀ (i : Nat) (x : I), is[i]? = some x → evI cf x (st i).1 (st i).2 = some (st (i + 1))) {t : Nat} : ∀ (d i : Nat), i + d ≤ is.length → (∀ (k : Nat) (x : I), i ≤ k → k < i + d → is[k]? = some x → x.dst ≠ some t) → (st (i + d)).1.get t = (st i).1.get t
  | 0, i, _, _ => rfl
  | d + 1, i, hl, hk => by
    have ih := env_same hst d i (by omega) (fun k x h1 h2 => hk k x h1 (by omega))
    obtain ⟨x, hx⟩ : ∃ x, is[i + d]? = some x := ⟨is[i + d]'(by omega), by simp⟩
    have := evI_env (hst (i + d) x hx) (hk (i + d) x (by omega) (by omega) hx)
    rw [← ih]; exact this
theorem heap_same (hst : ∀ (i : Nat) (x : I), is[i]? = some x → evI cf x (st i).1 (st i).2 = some (st (i + 1))) : ∀ (d i : Nat), i + d ≤ is.length → (∀ (k : Nat) (x : I), i ≤ k → k < i + d → is[k]? = some x → clashK x.op.kind .l = false ∨ x.op.kind = .l) → (st (i + d)).2 = (st i).2
  | 0, i, _, _ => rfl
  | d + 1, i, hl, hk => by
    have ih := heap_same hst d i (by omega) (fun k x h1 h2 => hk k x h1 (by omega))
    obtain ⟨x, hx⟩ : ∃ x, is[i + d]? = some x := ⟨is[i + d]'(by omega), by simp⟩
    have := evI_heap (hst (i + d) x hx) (hk (i + d) x (by omega) (by omega) hx)
    rw [← ih]; exact this

def AOp.heapy (op : AOp) : Bool := clashK op.kind .l
theorem heapy_not {op : AOp} (h : op.heapy = false) : clashK op.kind .l = false ∨ op.kind = .l := .inl h

/-- What holds when some operations have been carried out. -/
structure Inv (F : Nat → Nat) (base nt : Nat) (m0 : Emb) (w0 : World) (ds : List Deferred) (is : List I) (st : Nat → Env × AH) (ops : Array Oper) (S : Nat → Bool) (m : Emb) (a : Act) (w : World) : Prop where
  defs : a.defers = ds
  size : nt ≤ a.tmps.size
  done : ∀ (t k : Nat) (x : I), is[k]? = some x → x.dst = some t → S k = true → RelV F m ((st is.length).1.get t) (a.tmps.getD t undef)
  todo : ∀ t, (∀ (k : Nat) (x : I), is[k]? = some x → x.dst = some t → S k = false) → RelV F m ((st 0).1.get t) (a.tmps.getD t undef)
  closed : ∀ (k : Nat) (o : Oper), ops[k]? = some o → S k = true → ∀ e ∈ o.after.toList, Region.binds .any e = true → S e.on = true
  step : ∃ p, p ≤ is.length ∧ (∀ (k : Nat) (x : I), k < p → is[k]? = some x → x.op.heapy = true → S k = true) ∧ (∀ (k : Nat) (x : I), p ≤ k → is[k]? = some x → x.op.heapy = true → S k = false) ∧
    StepR F base m0 (st 0).2 w0 m (st p).2 w

theorem inv_end {ds : List Deferred} {S : Nat → Bool} {a : Act} (hst : ∀ (i : Nat) (x : I), is[i]? = some x → evI cf x (st i).1 (st i).2 = some (st (i + 1))) (hi : Inv F base nt m0 w0 ds is st ops S m a w) (hall : ∀ k, k < is.length → S k = true) :
    RelEnv F m (st is.length).1 a.tmps ∧ StepR F base m0 (st 0).2 w0 m (st is.length).2 w := by
  constructor
  · intro t
    by_cases hw : ∃ (k : Nat) (x : I), is[k]? = some x ∧ x.dst = some t
    · obtain ⟨k, x, hx, ht⟩ := hw
      exact hi.done t k x hx ht (hall k (List.getElem?_eq_some_iff.1 hx).1)
    · have hn : ∀ (k : Nat) (x : I), is[k]? = some x → x.dst ≠ some t := fun k x h1 h2 => hw ⟨k, x, h1, h2⟩
      have := env_same hst is.length 0 (by omega) (t := t) (fun k x _ _ h1 => hn k x h1)
      rw [Nat.zero_add] at this
      rw [this]
      exact hi.todo t fun k x h1 h2 => absurd h2 (hn k x h1)
  · obtain ⟨p, hp, h1, h2, h3⟩ := hi.step
    have := heap_same hst (is.length - p) p (by omega) (fun k x hk hk2 hx => by
      refine heapy_not ?_
      cases hh : x.op.heapy
      · rfl
      · have g := h2 k x hk hx hh
        rw [hall k (by omega)] at g; cases g)
    rw [show p + (is.length - p) = is.length by omega] at this
    rw [this]; exact h3

theorem reads_od {x : I} {y : Opd} (hy : y ∈ x.op.ods) {t : Nat} (ht : t ∈ y.ts) : t ∈ x.reads := by
  simp only [I.reads, List.mem_append, List.mem_flatMap]
  exact .inl ⟨y, hy, ht⟩
theorem env_only {x : I} {e : Env} : ∀ y ∈ x.op.ods, env e y = env (Env.only x.reads e) y := by
  intro y hy
  cases y with
  | c v => rfl
  | t n =>
    simp only [env, only_get]
    rw [if_pos (reads_od hy (by simp [Opd.ts]))]

theorem read_same (hst : ∀ (i : Nat) (x : I), is[i]? = some x → evI cf x (st i).1 (st i).2 = some (st (i + 1))) {op : AOp} {ρ : Opd → AV} : ∀ (d i : Nat), i + d ≤ is.length →
    (∀ (k : Nat) (x : I), i ≤ k → k < i + d → is[k]? = some x → x.op.heapy = false ∨ (evOp noCall ρ (st k).2 op).map (·.1) = (evOp noCall ρ (st (k + 1)).2 op).map (·.1)) →
    (evOp noCall ρ (st (i + d)).2 op).map (·.1) = (evOp noCall ρ (st i).2 op).map (·.1)
  | 0, i, _, _ => rfl
  | d + 1, i, hl, hk => by
    have ih := read_same hst d i (by omega) (fun k x h1 h2 => hk k x h1 (by omega))
    obtain ⟨x, hx⟩ : ∃ x, is[i + d]? = some x := ⟨is[i + d]'(by omega), by simp⟩
    rcases hk (i + d) x (by omega) (by omega) hx with h1 | h1
    · have := evI_heap (hst (i + d) x hx) (heapy_not h1)
      rw [show i + (d + 1) = i + d + 1 by omega, this]; exact ih
    · rw [show i + (d + 1) = i + d + 1 by omega, ← h1]; exact ih

theorem inv_step (hs : Sound P F cf) (hst : ∀ (i : Nat) (x : I), is[i]? = some x → evI cf x (st i).1 (st i).2 = some (st (i + 1))) {ps : List (Nat × Nat)} (hf : Fit ps (masks ops.toList []) is) (hstb : ∀ q ∈ ps, ∀ o : I, is[q.1]? = some o → q.2 < is.length → (evOp noCall (env (st q.1).1) (st q.2).2 o.op).map (·.1) = (evOp noCall (env (st q.1).1) (st (q.2 + 1)).2 o.op).map (·.1)) {ds : List Deferred} {S S' : Nat → Bool} {a : Act} (hinv : Inv F base nt m0 w0 ds is st ops S m a w)
    {i : Nat} {o : Oper} {x : I} (ho : ops[i]? = some o) (hx : is[i]? = some x) (hc : chkI P F nt ops o x = true) (hSi : S i = false) (hS' : ∀ k, S' k = true ↔ k = i ∨ S k = true) (hready : ∀ e ∈ o.after.toList, Region.binds .any e = true → S e.on = true)
    {K : Act → World → Prop} (hK : ∀ a' w' m', Inv F base nt m0 w0 ds is st ops S' m' a' w' → K a' w') : wpOp P ops Q i K a w := by
  have hlt : i < is.length := (List.getElem?_eq_some_iff.1 hx).1
  simp only [chkI, Bool.and_eq_true] at hc
  obtain ⟨⟨hd, hg⟩, hop⟩ := hc
  obtain ⟨hdd, hdlt⟩ := chkD_lt hd
  have hcl' : ∀ (k : Nat) (o' : Oper), ops.toList[k]? = some o' → S' (([] : List Nat).length + k) = true → ∀ e ∈ o'.after.toList, Region.binds .any e = true → S' e.on = true := by
    intro k o' hk hSk e he hb
    simp only [List.length_nil, Nat.zero_add] at hSk
    rw [Array.getElem?_toList] at hk
    rcases (hS' k).1 hSk with rfl | h1
    · rw [ho] at hk; cases hk
      exact (hS' _).2 (.inr (hready e he hb))
    · exact (hS' _).2 (.inr (hinv.closed k o' hk h1 e he hb))
  have fact1 : ∀ q, q < i → ((masks ops.toList []).getD i 0).testBit q = true → S q = true := by
    intro q hq hb
    have := masks_closed (S := fun k => S' k = true) ops.toList [] (fun k hk => by simp at hk) hcl' i ((hS' i).2 (.inl rfl)) q hb
    rcases (hS' q).1 this with h1 | h1
    · omega
    · exact h1
  have fact2 : ∀ q, i < q → ((masks ops.toList []).getD q 0).testBit i = true → S q = false := by
    intro q hq hb
    cases hSq : S q
    · rfl
    · have := masks_closed (S := fun k => S k = true) ops.toList [] (fun k hk => by simp at hk) (fun k o' hk hSk => by
        simp only [List.length_nil, Nat.zero_add] at hSk
        rw [Array.getElem?_toList] at hk
        exact hinv.closed k o' hk hSk) q hSq i hb
      rw [hSi] at this; cases this
  obtain ⟨p, hp, hp1, hp2, hstep⟩ := hinv.step
  have hlow : ∀ (k : Nat) (y : I), k < i → is[k]? = some y → y.op.heapy = true → x.op.kind ≠ .q → S k = true ∨ (x.op.kind = .l ∧ (i, k) ∈ ps) := by
    intro k y hk hy hh hq
    have hcl : clashK y.op.kind x.op.kind = true := by
      unfold AOp.heapy at hh
      cases h1 : y.op.kind <;> rw [h1] at hh <;> simp [clashK] at hh <;> cases h2 : x.op.kind <;> simp [clashK] <;> exact absurd h2 hq
    rcases hf.hp k i y x hk hy hx hcl with h1 | ⟨h1, _⟩ | ⟨h1, _, h2⟩
    · exact .inl (fact1 k hk h1)
    · rw [AOp.heapy, h1] at hh; simp [clashK] at hh
    · exact .inr ⟨h1, h2⟩
  have hupp : ∀ (k : Nat) (y : I), i < k → is[k]? = some y → y.op.heapy = true → x.op.kind ≠ .q → S k = false ∨ (x.op.kind = .l ∧ (i, k) ∈ ps) := by
    intro k y hk hy hh hq
    have hcl : clashK x.op.kind y.op.kind = true := by
      unfold AOp.heapy at hh
      cases h1 : y.op.kind <;> rw [h1] at hh <;> simp [clashK] at hh <;> cases h2 : x.op.kind <;> simp [clashK] <;> exact absurd h2 hq
    rcases hf.hp i k x y hk hx hy hcl with h1 | ⟨h1, _, h2⟩ | ⟨h1, _⟩
    · exact .inl (fact2 k hk h1)
    · exact .inr ⟨h1, h2⟩
    · rw [AOp.heapy, h1] at hh; simp [clashK] at hh
  have hV : x.op.kind = .q ∨ (x.op.heapy = true ∧ (st p).2 = (st i).2) ∨ (x.op.kind = .l ∧ ∀ ρ, ρ = env (st i).1 → (evOp noCall ρ (st p).2 x.op).map (·.1) = (evOp noCall ρ (st i).2 x.op).map (·.1)) := by
    by_cases hq : x.op.kind = .q
    · exact .inl hq
    by_cases hl : x.op.kind = .l
    · refine .inr (.inr ⟨hl, ?_⟩)
      rintro ρ rfl
      by_cases hpi : p ≤ i
      · have := read_same hst (op := x.op) (ρ := env (st i).1) (i - p) p (by omega) (fun k y hk hk2 hy => by
          cases hh : y.op.heapy
          · exact .inl rfl
          · refine .inr ?_
            rcases hlow k y (by omega) hy hh hq with g1 | ⟨_, g1⟩
            · rw [hp2 k y hk hy hh] at g1; cases g1
            · exact hstb _ g1 x hx (by simp only; omega))
        rw [show p + (i - p) = i by omega] at this
        exact this.symm
      · have := read_same hst (op := x.op) (ρ := env (st i).1) (p - i) i (by omega) (fun k y hk hk2 hy => by
          cases hh : y.op.heapy
          · exact .inl rfl
          · refine .inr ?_
            by_cases hki : k = i
            · subst hki; rw [hx] at hy; cases hy; rw [AOp.heapy, hl] at hh; simp [clashK] at hh
            · rcases hupp k y (by omega) hy hh hq with g1 | ⟨_, g1⟩
              · rw [hp1 k y (by omega) hy hh] at g1; cases g1
              · exact hstb _ g1 x hx (by simp only; omega))
        rw [show i + (p - i) = p by omega] at this
        exact this
    · have hhx : x.op.heapy = true := by
        unfold AOp.heapy
        cases h2 : x.op.kind <;> simp [clashK] <;> first | exact absurd h2 hq | exact absurd h2 hl
      refine .inr (.inl ⟨hhx, ?_⟩)
      by_cases hpi : p ≤ i
      · have := heap_same hst (i - p) p (by omega) (fun k y hk hk2 hy => heapy_not (by
          cases hh : y.op.heapy
          · rfl
          · rcases hlow k y (by omega) hy hh hq with g1 | ⟨g1, _⟩
            · rw [hp2 k y hk hy hh] at g1; cases g1
            · exact absurd g1 hl))
        rw [show p + (i - p) = i by omega] at this
        exact this.symm
      · have := hp1 i x (by omega) hx hhx
        rw [hSi] at this; cases this
  have hhi : x.op.heapy = true → p ≤ i ∧ (∀ (k : Nat) (y : I), k < i + 1 → is[k]? = some y → y.op.heapy = true → S' k = true) ∧ (∀ (k : Nat) (y : I), i + 1 ≤ k → is[k]? = some y → y.op.heapy = true → S' k = false) := by
    intro hh
    have hnq : x.op.kind ≠ .q := by intro h1; rw [AOp.heapy, h1] at hh; simp [clashK] at hh
    have hnl : x.op.kind ≠ .l := by intro h1; rw [AOp.heapy, h1] at hh; simp [clashK] at hh
    refine ⟨?_, ?_, ?_⟩
    · by_cases hpi : p ≤ i
      · exact hpi
      · have := hp1 i x (by omega) hx hh
        rw [hSi] at this; cases this
    · intro k y hk hy hyh
      by_cases hki : k = i
      · exact (hS' k).2 (.inl hki)
      · rcases hlow k y (by omega) hy hyh hnq with g | ⟨g, _⟩
        · exact (hS' k).2 (.inr g)
        · exact absurd g hnl
    · intro k y hk hy hyh
      rcases hupp k y (by omega) hy hyh hnq with g | ⟨g, _⟩
      · cases hSk : S' k
        · rfl
        · rcases (hS' k).1 hSk with h1 | h1
          · omega
          · rw [g] at h1; cases h1
      · exact absurd g hnl
  have hrel : RelEnv F m (Env.only x.reads (st i).1) a.tmps := by
    intro t
    rw [only_get]
    split
    case isFalse => simp only [RelV]
    rename_i ht
    by_cases hw : ∃ (k : Nat) (y : I), is[k]? = some y ∧ y.dst = some t
    · obtain ⟨k, y, hy, hyt⟩ := hw
      have uniq : ∀ (q : Nat) (z : I), is[q]? = some z → z.dst = some t → q = k := by
        intro q z hz hzt
        rcases Nat.lt_trichotomy q k with h1 | h1 | h1
        · exact absurd (hf.dst q k z y t h1 hz hy hzt hyt) id
        · exact h1
        · exact absurd (hf.dst k q y z t h1 hy hz hyt hzt) id
      have pre : ¬ k < i → S k = false → RelV F m ((st i).1.get t) (a.tmps.getD t undef) := by
        intro hki hSk
        have := env_same hst i 0 (by omega) (t := t) (fun q z h1 h2 hz hzt => by have := uniq q z hz hzt; omega)
        rw [Nat.zero_add] at this
        rw [this]
        exact hinv.todo t fun q z hz hzt => by rw [uniq q z hz hzt]; exact hSk
      rcases Nat.lt_trichotomy k i with h1 | h1 | h1
      · have hSk := fact1 k h1 (hf.rd k i y x t h1 hy hx hyt ht)
        have := env_same hst (is.length - i) i (by omega) (t := t) (fun q z g1 g2 hz hzt => by have := uniq q z hz hzt; omega)
        rw [show i + (is.length - i) = is.length by omega] at this
        rw [← this]
        exact hinv.done t k y hy hyt hSk
      · exact pre (by omega) (by rw [h1]; exact hSi)
      · exact pre (by omega) (fact2 k h1 (hf.wr i k x y t h1 hx hy hyt ht))
    · have hn : ∀ (k : Nat) (y : I), is[k]? = some y → y.dst ≠ some t := fun k y h1 h2 => hw ⟨k, y, h1, h2⟩
      have := env_same hst i 0 (by omega) (t := t) (fun q z _ _ hz => hn q z hz)
      rw [Nat.zero_add] at this
      rw [this]
      exact hinv.todo t fun q z hz hzt => absurd hzt (hn q z hz)
  have after : ∀ (v : AV) (v' : Value) (m' : Emb) (w' : World) (V' : AH), RelV F m' v v' → (st (i + 1)).1 = put (st i).1 x.dst v → StepR F base m (st p).2 w m' V' w' → (x.op.heapy = true → V' = (st (i + 1)).2) → (x.op.heapy = false → V' = (st p).2) → Inv F base nt m0 w0 ds is st ops S' m' (a.put o.dst v') w' := by
    intro v v' m' w' V' hv hput hst' h1 h2
    refine ⟨by rw [Act.put_defs]; exact hinv.defs, by rw [Act.put_size]; exact hinv.size, ?_, ?_, ?_, ?_⟩
    · intro t k y hy hyt hSk
      by_cases hki : k = i
      · subst hki
        rw [hx] at hy; cases hy
        have uniq : ∀ (q : Nat) (z : I), is[q]? = some z → z.dst = some t → q = k := by
          intro q z hz hzt
          rcases Nat.lt_trichotomy q k with h1 | h1 | h1
          · exact absurd (hf.dst q k z x t h1 hz hx hzt hyt) id
          · exact h1
          · exact absurd (hf.dst k q x z t h1 hx hz hyt hzt) id
        have := env_same hst (is.length - (k + 1)) (k + 1) (by omega) (t := t) (fun q z g1 g2 hz hzt => by have := uniq q z hz hzt; omega)
        rw [show k + 1 + (is.length - (k + 1)) = is.length by omega] at this
        rw [this, hput, hyt]
        have hod : o.dst = some t := hdd.trans hyt
        have hlt2 := hdlt t hod
        simp only [put, Env.get_set, if_true, hod, Act.put]
        rw [getD_set]
        rw [if_pos ⟨rfl, Nat.lt_of_lt_of_le hlt2 hinv.size⟩]
        exact hv
      · have hSk' := ((hS' k).1 hSk).resolve_left hki
        have hne : o.dst ≠ some t := by
          intro hod
          have hxt : x.dst = some t := hdd ▸ hod
          rcases Nat.lt_trichotomy k i with h1 | h1 | h1
          · exact hf.dst k i y x t h1 hy hx hyt hxt
          · exact hki h1
          · exact hf.dst i k x y t h1 hx hy hxt hyt
        have hsame : (a.put o.dst v').tmps.getD t undef = a.tmps.getD t undef := by
          cases hod : o.dst with
          | none => rfl
          | some u =>
            simp only [Act.put]
            rw [getD_set, if_neg]
            rintro ⟨rfl, _⟩
            exact hne hod
        rw [hsame]
        exact RelV.mono hst'.le _ _ (hinv.done t k y hy hyt hSk')
    · intro t hall
      have hne : o.dst ≠ some t := by
        intro hod
        have hxt : x.dst = some t := hdd ▸ hod
        have := hall i x hx hxt
        rw [(hS' i).2 (.inl rfl)] at this; cases this
      have hsame : (a.put o.dst v').tmps.getD t undef = a.tmps.getD t undef := by
        cases hod : o.dst with
        | none => rfl
        | some u =>
          simp only [Act.put]
          rw [getD_set, if_neg]
          rintro ⟨rfl, _⟩
          exact hne hod
      rw [hsame]
      refine RelV.mono hst'.le _ _ (hinv.todo t fun k y hy hyt => ?_)
      have := hall k y hy hyt
      cases hSk : S k
      · rfl
      · rw [(hS' k).2 (.inr hSk)] at this; cases this
    · intro k o' hk hSk e he hb
      exact hcl' k o' (by rw [Array.getElem?_toList]; exact hk) (by simpa using hSk) e he hb
    · cases hh : x.op.heapy
      · rw [h2 hh] at hst'
        refine ⟨p, hp, ?_, ?_, hstep.trans hst'⟩
        · intro k y hk hy hyh; exact (hS' k).2 (.inr (hp1 k y hk hy hyh))
        · intro k y hk hy hyh
          cases hSk : S' k
          · rfl
          · rcases (hS' k).1 hSk with g | g
            · subst g; rw [hx] at hy; cases hy; rw [hh] at hyh; cases hyh
            · rw [hp2 k y hk hy hyh] at g; cases g
      · obtain ⟨g1, g2, g3⟩ := hhi hh
        rw [h1 hh] at hst'
        exact ⟨i + 1, by omega, g2, g3, hstep.trans hst'⟩
  have hevi := hst i x hx
  have run : (evOp cf (env (st i).1) (st i).2 x.op).map (fun (v, h') => (put (st i).1 x.dst v, h')) = some (st (i + 1)) → Region.wanted o (yielded ops a.tmps) = true → wpOp P ops Q i K a w := by
    intro hev hw
    simp only [Option.map_eq_some_iff] at hev
    obtain ⟨⟨v, h2⟩, hv, hst2⟩ := hev
    have hput : (st (i + 1)).1 = put (st i).1 x.dst v := by rw [← hst2]
    have hh2 : (st (i + 1)).2 = h2 := by rw [← hst2]
    have hev' : ∃ V', evOp cf (env (Env.only x.reads (st i).1)) (st p).2 x.op = some (v, V') ∧ (x.op.heapy = true → V' = (st (i + 1)).2) ∧ (x.op.heapy = false → V' = (st p).2) := by
      rw [evOp_congr (env_only (x := x))] at hv
      rcases hV with hq | ⟨hhx, hV⟩ | ⟨hl, hV⟩
      · refine ⟨(st p).2, evOp_q hq hv _, ?_, fun _ => rfl⟩
        intro hh; simp [AOp.heapy, hq, clashK] at hh
      · rw [hV]
        refine ⟨h2, hv, fun _ => hh2.symm, ?_⟩
        intro hh; rw [hhx] at hh; cases hh
      · have hcall : x.op.isCall = false := by
          cases hxo : x.op <;> rw [hxo] at hl <;> simp [AOp.kind] at hl <;> rfl
        have h3 := hV (env (st i).1) rfl
        rw [evOp_congr (env_only (x := x)), evOp_congr (ρ := env (st i).1) (env_only (x := x)), evOp_any hcall noCall cf, evOp_any hcall noCall cf, hv] at h3
        simp only [Option.map_some, Option.map_eq_some_iff] at h3
        obtain ⟨⟨u, V'⟩, hu, rfl⟩ := h3
        have := evOp_l_same hl hu
        subst this
        refine ⟨_, hu, ?_, fun _ => rfl⟩
        intro hh; rw [AOp.heapy, hl] at hh; simp [clashK] at hh
    obtain ⟨V', hev2, k1, k2⟩ := hev'
    unfold wpOp
    simp only [ho, hw, if_true]
    refine .inl (Oper.wp_mono ?_ (op_sound hs hstep.rel hrel hop hev2 Q))
    rintro a2 w2 ⟨v2, m2, rfl, hv2, hst3⟩
    exact hK _ w2 m2 (after v v2 m2 w2 V' hv2 hput hst3 k1 k2)
  unfold evI at hevi
  split at hevi
  · rename_i hgn
    exact run hevi (i_free hg hgn)
  · rename_i t want hgs
    split at hevi
    · rename_i b hb
      have hb' : (Env.only x.reads (st i).1).get t = .bool b := by
        rw [only_get, if_pos (by simp [I.reads, hgs])]; exact hb
      have hw := i_wanted hg hrel hgs hb'
      split at hevi
      · rename_i hbw
        exact run hevi (by rw [hw]; simpa using hbw)
      · rename_i hbw
        simp only [Option.some.injEq] at hevi
        have hw' : Region.wanted o (yielded ops a.tmps) = false := by rw [hw]; simpa using hbw
        unfold wpOp
        simp only [ho, hw', Bool.false_eq_true, if_false]
        have hheap : (st (i + 1)).2 = (st i).2 := by rw [← hevi]
        refine hK _ w m (after (.tup []) undef m w (st p).2 rel_skp (by rw [← hevi]) (StepR.refl hstep.rel) ?_ (fun _ => rfl))
        intro hh
        rcases hV with hq | ⟨_, hV⟩ | ⟨hl, _⟩
        · simp [AOp.heapy, hq, clashK] at hh
        · rw [hV, hheap]
        · rw [AOp.heapy, hl] at hh; simp [clashK] at hh
    · rename_i hb
      have hb' : (Env.only x.reads (st i).1).get t = .tup [] := by
        rw [only_get, if_pos (by simp [I.reads, hgs])]; exact hb
      simp only [Option.some.injEq] at hevi
      have hw' : Region.wanted o (yielded ops a.tmps) = false := i_skp hg hrel hgs hb'
      unfold wpOp
      simp only [ho, hw', Bool.false_eq_true, if_false]
      have hheap : (st (i + 1)).2 = (st i).2 := by rw [← hevi]
      refine hK _ w m (after (.tup []) undef m w (st p).2 rel_skp (by rw [← hevi]) (StepR.refl hstep.rel) ?_ (fun _ => rfl))
      intro hh
      rcases hV with hq | ⟨_, hV⟩ | ⟨hl, _⟩
      · simp [AOp.heapy, hq, clashK] at hh
      · rw [hV, hheap]
      · rw [AOp.heapy, hl] at hh; simp [clashK] at hh
    · cases hevi

theorem drw_sound (hs : Sound P F cf) (hm : P.follows .mixedOrders = true) {ps : List (Nat × Nat)} {id : Nat} {a : Act} (hc : chkIs P F nt ops ops.toList is = true) (hd : drwOk ops is ps = true) (hev : evDraw cf is ps e h = some (e', h'))
    (hr : RelH F base m h w) (he : RelEnv F m e a.tmps) (hn : nt ≤ a.tmps.size)
    (hQ : ∀ a' w' m', a'.defers = a.defers → nt ≤ a'.tmps.size → RelEnv F m' e' a'.tmps → StepR F base m h w m' h' w' → Q .normal a' w') : (Code.region id ops true).wp P Q a w := by
  have hev : evR cf is e h = some (e', h') ∧ ∀ q ∈ ps, Stable cf is e h q.1 q.2 := by
    unfold evDraw at hev
    split at hev
    · rename_i hh; exact ⟨hev, hh⟩
    · cases hev
  obtain ⟨hev, hstable⟩ := hev
  obtain ⟨hf, hed⟩ := fit_of hd
  obtain ⟨hlen, hchk⟩ := chk_get hc
  obtain ⟨st, s0, sn, hst⟩ := states is e h e' h' hev
  have hstate : ∀ i, i ≤ is.length → stateAt cf is i e h = some (st i) := by
    intro i
    induction i with
    | zero => intro _; simp [stateAt, evR, s0]
    | succ i ih =>
      intro hi
      have h1 := ih (by omega)
      obtain ⟨x, hx⟩ : ∃ x, is[i]? = some x := ⟨is[i]'(by omega), by simp⟩
      have app : ∀ (l : List I) (e : Env) (h : AH) (s : Env × AH), evR cf l e h = some s → evR cf (l ++ [x]) e h = evI cf x s.1 s.2 := by
        intro l
        induction l with
        | nil =>
          intro e h s hs
          simp only [evR, Option.some.injEq] at hs
          subst hs
          simp only [List.nil_append, evR]
          cases evI cf x e h with
          | none => rfl
          | some y => rfl
        | cons y l ih =>
          intro e h s hs
          simp only [List.cons_append, evR] at hs ⊢
          split at hs
          · rename_i e1 h1 h2; exact ih _ _ _ hs
          · cases hs
      unfold stateAt at h1 ⊢
      rw [List.take_add_one, hx]
      simp only [Option.toList_some]
      rw [app _ _ _ _ h1, hst i x hx]
  have hstb : ∀ q ∈ ps, ∀ o : I, is[q.1]? = some o → q.2 < is.length → (evOp noCall (env (st q.1).1) (st q.2).2 o.op).map (·.1) = (evOp noCall (env (st q.1).1) (st (q.2 + 1)).2 o.op).map (·.1) := by
    intro q hq o ho hlt
    have hlt1 := (List.getElem?_eq_some_iff.1 ho).1
    exact hstable q hq o _ _ _ _ _ _ ho (hstate q.1 (by omega)) (hstate q.2 (by omega)) (hstate (q.2 + 1) (by omega))
  refine wp_region_any hm ?_
  have hdraw : StepR F base m h w m h { w with drawn := w.drawn + 1 } := StepR.draw hr rfl rfl rfl rfl
  have main : ∀ (fuel : Nat) (listed : Array Bool) (a1 : Act) (m1 : Emb) (w1 : World), listed.size = ops.size → cnt (fun k => listed.getD k false) ops.size ≤ fuel → Inv F base nt m w a.defers is st ops (fun k => listed.getD k false) m1 a1 w1 → wpAny P .any ops Q fuel listed a1 w1 := by
    have fin : ∀ (listed : Array Bool) (a1 : Act) (m1 : Emb) (w1 : World), Inv F base nt m w a.defers is st ops (fun k => listed.getD k false) m1 a1 w1 → (∀ k, k < is.length → listed.getD k false = true) → Q .normal a1 w1 := by
      intro listed a1 m1 w1 hinv hall
      obtain ⟨g1, g2⟩ := inv_end hst hinv hall
      rw [sn] at g1 g2
      rw [s0] at g2
      exact hQ a1 w1 m1 hinv.defs hinv.size g1 g2
    have allOf : ∀ listed : Array Bool, listed.size = ops.size → Region.ready .any ops listed = [] → ∀ k, k < ops.size → listed.getD k false = true := by
      intro listed hsz hrd k
      induction k using Nat.strongRecOn with
      | ind k ih =>
        intro hk
        cases hl : listed.getD k false with
        | true => rfl
        | false =>
          have : k ∈ Region.ready .any ops listed := by
            rw [mem_ready]
            refine ⟨?_, ops[k], by simp, ?_⟩
            · rw [Array.getD_eq_getD_getElem?] at hl ⊢
              rw [Array.getElem?_eq_getElem (by omega)] at hl ⊢
              simpa using hl
            · intro ed hed' hb
              have := edges_get ops.toList 0 k ops[k] hed (by simp) ed (by simpa using hed') hb
              exact ih ed.on (by omega) (by omega)
          rw [hrd] at this
          cases this
    intro fuel
    induction fuel with
    | zero =>
      intro listed a1 m1 w1 hsz hcnt hinv
      have hall := cnt_zero (S := fun k => listed.getD k false) ops.size (by omega)
      refine ⟨?_, fin listed a1 m1 w1 hinv (fun k hk => hall k (by simp at hlen; omega))⟩
      cases hrd : Region.ready .any ops listed with
      | nil => rfl
      | cons k l =>
        have hk : k ∈ Region.ready .any ops listed := by rw [hrd]; simp
        rw [mem_ready] at hk
        obtain ⟨h1, o, ho, _⟩ := hk
        have hlt := (Array.getElem?_eq_some_iff.1 ho).1
        have h2 := hall k hlt
        rw [Array.getD_eq_getD_getElem?, Array.getElem?_eq_getElem (by omega)] at h1 h2
        simp at h1 h2
        rw [h1] at h2; cases h2
    | succ fuel ih =>
      intro listed a1 m1 w1 hsz hcnt hinv
      refine ⟨fun hrd => fin listed a1 m1 w1 hinv (fun k hk => allOf listed hsz hrd k (by simp at hlen; omega)), ?_⟩
      intro i hi
      rw [mem_ready] at hi
      obtain ⟨h1, o, ho, hedge⟩ := hi
      have hlt := (Array.getElem?_eq_some_iff.1 ho).1
      have hlt2 : i < is.length := by simp at hlen; omega
      have hSi : listed.getD i false = false := by
        rw [Array.getD_eq_getD_getElem?, Array.getElem?_eq_getElem (by omega)] at h1 ⊢
        simpa using h1
      have hS' : ∀ k, (listed.setIfInBounds i true).getD k false = true ↔ k = i ∨ listed.getD k false = true := by
        intro k
        simp only [Array.getD_eq_getD_getElem?, Array.getElem?_setIfInBounds]
        by_cases hik : i = k
        · subst hik
          simp [show i < listed.size by omega]
        · rw [if_neg hik]
          constructor
          · intro hh; exact .inr hh
          · rintro (hh | hh)
            · exact absurd hh.symm hik
            · exact hh
      refine inv_step hs hst hf hstb hinv (S' := fun k => (listed.setIfInBounds i true).getD k false) ho (x := is[i]) (by simp) (hchk i o is[i] (by rw [Array.getElem?_toList]; exact ho) (by simp)) hSi hS' (fun ed hed' hb => hedge ed (by simpa using hed') hb) ?_
      intro a' w' m' hinv'
      refine ih _ a' m' w' (by simp [hsz]) ?_ hinv'
      have := cnt_lt (S := fun k => listed.getD k false) (S' := fun k => (listed.setIfInBounds i true).getD k false) (fun k hk => (hS' k).2 (.inr hk)) hSi ((hS' i).2 (.inl rfl)) ops.size hlt
      omega
  refine main ops.size _ a m _ (by simp) ?_ ?_
  · have : ∀ (S : Nat → Bool) n, cnt S n ≤ n := by
      intro S n
      induction n with
      | zero => exact Nat.le_refl _
      | succ n ih => simp only [cnt]; split <;> omega
    exact this _ _
  · have hno : ∀ k, (Array.replicate ops.size false).getD k false = false := by
      intro k
      rw [Array.getD_eq_getD_getElem?, Array.getElem?_replicate]
      split <;> rfl
    refine ⟨rfl, hn, ?_, ?_, ?_, ?_⟩
    · intro t k x hx hxt hS; rw [hno] at hS; cases hS
    · intro t _; rw [s0]; exact he t
    · intro k o ho hS; rw [hno] at hS; cases hS
    · refine ⟨0, Nat.zero_le _, fun k x hk => by omega, fun k x _ _ _ => hno k, ?_⟩
      rw [s0]; exact hdraw
end
end Go.Proofs.YtgdlaopjabjkbaaGreatDoor.Ab

/- CODE AND CALLS: what the evaluator says, the program does. -/
namespace Go.Proofs.YtgdlaopjabjkbaaGreatDoor.Ab
open Go Go.RowKit

section
variable (P : Program) (F : Nat → Nat)

def chkC (nt : Nat) : C → Code → Bool
  | .kl _ c, d => chkC nt c d
  | .skip, .skip => true
  | .reg is, .region _ ops false => chkIs P F nt ops ops.toList is
  | .drw is ps, .region _ ops true => P.follows .mixedOrders && chkIs P F nt ops ops.toList is && drwOk ops is ps
  | .seq a b, .seq x y => chkC nt a x && chkC nt b y
  | .cond c a b, .cond y x z => chkO F y c && chkC nt a x && chkC nt b z
  | .blk i c, .block j d => decide (i = j) && chkC nt c d
  | .loop c, .loop d => chkC nt c d
  | .exit i, .exit j => decide (i = j)
  | .ret, .ret => true
  | .bad, _ => true
  | _, _ => false

def chkRes : List ResultVar → List Res → Bool
  | [], [] => true
  | .tmp t :: rs, .tmp t' :: qs => decide (t = t') && chkRes rs qs
  | .cell a t :: rs, .cell agg n a' :: qs => decide (a = a') && shp P t agg n && chkRes rs qs
  | _, _ => false

def chkF (f : Nat) (fi : FI) : Bool := match P.funcs[F f]? with
  | some fn => match fn.body with
    | some c => !(fn.name == "runtime.NumGoroutine") && chkC P F fn.ntmps fi.body c && chkRes P fn.results.toList fi.res
    | none => false
  | none => false
end

def X.exit' : X → Exit
  | .normal => .normal
  | .exit i => .exit i
  | .ret => .ret

section
variable {P : Program} {F : Nat → Nat} {base : Nat} {cf : CF} {nt : Nat}

/-- What a piece of code leaves behind. -/
def Post (P : Program) (F : Nat → Nat) (base nt : Nat) (m : Emb) (h : AH) (w : World) (ds : List Deferred) (x : X) (e' : Env) (h' : AH) : Exit → Act → World → Prop :=
  fun ee a' w' => ee = x.exit' ∧ a'.defers = ds ∧ nt ≤ a'.tmps.size ∧ ∃ m', RelEnv F m' e' a'.tmps ∧ StepR F base m h w m' h' w'

theorem Post.trans {m m1 : Emb} {h h1 h' : AH} {w w1 : World} {ds : List Deferred} {x : X} {e' : Env} {ee : Exit} {a' : Act} {w' : World} (hs : StepR F base m h w m1 h1 w1) (hp : Post P F base nt m1 h1 w1 ds x e' h' ee a' w') : Post P F base nt m h w ds x e' h' ee a' w' := by
  obtain ⟨h1, h2, h3, m', h4, h5⟩ := hp
  exact ⟨h1, h2, h3, m', h4, hs.trans h5⟩

theorem code_sound (hs : Sound P F cf) (n : Nat) : ∀ (c : C) (d : Code) (a : Act) (m : Emb) (e : Env) (h : AH) (w : World) (x : X) (e' : Env) (h' : AH), chkC P F nt c d = true → evC cf n c e h = some (x, e', h') →
    RelH F base m h w → RelEnv F m e a.tmps → nt ≤ a.tmps.size → d.wp P (Post P F base nt m h w a.defers x e' h') a w := by
  intro c
  induction c with
  | skip =>
    intro d a m e h w x e' h' hc hev hr he hn
    cases d <;> simp [chkC] at hc
    simp only [evC, Option.some.injEq, Prod.mk.injEq] at hev
    obtain ⟨rfl, rfl, rfl⟩ := hev
    exact wp_skip ⟨rfl, rfl, hn, m, he, StepR.refl hr⟩
  | reg is =>
    intro d a m e h w x e' h' hc hev hr he hn
    cases d <;> try (simp [chkC] at hc; done)
    rename_i id ops draw
    cases draw <;> try (simp [chkC] at hc; done)
    simp only [chkC] at hc
    simp only [evC, Option.map_eq_some_iff, Prod.mk.injEq] at hev
    obtain ⟨⟨e1, h1⟩, hev, rfl, rfl, rfl⟩ := hev
    exact reg_sound hs hc hev hr he hn fun a' w' m' k1 k2 k3 k4 => ⟨rfl, k1, k2, m', k3, k4⟩
  | drw is ps =>
    intro d a m e h w x e' h' hc hev hr he hn
    cases d <;> try (simp [chkC] at hc; done)
    rename_i id ops draw
    cases draw <;> try (simp [chkC] at hc; done)
    simp only [chkC] at hc
    simp only [Bool.and_eq_true] at hc
    simp only [evC, Option.map_eq_some_iff, Prod.mk.injEq] at hev
    obtain ⟨⟨e1, h1⟩, hev, rfl, rfl, rfl⟩ := hev
    exact drw_sound hs hc.1.1 hc.1.2 hc.2 hev hr he hn fun a' w' m' k1 k2 k3 k4 => ⟨rfl, k1, k2, m', k3, k4⟩
  | kl ts c ih =>
    intro d a m e h w x e' h' hc hev hr he hn
    simp only [chkC] at hc
    simp only [evC] at hev
    exact ih d a m _ h w x e' h' hc hev hr (he.dels ts) hn
  | seq c1 c2 ih1 ih2 =>
    intro d a m e h w x e' h' hc hev hr he hn
    cases d <;> simp only [chkC] at hc <;> try (cases hc; done)
    simp only [Bool.and_eq_true] at hc
    simp only [evC] at hev
    refine wp_seq ?_
    split at hev
    · rename_i e1 h1 hev1
      refine wp_mono (ih1 _ a m e h w _ e1 h1 hc.1 hev1 hr he hn) ?_
      rintro ee a1 w1 ⟨rfl, k1, k2, m1, k3, k4⟩
      have := ih2 _ a1 m1 e1 h1 w1 x e' h' hc.2 hev k4.rel k3 k2
      rw [k1] at this
      exact wp_mono this fun ee a2 w2 hp => Post.trans k4 hp
    · rename_i hne
      refine wp_mono (ih1 _ a m e h w _ e' h' hc.1 hev hr he hn) ?_
      rintro ee a1 w1 ⟨rfl, k1, k2, m1, k3, k4⟩
      cases x with
      | normal => exact absurd hev (hne _ _)
      | exit i => exact ⟨rfl, k1, k2, m1, k3, k4⟩
      | ret => exact ⟨rfl, k1, k2, m1, k3, k4⟩
  | cond y c1 c2 ih1 ih2 =>
    intro d a m e h w x e' h' hc hev hr he hn
    cases d <;> simp only [chkC] at hc <;> try (cases hc; done)
    simp only [Bool.and_eq_true] at hc
    simp only [evC] at hev
    split at hev
    · rename_i t ht
      have hv := chkO_rel he hc.1.1
      rw [ht] at hv
      refine wp_cond (rel_bool hv) ?_
      cases t
      · exact ih2 _ a m e h w x e' h' hc.2 hev hr he hn
      · exact ih1 _ a m e h w x e' h' hc.1.2 hev hr he hn
    · cases hev
  | blk id c ih =>
    intro d a m e h w x e' h' hc hev hr he hn
    cases d <;> simp only [chkC] at hc <;> try (cases hc; done)
    rename_i id2 d2
    simp only [Bool.and_eq_true, decide_eq_true_eq] at hc
    obtain ⟨rfl, hc⟩ := hc
    simp only [evC] at hev
    refine wp_block ?_
    split at hev
    · rename_i id' e1 h1 hev1
      refine wp_mono (ih _ a m e h w _ e1 h1 hc hev1 hr he hn) ?_
      rintro ee a1 w1 ⟨rfl, k1, k2, m1, k3, k4⟩
      simp only [X.exit', Exit.inBlock]
      split at hev
      · rename_i hid
        rw [if_pos hid]
        simp only [Option.some.injEq, Prod.mk.injEq] at hev
        obtain ⟨rfl, rfl, rfl⟩ := hev
        exact ⟨rfl, k1, k2, m1, k3, k4⟩
      · rename_i hid
        rw [if_neg hid]
        simp only [Option.some.injEq, Prod.mk.injEq] at hev
        obtain ⟨rfl, rfl, rfl⟩ := hev
        exact ⟨rfl, k1, k2, m1, k3, k4⟩
    · rename_i hne
      refine wp_mono (ih _ a m e h w _ e' h' hc hev hr he hn) ?_
      rintro ee a1 w1 ⟨rfl, k1, k2, m1, k3, k4⟩
      cases x with
      | normal => exact ⟨rfl, k1, k2, m1, k3, k4⟩
      | exit i => exact absurd hev (hne _ _ _)
      | ret => exact ⟨rfl, k1, k2, m1, k3, k4⟩
  | loop c ih =>
    intro d a m e h w x e' h' hc hev hr he hn
    cases d <;> simp only [chkC] at hc <;> try (cases hc; done)
    rename_i d2
    simp only [evC] at hev
    have key : ∀ (k : Nat) (a : Act) (m : Emb) (e : Env) (h : AH) (w : World), evLoop (evC cf n c) k e h = some (x, e', h') → RelH F base m h w → RelEnv F m e a.tmps → nt ≤ a.tmps.size →
        Code.rounds P d2 (Post P F base nt m h w a.defers x e' h') k a w := by
      intro k
      induction k with
      | zero => intro a m e h w hev; simp [evLoop] at hev
      | succ k ihk =>
        intro a m e h w hev hr he hn
        rw [rounds_succ]
        simp only [evLoop] at hev
        split at hev
        · rename_i e1 h1 hev1
          refine wp_mono (ih _ a m e h w _ e1 h1 hc hev1 hr he hn) ?_
          rintro ee a1 w1 ⟨rfl, k1, k2, m1, k3, k4⟩
          have := ihk a1 m1 e1 h1 w1 hev k4.rel k3 k2
          rw [k1] at this
          simp only [X.exit', Exit.then]
          have mono : ∀ (k : Nat) (Q Q' : Exit → Act → World → Prop), (∀ ee a w, Q ee a w → Q' ee a w) → ∀ a w, Code.rounds P d2 Q k a w → Code.rounds P d2 Q' k a w := by
            intro k Q Q' hq
            induction k with
            | zero => intro a w hh; exact hh
            | succ k ih =>
              intro a w hh
              rw [rounds_succ] at hh ⊢
              refine wp_mono hh ?_
              intro ee a w hx
              cases ee <;> first | exact ih _ _ hx | exact hq _ _ _ hx
          exact mono _ _ _ (fun ee a2 w2 hp => Post.trans k4 hp) _ _ this
        · rename_i hne
          refine wp_mono (ih _ a m e h w _ e' h' hc hev hr he hn) ?_
          rintro ee a1 w1 ⟨rfl, k1, k2, m1, k3, k4⟩
          cases x with
          | normal => exact absurd hev (hne _ _)
          | exit i => exact ⟨rfl, k1, k2, m1, k3, k4⟩
          | ret => exact ⟨rfl, k1, k2, m1, k3, k4⟩
    exact wp_loop_rounds n (key n a m e h w hev hr he hn)
  | exit i =>
    intro d a m e h w x e' h' hc hev hr he hn
    cases d <;> simp [chkC] at hc
    subst hc
    simp only [evC, Option.some.injEq, Prod.mk.injEq] at hev
    obtain ⟨rfl, rfl, rfl⟩ := hev
    exact wp_exit ⟨rfl, rfl, hn, m, he, StepR.refl hr⟩
  | ret =>
    intro d a m e h w x e' h' hc hev hr he hn
    cases d <;> simp [chkC] at hc
    simp only [evC, Option.some.injEq, Prod.mk.injEq] at hev
    obtain ⟨rfl, rfl, rfl⟩ := hev
    exact wp_ret ⟨rfl, rfl, hn, m, he, StepR.refl hr⟩
  | bad =>
    intro d a m e h w x e' h' hc hev hr he hn
    simp [evC] at hev

def oneRes (tmps : Array Value) : ResultVar → Sem Value
  | .tmp t => pure (tmps.getD t undef)
  | .cell a t => do loadVar t (← asAddr (tmps.getD a undef))
theorem results_eq (fn : Func) (tmps : Array Value) : results fn tmps = (do
    let vs ← fn.results.mapM (oneRes tmps)
    pure (if h : vs.size = 1 then vs[0] else .tuple vs)) := rfl

theorem res_run : ∀ (rs : List ResultVar) (qs : List Res) {e : Env} {h : AH} {w : World} {m : Emb} {tmps : Array Value} {vs : List AV}, chkRes P rs qs = true → RelH F base m h w → RelEnv F m e tmps → resL e h qs = some vs →
    ∃ us : List Value, (rs.mapM (oneRes tmps)).run P w = .ok us w ∧ RelL F m vs us
  | [], [], e, h, w, m, tmps, vs, hc, hr, he, hv => by
    simp only [resL, Option.some.injEq] at hv
    subst hv
    exact ⟨[], by simp, by simp [RelL]⟩
  | [], _ :: _, e, h, w, m, tmps, vs, hc, hr, he, hv => by simp [chkRes] at hc
  | .tmp _ :: _, [], e, h, w, m, tmps, vs, hc, hr, he, hv => by simp [chkRes] at hc
  | .cell _ _ :: _, [], e, h, w, m, tmps, vs, hc, hr, he, hv => by simp [chkRes] at hc
  | .tmp _ :: _, .cell .. :: _, e, h, w, m, tmps, vs, hc, hr, he, hv => by simp [chkRes] at hc
  | .cell _ _ :: _, .tmp _ :: _, e, h, w, m, tmps, vs, hc, hr, he, hv => by simp [chkRes] at hc
  | .tmp t :: rs, .tmp t' :: qs, e, h, w, m, tmps, vs, hc, hr, he, hv => by
    simp only [chkRes, Bool.and_eq_true, decide_eq_true_eq] at hc
    obtain ⟨rfl, hc⟩ := hc
    simp only [resL, res1] at hv
    split at hv
    · rename_i v vs' h1 h2
      cases hv
      cases h1
      obtain ⟨us, hu, hrel⟩ := res_run rs qs hc hr he h2
      refine ⟨tmps.getD t undef :: us, ?_, ?_⟩
      · simp only [List.mapM_cons, oneRes, Sem.run_bind, Sem.run_pure, Result.andThen, hu]
      · simp only [RelL]; exact ⟨_, _, rfl, he t, hrel⟩
    · cases hv
  | .cell t ty :: rs, .cell agg n t' :: qs, e, h, w, m, tmps, vs, hc, hr, he, hv => by
    simp only [chkRes, Bool.and_eq_true, decide_eq_true_eq] at hc
    obtain ⟨⟨rfl, hsh⟩, hc⟩ := hc
    simp only [resL] at hv
    split at hv
    · rename_i v vs' h1 h2
      cases hv
      obtain ⟨us, hu, hrel⟩ := res_run rs qs hc hr he h2
      simp only [res1] at h1
      split at h1
      case h_2 => cases h1
      rename_i c k off mm hk
      have hx := he t
      rw [hk] at hx
      obtain ⟨p, hp, hv2, hlo, hext⟩ := rel_ptr hx
      split at h1
      case isFalse => cases h1
      rename_i hle
      split at h1
      case h_2 => cases h1
      rename_i cs hcs
      obtain ⟨ls, hls, hlen, hrun⟩ := hr.loads (P := P) hcs hp hlo (by omega)
      have hsh' := hsh
      simp only [shp, Bool.and_eq_true, Bool.or_eq_true] at hsh'
      obtain ⟨⟨g1, g2⟩, g3⟩ := hsh'
      have hlv : ∃ u, (loadVar ty ⟨p.blk, p.base + (off - p.lo), none⟩).run P w = .ok u w ∧ RelV F m v u := by
        rcases mkv_rel h1 hls with ⟨rfl, hrv⟩ | ⟨rfl, u, rfl, hrv⟩
        · exact ⟨_, by simp [loadVar, run_isAg g1, run_sz g2, hrun], hrv⟩
        · have hn : n = 1 := by simpa using g3
          subst hn
          have hrun' := hrun
          have hcell : w.cell? ⟨p.blk, p.base + (off - p.lo), none⟩ = some u := by
            obtain ⟨us', hus', hlen', hc'⟩ := hr.row_at hcs hp hlo (by omega)
            simp only [loadCells, loadCellsFrom, Sem.run_bind, addr_add, Nat.add_zero, run_load] at hrun'
            cases hcc : w.cell? ⟨p.blk, p.base + (off - p.lo), none⟩ with
            | some q => rw [hcc] at hrun'; simp at hrun'; rw [hrun']
            | none =>
              obtain ⟨q, hq⟩ : ∃ q, us'[0]? = some q := ⟨us'[0], by simp⟩
              have := hc' 0 q hq
              rw [Nat.add_zero, hcc] at this; cases this
          exact ⟨u, by simp [loadVar, run_isAg g1, hcell], hrv⟩
      obtain ⟨u, hlu, hru⟩ := hlv
      refine ⟨u :: us, ?_, ?_⟩
      · simp only [List.mapM_cons, oneRes, Sem.run_bind, hv2, asAddr, Sem.run_pure, Result.andThen, hlu, hu]
      · simp only [RelL]; exact ⟨_, _, rfl, hru, hrel⟩
    · cases hv

theorem results_run {fn : Func} {qs : List Res} {e : Env} {h : AH} {w : World} {m : Emb} {tmps : Array Value} {r : AV} (hc : chkRes P fn.results.toList qs = true) (hr : RelH F base m h w) (he : RelEnv F m e tmps) (hv : resV e h qs = some r) :
    ∃ v, (results fn tmps).run P w = .ok v w ∧ RelV F m r v := by
  unfold resV at hv
  have key : ∀ vs, resL e h qs = some vs → ∃ us : List Value, RelL F m vs us ∧ (results fn tmps).run P w = .ok (if h : us.toArray.size = 1 then us.toArray[0] else .tuple us.toArray) w := by
    intro vs hvs
    obtain ⟨us, h1, h2⟩ := res_run fn.results.toList qs hc hr he hvs
    refine ⟨us, h2, ?_⟩
    rw [results_eq, Array.mapM_eq_mapM_toList]
    simp only [Sem.run_bind, Sem.run_map, h1, Result.andThen, Sem.run_pure]
  split at hv
  · rename_i v hvs
    cases hv
    obtain ⟨us, h1, h2⟩ := key _ hvs
    simp only [RelL] at h1
    obtain ⟨u, l, rfl, hu, rfl⟩ := h1
    exact ⟨u, by rw [h2]; simp, hu⟩
  · rename_i vs hne hvs
    cases hv
    obtain ⟨us, h1, h2⟩ := key _ hvs
    refine ⟨.tuple us.toArray, ?_, by simp only [RelV]; exact ⟨_, rfl, by simpa using h1⟩⟩
    have hl := h1.length
    have hne1 : us.length ≠ 1 := by
      intro h0
      rw [h0] at hl
      match vs, hl with
      | [v], _ => exact hne v rfl
    rw [h2]
    simp [hne1]
  · cases hv

/-- What a contract of a function outside the table owes. -/
def ExtOk (P : Program) (F : Nat → Nat) (E : Ext) : Prop := ∀ f G, E f = some G → ∀ cf, Sound P F cf → ∀ xs h r h', G cf xs h = some (r, h') → fnOk P (F f) = true ∧ ∀ base m w args, RelH F base m h w → RelL F m xs args.toList →
    Calls P (F f) args w fun e w' => ∃ v m', e = .returned v ∧ RelV F m' r v ∧ StepR F base m h w m' h' w'

theorem sound {T : Nat → Option FI} {E : Ext} (hT : ∀ f fi, E f = none → T f = some fi → chkF P F f fi = true) (hE : ExtOk P F E) : ∀ n, Sound P F (evF T E n)
  | 0 => by intro f xs h r h' hev; simp [evF] at hev
  | n + 1 => by
    intro f xs h r h' hev
    simp only [evF] at hev
    split at hev
    · rename_i G hG
      exact hE f G hG _ (sound hT hE n) xs h r h' hev
    · rename_i hG
      split at hev
      case h_2 => cases hev
      rename_i fi hfi
      have hc := hT f fi hG hfi
      unfold chkF at hc
      split at hc
      case h_2 => cases hc
      rename_i fn hfn
      split at hc
      case h_2 => cases hc
      rename_i c hbody
      simp only [Bool.and_eq_true, Bool.not_eq_true'] at hc
      obtain ⟨⟨h1, h2⟩, h3⟩ := hc
      refine ⟨by simp [fnOk, hfn, hbody]; simpa using h1, ?_⟩
      intro base m w args hr hx
      refine calls_of_wp hfn hbody ?_
      have hlen := hx.length
      have he : RelEnv F m (Env.init 0 xs) (args ++ Array.replicate (fn.ntmps - args.size) undef) := by
        intro t
        rw [init_get]
        split
        · rename_i ht
          have hlt : t < xs.length := by omega
          obtain ⟨v, hv, hxv⟩ := hx.get t xs[t] (by simp)
          have h0 : xs.getD (t - 0) .undef = xs[t] := by simp [List.getD_eq_getElem?_getD, hlt]
          rw [h0]
          rw [Array.getElem?_toList] at hv
          have : (args ++ Array.replicate (fn.ntmps - args.size) undef).getD t undef = v := by
            rw [Array.getD_eq_getD_getElem?, Array.getElem?_append_left (by simp at hlen; omega), hv]; rfl
          rw [this]; exact hxv
        · simp only [RelV]
      have hn : fn.ntmps ≤ (args ++ Array.replicate (fn.ntmps - args.size) undef).size := by simp; omega
      have main : ∀ x e' h1', evC (evF T E n) n fi.body (Env.init 0 xs) h = some (x, e', h1') → (x = .normal ∨ x = .ret) → (resV e' h1' fi.res).map (·, h1') = some (r, h') →
          c.wp P (bodyPost P fn fun ee w' => ∃ v m', ee = .returned v ∧ RelV F m' r v ∧ StepR F base m h w m' h' w') { tmps := args ++ Array.replicate (fn.ntmps - args.size) undef, defers := [] } w := by
        intro x e' h1' hev hx' hres
        refine wp_mono (code_sound (sound hT hE n) n fi.body c _ m _ h w x e' h1' h2 hev hr he hn) ?_
        rintro ee a' w' ⟨rfl, k1, k2, m', k3, k4⟩
        simp only [Option.map_eq_some_iff, Prod.mk.injEq] at hres
        obtain ⟨r', hres, rfl, rfl⟩ := hres
        obtain ⟨v, hv, hrv⟩ := results_run h3 k4.rel k3 hres
        rcases hx' with rfl | rfl
        · exact ⟨k1, v, hv, v, m', rfl, hrv, k4⟩
        · exact ⟨k1, v, hv, v, m', rfl, hrv, k4⟩
      split at hev
      · rename_i e' h1' hc'
        exact main _ e' h1' hc' (.inl rfl) hev
      · rename_i e' h1' hc'
        exact main _ e' h1' hc' (.inr rfl) hev
      · cases hev

end
end Go.Proofs.YtgdlaopjabjkbaaGreatDoor.Ab

/- THE SEAT's numbers of functions, and that the bodies are the program's. -/
namespace Go.Proofs.YtgdlaopjabjkbaaGreatDoor.Ab
open Go

def F : Nat → Nat := fun n => [0, 0, 0, 0, 0, 0, 0, 0, 0, 0, 0, 0, 0, 0, 0, 0, 0, 0, 0, 0, 0, 0, 0, 0, 0, 0, 0, 0, 0, 0, 0, 0, 0, 0, 0, 0, 0, 0, 0, 0, 0, 0, 0, 0, 0, 0, 0, 0, 0, 0, 0, 0, 0, 0, 0, 0, 0, 0, 0, 0, 34, 46, 0, 0, 0, 0, 0, 0, 32, 0, 0, 0, 0, 0, 42, 0, 0, 22, 0, 0, 0, 0, 29, 0, 0, 0, 0, 0, 0, 0, 0, 0, 0, 0, 0, 0, 0, 0, 0, 0, 0, 0, 0, 48, 23, 0, 0, 0, 39, 50, 0, 43, 0, 0, 0, 0, 0, 0, 0, 0, 0, 0, 0, 0, 0, 0, 0, 0, 0, 0, 0, 59, 0, 47, 0, 0, 0, 0, 0, 0, 0, 0, 0, 0, 0, 0, 0, 0, 0, 0, 0, 0, 0, 0, 0, 0, 0, 0, 0, 0, 0, 0, 0, 0, 0, 0, 0, 0, 0, 0, 0, 0, 0, 0, 0, 0, 0, 0, 0, 0, 0, 0, 0, 0, 41, 0, 0, 0, 0, 0, 105, 0, 0, 0, 30, 0, 0, 0, 0, 0, 0, 0, 0, 0, 0, 0, 38, 0, 0, 0, 0, 0, 0, 0, 0, 0, 0, 0, 0, 0, 0, 0, 0, 0, 0, 0, 0, 9, 0, 0, 0, 0, 0, 0, 0, 0, 0, 0, 0, 0, 18, 0, 0, 0, 0, 0, 0, 0, 0, 0, 0, 0, 0, 0, 0, 36, 0, 0, 0, 0, 0, 0, 0, 0, 0, 0, 0, 0, 0, 0, 0, 0, 0, 0, 0, 0, 74, 0, 0, 0, 0, 0, 0, 0, 0, 0, 0, 0, 101, 102, 0, 0, 0, 0, 0, 0, 0, 0, 0, 0, 0, 0, 0, 0, 0, 0, 54, 75, 0, 0, 0, 0, 0, 0, 0, 0, 0, 0, 0, 0, 0, 0, 0, 0, 0, 14, 0, 0, 12, 0, 15, 16, 35, 24, 25, 19, 11, 21, 26, 28, 27, 31, 49, 51, 52, 37, 17, 20, 72, 73, 53, 33, 86, 87, 88, 89, 90, 91, 92, 93, 100, 103, 104, 107, 3, 5, 7, 6, 8, 4, 10, 13].getD n 0
theorem chk364 : chkF Go.Proofs.Tryz.prog F 364 fi364 = true := by decide +kernel
theorem chk369 : chkF Go.Proofs.Tryz.prog F 369 fi369 = true := by decide +kernel
theorem chk365 : chkF Go.Proofs.Tryz.prog F 365 fi365 = true := by decide +kernel
theorem chk367 : chkF Go.Proofs.Tryz.prog F 367 fi367 = true := by decide +kernel
theorem chk366 : chkF Go.Proofs.Tryz.prog F 366 fi366 = true := by decide +kernel
theorem chk368 : chkF Go.Proofs.Tryz.prog F 368 fi368 = true := by decide +kernel
theorem chk227 : chkF Go.Proofs.Tryz.prog F 227 fi227 = true := by decide +kernel
theorem chk370 : chkF Go.Proofs.Tryz.prog F 370 fi370 = true := by decide +kernel
theorem chk336 : chkF Go.Proofs.Tryz.prog F 336 fi336 = true := by decide +kernel
theorem chk328 : chkF Go.Proofs.Tryz.prog F 328 fi328 = true := by decide +kernel
theorem chk371 : chkF Go.Proofs.Tryz.prog F 371 fi371 = true := by decide +kernel
theorem chk325 : chkF Go.Proofs.Tryz.prog F 325 fi325 = true := by decide +kernel
theorem chk330 : chkF Go.Proofs.Tryz.prog F 330 fi330 = true := by decide +kernel
theorem chk331 : chkF Go.Proofs.Tryz.prog F 331 fi331 = true := by decide +kernel
theorem chk346 : chkF Go.Proofs.Tryz.prog F 346 fi346 = true := by decide +kernel
theorem chk240 : chkF Go.Proofs.Tryz.prog F 240 fi240 = true := by decide +kernel
theorem chk335 : chkF Go.Proofs.Tryz.prog F 335 fi335 = true := by decide +kernel
theorem chk347 : chkF Go.Proofs.Tryz.prog F 347 fi347 = true := by decide +kernel
theorem chk337 : chkF Go.Proofs.Tryz.prog F 337 fi337 = true := by decide +kernel
theorem chk77 : chkF Go.Proofs.Tryz.prog F 77 fi77 = true := by decide +kernel
theorem chk104 : chkF Go.Proofs.Tryz.prog F 104 fi104 = true := by decide +kernel
theorem chk333 : chkF Go.Proofs.Tryz.prog F 333 fi333 = true := by decide +kernel
theorem chk334 : chkF Go.Proofs.Tryz.prog F 334 fi334 = true := by decide +kernel
theorem chk340 : chkF Go.Proofs.Tryz.prog F 340 fi340 = true := by decide +kernel
theorem chk339 : chkF Go.Proofs.Tryz.prog F 339 fi339 = true := by decide +kernel
theorem chk82 : chkF Go.Proofs.Tryz.prog F 82 fi82 = true := by decide +kernel
theorem chk68 : chkF Go.Proofs.Tryz.prog F 68 fi68 = true := by decide +kernel
theorem chk351 : chkF Go.Proofs.Tryz.prog F 351 fi351 = true := by decide +kernel
theorem chk60 : chkF Go.Proofs.Tryz.prog F 60 fi60 = true := by decide +kernel
theorem chk332 : chkF Go.Proofs.Tryz.prog F 332 fi332 = true := by decide +kernel
theorem chk345 : chkF Go.Proofs.Tryz.prog F 345 fi345 = true := by decide +kernel
theorem chk206 : chkF Go.Proofs.Tryz.prog F 206 fi206 = true := by decide +kernel
theorem chk108 : chkF Go.Proofs.Tryz.prog F 108 fi108 = true := by decide +kernel
theorem chk184 : chkF Go.Proofs.Tryz.prog F 184 fi184 = true := by decide +kernel
theorem chk74 : chkF Go.Proofs.Tryz.prog F 74 fi74 = true := by decide +kernel
theorem chk61 : chkF Go.Proofs.Tryz.prog F 61 fi61 = true := by decide +kernel
theorem chk133 : chkF Go.Proofs.Tryz.prog F 133 fi133 = true := by decide +kernel
theorem chk103 : chkF Go.Proofs.Tryz.prog F 103 fi103 = true := by decide +kernel
theorem chk342 : chkF Go.Proofs.Tryz.prog F 342 fi342 = true := by decide +kernel
theorem chk109 : chkF Go.Proofs.Tryz.prog F 109 fi109 = true := by decide +kernel
theorem chk344 : chkF Go.Proofs.Tryz.prog F 344 fi344 = true := by decide +kernel
theorem chk350 : chkF Go.Proofs.Tryz.prog F 350 fi350 = true := by decide +kernel
theorem chk306 : chkF Go.Proofs.Tryz.prog F 306 fi306 = true := by decide +kernel
theorem chk348 : chkF Go.Proofs.Tryz.prog F 348 fi348 = true := by decide +kernel
theorem chk349 : chkF Go.Proofs.Tryz.prog F 349 fi349 = true := by decide +kernel
theorem chk307 : chkF Go.Proofs.Tryz.prog F 307 fi307 = true := by decide +kernel
theorem chk352 : chkF Go.Proofs.Tryz.prog F 352 fi352 = true := by decide +kernel
theorem chk353 : chkF Go.Proofs.Tryz.prog F 353 fi353 = true := by decide +kernel
theorem chk354 : chkF Go.Proofs.Tryz.prog F 354 fi354 = true := by decide +kernel
theorem chk355 : chkF Go.Proofs.Tryz.prog F 355 fi355 = true := by decide +kernel
theorem chk356 : chkF Go.Proofs.Tryz.prog F 356 fi356 = true := by decide +kernel
theorem chk357 : chkF Go.Proofs.Tryz.prog F 357 fi357 = true := by decide +kernel
theorem chk358 : chkF Go.Proofs.Tryz.prog F 358 fi358 = true := by decide +kernel
theorem chk359 : chkF Go.Proofs.Tryz.prog F 359 fi359 = true := by decide +kernel
theorem chk360 : chkF Go.Proofs.Tryz.prog F 360 fi360 = true := by decide +kernel
theorem chk288 : chkF Go.Proofs.Tryz.prog F 288 fi288 = true := by decide +kernel
theorem chk361 : chkF Go.Proofs.Tryz.prog F 361 fi361 = true := by decide +kernel
theorem chk362 : chkF Go.Proofs.Tryz.prog F 362 fi362 = true := by decide +kernel
theorem chk363 : chkF Go.Proofs.Tryz.prog F 363 fi363 = true := by decide +kernel
theorem hT : ∀ f fi, E f = none → T f = some fi → chkF Go.Proofs.Tryz.prog F f fi = true := by
  have all : ∀ x ∈ tab, chkF Go.Proofs.Tryz.prog F x.1 x.2 = true := by
    intro x hx
    simp only [tab, List.mem_cons, List.not_mem_nil, or_false] at hx
    rcases hx with rfl | rfl | rfl | rfl | rfl | rfl | rfl | rfl | rfl | rfl | rfl | rfl | rfl | rfl | rfl | rfl | rfl | rfl | rfl | rfl | rfl | rfl | rfl | rfl | rfl | rfl | rfl | rfl | rfl | rfl | rfl | rfl | rfl | rfl | rfl | rfl | rfl | rfl | rfl | rfl | rfl | rfl | rfl | rfl | rfl | rfl | rfl | rfl | rfl | rfl | rfl | rfl | rfl | rfl | rfl | rfl | rfl | rfl | rfl
    · exact chk364
    · exact chk369
    · exact chk365
    · exact chk367
    · exact chk366
    · exact chk368
    · exact chk227
    · exact chk370
    · exact chk336
    · exact chk328
    · exact chk371
    · exact chk325
    · exact chk330
    · exact chk331
    · exact chk346
    · exact chk240
    · exact chk335
    · exact chk347
    · exact chk337
    · exact chk77
    · exact chk104
    · exact chk333
    · exact chk334
    · exact chk340
    · exact chk339
    · exact chk82
    · exact chk68
    · exact chk351
    · exact chk60
    · exact chk332
    · exact chk345
    · exact chk206
    · exact chk108
    · exact chk184
    · exact chk74
    · exact chk61
    · exact chk133
    · exact chk103
    · exact chk342
    · exact chk109
    · exact chk344
    · exact chk350
    · exact chk306
    · exact chk348
    · exact chk349
    · exact chk307
    · exact chk352
    · exact chk353
    · exact chk354
    · exact chk355
    · exact chk356
    · exact chk357
    · exact chk358
    · exact chk359
    · exact chk360
    · exact chk288
    · exact chk361
    · exact chk362
    · exact chk363
  intro f fi _ h
  simp only [T, Option.map_eq_some_iff] at h
  obtain ⟨x, hx, rfl⟩ := h
  have h1 := List.find?_some hx
  have h2 := List.mem_of_find?_eq_some hx
  have h3 : x.1 = f := by simpa using h1
  rw [← h3]; exact all x h2
end Go.Proofs.YtgdlaopjabjkbaaGreatDoor.Ab

/- FOR CONTRACTS outside the table: calls that turn nothing old. -/
namespace Go.Proofs.YtgdlaopjabjkbaaGreatDoor.Ab
open Go Go.RowKit

theorem StepR.grown {F : Nat → Nat} {base : Nat} {m : Emb} {h : AH} {w w' : World} (hr : RelH F base m h w) (hold : ∀ b : Nat, b < w.heap.size → w'.heap[b]? = w.heap[b]?) (hsz : w.heap.size ≤ w'.heap.size) (ho : w'.os = w.os) (ht : w'.tape = w.tape) (hu : w'.output = w.output) : StepR F base m h w m h w' := by
  refine ⟨Emb.le_refl m, ⟨hr.rowc, hr.objc, ?_, hr.inj, hr.injo, hr.injr, ?_, ?_, hr.vers, Nat.le_trans hr.le hsz⟩, ho, ht, hu, hsz, fun b hb _ => hold b hb, fun _ _ _ h => .inl h, fun _ _ h => .inl h, fun _ _ _ => rfl, Nat.le_refl _⟩
  · intro c ob hc
    exact ObjRel.keep (hr.ob c ob hc) (Emb.le_refl m) (fun _ _ h => h) (fun _ h => h) (fun k p hp => hold _ (hr.ltr c k p hp)) (fun b hb => hold _ (hr.lto c b hb))
  · intro c k p hp; exact Nat.lt_of_lt_of_le (hr.ltr c k p hp) hsz
  · intro c b hb; exact Nat.lt_of_lt_of_le (hr.lto c b hb) hsz
theorem StepR.below' {F : Nat → Nat} {base : Nat} {m : Emb} {h : AH} {w w' : World} (hr : RelH F base m h w) (hb : Below w.heap.size w w') : StepR F base m h w m h w' :=
  StepR.grown hr hb.block hb.size hb.os hb.tape hb.output

/-- A contract of one function. -/
def ExtAt (P : Program) (F : Nat → Nat) (f : Nat) (G : List AV → Option AV) : Prop :=
  ∀ xs r, G xs = some r → fnOk P (F f) = true ∧ ∀ (m : Emb) (w : World) (args : Array Value), RelL F m xs args.toList →
    Calls P (F f) args w fun e w' => ∃ v, e = .returned v ∧ RelV F m r v ∧ Below w.heap.size w w'
/-- .. that reads the heap. -/
def ExtAtH (P : Program) (F : Nat → Nat) (f : Nat) (G : List AV → AH → Option AV) : Prop :=
  ∀ xs h r, G xs h = some r → fnOk P (F f) = true ∧ ∀ (base : Nat) (m : Emb) (w : World) (args : Array Value), RelH F base m h w → RelL F m xs args.toList →
    Calls P (F f) args w fun e w' => ∃ v, e = .returned v ∧ RelV F m r v ∧ Below w.heap.size w w'
theorem ExtAt.h {P : Program} {F : Nat → Nat} {f : Nat} {G : List AV → Option AV} (hG : ExtAt P F f G) : ExtAtH P F f fun xs _ => G xs := fun xs _ r hr => by
  obtain ⟨h1, h2⟩ := hG xs r hr
  exact ⟨h1, fun _ m w args _ hx => h2 m w args hx⟩
theorem ext_pure {P : Program} {F : Nat → Nat} {f : Nat} {G : List AV → AH → Option AV} (hG : ExtAtH P F f G) (cf : CF) (xs : List AV) (h : AH) (r : AV) (h' : AH) (hev : pureX G cf xs h = some (r, h')) : fnOk P (F f) = true ∧ ∀ base m w args, RelH F base m h w → RelL F m xs args.toList →
    Calls P (F f) args w fun e w' => ∃ v m', e = .returned v ∧ RelV F m' r v ∧ StepR F base m h w m' h' w' := by
  simp only [pureX, Option.map_eq_some_iff, Prod.mk.injEq] at hev
  obtain ⟨r', hr', rfl, rfl⟩ := hev
  obtain ⟨h1, h2⟩ := hG xs h r' hr'
  refine ⟨h1, fun base m w args hr hx => (h2 base m w args hr hx).mono ?_⟩
  rintro e w' ⟨v, rfl, hv, hb⟩
  exact ⟨v, m, rfl, hv, StepR.below' hr hb⟩
/-- .. that turns the heap. -/
def ExtAtW (P : Program) (F : Nat → Nat) (f : Nat) (G : List AV → AH → Option (AV × AH)) : Prop :=
  ∀ xs h r h', G xs h = some (r, h') → fnOk P (F f) = true ∧ ∀ (base : Nat) (m : Emb) (w : World) (args : Array Value), RelH F base m h w → RelL F m xs args.toList →
    Calls P (F f) args w fun e w' => ∃ v m', e = .returned v ∧ RelV F m' r v ∧ StepR F base m h w m' h' w'
/-- .. that leans on calls. -/
def ExtAtZ (P : Program) (F : Nat → Nat) (f : Nat) (G : CF → List AV → AH → Option (AV × AH)) : Prop := ∀ cf, Sound P F cf → ExtAtW P F f (G cf)
theorem ext_ok {P : Program} {F : Nat → Nat} (h : ∀ x ∈ xtab, ExtAtH P F x.1 x.2) (h2 : ∀ x ∈ ytab, ExtAtW P F x.1 x.2) (h4 : ∀ x ∈ ztab, ExtAtZ P F x.1 x.2) : ExtOk P F E := by
  intro f G hf cf hcf xs hh r h' hev
  unfold E at hf
  split at hf
  · rename_i x hx
    cases hf
    have h1 := List.find?_some hx
    have h3 : x.1 = f := by simpa using h1
    have := ext_pure (h x (List.mem_of_find?_eq_some hx)) cf xs hh r h' hev
    rwa [h3] at this
  · split at hf
    · rename_i x hx
      cases hf
      have h1 := List.find?_some hx
      have h3 : x.1 = f := by simpa using h1
      have := h2 x (List.mem_of_find?_eq_some hx) xs hh r h' hev
      rwa [h3] at this
    · simp only [Option.map_eq_some_iff] at hf
      obtain ⟨x, hx, rfl⟩ := hf
      have h1 := List.find?_some hx
      have h3 : x.1 = f := by simpa using h1
      have := h4 x (List.mem_of_find?_eq_some hx) cf hcf xs hh r h' hev
      rwa [h3] at this

/-! ### Writes, by the model's own words -/
theorem wr_cells {F : Nat → Nat} {base : Nat} {m : Emb} {h : AH} {w : World} (hr : RelH F base m h w) {c k off : Nat} {xs : List AV} {h' : AH} (hw : wrRow h c k off xs = some h') {p : Place} (hp : m.row c k = some p) (hlo : p.lo ≤ off) (hext : off + xs.length ≤ p.ext) :
    ∀ j, j < xs.length → (w.cell? ⟨p.blk, p.base + (off - p.lo) + j, none⟩).isSome = true ∧ w.frozen? ⟨p.blk, p.base + (off - p.lo) + j, none⟩ = false := by
  unfold wrRow at hw
  split at hw
  · rename_i cs ver fl hc
    split at hw
    · rename_i hcond
      obtain ⟨rfl, hfl, hl, hsc⟩ := hcond
      obtain ⟨_, h2, h3, h4, C, e, fr, hg, hs, hb, hf, hcell⟩ := hr.ob c _ hc k p hp hfl
      intro j hj
      have hlt : p.base + (off - p.lo) + j < C.size := by omega
      have hf' := hf rfl
      constructor
      · simp only [World.cell?, hg, Option.isSome_none, Bool.false_eq_true, if_false]
        rw [Array.getElem?_eq_getElem hlt]; rfl
      · simp only [World.frozen?, hg]
        rcases hf' with h | h
        · simp; omega
        · simp; omega
    · cases hw
  · cases hw
theorem wr_set {P : Program} {F : Nat → Nat} {base : Nat} {m : Emb} {h : AH} {w : World} (hr : RelH F base m h w) {c k off : Nat} {xs : List AV} {h' : AH} (hw : wrRow h c k off xs = some h') {p : Place} (hp : m.row c k = some p) (hlo : p.lo ≤ off) (hext : off + xs.length ≤ p.ext) {vs : List Value} (hvs : RelL F m xs vs) (hone : ∀ v ∈ vs, v.oneCell' = true) :
    StepR F base m h w m h' (w.setCells p.blk (p.base + (off - p.lo)) vs) := by
  obtain ⟨w', h1, h2⟩ := wr_step (P := P) hr hw hp hlo hext hvs
  have hl := hvs.length
  have hc := wr_cells hr hw hp hlo hext
  have h3 := run_storeCells_cells (P := P) p.blk (p.base + (off - p.lo)) vs 0 w (fun j hj => by simpa using (hc j (by omega)).1) (fun j hj => by simpa using (hc j (by omega)).2) hone
  rw [h1] at h3
  cases h3
  exact h2
/-- 'clear(s)' at elements of three numbers. -/
theorem run_clear3 {P : Program} (w : World) (t e ty : TypeId) (z : Value) (ht : P.underlying t = some (.slice e)) (hv : ∀ w, (zeroValue e).run P w = .ok z w) (hz : z.cells = #[.int .i64 0, .int .i64 0, .int .i64 0]) (b o n c : Nat) (hn : 0 < n)
    (hc : ∀ j, j < n * 3 → (w.cell? ⟨b, o + j, none⟩).isSome = true) (hf : ∀ j, j < n * 3 → w.frozen? ⟨b, o + j, none⟩ = false) :
    (Builtin.clear_ #[t] ty #[.slice (some ⟨b, o, none⟩) n c]).run P w = .ok (.tuple #[]) (w.setCells b o (List.replicate (n * 3) (.int .i64 0))) := by
  have hzc : (Builtin.zeroCells z.cells n).toList = List.replicate (n * 3) (.int .i64 0) := by
    rw [hz]
    simp only [Builtin.zeroCells]
    apply List.ext_getElem
    · simp
    · intro i h1 h2
      have : i % 3 = 0 ∨ i % 3 = 1 ∨ i % 3 = 2 := by omega
      rcases this with h | h | h <;> simp [h]
  have hst := run_storeCells_cells (P := P) b o (List.replicate (n * 3) (.int .i64 0)) 0 w (by simpa using hc) (by simpa using hf) (by intro v hv'; rw [List.eq_of_mem_replicate hv']; rfl)
  simp only [Nat.add_zero] at hst
  obtain ⟨m, rfl⟩ : ∃ m, n = m + 1 := ⟨n - 1, by omega⟩
  simp [Builtin.clear_, run_underlying ht, hv, hzc, hst]
end Go.Proofs.YtgdlaopjabjkbaaGreatDoor.Ab

/-
  DERIVED: THE SHELF's CONTRACTS AT THIS DUMP, IN PLAIN WORDS (tools/lay-plain.mjs out of 'TryzShelf.lean', which tools/lay-shelf.mjs wrote): THE SAME DECLARATIONS UNDER THE SAME NAMES: 'import', 'namespace', 'open', 'def', 'theorem' AND NOTHING ELSE: no command of the shelf's: FOR A HAND-IN. Each laying: the table of numbers ('.._ren') and one theorem, a field a fact of the dump's own or the kernel's comparison; each contract: ONE APPLICATION.
-/
namespace Go.Proofs
open Go.Shelf
def Tryz.lays169_ren : Go.Shelf.Ren := ⟨fun | 169 => 57 | n => n, fun | 70 => 83 | 9 => 9 | 0 => 0 | 72 => 86 | 37 => 84 | 127 => 110 | 3 => 3 | 5 => 5 | n => n, fun | n => n⟩
theorem Tryz.lays169 : Go.Proofs.Lays.n169 Tryz.prog Tryz.lays169_ren := {
  mixed := by kernel_rfl
  f169 := Tryz.func57.trans (congrArg some (by kernel_rfl))
  t0 := Tryz.underlying0
  a0 := Tryz.isAgg0
  z0 := Tryz.sizeOf0
  v0 := Tryz.zeroValue0
  t3 := Tryz.underlying3
  a3 := Tryz.isAgg3
  z3 := Tryz.sizeOf3
  v3 := Tryz.zeroValue3
  t9 := Tryz.underlying9
  a9 := Tryz.isAgg9
  z9 := Tryz.sizeOf9
  v9 := Tryz.zeroValue9
  t37 := Tryz.underlying84
  a37 := Tryz.isAgg84
  z37 := Tryz.sizeOf84
  v37 := Tryz.zeroValue84
  t70 := Tryz.underlying83
  a70 := Tryz.isAgg83
  z70 := Tryz.sizeOf83
  v70 := Tryz.zeroValue83
  t72 := Tryz.underlying86
  a72 := Tryz.isAgg86
  z72 := Tryz.sizeOf86
  v72 := Tryz.zeroValue86
  t127 := Tryz.underlying110
  a127 := Tryz.isAgg110
  z127 := Tryz.sizeOf110
  v127 := Tryz.zeroValue110 }
theorem Tryz.Builder_Extra_169 : Builder.Extra Tryz.prog Tryz.lays169_ren := {
  sizeBuilder := by kernel_rfl
  liesBuilder := by kernel_rfl
  t5 := Tryz.underlying5
  a5 := Tryz.isAgg5
  z5 := Tryz.sizeOf5
  v5 := Tryz.zeroValue5
  infoByte := by kernel_rfl
  cellsByte := by kernel_rfl
  sizeByte := by kernel_rfl
  neB5 := by decide }
open Go.RowKit in
/-- (*strings.Builder).String: "String returns the accumulated string.": OF A BUILDER THAT HOLDS AT LEAST ONE BYTE. ✋ THE MODEL FREEZES THOSE BYTES IN THE BUFFER (unsafe.String): a later write INTO them ends the model's run without an answer; a later append BEHIND them goes on. The statement's order of evaluation is drawn: one draw. (LAID: no walk: one application.) -/
theorem Tryz.Builder_String (B b : Nat) (l : List UInt8) (w : World) (h : Lib.IsBuilder 86 5 B b (Lib.byteCells l) w) (h0 : l ≠ []) :
    Calls Tryz.prog 57 #[.pointer (some ⟨b, 0, none⟩)] w fun e w' => e = .returned (.string ⟨l.toArray⟩) ∧ Below B w w' := Any.Builder_String Tryz.lays169 Tryz.Builder_Extra_169 B b l w h h0
open Go.RowKit in
/-- (*strings.Builder).String OF A BUILDER THAT HOLDS NO BYTE: the empty string. (Its buffer is nil, or a row of which it has taken nothing yet; where that row has NO capacity the model lays one new block for unsafe.SliceData's 'some address'.) One draw. (LAID: no walk: one application.) -/
theorem Tryz.Builder_String_empty (B b : Nat) (w : World) (h : Lib.IsBuilder 86 5 B b [] w) (hBw : B ≤ w.heap.size) :
    Calls Tryz.prog 57 #[.pointer (some ⟨b, 0, none⟩)] w fun e w' => e = .returned (.string ⟨#[]⟩) ∧ Below B w w' := Any.Builder_String_empty Tryz.lays169 Tryz.Builder_Extra_169 B b w h hBw
open Go.RowKit in
/-- (*strings.Builder).String: "String returns the accumulated string.": WHATEVER THE BUILDER HOLDS. (LAID: no walk: one application.) -/
theorem Tryz.Builder_String_any (B b : Nat) (l : List UInt8) (w : World) (h : Lib.IsBuilder 86 5 B b (Lib.byteCells l) w) (hBw : B ≤ w.heap.size) :
    Calls Tryz.prog 57 #[.pointer (some ⟨b, 0, none⟩)] w fun e w' => e = .returned (.string ⟨l.toArray⟩) ∧ Below B w w' := Any.Builder_String_any Tryz.lays169 Tryz.Builder_Extra_169 B b l w h hBw
def Tryz.lays241_ren : Go.Shelf.Ren := ⟨fun | 241 => 77 | 277 => 97 | n => n, fun | 70 => 83 | 3 => 3 | 0 => 0 | 72 => 86 | 37 => 84 | 5 => 5 | n => n, fun | n => n⟩
theorem Tryz.lays241 : Go.Proofs.Lays.n241 Tryz.prog Tryz.lays241_ren := {
  mixed := by kernel_rfl
  f241 := Tryz.func77.trans (congrArg some (by kernel_rfl))
  f277 := Tryz.func97.trans (congrArg some (by kernel_rfl))
  t0 := Tryz.underlying0
  a0 := Tryz.isAgg0
  z0 := Tryz.sizeOf0
  v0 := Tryz.zeroValue0
  t3 := Tryz.underlying3
  a3 := Tryz.isAgg3
  z3 := Tryz.sizeOf3
  v3 := Tryz.zeroValue3
  t37 := Tryz.underlying84
  a37 := Tryz.isAgg84
  z37 := Tryz.sizeOf84
  v37 := Tryz.zeroValue84
  t70 := Tryz.underlying83
  a70 := Tryz.isAgg83
  z70 := Tryz.sizeOf83
  v70 := Tryz.zeroValue83
  t72 := Tryz.underlying86
  a72 := Tryz.isAgg86
  z72 := Tryz.sizeOf86
  v72 := Tryz.zeroValue86 }
theorem Tryz.Builder_Extra_241 : Builder.Extra Tryz.prog Tryz.lays241_ren := {
  sizeBuilder := by kernel_rfl
  liesBuilder := by kernel_rfl
  t5 := Tryz.underlying5
  a5 := Tryz.isAgg5
  z5 := Tryz.sizeOf5
  v5 := Tryz.zeroValue5
  infoByte := by kernel_rfl
  cellsByte := by kernel_rfl
  sizeByte := by kernel_rfl
  neB5 := by decide }
open Go.RowKit in
/-- (*strings.Builder).grow (no doc but "grow copies the buffer to a new, larger buffer so that there are at least n bytes of capacity beyond len(b.buf)."): AT A BUILDER WITHOUT A BUFFER: a new row of whatever bytes for its buffer, none of them its own yet. Three draws. (LAID: no walk: one application.) -/
theorem Tryz.Builder_grow_fresh (B b n : Nat) (w : World) (hB : B ≤ b) (hbk : w.heap[b]? = some (.cells #[.pointer (some ⟨b, 0, none⟩), .slice none 0 0] 86 (0, 0))) (hBw : B ≤ w.heap.size) (hn : n ≤ 281474976710656) :
    Calls Tryz.prog 77 #[.pointer (some ⟨b, 0, none⟩), .int .i64 n] w fun e w' => e = .returned (.tuple #[]) ∧ (Lib.BuilderAt 86 5 B b (.pointer (some ⟨b, 0, none⟩)) [] w' ∧ Below B w w') := Any.Builder_grow_fresh Tryz.lays241 Tryz.Builder_Extra_241 B b n w hB hbk hBw hn
def Tryz.lays165_ren : Go.Shelf.Ren := ⟨fun | 165 => 55 | 240 => 76 | 241 => 77 | 276 => 96 | 277 => 97 | n => n, fun | 70 => 83 | 3 => 3 | 0 => 0 | 4 => 4 | 9 => 9 | 20 => 20 | 72 => 86 | 37 => 84 | 164 => 127 | 5 => 5 | n => n, fun | n => n⟩
theorem Tryz.lays165 : Go.Proofs.Lays.n165 Tryz.prog Tryz.lays165_ren := {
  mixed := by kernel_rfl
  f165 := Tryz.func55.trans (congrArg some (by kernel_rfl))
  f240 := Tryz.func76.trans (congrArg some (by kernel_rfl))
  f241 := Tryz.func77.trans (congrArg some (by kernel_rfl))
  f276 := Tryz.func96.trans (congrArg some (by kernel_rfl))
  f277 := Tryz.func97.trans (congrArg some (by kernel_rfl))
  t0 := Tryz.underlying0
  a0 := Tryz.isAgg0
  z0 := Tryz.sizeOf0
  v0 := Tryz.zeroValue0
  t3 := Tryz.underlying3
  a3 := Tryz.isAgg3
  z3 := Tryz.sizeOf3
  v3 := Tryz.zeroValue3
  t4 := Tryz.underlying4
  a4 := Tryz.isAgg4
  z4 := Tryz.sizeOf4
  v4 := Tryz.zeroValue4
  t9 := Tryz.underlying9
  a9 := Tryz.isAgg9
  z9 := Tryz.sizeOf9
  v9 := Tryz.zeroValue9
  t20 := Tryz.underlying20
  a20 := Tryz.isAgg20
  z20 := Tryz.sizeOf20
  v20 := Tryz.zeroValue20
  t37 := Tryz.underlying84
  a37 := Tryz.isAgg84
  z37 := Tryz.sizeOf84
  v37 := Tryz.zeroValue84
  t70 := Tryz.underlying83
  a70 := Tryz.isAgg83
  z70 := Tryz.sizeOf83
  v70 := Tryz.zeroValue83
  t72 := Tryz.underlying86
  a72 := Tryz.isAgg86
  z72 := Tryz.sizeOf86
  v72 := Tryz.zeroValue86
  t164 := Tryz.underlying127
  a164 := Tryz.isAgg127
  z164 := Tryz.sizeOf127
  v164 := Tryz.zeroValue127 }
theorem Tryz.Builder_Extra_165 : Builder.Extra Tryz.prog Tryz.lays165_ren := {
  sizeBuilder := by kernel_rfl
  liesBuilder := by kernel_rfl
  t5 := Tryz.underlying5
  a5 := Tryz.isAgg5
  z5 := Tryz.sizeOf5
  v5 := Tryz.zeroValue5
  infoByte := by kernel_rfl
  cellsByte := by kernel_rfl
  sizeByte := by kernel_rfl
  neB5 := by decide }
open Go.RowKit in
/-- (*strings.Builder).Grow AT A BUILDER THAT HAS NOT BEEN WRITTEN ('var b strings.Builder; b.Grow(n)'): "Grow grows b's capacity, if necessary, to guarantee space for another n bytes.": it holds no byte behind it as before it. (LAID: no walk: one application.) -/
theorem Tryz.Builder_Grow_fresh (B b n : Nat) (w : World) (hB : B ≤ b) (hbk : w.heap[b]? = some (.cells #[.pointer none, .slice none 0 0] 86 (0, 0))) (hBw : B ≤ w.heap.size) (hn : n ≤ 281474976710656) :
    Calls Tryz.prog 55 #[.pointer (some ⟨b, 0, none⟩), .int .i64 n] w fun e w' => e = .returned (.tuple #[]) ∧ (Lib.BuilderAt 86 5 B b (.pointer (some ⟨b, 0, none⟩)) [] w' ∧ Below B w w') := Any.Builder_Grow_fresh Tryz.lays165 Tryz.Builder_Extra_165 B b n w hB hbk hBw hn
def Tryz.lays156_ren : Go.Shelf.Ren := ⟨fun | 156 => 36 | 165 => 55 | 166 => 56 | 169 => 57 | 240 => 76 | 241 => 77 | 276 => 96 | 277 => 97 | n => n, fun | 31 => 32 | 9 => 9 | 3 => 3 | 4 => 4 | 0 => 0 | 20 => 20 | 72 => 86 | 76 => 90 | 70 => 83 | 37 => 84 | 75 => 89 | 127 => 110 | 164 => 127 | 5 => 5 | 80 => 49 | n => n, fun | n => n⟩
theorem Tryz.lays156 : Go.Proofs.Lays.n156 Tryz.prog Tryz.lays156_ren := {
  mixed := by kernel_rfl
  f156 := Tryz.func36.trans (congrArg some (by kernel_rfl))
  f165 := Tryz.func55.trans (congrArg some (by kernel_rfl))
  f166 := Tryz.func56.trans (congrArg some (by kernel_rfl))
  f169 := Tryz.func57.trans (congrArg some (by kernel_rfl))
  f240 := Tryz.func76.trans (congrArg some (by kernel_rfl))
  f241 := Tryz.func77.trans (congrArg some (by kernel_rfl))
  f276 := Tryz.func96.trans (congrArg some (by kernel_rfl))
  f277 := Tryz.func97.trans (congrArg some (by kernel_rfl))
  t0 := Tryz.underlying0
  a0 := Tryz.isAgg0
  z0 := Tryz.sizeOf0
  v0 := Tryz.zeroValue0
  t3 := Tryz.underlying3
  a3 := Tryz.isAgg3
  z3 := Tryz.sizeOf3
  v3 := Tryz.zeroValue3
  t4 := Tryz.underlying4
  a4 := Tryz.isAgg4
  z4 := Tryz.sizeOf4
  v4 := Tryz.zeroValue4
  t9 := Tryz.underlying9
  a9 := Tryz.isAgg9
  z9 := Tryz.sizeOf9
  v9 := Tryz.zeroValue9
  t20 := Tryz.underlying20
  a20 := Tryz.isAgg20
  z20 := Tryz.sizeOf20
  v20 := Tryz.zeroValue20
  t31 := Tryz.underlying32
  a31 := Tryz.isAgg32
  z31 := Tryz.sizeOf32
  v31 := Tryz.zeroValue32
  t37 := Tryz.underlying84
  a37 := Tryz.isAgg84
  z37 := Tryz.sizeOf84
  v37 := Tryz.zeroValue84
  t70 := Tryz.underlying83
  a70 := Tryz.isAgg83
  z70 := Tryz.sizeOf83
  v70 := Tryz.zeroValue83
  t72 := Tryz.underlying86
  a72 := Tryz.isAgg86
  z72 := Tryz.sizeOf86
  v72 := Tryz.zeroValue86
  t75 := Tryz.underlying89
  a75 := Tryz.isAgg89
  z75 := Tryz.sizeOf89
  v75 := Tryz.zeroValue89
  t76 := Tryz.underlying90
  a76 := Tryz.isAgg90
  z76 := Tryz.sizeOf90
  v76 := Tryz.zeroValue90
  t127 := Tryz.underlying110
  a127 := Tryz.isAgg110
  z127 := Tryz.sizeOf110
  v127 := Tryz.zeroValue110
  t164 := Tryz.underlying127
  a164 := Tryz.isAgg127
  z164 := Tryz.sizeOf127
  v164 := Tryz.zeroValue127 }
theorem Tryz.Builder_Extra_156 : Builder.Extra Tryz.prog Tryz.lays156_ren := {
  sizeBuilder := by kernel_rfl
  liesBuilder := by kernel_rfl
  t5 := Tryz.underlying5
  a5 := Tryz.isAgg5
  z5 := Tryz.sizeOf5
  v5 := Tryz.zeroValue5
  infoByte := by kernel_rfl
  cellsByte := by kernel_rfl
  sizeByte := by kernel_rfl
  neB5 := by decide }
open Go.RowKit in
/-- No element: the empty string; the world is as it was. (Whatever the slice's address and capacity: a nil slice too.) (LAID: no walk: one application.) -/
theorem Tryz.strings_Join_none (a : Option Addr) (c : Nat) (sep : ByteArray) (w : World) :
    Calls Tryz.prog 36 #[.slice a 0 c, .string sep] w fun e w' => e = .returned (.string ⟨#[]⟩) ∧ w' = w := Any.strings_Join_none Tryz.lays156 Tryz.Builder_Extra_156 a c sep w
open Go.RowKit in
/-- strings.Join: "Join concatenates the elements of its first argument to create a single string. The separator string sep is placed between elements in the resulting string.": HOWEVER MANY ELEMENTS. Below the heap's end the world is as it was. (LAID: no walk: one application.) -/
theorem Tryz.strings_Join (bk o c : Nat) (xs : List ByteArray) (sep : ByteArray) (w : World) (hcells : ∀ (j : Nat) x, xs[j]? = some x → w.cell? ⟨bk, o + j, none⟩ = some (.string x)) (hbk : bk < w.heap.size) (hN : xs.length ≤ 140737488355328) (hcap : xs.length ≤ c) (hlen : (Lib.join (xs.map (·.data.toList)) sep.data.toList).length ≤ 140737488355328) :
    Calls Tryz.prog 36 #[.slice (some ⟨bk, o, none⟩) xs.length c, .string sep] w fun e w' => e = .returned (.string ⟨(Lib.join (xs.map (·.data.toList)) sep.data.toList).toArray⟩) ∧ Below w.heap.size w w' := Any.strings_Join Tryz.lays156 Tryz.Builder_Extra_156 bk o c xs sep w hcells hbk hN hcap hlen
def Tryz.lays231_ren : Go.Shelf.Ren := ⟨fun | 231 => 60 | n => n, fun | 9 => 9 | 5 => 5 | 3 => 3 | 4 => 4 | n => n, fun | n => n⟩
theorem Tryz.lays231 : Go.Proofs.Lays.n231 Tryz.prog Tryz.lays231_ren := {
  mixed := by kernel_rfl
  f231 := Tryz.func60.trans (congrArg some (by kernel_rfl))
  t3 := Tryz.underlying3
  a3 := Tryz.isAgg3
  z3 := Tryz.sizeOf3
  v3 := Tryz.zeroValue3
  t4 := Tryz.underlying4
  a4 := Tryz.isAgg4
  z4 := Tryz.sizeOf4
  v4 := Tryz.zeroValue4
  t5 := Tryz.underlying5
  a5 := Tryz.isAgg5
  z5 := Tryz.sizeOf5
  v5 := Tryz.zeroValue5
  t9 := Tryz.underlying9
  a9 := Tryz.isAgg9
  z9 := Tryz.sizeOf9
  v9 := Tryz.zeroValue9 }
open Go.RowKit in
/-- strings.trimLeftByte (no doc; what TrimLeft and Trim call at a cutset of one ASCII byte): the leading bytes that are c are cut off. The world is as it was. (LAID: no walk: one application.) -/
theorem Tryz.strings_trimLeftByte (s : ByteArray) (c : UInt8) (w : World) :
    Calls Tryz.prog 60 #[.string s, .int .u8 c.toNat] w fun e w' => e = .returned (.string ⟨(Lib.trimLeftB s.data.toList c).toArray⟩) ∧ w' = w := Any.strings_trimLeftByte Tryz.lays231 s c w
def Tryz.lays232_ren : Go.Shelf.Ren := ⟨fun | 232 => 61 | n => n, fun | 9 => 9 | 5 => 5 | 3 => 3 | 4 => 4 | n => n, fun | n => n⟩
theorem Tryz.lays232 : Go.Proofs.Lays.n232 Tryz.prog Tryz.lays232_ren := {
  mixed := by kernel_rfl
  f232 := Tryz.func61.trans (congrArg some (by kernel_rfl))
  t3 := Tryz.underlying3
  a3 := Tryz.isAgg3
  z3 := Tryz.sizeOf3
  v3 := Tryz.zeroValue3
  t4 := Tryz.underlying4
  a4 := Tryz.isAgg4
  z4 := Tryz.sizeOf4
  v4 := Tryz.zeroValue4
  t5 := Tryz.underlying5
  a5 := Tryz.isAgg5
  z5 := Tryz.sizeOf5
  v5 := Tryz.zeroValue5
  t9 := Tryz.underlying9
  a9 := Tryz.isAgg9
  z9 := Tryz.sizeOf9
  v9 := Tryz.zeroValue9 }
open Go.RowKit in
/-- strings.trimRightByte (no doc; what TrimRight and Trim call at a cutset of one ASCII byte): the trailing bytes that are c are cut off. The world is as it was. ('hs': a string's length is a number that an int holds.) (LAID: no walk: one application.) -/
theorem Tryz.strings_trimRightByte (s : ByteArray) (c : UInt8) (w : World) (hs : s.size ≤ 9223372036854775807) :
    Calls Tryz.prog 61 #[.string s, .int .u8 c.toNat] w fun e w' => e = .returned (.string ⟨(Lib.trimRightB s.data.toList c).toArray⟩) ∧ w' = w := Any.strings_trimRightByte Tryz.lays232 s c w hs
def Tryz.lays160_ren : Go.Shelf.Ren := ⟨fun | 160 => 43 | 232 => 61 | 231 => 60 | 227 => 62 | 234 => 64 | 233 => 63 | 236 => 66 | 235 => 65 | 228 => 80 | 271 => 82 | 151 => 81 | 197 => 71 | 120 => 99 | 152 => 98 | 260 => 85 | 137 => 105 | 119 => 106 | 224 => 69 | 225 => 68 | 217 => 67 | 266 => 83 | n => n, fun | 9 => 9 | 4 => 4 | 3 => 3 | 5 => 5 | 117 => 96 | 116 => 95 | 0 => 0 | 124 => 99 | 21 => 21 | 105 => 103 | 46 => 102 | 119 => 131 | 139 => 134 | 138 => 133 | n => n, fun | 3 => 1 | 4 => 2 | n => n⟩
theorem Tryz.lays160 : Go.Proofs.Lays.n160 Tryz.prog Tryz.lays160_ren := {
  mixed := by kernel_rfl
  f119 := Tryz.func106.trans (congrArg some (by kernel_rfl))
  f120 := Tryz.func99.trans (congrArg some (by kernel_rfl))
  f137 := Tryz.func105.trans (congrArg some (by kernel_rfl))
  f151 := Tryz.func81.trans (congrArg some (by kernel_rfl))
  f152 := Tryz.func98.trans (congrArg some (by kernel_rfl))
  f160 := Tryz.func43.trans (congrArg some (by kernel_rfl))
  f197 := Tryz.func71.trans (congrArg some (by kernel_rfl))
  f217 := Tryz.func67.trans (congrArg some (by kernel_rfl))
  f224 := Tryz.func69.trans (congrArg some (by kernel_rfl))
  f225 := Tryz.func68.trans (congrArg some (by kernel_rfl))
  f227 := Tryz.func62.trans (congrArg some (by kernel_rfl))
  f228 := Tryz.func80.trans (congrArg some (by kernel_rfl))
  f231 := Tryz.func60.trans (congrArg some (by kernel_rfl))
  f232 := Tryz.func61.trans (congrArg some (by kernel_rfl))
  f233 := Tryz.func63.trans (congrArg some (by kernel_rfl))
  f234 := Tryz.func64.trans (congrArg some (by kernel_rfl))
  f235 := Tryz.func65.trans (congrArg some (by kernel_rfl))
  f236 := Tryz.func66.trans (congrArg some (by kernel_rfl))
  f260 := Tryz.func85.trans (congrArg some (by kernel_rfl))
  f266 := Tryz.func83.trans (congrArg some (by kernel_rfl))
  f271 := Tryz.func82.trans (congrArg some (by kernel_rfl))
  t0 := Tryz.underlying0
  a0 := Tryz.isAgg0
  z0 := Tryz.sizeOf0
  v0 := Tryz.zeroValue0
  t3 := Tryz.underlying3
  a3 := Tryz.isAgg3
  z3 := Tryz.sizeOf3
  v3 := Tryz.zeroValue3
  t4 := Tryz.underlying4
  a4 := Tryz.isAgg4
  z4 := Tryz.sizeOf4
  v4 := Tryz.zeroValue4
  t5 := Tryz.underlying5
  a5 := Tryz.isAgg5
  z5 := Tryz.sizeOf5
  v5 := Tryz.zeroValue5
  t9 := Tryz.underlying9
  a9 := Tryz.isAgg9
  z9 := Tryz.sizeOf9
  v9 := Tryz.zeroValue9
  t21 := Tryz.underlying21
  a21 := Tryz.isAgg21
  z21 := Tryz.sizeOf21
  v21 := Tryz.zeroValue21
  t46 := Tryz.underlying102
  a46 := Tryz.isAgg102
  z46 := Tryz.sizeOf102
  v46 := Tryz.zeroValue102
  t105 := Tryz.underlying103
  a105 := Tryz.isAgg103
  z105 := Tryz.sizeOf103
  v105 := Tryz.zeroValue103
  t116 := Tryz.underlying95
  a116 := Tryz.isAgg95
  z116 := Tryz.sizeOf95
  t117 := Tryz.underlying96
  a117 := Tryz.isAgg96
  z117 := Tryz.sizeOf96
  v117 := Tryz.zeroValue96
  t119 := Tryz.underlying131
  a119 := Tryz.isAgg131
  z119 := Tryz.sizeOf131
  t124 := Tryz.underlying99
  a124 := Tryz.isAgg99
  z124 := Tryz.sizeOf99
  v124 := Tryz.zeroValue99
  t138 := Tryz.underlying133
  a138 := Tryz.isAgg133
  z138 := Tryz.sizeOf133
  v138 := Tryz.zeroValue133
  t139 := Tryz.underlying134
  a139 := Tryz.isAgg134
  z139 := Tryz.sizeOf134
  v139 := Tryz.zeroValue134
  g3 := by kernel_rfl
  g4 := by kernel_rfl }
open Go.RowKit in
/-- strings.Trim: "Trim returns a slice of the string s with all leading and trailing Unicode code points contained in cutset removed.": AT A cutset OF ONE ASCII BYTE. THE WORLD BEHIND IT: as it was, or (where s is not empty) with ONE DRAW MORE off the tape: the statement 'return trimLeftByte(trimRightByte(s, c), c)' draws its order of evaluation. (LAID: no walk: one application.) -/
theorem Tryz.strings_Trim_one (s : ByteArray) (c : UInt8) (hc : c.toNat < 128) (w : World) (hs : s.size ≤ 9223372036854775807) :
    Calls Tryz.prog 43 #[.string s, .string ⟨#[c]⟩] w fun e w' => e = .returned (.string ⟨(Lib.trimB s.data.toList c).toArray⟩) ∧ (w' = w ∨ w' = w.drew) := Any.strings_Trim_one Tryz.lays160 s c hc w hs
def Tryz.lays119_ren : Go.Shelf.Ren := ⟨fun | 119 => 106 | n => n, fun | 21 => 21 | 4 => 4 | n => n, fun | n => n⟩
theorem Tryz.lays119 : Go.Proofs.Lays.n119 Tryz.prog Tryz.lays119_ren := {
  mixed := by kernel_rfl
  f119 := Tryz.func106.trans (congrArg some (by kernel_rfl))
  t4 := Tryz.underlying4
  a4 := Tryz.isAgg4
  z4 := Tryz.sizeOf4
  v4 := Tryz.zeroValue4
  t21 := Tryz.underlying21
  a21 := Tryz.isAgg21
  z21 := Tryz.sizeOf21
  v21 := Tryz.zeroValue21 }
/-- utf8.ValidRune: "ValidRune reports whether r can be legally encoded as UTF-8. Code points that are out of range or a surrogate half are illegal.": IT RETURNS 'Lib.validRune r'; the world is as it was. (LAID: no walk: one application.) -/
theorem Tryz.utf8_ValidRune (r : Int) (w : World) :
    Calls Tryz.prog 106 #[.int .i32 r] w fun e w' => e = .returned (.bool (Lib.validRune r)) ∧ w' = w := Any.utf8_ValidRune Tryz.lays119 r w
def Tryz.lays120_ren : Go.Shelf.Ren := ⟨fun | 120 => 99 | n => n, fun | 5 => 5 | 4 => 4 | n => n, fun | n => n⟩
theorem Tryz.lays120 : Go.Proofs.Lays.n120 Tryz.prog Tryz.lays120_ren := {
  mixed := by kernel_rfl
  f120 := Tryz.func99.trans (congrArg some (by kernel_rfl))
  t4 := Tryz.underlying4
  a4 := Tryz.isAgg4
  z4 := Tryz.sizeOf4
  v4 := Tryz.zeroValue4
  t5 := Tryz.underlying5
  a5 := Tryz.isAgg5
  z5 := Tryz.sizeOf5
  v5 := Tryz.zeroValue5 }
/-- utf8.RuneStart: "RuneStart reports whether the byte could be the first byte of an encoded, possibly invalid rune. Second and subsequent bytes always have the top two bits set to 10.": IT RETURNS 'Lib.runeStart b'; the world is as it was. ('h0', 'h1': b is a byte: a caller has it of every byte that it was handed.) (LAID: no walk: one application.) -/
theorem Tryz.utf8_RuneStart (b : Int) (w : World) (h0 : 0 ≤ b) (h1 : b < 256) :
    Calls Tryz.prog 99 #[.int .u8 b] w fun e w' => e = .returned (.bool (Lib.runeStart b)) ∧ w' = w := Any.utf8_RuneStart Tryz.lays120 b w h0 h1
def Tryz.lays128_ren : Go.Shelf.Ren := ⟨fun | 128 => 94 | n => n, fun | 51 => 114 | 3 => 3 | 4 => 4 | 46 => 102 | 5 => 5 | 9 => 9 | n => n, fun | n => n⟩
theorem Tryz.lays128 : Go.Proofs.Lays.n128 Tryz.prog Tryz.lays128_ren := {
  mixed := by kernel_rfl
  f128 := Tryz.func94.trans (congrArg some (by kernel_rfl))
  t3 := Tryz.underlying3
  a3 := Tryz.isAgg3
  z3 := Tryz.sizeOf3
  v3 := Tryz.zeroValue3
  t4 := Tryz.underlying4
  a4 := Tryz.isAgg4
  z4 := Tryz.sizeOf4
  v4 := Tryz.zeroValue4
  t5 := Tryz.underlying5
  a5 := Tryz.isAgg5
  z5 := Tryz.sizeOf5
  v5 := Tryz.zeroValue5
  t9 := Tryz.underlying9
  a9 := Tryz.isAgg9
  z9 := Tryz.sizeOf9
  v9 := Tryz.zeroValue9
  t46 := Tryz.underlying102
  a46 := Tryz.isAgg102
  z46 := Tryz.sizeOf102
  v46 := Tryz.zeroValue102
  t51 := Tryz.underlying114
  a51 := Tryz.isAgg114
  z51 := Tryz.sizeOf114
  v51 := Tryz.zeroValue114 }
/-- bits.Len32: "Len32 returns the minimum number of bits required to represent x; the result is 0 for x == 0.": IT RETURNS 'Lib.bitLen x'; the world is as it was. ('h0', 'h1': x is a uint32.) (LAID: no walk: one application.) -/
theorem Tryz.bits_Len32 (x : Int) (w : World) (h0 : 0 ≤ x) (h1 : x ≤ 4294967295) :
    Calls Tryz.prog 94 #[.int .u32 x] w fun e w' => e = .returned (.int .i64 (Lib.bitLen x.toNat)) ∧ w' = w := Any.bits_Len32 Tryz.lays128 x w h0 h1
def Tryz.lays125_ren : Go.Shelf.Ren := ⟨fun | 125 => 74 | 128 => 94 | 129 => 95 | n => n, fun | 46 => 102 | 3 => 3 | 51 => 114 | 53 => 126 | 4 => 4 | 5 => 5 | 9 => 9 | n => n, fun | n => n⟩
theorem Tryz.lays125 : Go.Proofs.Lays.n125 Tryz.prog Tryz.lays125_ren := {
  mixed := by kernel_rfl
  f125 := Tryz.func74.trans (congrArg some (by kernel_rfl))
  f128 := Tryz.func94.trans (congrArg some (by kernel_rfl))
  f129 := Tryz.func95.trans (congrArg some (by kernel_rfl))
  t3 := Tryz.underlying3
  a3 := Tryz.isAgg3
  z3 := Tryz.sizeOf3
  v3 := Tryz.zeroValue3
  t4 := Tryz.underlying4
  a4 := Tryz.isAgg4
  z4 := Tryz.sizeOf4
  v4 := Tryz.zeroValue4
  t5 := Tryz.underlying5
  a5 := Tryz.isAgg5
  z5 := Tryz.sizeOf5
  v5 := Tryz.zeroValue5
  t9 := Tryz.underlying9
  a9 := Tryz.isAgg9
  z9 := Tryz.sizeOf9
  v9 := Tryz.zeroValue9
  t46 := Tryz.underlying102
  a46 := Tryz.isAgg102
  z46 := Tryz.sizeOf102
  v46 := Tryz.zeroValue102
  t51 := Tryz.underlying114
  a51 := Tryz.isAgg114
  z51 := Tryz.sizeOf114
  v51 := Tryz.zeroValue114
  t53 := Tryz.underlying126
  a53 := Tryz.isAgg126
  z53 := Tryz.sizeOf126
  v53 := Tryz.zeroValue126 }
/-- bits.Len: "Len returns the minimum number of bits required to represent x; the result is 0 for x == 0.": IT RETURNS 'Lib.bitLen x'; the world is as it was. (A uint has 64 bits in the model.) ITS CALLEE bits.Len64 IS MET BY ITS OWN CONTRACT OFF THE SHELF (lay that first). (LAID: no walk: one application.) -/
theorem Tryz.bits_Len (x : Int) (w : World) (h0 : 0 ≤ x) (h1 : x ≤ 18446744073709551615) :
    Calls Tryz.prog 74 #[.int .u64 x] w fun e w' => e = .returned (.int .i64 (Lib.bitLen x.toNat)) ∧ w' = w := Any.bits_Len Tryz.lays125 x w h0 h1
def Tryz.lays137_ren : Go.Shelf.Ren := ⟨fun | 137 => 105 | 217 => 67 | 266 => 83 | n => n, fun | 9 => 9 | 5 => 5 | 3 => 3 | n => n, fun | n => n⟩
theorem Tryz.lays137 : Go.Proofs.Lays.n137 Tryz.prog Tryz.lays137_ren := {
  mixed := by kernel_rfl
  f137 := Tryz.func105.trans (congrArg some (by kernel_rfl))
  f217 := Tryz.func67.trans (congrArg some (by kernel_rfl))
  f266 := Tryz.func83.trans (congrArg some (by kernel_rfl))
  t3 := Tryz.underlying3
  a3 := Tryz.isAgg3
  z3 := Tryz.sizeOf3
  v3 := Tryz.zeroValue3
  t5 := Tryz.underlying5
  a5 := Tryz.isAgg5
  z5 := Tryz.sizeOf5
  v5 := Tryz.zeroValue5
  t9 := Tryz.underlying9
  a9 := Tryz.isAgg9
  z9 := Tryz.sizeOf9
  v9 := Tryz.zeroValue9 }
open Go.RowKit in
/-- strings.IndexByte: "IndexByte returns the index of the first instance of c in s, or -1 if c is not present in s.": IT RETURNS 'Lib.indexByte s c'; the world is as it was. (LAID: no walk: one application.) -/
theorem Tryz.strings_IndexByte (s : ByteArray) (c : Int) (w : World) :
    Calls Tryz.prog 105 #[.string s, .int .u8 c] w fun e w' => e = .returned (.int .i64 (Lib.indexByte s.data.toList c.toNat.toUInt8)) ∧ w' = w := Any.strings_IndexByte Tryz.lays137 s c w
def Tryz.lays215_ren : Go.Shelf.Ren := ⟨fun | 215 => 75 | n => n, fun | 3 => 3 | 4 => 4 | n => n, fun | n => n⟩
theorem Tryz.lays215 : Go.Proofs.Lays.n215 Tryz.prog Tryz.lays215_ren := {
  mixed := by kernel_rfl
  f215 := Tryz.func75.trans (congrArg some (by kernel_rfl))
  t3 := Tryz.underlying3
  a3 := Tryz.isAgg3
  z3 := Tryz.sizeOf3
  v3 := Tryz.zeroValue3
  t4 := Tryz.underlying4
  a4 := Tryz.isAgg4
  z4 := Tryz.sizeOf4
  v4 := Tryz.zeroValue4 }
open Go.RowKit in
/-- cmp.isNaN at int: 'x != x': false. (LAID: no walk: one application.) -/
theorem Tryz.cmp_isNaN_int (x : Int) (w : World) :
    Calls Tryz.prog 75 #[.int .i64 x] w fun e w' => e = .returned (.bool false) ∧ w' = w := Any.cmp_isNaN_int Tryz.lays215 x w
def Tryz.lays122_ren : Go.Shelf.Ren := ⟨fun | 122 => 54 | 215 => 75 | n => n, fun | 3 => 3 | 4 => 4 | n => n, fun | n => n⟩
theorem Tryz.lays122 : Go.Proofs.Lays.n122 Tryz.prog Tryz.lays122_ren := {
  mixed := by kernel_rfl
  f122 := Tryz.func54.trans (congrArg some (by kernel_rfl))
  f215 := Tryz.func75.trans (congrArg some (by kernel_rfl))
  t3 := Tryz.underlying3
  a3 := Tryz.isAgg3
  z3 := Tryz.sizeOf3
  v3 := Tryz.zeroValue3
  t4 := Tryz.underlying4
  a4 := Tryz.isAgg4
  z4 := Tryz.sizeOf4
  v4 := Tryz.zeroValue4 }
open Go.RowKit in
/-- cmp.Compare at int: "Compare returns -1 if x is less than y, 0 if x equals y, +1 if x is greater than y.": IT RETURNS 'Lib.compareInt x y'; the world is as it was. (LAID: no walk: one application.) -/
theorem Tryz.cmp_Compare_int (x y : Int) (w : World) :
    Calls Tryz.prog 54 #[.int .i64 x, .int .i64 y] w fun e w' => e = .returned (.int .i64 (Lib.compareInt x y)) ∧ w' = w := Any.cmp_Compare_int Tryz.lays122 x y w
def Tryz.lays195_ren : Go.Shelf.Ren := ⟨fun | 195 => 78 | n => n, fun | 9 => 9 | 3 => 3 | 0 => 0 | 4 => 4 | n => n, fun | n => n⟩
theorem Tryz.lays195 : Go.Proofs.Lays.n195 Tryz.prog Tryz.lays195_ren := {
  mixed := by kernel_rfl
  f195 := Tryz.func78.trans (congrArg some (by kernel_rfl))
  t0 := Tryz.underlying0
  a0 := Tryz.isAgg0
  z0 := Tryz.sizeOf0
  v0 := Tryz.zeroValue0
  t3 := Tryz.underlying3
  a3 := Tryz.isAgg3
  z3 := Tryz.sizeOf3
  v3 := Tryz.zeroValue3
  t4 := Tryz.underlying4
  a4 := Tryz.isAgg4
  z4 := Tryz.sizeOf4
  v4 := Tryz.zeroValue4
  t9 := Tryz.underlying9
  a9 := Tryz.isAgg9
  z9 := Tryz.sizeOf9
  v9 := Tryz.zeroValue9 }
open Go.RowKit in
/-- unicode/utf8.RuneCountInString: "RuneCountInString is like RuneCount but its input is a string." ("RuneCount returns the number of runes in p. Erroneous and short encodings are treated as single runes of width 1 byte."): EVERY STRING, valid UTF-8 or not: 'Lib.runeCount s' (plain Lean over the model's own 'Utf8.decode'; 'Lib.runeCount_le': at most len(s); 'Lib.runeCount_ascii': on ASCII: len(s)). THE ONE CONDITION: len(s) below 2^63 - 1 (the counter does not wrap): the form's reach pays it. THE WORLD BEHIND THE CALL: ONE BLOCK MORE: the model's iterator over s, at its end: all else as it was. (LAID: no walk: one application.) -/
theorem Tryz.utf8_RuneCountInString (s : ByteArray) (w : World) (hs : s.size < 9223372036854775807) :
    Calls Tryz.prog 78 #[.string s] w fun e w' => e = .returned (.int .i64 (Lib.runeCount s)) ∧ ∃ pos, w' = w.iter s pos := Any.utf8_RuneCountInString Tryz.lays195 s w hs
def Tryz.lays129_ren : Go.Shelf.Ren := ⟨fun | 129 => 95 | n => n, fun | 53 => 126 | 3 => 3 | 4 => 4 | 46 => 102 | 5 => 5 | 9 => 9 | n => n, fun | n => n⟩
theorem Tryz.lays129 : Go.Proofs.Lays.n129 Tryz.prog Tryz.lays129_ren := {
  mixed := by kernel_rfl
  f129 := Tryz.func95.trans (congrArg some (by kernel_rfl))
  t3 := Tryz.underlying3
  a3 := Tryz.isAgg3
  z3 := Tryz.sizeOf3
  v3 := Tryz.zeroValue3
  t4 := Tryz.underlying4
  a4 := Tryz.isAgg4
  z4 := Tryz.sizeOf4
  v4 := Tryz.zeroValue4
  t5 := Tryz.underlying5
  a5 := Tryz.isAgg5
  z5 := Tryz.sizeOf5
  v5 := Tryz.zeroValue5
  t9 := Tryz.underlying9
  a9 := Tryz.isAgg9
  z9 := Tryz.sizeOf9
  v9 := Tryz.zeroValue9
  t46 := Tryz.underlying102
  a46 := Tryz.isAgg102
  z46 := Tryz.sizeOf102
  v46 := Tryz.zeroValue102
  t53 := Tryz.underlying126
  a53 := Tryz.isAgg126
  z53 := Tryz.sizeOf126
  v53 := Tryz.zeroValue126 }
/-- bits.Len64: "Len64 returns the minimum number of bits required to represent x; the result is 0 for x == 0.": IT RETURNS 'Lib.bitLen x'; the world is as it was. ('h0', 'h1': x is a uint64.) (LAID: no walk: one application.) -/
theorem Tryz.bits_Len64 (x : Int) (w : World) (h0 : 0 ≤ x) (h1 : x ≤ 18446744073709551615) :
    Calls Tryz.prog 95 #[.int .u64 x] w fun e w' => e = .returned (.int .i64 (Lib.bitLen x.toNat)) ∧ w' = w := Any.bits_Len64 Tryz.lays129 x w h0 h1
def Tryz.lays217_ren : Go.Shelf.Ren := ⟨fun | 217 => 67 | 266 => 83 | n => n, fun | 9 => 9 | 5 => 5 | 3 => 3 | n => n, fun | n => n⟩
theorem Tryz.lays217 : Go.Proofs.Lays.n217 Tryz.prog Tryz.lays217_ren := {
  mixed := by kernel_rfl
  f217 := Tryz.func67.trans (congrArg some (by kernel_rfl))
  f266 := Tryz.func83.trans (congrArg some (by kernel_rfl))
  t3 := Tryz.underlying3
  a3 := Tryz.isAgg3
  z3 := Tryz.sizeOf3
  v3 := Tryz.zeroValue3
  t5 := Tryz.underlying5
  a5 := Tryz.isAgg5
  z5 := Tryz.sizeOf5
  v5 := Tryz.zeroValue5
  t9 := Tryz.underlying9
  a9 := Tryz.isAgg9
  z9 := Tryz.sizeOf9
  v9 := Tryz.zeroValue9 }
open Go.RowKit Go.Lib in
/-- internal/stringslite.IndexByte (what strings.IndexByte calls): IT RETURNS 'Lib.indexByte s c'; the world is as it was. (LAID: no walk: one application.) -/
theorem Tryz.stringslite_IndexByte (s : ByteArray) (c : Int) (w : World) :
    Calls Tryz.prog 67 #[.string s, .int .u8 c] w fun e w' => e = .returned (.int .i64 (Lib.indexByte s.data.toList c.toNat.toUInt8)) ∧ w' = w := Any.stringslite_IndexByte Tryz.lays217 s c w
def Tryz.lays224_ren : Go.Shelf.Ren := ⟨fun | 224 => 69 | n => n, fun | 3 => 3 | n => n, fun | n => n⟩
theorem Tryz.lays224 : Go.Proofs.Lays.n224 Tryz.prog Tryz.lays224_ren := {
  mixed := by kernel_rfl
  f224 := Tryz.func69.trans (congrArg some (by kernel_rfl))
  t3 := Tryz.underlying3
  a3 := Tryz.isAgg3
  z3 := Tryz.sizeOf3
  v3 := Tryz.zeroValue3 }
open Go.RowKit Go.Lib in
/-- internal/bytealg.Cutover: "Cutover reports the number of failures of IndexByte we should tolerate before switching over to Index. n is the number of bytes processed so far.": on amd64: (n + 16) / 8. (LAID: no walk: one application.) -/
theorem Tryz.bytealg_Cutover (n : Int) (h0 : 0 ≤ n) (h1 : n < 4611686018427387904) (w : World) :
    Calls Tryz.prog 69 #[.int .i64 n] w fun e w' => e = .returned (.int .i64 ((n + 16) / 8)) ∧ w' = w := Any.bytealg_Cutover Tryz.lays224 n h0 h1 w
def Tryz.lays314_ren : Go.Shelf.Ren := ⟨fun | 314 => 84 | n => n, fun | 9 => 9 | 51 => 114 | 3 => 3 | 4 => 4 | 5 => 5 | 46 => 102 | n => n, fun | n => n⟩
theorem Tryz.lays314 : Go.Proofs.Lays.n314 Tryz.prog Tryz.lays314_ren := {
  mixed := by kernel_rfl
  f314 := Tryz.func84.trans (congrArg some (by kernel_rfl))
  t3 := Tryz.underlying3
  a3 := Tryz.isAgg3
  z3 := Tryz.sizeOf3
  v3 := Tryz.zeroValue3
  t4 := Tryz.underlying4
  a4 := Tryz.isAgg4
  z4 := Tryz.sizeOf4
  v4 := Tryz.zeroValue4
  t5 := Tryz.underlying5
  a5 := Tryz.isAgg5
  z5 := Tryz.sizeOf5
  v5 := Tryz.zeroValue5
  t9 := Tryz.underlying9
  a9 := Tryz.isAgg9
  z9 := Tryz.sizeOf9
  v9 := Tryz.zeroValue9
  t46 := Tryz.underlying102
  a46 := Tryz.isAgg102
  z46 := Tryz.sizeOf102
  v46 := Tryz.zeroValue102
  t51 := Tryz.underlying114
  a51 := Tryz.isAgg114
  z51 := Tryz.sizeOf114
  v51 := Tryz.zeroValue114 }
open Go.RowKit Go.Lib in
/-- hashStr: "returns the hash and the appropriate multiplicative factor for use in Rabin-Karp algorithm": THE HASH OF ALL OF sep, AND 16777619 ^ len(sep), both in uint32. (LAID: no walk: one application.) -/
theorem Tryz.bytealg_hashStr (sep : ByteArray) (hs : sep.size < 4294967281) (w : World) :
    Calls Tryz.prog 84 #[.string sep] w fun e w' => e = .returned (.tuple #[.int .u32 (RK.H sep.data.toList % 4294967296), .int .u32 (16777619 ^ sep.size % 4294967296)]) ∧ w' = w := Any.bytealg_hashStr Tryz.lays314 sep hs w
def Tryz.lays267_ren : Go.Shelf.Ren := ⟨fun | 267 => 70 | 314 => 84 | n => n, fun | 9 => 9 | 3 => 3 | 146 => 115 | 51 => 114 | 4 => 4 | 5 => 5 | 46 => 102 | n => n, fun | n => n⟩
theorem Tryz.lays267 : Go.Proofs.Lays.n267 Tryz.prog Tryz.lays267_ren := {
  mixed := by kernel_rfl
  f267 := Tryz.func70.trans (congrArg some (by kernel_rfl))
  f314 := Tryz.func84.trans (congrArg some (by kernel_rfl))
  t3 := Tryz.underlying3
  a3 := Tryz.isAgg3
  z3 := Tryz.sizeOf3
  v3 := Tryz.zeroValue3
  t4 := Tryz.underlying4
  a4 := Tryz.isAgg4
  z4 := Tryz.sizeOf4
  v4 := Tryz.zeroValue4
  t5 := Tryz.underlying5
  a5 := Tryz.isAgg5
  z5 := Tryz.sizeOf5
  v5 := Tryz.zeroValue5
  t9 := Tryz.underlying9
  a9 := Tryz.isAgg9
  z9 := Tryz.sizeOf9
  v9 := Tryz.zeroValue9
  t46 := Tryz.underlying102
  a46 := Tryz.isAgg102
  z46 := Tryz.sizeOf102
  v46 := Tryz.zeroValue102
  t51 := Tryz.underlying114
  a51 := Tryz.isAgg114
  z51 := Tryz.sizeOf114
  v51 := Tryz.zeroValue114
  t146 := Tryz.underlying115
  a146 := Tryz.isAgg115
  z146 := Tryz.sizeOf115
  v146 := Tryz.zeroValue115 }
open Go.RowKit Go.Lib in
theorem Tryz.bytealg_IndexRabinKarp (s sep : ByteArray) (h1 : 1 ≤ sep.size) (h2 : sep.size ≤ s.size) (hs : s.size < 4294967281) (w : World) :
    Calls Tryz.prog 70 #[.string s, .string sep] w fun e w' => e = .returned (.int .i64 (Lib.index s.data.toList sep.data.toList)) ∧ w' = w := Any.bytealg_IndexRabinKarp Tryz.lays267 s sep h1 h2 hs w
def Tryz.lays219_ren : Go.Shelf.Ren := ⟨fun | 219 => 44 | 217 => 67 | 225 => 68 | 224 => 69 | 267 => 70 | 266 => 83 | 314 => 84 | n => n, fun | 9 => 9 | 3 => 3 | 4 => 4 | 5 => 5 | 46 => 102 | 146 => 115 | 51 => 114 | n => n, fun | 1 => 0 | n => n⟩
theorem Tryz.lays219 : Go.Proofs.Lays.n219 Tryz.prog Tryz.lays219_ren := {
  mixed := by kernel_rfl
  f217 := Tryz.func67.trans (congrArg some (by kernel_rfl))
  f219 := Tryz.func44.trans (congrArg some (by kernel_rfl))
  f224 := Tryz.func69.trans (congrArg some (by kernel_rfl))
  f225 := Tryz.func68.trans (congrArg some (by kernel_rfl))
  f266 := Tryz.func83.trans (congrArg some (by kernel_rfl))
  f267 := Tryz.func70.trans (congrArg some (by kernel_rfl))
  f314 := Tryz.func84.trans (congrArg some (by kernel_rfl))
  t3 := Tryz.underlying3
  a3 := Tryz.isAgg3
  z3 := Tryz.sizeOf3
  v3 := Tryz.zeroValue3
  t4 := Tryz.underlying4
  a4 := Tryz.isAgg4
  z4 := Tryz.sizeOf4
  v4 := Tryz.zeroValue4
  t5 := Tryz.underlying5
  a5 := Tryz.isAgg5
  z5 := Tryz.sizeOf5
  v5 := Tryz.zeroValue5
  t9 := Tryz.underlying9
  a9 := Tryz.isAgg9
  z9 := Tryz.sizeOf9
  v9 := Tryz.zeroValue9
  t46 := Tryz.underlying102
  a46 := Tryz.isAgg102
  z46 := Tryz.sizeOf102
  v46 := Tryz.zeroValue102
  t51 := Tryz.underlying114
  a51 := Tryz.isAgg114
  z51 := Tryz.sizeOf114
  v51 := Tryz.zeroValue114
  t146 := Tryz.underlying115
  a146 := Tryz.isAgg115
  z146 := Tryz.sizeOf115
  v146 := Tryz.zeroValue115
  g1 := by kernel_rfl }
open Go.RowKit Go.Lib in
/-- internal/stringslite.Index (what strings.Index calls) AT A substr OF ONE BYTE c: IT RETURNS 'Lib.indexByte s c'; the world is as it was. (LAID: no walk: one application.) -/
theorem Tryz.stringslite_Index_one (s : ByteArray) (c : UInt8) (w : World) :
    Calls Tryz.prog 44 #[.string s, .string ⟨#[c]⟩] w fun e w' => e = .returned (.int .i64 (Lib.indexByte s.data.toList c)) ∧ w' = w := Any.stringslite_Index_one Tryz.lays219 s c w
open Go.RowKit Go.Lib in
/-- internal/stringslite.Index (what strings.Index calls) AT A substr OF WHATEVER LENGTH: IT RETURNS 'Lib.index s substr'; the world is as it was. 'm': what internal/bytealg.MaxLen holds: whatever. (LAID: no walk: one application.) -/
theorem Tryz.stringslite_Index (s sub : ByteArray) (m : Int) (w : World) (hs : s.size < 4294967281) (hm : w.cell? ⟨0, 0, none⟩ = some (.int .i64 m)) :
    Calls Tryz.prog 44 #[.string s, .string sub] w fun e w' => e = .returned (.int .i64 (Lib.index s.data.toList sub.data.toList)) ∧ w' = w := Any.stringslite_Index Tryz.lays219 s sub m w hs hm
def Tryz.lays143_ren : Go.Shelf.Ren := ⟨fun | 143 => 30 | 219 => 44 | 217 => 67 | 225 => 68 | 224 => 69 | 267 => 70 | 266 => 83 | 314 => 84 | n => n, fun | 9 => 9 | 3 => 3 | 4 => 4 | 5 => 5 | 46 => 102 | 146 => 115 | 51 => 114 | n => n, fun | 1 => 0 | n => n⟩
theorem Tryz.lays143 : Go.Proofs.Lays.n143 Tryz.prog Tryz.lays143_ren := {
  mixed := by kernel_rfl
  f143 := Tryz.func30.trans (congrArg some (by kernel_rfl))
  f217 := Tryz.func67.trans (congrArg some (by kernel_rfl))
  f219 := Tryz.func44.trans (congrArg some (by kernel_rfl))
  f224 := Tryz.func69.trans (congrArg some (by kernel_rfl))
  f225 := Tryz.func68.trans (congrArg some (by kernel_rfl))
  f266 := Tryz.func83.trans (congrArg some (by kernel_rfl))
  f267 := Tryz.func70.trans (congrArg some (by kernel_rfl))
  f314 := Tryz.func84.trans (congrArg some (by kernel_rfl))
  t3 := Tryz.underlying3
  a3 := Tryz.isAgg3
  z3 := Tryz.sizeOf3
  v3 := Tryz.zeroValue3
  t4 := Tryz.underlying4
  a4 := Tryz.isAgg4
  z4 := Tryz.sizeOf4
  v4 := Tryz.zeroValue4
  t5 := Tryz.underlying5
  a5 := Tryz.isAgg5
  z5 := Tryz.sizeOf5
  v5 := Tryz.zeroValue5
  t9 := Tryz.underlying9
  a9 := Tryz.isAgg9
  z9 := Tryz.sizeOf9
  v9 := Tryz.zeroValue9
  t46 := Tryz.underlying102
  a46 := Tryz.isAgg102
  z46 := Tryz.sizeOf102
  v46 := Tryz.zeroValue102
  t51 := Tryz.underlying114
  a51 := Tryz.isAgg114
  z51 := Tryz.sizeOf114
  v51 := Tryz.zeroValue114
  t146 := Tryz.underlying115
  a146 := Tryz.isAgg115
  z146 := Tryz.sizeOf115
  v146 := Tryz.zeroValue115
  g1 := by kernel_rfl }
open Go.RowKit Go.Lib in
/-- strings.Index: "Index returns the index of the first instance of substr in s, or -1 if substr is not present in s.": AT A substr OF ONE BYTE c: IT RETURNS 'Lib.indexByte s c'; the world is as it was. (LAID: no walk: one application.) -/
theorem Tryz.strings_Index_one (s : ByteArray) (c : UInt8) (w : World) :
    Calls Tryz.prog 30 #[.string s, .string ⟨#[c]⟩] w fun e w' => e = .returned (.int .i64 (Lib.indexByte s.data.toList c)) ∧ w' = w := Any.strings_Index_one Tryz.lays143 s c w
open Go.RowKit Go.Lib in
/-- strings.Index: "Index returns the index of the first instance of substr in s, or -1 if substr is not present in s.": IT RETURNS 'Lib.index s substr'; the world is as it was. (LAID: no walk: one application.) -/
theorem Tryz.strings_Index (s sub : ByteArray) (m : Int) (w : World) (hs : s.size < 4294967281) (hm : w.cell? ⟨0, 0, none⟩ = some (.int .i64 m)) :
    Calls Tryz.prog 30 #[.string s, .string sub] w fun e w' => e = .returned (.int .i64 (Lib.index s.data.toList sub.data.toList)) ∧ w' = w := Any.strings_Index Tryz.lays143 s sub m w hs hm
def Tryz.lays138_ren : Go.Shelf.Ren := ⟨fun | 138 => 59 | 195 => 78 | 218 => 79 | 143 => 30 | 219 => 44 | 217 => 67 | 225 => 68 | 224 => 69 | 267 => 70 | 266 => 83 | 314 => 84 | n => n, fun | 9 => 9 | 3 => 3 | 4 => 4 | 5 => 5 | 0 => 0 | 46 => 102 | 146 => 115 | 51 => 114 | n => n, fun | 1 => 0 | n => n⟩
theorem Tryz.lays138 : Go.Proofs.Lays.n138 Tryz.prog Tryz.lays138_ren := {
  mixed := by kernel_rfl
  f138 := Tryz.func59.trans (congrArg some (by kernel_rfl))
  f143 := Tryz.func30.trans (congrArg some (by kernel_rfl))
  f195 := Tryz.func78.trans (congrArg some (by kernel_rfl))
  f217 := Tryz.func67.trans (congrArg some (by kernel_rfl))
  f218 := Tryz.func79.trans (congrArg some (by kernel_rfl))
  f219 := Tryz.func44.trans (congrArg some (by kernel_rfl))
  f224 := Tryz.func69.trans (congrArg some (by kernel_rfl))
  f225 := Tryz.func68.trans (congrArg some (by kernel_rfl))
  f266 := Tryz.func83.trans (congrArg some (by kernel_rfl))
  f267 := Tryz.func70.trans (congrArg some (by kernel_rfl))
  f314 := Tryz.func84.trans (congrArg some (by kernel_rfl))
  t0 := Tryz.underlying0
  a0 := Tryz.isAgg0
  z0 := Tryz.sizeOf0
  v0 := Tryz.zeroValue0
  t3 := Tryz.underlying3
  a3 := Tryz.isAgg3
  z3 := Tryz.sizeOf3
  v3 := Tryz.zeroValue3
  t4 := Tryz.underlying4
  a4 := Tryz.isAgg4
  z4 := Tryz.sizeOf4
  v4 := Tryz.zeroValue4
  t5 := Tryz.underlying5
  a5 := Tryz.isAgg5
  z5 := Tryz.sizeOf5
  v5 := Tryz.zeroValue5
  t9 := Tryz.underlying9
  a9 := Tryz.isAgg9
  z9 := Tryz.sizeOf9
  v9 := Tryz.zeroValue9
  t46 := Tryz.underlying102
  a46 := Tryz.isAgg102
  z46 := Tryz.sizeOf102
  v46 := Tryz.zeroValue102
  t51 := Tryz.underlying114
  a51 := Tryz.isAgg114
  z51 := Tryz.sizeOf114
  v51 := Tryz.zeroValue114
  t146 := Tryz.underlying115
  a146 := Tryz.isAgg115
  z146 := Tryz.sizeOf115
  v146 := Tryz.zeroValue115
  g1 := by kernel_rfl }
open Go.RowKit Go.Lib in
/-- strings.Count AT A substr OF ONE BYTE ('hp'): "Count counts the number of non-overlapping instances of substr in s.": IT RETURNS 'Lib.countByte s (that byte)'; the world is as it was. ✋ NO CONTRACT HERE YET at an empty substr (utf8.RuneCountInString) or at a longer one (a loop over strings.Index). (LAID: no walk: one application.) -/
theorem Tryz.strings_Count_one (s : ByteArray) (c : UInt8) (w : World) :
    Calls Tryz.prog 59 #[.string s, .string ⟨#[c]⟩] w fun e w' => e = .returned (.int .i64 (Lib.countByte s.data.toList c)) ∧ w' = w := Any.strings_Count_one Tryz.lays138 s c w
open Go.RowKit Go.Lib in
/-- strings.Count AT A substr OF TWO BYTES OR MORE: "Count counts the number of non-overlapping instances of substr in s.": IT RETURNS 'Lib.count s substr'; the world is as it was. (LAID: no walk: one application.) -/
theorem Tryz.strings_Count (s sub : ByteArray) (m : Int) (w : World) (hs : s.size < 4294967281) (hm : w.cell? ⟨0, 0, none⟩ = some (.int .i64 m)) (h2 : 2 ≤ sub.size) :
    Calls Tryz.prog 59 #[.string s, .string sub] w fun e w' => e = .returned (.int .i64 (Lib.countB s sub)) ∧ w' = w := Any.strings_Count Tryz.lays138 s sub m w hs hm h2
def Tryz.laysM219_ren : Go.Shelf.Ren := ⟨fun | 219 => 44 | 217 => 67 | 225 => 68 | 224 => 69 | 267 => 70 | 266 => 83 | 314 => 84 | n => n, fun | 9 => 9 | 3 => 3 | 4 => 4 | 5 => 5 | 46 => 102 | 146 => 115 | 51 => 114 | n => n, fun | 1 => 0 | n => n⟩
theorem Tryz.laysM219 : Go.Proofs.LaysM.n219 Tryz.prog Tryz.laysM219_ren := {
  mixed := by kernel_rfl
  f217 := Tryz.func67.trans (congrArg some (by kernel_rfl))
  f219 := Tryz.func44.trans (congrArg some (by kernel_rfl))
  f224 := Tryz.func69.trans (congrArg some (by kernel_rfl))
  f225 := Tryz.func68.trans (congrArg some (by kernel_rfl))
  f266 := Tryz.func83.trans (congrArg some (by kernel_rfl))
  f267 := Tryz.func70.trans (congrArg some (by kernel_rfl))
  f314 := Tryz.func84.trans (congrArg some (by kernel_rfl))
  t3 := Tryz.underlying3
  a3 := Tryz.isAgg3
  z3 := Tryz.sizeOf3
  v3 := Tryz.zeroValue3
  t4 := Tryz.underlying4
  a4 := Tryz.isAgg4
  z4 := Tryz.sizeOf4
  v4 := Tryz.zeroValue4
  t5 := Tryz.underlying5
  a5 := Tryz.isAgg5
  z5 := Tryz.sizeOf5
  v5 := Tryz.zeroValue5
  t9 := Tryz.underlying9
  a9 := Tryz.isAgg9
  z9 := Tryz.sizeOf9
  v9 := Tryz.zeroValue9
  t46 := Tryz.underlying102
  a46 := Tryz.isAgg102
  z46 := Tryz.sizeOf102
  v46 := Tryz.zeroValue102
  t51 := Tryz.underlying114
  a51 := Tryz.isAgg114
  z51 := Tryz.sizeOf114
  v51 := Tryz.zeroValue114
  t146 := Tryz.underlying115
  a146 := Tryz.isAgg115
  z146 := Tryz.sizeOf115
  v146 := Tryz.zeroValue115
  g1 := by kernel_rfl
  i3 := by kernel_rfl
  i4 := by kernel_rfl
  i5 := by kernel_rfl
  i9 := by kernel_rfl
  i46 := by kernel_rfl
  i51 := by kernel_rfl
  i146 := by kernel_rfl
  m1 := by kernel_rfl
  s1_3 := fun w h => Go.Proofs.cell_of_shapedOpen_int (zero := #[.int .i64 0]) (t := 3) h (of_decide_eq_true (by kernel_rfl)) (by kernel_rfl) rfl (by kernel_rfl) (by kernel_rfl) Tryz.underlying3 }
open Go.RowKit Go.Lib in
theorem Tryz.stringslite_Index_shaped (s sub : ByteArray) (w : World) (h : w.ShapedOpen Tryz.prog) (hs : s.size < 4294967281) :
    Calls Tryz.prog 44 #[.string s, .string sub] w fun e w' => e = .returned (.int .i64 (Lib.index s.data.toList sub.data.toList)) ∧ w' = w := Any.stringslite_Index_shaped Tryz.laysM219 s sub w h hs
def Tryz.laysM143_ren : Go.Shelf.Ren := ⟨fun | 143 => 30 | 219 => 44 | 217 => 67 | 225 => 68 | 224 => 69 | 267 => 70 | 266 => 83 | 314 => 84 | n => n, fun | 9 => 9 | 3 => 3 | 4 => 4 | 5 => 5 | 46 => 102 | 146 => 115 | 51 => 114 | n => n, fun | 1 => 0 | n => n⟩
theorem Tryz.laysM143 : Go.Proofs.LaysM.n143 Tryz.prog Tryz.laysM143_ren := {
  mixed := by kernel_rfl
  f143 := Tryz.func30.trans (congrArg some (by kernel_rfl))
  f217 := Tryz.func67.trans (congrArg some (by kernel_rfl))
  f219 := Tryz.func44.trans (congrArg some (by kernel_rfl))
  f224 := Tryz.func69.trans (congrArg some (by kernel_rfl))
  f225 := Tryz.func68.trans (congrArg some (by kernel_rfl))
  f266 := Tryz.func83.trans (congrArg some (by kernel_rfl))
  f267 := Tryz.func70.trans (congrArg some (by kernel_rfl))
  f314 := Tryz.func84.trans (congrArg some (by kernel_rfl))
  t3 := Tryz.underlying3
  a3 := Tryz.isAgg3
  z3 := Tryz.sizeOf3
  v3 := Tryz.zeroValue3
  t4 := Tryz.underlying4
  a4 := Tryz.isAgg4
  z4 := Tryz.sizeOf4
  v4 := Tryz.zeroValue4
  t5 := Tryz.underlying5
  a5 := Tryz.isAgg5
  z5 := Tryz.sizeOf5
  v5 := Tryz.zeroValue5
  t9 := Tryz.underlying9
  a9 := Tryz.isAgg9
  z9 := Tryz.sizeOf9
  v9 := Tryz.zeroValue9
  t46 := Tryz.underlying102
  a46 := Tryz.isAgg102
  z46 := Tryz.sizeOf102
  v46 := Tryz.zeroValue102
  t51 := Tryz.underlying114
  a51 := Tryz.isAgg114
  z51 := Tryz.sizeOf114
  v51 := Tryz.zeroValue114
  t146 := Tryz.underlying115
  a146 := Tryz.isAgg115
  z146 := Tryz.sizeOf115
  v146 := Tryz.zeroValue115
  g1 := by kernel_rfl
  i3 := by kernel_rfl
  i4 := by kernel_rfl
  i5 := by kernel_rfl
  i9 := by kernel_rfl
  i46 := by kernel_rfl
  i51 := by kernel_rfl
  i146 := by kernel_rfl
  m1 := by kernel_rfl
  s1_3 := fun w h => Go.Proofs.cell_of_shapedOpen_int (zero := #[.int .i64 0]) (t := 3) h (of_decide_eq_true (by kernel_rfl)) (by kernel_rfl) rfl (by kernel_rfl) (by kernel_rfl) Tryz.underlying3 }
open Go.RowKit Go.Lib in
theorem Tryz.strings_Index_shaped (s sub : ByteArray) (w : World) (h : w.ShapedOpen Tryz.prog) (hs : s.size < 4294967281) :
    Calls Tryz.prog 30 #[.string s, .string sub] w fun e w' => e = .returned (.int .i64 (Lib.index s.data.toList sub.data.toList)) ∧ w' = w := Any.strings_Index_shaped Tryz.laysM143 s sub w h hs
def Tryz.laysM138_ren : Go.Shelf.Ren := ⟨fun | 138 => 59 | 195 => 78 | 218 => 79 | 143 => 30 | 219 => 44 | 217 => 67 | 225 => 68 | 224 => 69 | 267 => 70 | 266 => 83 | 314 => 84 | n => n, fun | 9 => 9 | 3 => 3 | 4 => 4 | 5 => 5 | 0 => 0 | 46 => 102 | 146 => 115 | 51 => 114 | n => n, fun | 1 => 0 | n => n⟩
theorem Tryz.laysM138 : Go.Proofs.LaysM.n138 Tryz.prog Tryz.laysM138_ren := {
  mixed := by kernel_rfl
  f138 := Tryz.func59.trans (congrArg some (by kernel_rfl))
  f143 := Tryz.func30.trans (congrArg some (by kernel_rfl))
  f195 := Tryz.func78.trans (congrArg some (by kernel_rfl))
  f217 := Tryz.func67.trans (congrArg some (by kernel_rfl))
  f218 := Tryz.func79.trans (congrArg some (by kernel_rfl))
  f219 := Tryz.func44.trans (congrArg some (by kernel_rfl))
  f224 := Tryz.func69.trans (congrArg some (by kernel_rfl))
  f225 := Tryz.func68.trans (congrArg some (by kernel_rfl))
  f266 := Tryz.func83.trans (congrArg some (by kernel_rfl))
  f267 := Tryz.func70.trans (congrArg some (by kernel_rfl))
  f314 := Tryz.func84.trans (congrArg some (by kernel_rfl))
  t0 := Tryz.underlying0
  a0 := Tryz.isAgg0
  z0 := Tryz.sizeOf0
  v0 := Tryz.zeroValue0
  t3 := Tryz.underlying3
  a3 := Tryz.isAgg3
  z3 := Tryz.sizeOf3
  v3 := Tryz.zeroValue3
  t4 := Tryz.underlying4
  a4 := Tryz.isAgg4
  z4 := Tryz.sizeOf4
  v4 := Tryz.zeroValue4
  t5 := Tryz.underlying5
  a5 := Tryz.isAgg5
  z5 := Tryz.sizeOf5
  v5 := Tryz.zeroValue5
  t9 := Tryz.underlying9
  a9 := Tryz.isAgg9
  z9 := Tryz.sizeOf9
  v9 := Tryz.zeroValue9
  t46 := Tryz.underlying102
  a46 := Tryz.isAgg102
  z46 := Tryz.sizeOf102
  v46 := Tryz.zeroValue102
  t51 := Tryz.underlying114
  a51 := Tryz.isAgg114
  z51 := Tryz.sizeOf114
  v51 := Tryz.zeroValue114
  t146 := Tryz.underlying115
  a146 := Tryz.isAgg115
  z146 := Tryz.sizeOf115
  v146 := Tryz.zeroValue115
  g1 := by kernel_rfl
  i0 := by kernel_rfl
  i3 := by kernel_rfl
  i4 := by kernel_rfl
  i5 := by kernel_rfl
  i9 := by kernel_rfl
  i46 := by kernel_rfl
  i51 := by kernel_rfl
  i146 := by kernel_rfl
  m1 := by kernel_rfl
  s1_3 := fun w h => Go.Proofs.cell_of_shapedOpen_int (zero := #[.int .i64 0]) (t := 3) h (of_decide_eq_true (by kernel_rfl)) (by kernel_rfl) rfl (by kernel_rfl) (by kernel_rfl) Tryz.underlying3 }
open Go.RowKit Go.Lib in
theorem Tryz.strings_Count_shaped (s sub : ByteArray) (w : World) (h : w.ShapedOpen Tryz.prog) (hs : s.size < 4294967281) (h2 : 2 ≤ sub.size) :
    Calls Tryz.prog 59 #[.string s, .string sub] w fun e w' => e = .returned (.int .i64 (Lib.countB s sub)) ∧ w' = w := Any.strings_Count_shaped Tryz.laysM138 s sub w h hs h2
open Go.RowKit Go.Lib in
/-- strings.Count at whatever sep that is not empty: the two roads under one statement. (LAID: no walk: one application.) -/
theorem Tryz.strings_Count_any (s sep : ByteArray) (m : Int) (w : World) (hs : s.size < 4294967281) (hm : w.cell? ⟨0, 0, none⟩ = some (.int .i64 m)) (h1 : 1 ≤ sep.size) :
    Calls Tryz.prog 59 #[.string s, .string sep] w fun e w' => e = .returned (.int .i64 (Lib.countB s sep)) ∧ w' = w := Any.strings_Count_any Tryz.lays138 s sep m w hs hm h1
def Tryz.lays221_ren : Go.Shelf.Ren := ⟨fun | 221 => 40 | 268 => 58 | 138 => 59 | 143 => 30 | 195 => 78 | 197 => 71 | 218 => 79 | 219 => 44 | 260 => 85 | 217 => 67 | 225 => 68 | 224 => 69 | 267 => 70 | 266 => 83 | 314 => 84 | n => n, fun | 9 => 9 | 3 => 3 | 31 => 32 | 4 => 4 | 0 => 0 | 105 => 103 | 21 => 21 | 5 => 5 | 46 => 102 | 119 => 131 | 139 => 134 | 138 => 133 | 146 => 115 | 51 => 114 | n => n, fun | 1 => 0 | 3 => 1 | 4 => 2 | n => n⟩
theorem Tryz.lays221 : Go.Proofs.Lays.n221 Tryz.prog Tryz.lays221_ren := {
  mixed := by kernel_rfl
  f138 := Tryz.func59.trans (congrArg some (by kernel_rfl))
  f143 := Tryz.func30.trans (congrArg some (by kernel_rfl))
  f195 := Tryz.func78.trans (congrArg some (by kernel_rfl))
  f197 := Tryz.func71.trans (congrArg some (by kernel_rfl))
  f217 := Tryz.func67.trans (congrArg some (by kernel_rfl))
  f218 := Tryz.func79.trans (congrArg some (by kernel_rfl))
  f219 := Tryz.func44.trans (congrArg some (by kernel_rfl))
  f221 := Tryz.func40.trans (congrArg some (by kernel_rfl))
  f224 := Tryz.func69.trans (congrArg some (by kernel_rfl))
  f225 := Tryz.func68.trans (congrArg some (by kernel_rfl))
  f260 := Tryz.func85.trans (congrArg some (by kernel_rfl))
  f266 := Tryz.func83.trans (congrArg some (by kernel_rfl))
  f267 := Tryz.func70.trans (congrArg some (by kernel_rfl))
  f268 := Tryz.func58.trans (congrArg some (by kernel_rfl))
  f314 := Tryz.func84.trans (congrArg some (by kernel_rfl))
  t0 := Tryz.underlying0
  a0 := Tryz.isAgg0
  z0 := Tryz.sizeOf0
  v0 := Tryz.zeroValue0
  t3 := Tryz.underlying3
  a3 := Tryz.isAgg3
  z3 := Tryz.sizeOf3
  v3 := Tryz.zeroValue3
  t4 := Tryz.underlying4
  a4 := Tryz.isAgg4
  z4 := Tryz.sizeOf4
  v4 := Tryz.zeroValue4
  t5 := Tryz.underlying5
  a5 := Tryz.isAgg5
  z5 := Tryz.sizeOf5
  v5 := Tryz.zeroValue5
  t9 := Tryz.underlying9
  a9 := Tryz.isAgg9
  z9 := Tryz.sizeOf9
  v9 := Tryz.zeroValue9
  t21 := Tryz.underlying21
  a21 := Tryz.isAgg21
  z21 := Tryz.sizeOf21
  v21 := Tryz.zeroValue21
  t31 := Tryz.underlying32
  a31 := Tryz.isAgg32
  z31 := Tryz.sizeOf32
  v31 := Tryz.zeroValue32
  t46 := Tryz.underlying102
  a46 := Tryz.isAgg102
  z46 := Tryz.sizeOf102
  v46 := Tryz.zeroValue102
  t51 := Tryz.underlying114
  a51 := Tryz.isAgg114
  z51 := Tryz.sizeOf114
  v51 := Tryz.zeroValue114
  t105 := Tryz.underlying103
  a105 := Tryz.isAgg103
  z105 := Tryz.sizeOf103
  v105 := Tryz.zeroValue103
  t119 := Tryz.underlying131
  a119 := Tryz.isAgg131
  z119 := Tryz.sizeOf131
  t138 := Tryz.underlying133
  a138 := Tryz.isAgg133
  z138 := Tryz.sizeOf133
  v138 := Tryz.zeroValue133
  t139 := Tryz.underlying134
  a139 := Tryz.isAgg134
  z139 := Tryz.sizeOf134
  v139 := Tryz.zeroValue134
  t146 := Tryz.underlying115
  a146 := Tryz.isAgg115
  z146 := Tryz.sizeOf115
  v146 := Tryz.zeroValue115
  g1 := by kernel_rfl
  g3 := by kernel_rfl
  g4 := by kernel_rfl }
open Go.RowKit Go.Lib in
theorem Tryz.strings_genSplit (s sep : ByteArray) (sv : Nat) (n : Int) (N : Nat) (m : Int) (w : World) (hs : s.size < 4294967281) (hm : w.cell? ⟨0, 0, none⟩ = some (.int .i64 m)) (h1 : 1 ≤ sep.size) (hsv : sv ≤ sep.size) (hn0 : n ≠ 0) (hn63 : n ≤ 9223372036854775807) (hN : (N : Int) = min (if n < 0 then (Lib.countB s sep : Int) + 1 else n) ((s.size : Int) + 1)) :
    Calls Tryz.prog 40 #[.string s, .string sep, .int .i64 sv, .int .i64 n] w fun e w' =>
      e = .returned (.slice (some ⟨w.heap.size, 0, none⟩) (Lib.splitB sep sv (N - 1) s).length N) ∧ w' = w.alloc (.cells (Lib.cellsOf (Lib.splitB sep sv (N - 1) s) N) 9) := Any.strings_genSplit Tryz.lays221 (by kernel_rfl) s sep sv n N m w hs hm h1 hsv hn0 hn63 hN
def Tryz.lays146_ren : Go.Shelf.Ren := ⟨fun | 146 => 26 | 221 => 40 | 268 => 58 | 138 => 59 | 143 => 30 | 195 => 78 | 197 => 71 | 218 => 79 | 219 => 44 | 260 => 85 | 217 => 67 | 225 => 68 | 224 => 69 | 267 => 70 | 266 => 83 | 314 => 84 | n => n, fun | 9 => 9 | 31 => 32 | 3 => 3 | 4 => 4 | 0 => 0 | 105 => 103 | 21 => 21 | 5 => 5 | 46 => 102 | 119 => 131 | 139 => 134 | 138 => 133 | 146 => 115 | 51 => 114 | n => n, fun | 1 => 0 | 3 => 1 | 4 => 2 | n => n⟩
theorem Tryz.lays146 : Go.Proofs.Lays.n146 Tryz.prog Tryz.lays146_ren := {
  mixed := by kernel_rfl
  f138 := Tryz.func59.trans (congrArg some (by kernel_rfl))
  f143 := Tryz.func30.trans (congrArg some (by kernel_rfl))
  f146 := Tryz.func26.trans (congrArg some (by kernel_rfl))
  f195 := Tryz.func78.trans (congrArg some (by kernel_rfl))
  f197 := Tryz.func71.trans (congrArg some (by kernel_rfl))
  f217 := Tryz.func67.trans (congrArg some (by kernel_rfl))
  f218 := Tryz.func79.trans (congrArg some (by kernel_rfl))
  f219 := Tryz.func44.trans (congrArg some (by kernel_rfl))
  f221 := Tryz.func40.trans (congrArg some (by kernel_rfl))
  f224 := Tryz.func69.trans (congrArg some (by kernel_rfl))
  f225 := Tryz.func68.trans (congrArg some (by kernel_rfl))
  f260 := Tryz.func85.trans (congrArg some (by kernel_rfl))
  f266 := Tryz.func83.trans (congrArg some (by kernel_rfl))
  f267 := Tryz.func70.trans (congrArg some (by kernel_rfl))
  f268 := Tryz.func58.trans (congrArg some (by kernel_rfl))
  f314 := Tryz.func84.trans (congrArg some (by kernel_rfl))
  t0 := Tryz.underlying0
  a0 := Tryz.isAgg0
  z0 := Tryz.sizeOf0
  v0 := Tryz.zeroValue0
  t3 := Tryz.underlying3
  a3 := Tryz.isAgg3
  z3 := Tryz.sizeOf3
  v3 := Tryz.zeroValue3
  t4 := Tryz.underlying4
  a4 := Tryz.isAgg4
  z4 := Tryz.sizeOf4
  v4 := Tryz.zeroValue4
  t5 := Tryz.underlying5
  a5 := Tryz.isAgg5
  z5 := Tryz.sizeOf5
  v5 := Tryz.zeroValue5
  t9 := Tryz.underlying9
  a9 := Tryz.isAgg9
  z9 := Tryz.sizeOf9
  v9 := Tryz.zeroValue9
  t21 := Tryz.underlying21
  a21 := Tryz.isAgg21
  z21 := Tryz.sizeOf21
  v21 := Tryz.zeroValue21
  t31 := Tryz.underlying32
  a31 := Tryz.isAgg32
  z31 := Tryz.sizeOf32
  v31 := Tryz.zeroValue32
  t46 := Tryz.underlying102
  a46 := Tryz.isAgg102
  z46 := Tryz.sizeOf102
  v46 := Tryz.zeroValue102
  t51 := Tryz.underlying114
  a51 := Tryz.isAgg114
  z51 := Tryz.sizeOf114
  v51 := Tryz.zeroValue114
  t105 := Tryz.underlying103
  a105 := Tryz.isAgg103
  z105 := Tryz.sizeOf103
  v105 := Tryz.zeroValue103
  t119 := Tryz.underlying131
  a119 := Tryz.isAgg131
  z119 := Tryz.sizeOf131
  t138 := Tryz.underlying133
  a138 := Tryz.isAgg133
  z138 := Tryz.sizeOf133
  v138 := Tryz.zeroValue133
  t139 := Tryz.underlying134
  a139 := Tryz.isAgg134
  z139 := Tryz.sizeOf134
  v139 := Tryz.zeroValue134
  t146 := Tryz.underlying115
  a146 := Tryz.isAgg115
  z146 := Tryz.sizeOf115
  v146 := Tryz.zeroValue115
  g1 := by kernel_rfl
  g3 := by kernel_rfl
  g4 := by kernel_rfl }
open Go.RowKit Go.Lib in
/-- strings.Split. (LAID: no walk: one application.) -/
theorem Tryz.strings_Split (s sep : ByteArray) (m : Int) (w : World) (hs : s.size < 4294967281) (hm : w.cell? ⟨0, 0, none⟩ = some (.int .i64 m)) (h1 : 1 ≤ sep.size) :
    Calls Tryz.prog 26 #[.string s, .string sep] w fun e w' =>
      e = .returned (.slice (some ⟨w.heap.size, 0, none⟩) (Lib.countB s sep + 1) (Lib.countB s sep + 1)) ∧ w' = w.alloc (.cells ((Lib.splitB sep 0 (Lib.countB s sep) s).map Value.string).toArray 9) := Any.strings_Split Tryz.lays146 (by kernel_rfl) s sep m w hs hm h1
def Tryz.lays154_ren : Go.Shelf.Ren := ⟨fun | 154 => 45 | 138 => 59 | 165 => 55 | 143 => 30 | 166 => 56 | 197 => 71 | 169 => 57 | 195 => 78 | 218 => 79 | 240 => 76 | 241 => 77 | 219 => 44 | 260 => 85 | 276 => 96 | 277 => 97 | 217 => 67 | 225 => 68 | 224 => 69 | 267 => 70 | 266 => 83 | 314 => 84 | n => n, fun | 9 => 9 | 3 => 3 | 4 => 4 | 72 => 86 | 0 => 0 | 76 => 90 | 105 => 103 | 21 => 21 | 5 => 5 | 70 => 83 | 20 => 20 | 37 => 84 | 75 => 89 | 127 => 110 | 164 => 127 | 46 => 102 | 119 => 131 | 139 => 134 | 138 => 133 | 146 => 115 | 51 => 114 | 80 => 49 | n => n, fun | 1 => 0 | 3 => 1 | 4 => 2 | n => n⟩
theorem Tryz.lays154 : Go.Proofs.Lays.n154 Tryz.prog Tryz.lays154_ren := {
  mixed := by kernel_rfl
  f138 := Tryz.func59.trans (congrArg some (by kernel_rfl))
  f143 := Tryz.func30.trans (congrArg some (by kernel_rfl))
  f154 := Tryz.func45.trans (congrArg some (by kernel_rfl))
  f165 := Tryz.func55.trans (congrArg some (by kernel_rfl))
  f166 := Tryz.func56.trans (congrArg some (by kernel_rfl))
  f169 := Tryz.func57.trans (congrArg some (by kernel_rfl))
  f195 := Tryz.func78.trans (congrArg some (by kernel_rfl))
  f197 := Tryz.func71.trans (congrArg some (by kernel_rfl))
  f217 := Tryz.func67.trans (congrArg some (by kernel_rfl))
  f218 := Tryz.func79.trans (congrArg some (by kernel_rfl))
  f219 := Tryz.func44.trans (congrArg some (by kernel_rfl))
  f224 := Tryz.func69.trans (congrArg some (by kernel_rfl))
  f225 := Tryz.func68.trans (congrArg some (by kernel_rfl))
  f240 := Tryz.func76.trans (congrArg some (by kernel_rfl))
  f241 := Tryz.func77.trans (congrArg some (by kernel_rfl))
  f260 := Tryz.func85.trans (congrArg some (by kernel_rfl))
  f266 := Tryz.func83.trans (congrArg some (by kernel_rfl))
  f267 := Tryz.func70.trans (congrArg some (by kernel_rfl))
  f276 := Tryz.func96.trans (congrArg some (by kernel_rfl))
  f277 := Tryz.func97.trans (congrArg some (by kernel_rfl))
  f314 := Tryz.func84.trans (congrArg some (by kernel_rfl))
  t0 := Tryz.underlying0
  a0 := Tryz.isAgg0
  z0 := Tryz.sizeOf0
  v0 := Tryz.zeroValue0
  t3 := Tryz.underlying3
  a3 := Tryz.isAgg3
  z3 := Tryz.sizeOf3
  v3 := Tryz.zeroValue3
  t4 := Tryz.underlying4
  a4 := Tryz.isAgg4
  z4 := Tryz.sizeOf4
  v4 := Tryz.zeroValue4
  t5 := Tryz.underlying5
  a5 := Tryz.isAgg5
  z5 := Tryz.sizeOf5
  v5 := Tryz.zeroValue5
  t9 := Tryz.underlying9
  a9 := Tryz.isAgg9
  z9 := Tryz.sizeOf9
  v9 := Tryz.zeroValue9
  t20 := Tryz.underlying20
  a20 := Tryz.isAgg20
  z20 := Tryz.sizeOf20
  v20 := Tryz.zeroValue20
  t21 := Tryz.underlying21
  a21 := Tryz.isAgg21
  z21 := Tryz.sizeOf21
  v21 := Tryz.zeroValue21
  t37 := Tryz.underlying84
  a37 := Tryz.isAgg84
  z37 := Tryz.sizeOf84
  v37 := Tryz.zeroValue84
  t46 := Tryz.underlying102
  a46 := Tryz.isAgg102
  z46 := Tryz.sizeOf102
  v46 := Tryz.zeroValue102
  t51 := Tryz.underlying114
  a51 := Tryz.isAgg114
  z51 := Tryz.sizeOf114
  v51 := Tryz.zeroValue114
  t70 := Tryz.underlying83
  a70 := Tryz.isAgg83
  z70 := Tryz.sizeOf83
  v70 := Tryz.zeroValue83
  t72 := Tryz.underlying86
  a72 := Tryz.isAgg86
  z72 := Tryz.sizeOf86
  v72 := Tryz.zeroValue86
  t75 := Tryz.underlying89
  a75 := Tryz.isAgg89
  z75 := Tryz.sizeOf89
  v75 := Tryz.zeroValue89
  t76 := Tryz.underlying90
  a76 := Tryz.isAgg90
  z76 := Tryz.sizeOf90
  v76 := Tryz.zeroValue90
  t105 := Tryz.underlying103
  a105 := Tryz.isAgg103
  z105 := Tryz.sizeOf103
  v105 := Tryz.zeroValue103
  t119 := Tryz.underlying131
  a119 := Tryz.isAgg131
  z119 := Tryz.sizeOf131
  t127 := Tryz.underlying110
  a127 := Tryz.isAgg110
  z127 := Tryz.sizeOf110
  v127 := Tryz.zeroValue110
  t138 := Tryz.underlying133
  a138 := Tryz.isAgg133
  z138 := Tryz.sizeOf133
  v138 := Tryz.zeroValue133
  t139 := Tryz.underlying134
  a139 := Tryz.isAgg134
  z139 := Tryz.sizeOf134
  v139 := Tryz.zeroValue134
  t146 := Tryz.underlying115
  a146 := Tryz.isAgg115
  z146 := Tryz.sizeOf115
  v146 := Tryz.zeroValue115
  t164 := Tryz.underlying127
  a164 := Tryz.isAgg127
  z164 := Tryz.sizeOf127
  v164 := Tryz.zeroValue127
  g1 := by kernel_rfl
  g3 := by kernel_rfl
  g4 := by kernel_rfl }
theorem Tryz.Builder_Extra_154 : Builder.Extra Tryz.prog Tryz.lays154_ren := {
  sizeBuilder := by kernel_rfl
  liesBuilder := by kernel_rfl
  t5 := Tryz.underlying5
  a5 := Tryz.isAgg5
  z5 := Tryz.sizeOf5
  v5 := Tryz.zeroValue5
  infoByte := by kernel_rfl
  cellsByte := by kernel_rfl
  sizeByte := by kernel_rfl
  neB5 := by decide }
open Go.RowKit Go.Lib in
/-- WHERE SOMETHING IS REPLACED: old is not new, n is not 0, there is an instance. (LAID: no walk: one application.) -/
theorem Tryz.strings_Replace_some (s old new : ByteArray) (n : Int) (m : Int) (w : World) (hs : s.size < 4294967281) (hm : w.cell? ⟨0, 0, none⟩ = some (.int .i64 m)) (h1 : 1 ≤ old.size) (hne : old ≠ new) (hn0 : n ≠ 0) (hc0 : Lib.countB s old ≠ 0) (hlen : s.size + Lib.countB s old * new.size ≤ 140737488355328) :
    Calls Tryz.prog 45 #[.string s, .string old, .string new, .int .i64 n] w fun e w' =>
      e = .returned (.string ⟨(Lib.replaceK old.data.toList new.data.toList (Lib.replaceNum s.data.toList old.data.toList n) s.data.toList).toArray⟩) ∧ Below w.heap.size w w' := Any.strings_Replace_some Tryz.lays154 Tryz.Builder_Extra_154 s old new n m w hs hm h1 hne hn0 hc0 hlen
open Go.RowKit Go.Lib in
/-- 'if old == new || n == 0 { return s }'. (LAID: no walk: one application.) -/
theorem Tryz.strings_Replace_none (s old new : ByteArray) (n : Int) (w : World) (h : old = new ∨ n = 0) :
    Calls Tryz.prog 45 #[.string s, .string old, .string new, .int .i64 n] w fun e w' => e = .returned (.string s) ∧ w' = w := Any.strings_Replace_none Tryz.lays154 s old new n w h
open Go.RowKit Go.Lib in
/-- 'if m := Count(s, old); m == 0 { return s }'. (LAID: no walk: one application.) -/
theorem Tryz.strings_Replace_absent (s old new : ByteArray) (n : Int) (m : Int) (w : World) (hs : s.size < 4294967281) (hm : w.cell? ⟨0, 0, none⟩ = some (.int .i64 m)) (h1 : 1 ≤ old.size) (hne : old ≠ new) (hn0 : n ≠ 0) (hc0 : Lib.countB s old = 0) :
    Calls Tryz.prog 45 #[.string s, .string old, .string new, .int .i64 n] w fun e w' => e = .returned (.string s) ∧ w' = w := Any.strings_Replace_absent Tryz.lays154 s old new n m w hs hm h1 hne hn0 hc0
open Go.RowKit Go.Lib in
/-- strings.Replace: "Replace returns a copy of the string s with the first n non-overlapping instances of old replaced by new. .. If n < 0, there is no limit on the number of replacements.": AT AN old THAT IS NOT EMPTY: IT RETURNS 'Lib.replace s old new n'. Below the heap's end the world is as it was. IT ASKS, as strings.Index's contract: 'len(s) < 4294967281', 'hm'; and that what comes out has room: 'len(s) + Count(s, old) * len(new) ≤ 2^47'. (LAID: no walk: one application.) -/
theorem Tryz.strings_Replace (s old new : ByteArray) (n : Int) (m : Int) (w : World) (hs : s.size < 4294967281) (hm : w.cell? ⟨0, 0, none⟩ = some (.int .i64 m)) (h1 : 1 ≤ old.size) (hlen : s.size + Lib.countB s old * new.size ≤ 140737488355328) :
    Calls Tryz.prog 45 #[.string s, .string old, .string new, .int .i64 n] w fun e w' =>
      e = .returned (.string ⟨(Lib.replace s.data.toList old.data.toList new.data.toList n).toArray⟩) ∧ Below w.heap.size w w' := Any.strings_Replace Tryz.lays154 Tryz.Builder_Extra_154 s old new n m w hs hm h1 hlen
def Tryz.lays155_ren : Go.Shelf.Ren := ⟨fun | 155 => 31 | 154 => 45 | 138 => 59 | 165 => 55 | 143 => 30 | 166 => 56 | 197 => 71 | 169 => 57 | 195 => 78 | 218 => 79 | 240 => 76 | 241 => 77 | 219 => 44 | 260 => 85 | 276 => 96 | 277 => 97 | 217 => 67 | 225 => 68 | 224 => 69 | 267 => 70 | 266 => 83 | 314 => 84 | n => n, fun | 9 => 9 | 3 => 3 | 4 => 4 | 72 => 86 | 0 => 0 | 76 => 90 | 105 => 103 | 21 => 21 | 5 => 5 | 70 => 83 | 20 => 20 | 37 => 84 | 75 => 89 | 127 => 110 | 164 => 127 | 46 => 102 | 119 => 131 | 139 => 134 | 138 => 133 | 146 => 115 | 51 => 114 | 80 => 49 | n => n, fun | 1 => 0 | 3 => 1 | 4 => 2 | n => n⟩
theorem Tryz.lays155 : Go.Proofs.Lays.n155 Tryz.prog Tryz.lays155_ren := {
  mixed := by kernel_rfl
  f138 := Tryz.func59.trans (congrArg some (by kernel_rfl))
  f143 := Tryz.func30.trans (congrArg some (by kernel_rfl))
  f154 := Tryz.func45.trans (congrArg some (by kernel_rfl))
  f155 := Tryz.func31.trans (congrArg some (by kernel_rfl))
  f165 := Tryz.func55.trans (congrArg some (by kernel_rfl))
  f166 := Tryz.func56.trans (congrArg some (by kernel_rfl))
  f169 := Tryz.func57.trans (congrArg some (by kernel_rfl))
  f195 := Tryz.func78.trans (congrArg some (by kernel_rfl))
  f197 := Tryz.func71.trans (congrArg some (by kernel_rfl))
  f217 := Tryz.func67.trans (congrArg some (by kernel_rfl))
  f218 := Tryz.func79.trans (congrArg some (by kernel_rfl))
  f219 := Tryz.func44.trans (congrArg some (by kernel_rfl))
  f224 := Tryz.func69.trans (congrArg some (by kernel_rfl))
  f225 := Tryz.func68.trans (congrArg some (by kernel_rfl))
  f240 := Tryz.func76.trans (congrArg some (by kernel_rfl))
  f241 := Tryz.func77.trans (congrArg some (by kernel_rfl))
  f260 := Tryz.func85.trans (congrArg some (by kernel_rfl))
  f266 := Tryz.func83.trans (congrArg some (by kernel_rfl))
  f267 := Tryz.func70.trans (congrArg some (by kernel_rfl))
  f276 := Tryz.func96.trans (congrArg some (by kernel_rfl))
  f277 := Tryz.func97.trans (congrArg some (by kernel_rfl))
  f314 := Tryz.func84.trans (congrArg some (by kernel_rfl))
  t0 := Tryz.underlying0
  a0 := Tryz.isAgg0
  z0 := Tryz.sizeOf0
  v0 := Tryz.zeroValue0
  t3 := Tryz.underlying3
  a3 := Tryz.isAgg3
  z3 := Tryz.sizeOf3
  v3 := Tryz.zeroValue3
  t4 := Tryz.underlying4
  a4 := Tryz.isAgg4
  z4 := Tryz.sizeOf4
  v4 := Tryz.zeroValue4
  t5 := Tryz.underlying5
  a5 := Tryz.isAgg5
  z5 := Tryz.sizeOf5
  v5 := Tryz.zeroValue5
  t9 := Tryz.underlying9
  a9 := Tryz.isAgg9
  z9 := Tryz.sizeOf9
  v9 := Tryz.zeroValue9
  t20 := Tryz.underlying20
  a20 := Tryz.isAgg20
  z20 := Tryz.sizeOf20
  v20 := Tryz.zeroValue20
  t21 := Tryz.underlying21
  a21 := Tryz.isAgg21
  z21 := Tryz.sizeOf21
  v21 := Tryz.zeroValue21
  t37 := Tryz.underlying84
  a37 := Tryz.isAgg84
  z37 := Tryz.sizeOf84
  v37 := Tryz.zeroValue84
  t46 := Tryz.underlying102
  a46 := Tryz.isAgg102
  z46 := Tryz.sizeOf102
  v46 := Tryz.zeroValue102
  t51 := Tryz.underlying114
  a51 := Tryz.isAgg114
  z51 := Tryz.sizeOf114
  v51 := Tryz.zeroValue114
  t70 := Tryz.underlying83
  a70 := Tryz.isAgg83
  z70 := Tryz.sizeOf83
  v70 := Tryz.zeroValue83
  t72 := Tryz.underlying86
  a72 := Tryz.isAgg86
  z72 := Tryz.sizeOf86
  v72 := Tryz.zeroValue86
  t75 := Tryz.underlying89
  a75 := Tryz.isAgg89
  z75 := Tryz.sizeOf89
  v75 := Tryz.zeroValue89
  t76 := Tryz.underlying90
  a76 := Tryz.isAgg90
  z76 := Tryz.sizeOf90
  v76 := Tryz.zeroValue90
  t105 := Tryz.underlying103
  a105 := Tryz.isAgg103
  z105 := Tryz.sizeOf103
  v105 := Tryz.zeroValue103
  t119 := Tryz.underlying131
  a119 := Tryz.isAgg131
  z119 := Tryz.sizeOf131
  t127 := Tryz.underlying110
  a127 := Tryz.isAgg110
  z127 := Tryz.sizeOf110
  v127 := Tryz.zeroValue110
  t138 := Tryz.underlying133
  a138 := Tryz.isAgg133
  z138 := Tryz.sizeOf133
  v138 := Tryz.zeroValue133
  t139 := Tryz.underlying134
  a139 := Tryz.isAgg134
  z139 := Tryz.sizeOf134
  v139 := Tryz.zeroValue134
  t146 := Tryz.underlying115
  a146 := Tryz.isAgg115
  z146 := Tryz.sizeOf115
  v146 := Tryz.zeroValue115
  t164 := Tryz.underlying127
  a164 := Tryz.isAgg127
  z164 := Tryz.sizeOf127
  v164 := Tryz.zeroValue127
  g1 := by kernel_rfl
  g3 := by kernel_rfl
  g4 := by kernel_rfl }
theorem Tryz.Builder_Extra_155 : Builder.Extra Tryz.prog Tryz.lays155_ren := {
  sizeBuilder := by kernel_rfl
  liesBuilder := by kernel_rfl
  t5 := Tryz.underlying5
  a5 := Tryz.isAgg5
  z5 := Tryz.sizeOf5
  v5 := Tryz.zeroValue5
  infoByte := by kernel_rfl
  cellsByte := by kernel_rfl
  sizeByte := by kernel_rfl
  neB5 := by decide }
open Go.RowKit Go.Lib in
/-- strings.ReplaceAll: "ReplaceAll returns a copy of the string s with all non-overlapping instances of old replaced by new.": AT AN old THAT IS NOT EMPTY: 'Lib.replaceAll s old new'. (LAID: no walk: one application.) -/
theorem Tryz.strings_ReplaceAll (s old new : ByteArray) (m : Int) (w : World) (hs : s.size < 4294967281) (hm : w.cell? ⟨0, 0, none⟩ = some (.int .i64 m)) (h1 : 1 ≤ old.size) (hlen : s.size + Lib.countB s old * new.size ≤ 140737488355328) :
    Calls Tryz.prog 31 #[.string s, .string old, .string new] w fun e w' =>
      e = .returned (.string ⟨(Lib.replaceAll s.data.toList old.data.toList new.data.toList).toArray⟩) ∧ Below w.heap.size w w' := Any.strings_ReplaceAll Tryz.lays155 Tryz.Builder_Extra_155 s old new m w hs hm h1 hlen
def Tryz.laysM146_ren : Go.Shelf.Ren := ⟨fun | 146 => 26 | 221 => 40 | 268 => 58 | 138 => 59 | 143 => 30 | 195 => 78 | 197 => 71 | 218 => 79 | 219 => 44 | 260 => 85 | 217 => 67 | 225 => 68 | 224 => 69 | 267 => 70 | 266 => 83 | 314 => 84 | n => n, fun | 9 => 9 | 31 => 32 | 3 => 3 | 4 => 4 | 0 => 0 | 105 => 103 | 21 => 21 | 5 => 5 | 46 => 102 | 119 => 131 | 139 => 134 | 138 => 133 | 146 => 115 | 51 => 114 | n => n, fun | 1 => 0 | 3 => 1 | 4 => 2 | n => n⟩
theorem Tryz.laysM146 : Go.Proofs.LaysM.n146 Tryz.prog Tryz.laysM146_ren := {
  mixed := by kernel_rfl
  f138 := Tryz.func59.trans (congrArg some (by kernel_rfl))
  f143 := Tryz.func30.trans (congrArg some (by kernel_rfl))
  f146 := Tryz.func26.trans (congrArg some (by kernel_rfl))
  f195 := Tryz.func78.trans (congrArg some (by kernel_rfl))
  f197 := Tryz.func71.trans (congrArg some (by kernel_rfl))
  f217 := Tryz.func67.trans (congrArg some (by kernel_rfl))
  f218 := Tryz.func79.trans (congrArg some (by kernel_rfl))
  f219 := Tryz.func44.trans (congrArg some (by kernel_rfl))
  f221 := Tryz.func40.trans (congrArg some (by kernel_rfl))
  f224 := Tryz.func69.trans (congrArg some (by kernel_rfl))
  f225 := Tryz.func68.trans (congrArg some (by kernel_rfl))
  f260 := Tryz.func85.trans (congrArg some (by kernel_rfl))
  f266 := Tryz.func83.trans (congrArg some (by kernel_rfl))
  f267 := Tryz.func70.trans (congrArg some (by kernel_rfl))
  f268 := Tryz.func58.trans (congrArg some (by kernel_rfl))
  f314 := Tryz.func84.trans (congrArg some (by kernel_rfl))
  t0 := Tryz.underlying0
  a0 := Tryz.isAgg0
  z0 := Tryz.sizeOf0
  v0 := Tryz.zeroValue0
  t3 := Tryz.underlying3
  a3 := Tryz.isAgg3
  z3 := Tryz.sizeOf3
  v3 := Tryz.zeroValue3
  t4 := Tryz.underlying4
  a4 := Tryz.isAgg4
  z4 := Tryz.sizeOf4
  v4 := Tryz.zeroValue4
  t5 := Tryz.underlying5
  a5 := Tryz.isAgg5
  z5 := Tryz.sizeOf5
  v5 := Tryz.zeroValue5
  t9 := Tryz.underlying9
  a9 := Tryz.isAgg9
  z9 := Tryz.sizeOf9
  v9 := Tryz.zeroValue9
  t21 := Tryz.underlying21
  a21 := Tryz.isAgg21
  z21 := Tryz.sizeOf21
  v21 := Tryz.zeroValue21
  t31 := Tryz.underlying32
  a31 := Tryz.isAgg32
  z31 := Tryz.sizeOf32
  v31 := Tryz.zeroValue32
  t46 := Tryz.underlying102
  a46 := Tryz.isAgg102
  z46 := Tryz.sizeOf102
  v46 := Tryz.zeroValue102
  t51 := Tryz.underlying114
  a51 := Tryz.isAgg114
  z51 := Tryz.sizeOf114
  v51 := Tryz.zeroValue114
  t105 := Tryz.underlying103
  a105 := Tryz.isAgg103
  z105 := Tryz.sizeOf103
  v105 := Tryz.zeroValue103
  t119 := Tryz.underlying131
  a119 := Tryz.isAgg131
  z119 := Tryz.sizeOf131
  t138 := Tryz.underlying133
  a138 := Tryz.isAgg133
  z138 := Tryz.sizeOf133
  v138 := Tryz.zeroValue133
  t139 := Tryz.underlying134
  a139 := Tryz.isAgg134
  z139 := Tryz.sizeOf134
  v139 := Tryz.zeroValue134
  t146 := Tryz.underlying115
  a146 := Tryz.isAgg115
  z146 := Tryz.sizeOf115
  v146 := Tryz.zeroValue115
  g1 := by kernel_rfl
  g3 := by kernel_rfl
  g4 := by kernel_rfl
  i0 := by kernel_rfl
  i3 := by kernel_rfl
  i4 := by kernel_rfl
  i5 := by kernel_rfl
  i9 := by kernel_rfl
  i21 := by kernel_rfl
  i31 := by kernel_rfl
  i46 := by kernel_rfl
  i51 := by kernel_rfl
  i105 := by kernel_rfl
  i138 := by kernel_rfl
  i139 := by kernel_rfl
  i146 := by kernel_rfl
  m1 := by kernel_rfl
  s1_3 := fun w h => Go.Proofs.cell_of_shapedOpen_int (zero := #[.int .i64 0]) (t := 3) h (of_decide_eq_true (by kernel_rfl)) (by kernel_rfl) rfl (by kernel_rfl) (by kernel_rfl) Tryz.underlying3
  m3 := by kernel_rfl
  m4 := by kernel_rfl }
open Go.RowKit Go.Lib in
/-- strings.Split, sep not empty. (LAID: no walk: one application.) -/
theorem Tryz.strings_Split_shaped (s sep : ByteArray) (w : World) (h : w.ShapedOpen Tryz.prog) (hs : s.size < 4294967281) (h1 : 1 ≤ sep.size) :
    Calls Tryz.prog 26 #[.string s, .string sep] w fun e w' =>
      e = .returned (.slice (some ⟨w.heap.size, 0, none⟩) (Lib.countB s sep + 1) (Lib.countB s sep + 1)) ∧ w' = w.alloc (.cells ((Lib.splitB sep 0 (Lib.countB s sep) s).map Value.string).toArray 9) := Any.strings_Split_shaped Tryz.laysM146 s sep w h hs h1
def Tryz.laysM154_ren : Go.Shelf.Ren := ⟨fun | 154 => 45 | 138 => 59 | 165 => 55 | 143 => 30 | 166 => 56 | 197 => 71 | 169 => 57 | 195 => 78 | 218 => 79 | 240 => 76 | 241 => 77 | 219 => 44 | 260 => 85 | 276 => 96 | 277 => 97 | 217 => 67 | 225 => 68 | 224 => 69 | 267 => 70 | 266 => 83 | 314 => 84 | n => n, fun | 9 => 9 | 3 => 3 | 4 => 4 | 72 => 86 | 0 => 0 | 76 => 90 | 105 => 103 | 21 => 21 | 5 => 5 | 70 => 83 | 20 => 20 | 37 => 84 | 75 => 89 | 127 => 110 | 164 => 127 | 46 => 102 | 119 => 131 | 139 => 134 | 138 => 133 | 146 => 115 | 51 => 114 | 80 => 49 | n => n, fun | 1 => 0 | 3 => 1 | 4 => 2 | n => n⟩
theorem Tryz.laysM154 : Go.Proofs.LaysM.n154 Tryz.prog Tryz.laysM154_ren := {
  mixed := by kernel_rfl
  f138 := Tryz.func59.trans (congrArg some (by kernel_rfl))
  f143 := Tryz.func30.trans (congrArg some (by kernel_rfl))
  f154 := Tryz.func45.trans (congrArg some (by kernel_rfl))
  f165 := Tryz.func55.trans (congrArg some (by kernel_rfl))
  f166 := Tryz.func56.trans (congrArg some (by kernel_rfl))
  f169 := Tryz.func57.trans (congrArg some (by kernel_rfl))
  f195 := Tryz.func78.trans (congrArg some (by kernel_rfl))
  f197 := Tryz.func71.trans (congrArg some (by kernel_rfl))
  f217 := Tryz.func67.trans (congrArg some (by kernel_rfl))
  f218 := Tryz.func79.trans (congrArg some (by kernel_rfl))
  f219 := Tryz.func44.trans (congrArg some (by kernel_rfl))
  f224 := Tryz.func69.trans (congrArg some (by kernel_rfl))
  f225 := Tryz.func68.trans (congrArg some (by kernel_rfl))
  f240 := Tryz.func76.trans (congrArg some (by kernel_rfl))
  f241 := Tryz.func77.trans (congrArg some (by kernel_rfl))
  f260 := Tryz.func85.trans (congrArg some (by kernel_rfl))
  f266 := Tryz.func83.trans (congrArg some (by kernel_rfl))
  f267 := Tryz.func70.trans (congrArg some (by kernel_rfl))
  f276 := Tryz.func96.trans (congrArg some (by kernel_rfl))
  f277 := Tryz.func97.trans (congrArg some (by kernel_rfl))
  f314 := Tryz.func84.trans (congrArg some (by kernel_rfl))
  t0 := Tryz.underlying0
  a0 := Tryz.isAgg0
  z0 := Tryz.sizeOf0
  v0 := Tryz.zeroValue0
  t3 := Tryz.underlying3
  a3 := Tryz.isAgg3
  z3 := Tryz.sizeOf3
  v3 := Tryz.zeroValue3
  t4 := Tryz.underlying4
  a4 := Tryz.isAgg4
  z4 := Tryz.sizeOf4
  v4 := Tryz.zeroValue4
  t5 := Tryz.underlying5
  a5 := Tryz.isAgg5
  z5 := Tryz.sizeOf5
  v5 := Tryz.zeroValue5
  t9 := Tryz.underlying9
  a9 := Tryz.isAgg9
  z9 := Tryz.sizeOf9
  v9 := Tryz.zeroValue9
  t20 := Tryz.underlying20
  a20 := Tryz.isAgg20
  z20 := Tryz.sizeOf20
  v20 := Tryz.zeroValue20
  t21 := Tryz.underlying21
  a21 := Tryz.isAgg21
  z21 := Tryz.sizeOf21
  v21 := Tryz.zeroValue21
  t37 := Tryz.underlying84
  a37 := Tryz.isAgg84
  z37 := Tryz.sizeOf84
  v37 := Tryz.zeroValue84
  t46 := Tryz.underlying102
  a46 := Tryz.isAgg102
  z46 := Tryz.sizeOf102
  v46 := Tryz.zeroValue102
  t51 := Tryz.underlying114
  a51 := Tryz.isAgg114
  z51 := Tryz.sizeOf114
  v51 := Tryz.zeroValue114
  t70 := Tryz.underlying83
  a70 := Tryz.isAgg83
  z70 := Tryz.sizeOf83
  v70 := Tryz.zeroValue83
  t72 := Tryz.underlying86
  a72 := Tryz.isAgg86
  z72 := Tryz.sizeOf86
  v72 := Tryz.zeroValue86
  t75 := Tryz.underlying89
  a75 := Tryz.isAgg89
  z75 := Tryz.sizeOf89
  v75 := Tryz.zeroValue89
  t76 := Tryz.underlying90
  a76 := Tryz.isAgg90
  z76 := Tryz.sizeOf90
  v76 := Tryz.zeroValue90
  t105 := Tryz.underlying103
  a105 := Tryz.isAgg103
  z105 := Tryz.sizeOf103
  v105 := Tryz.zeroValue103
  t119 := Tryz.underlying131
  a119 := Tryz.isAgg131
  z119 := Tryz.sizeOf131
  t127 := Tryz.underlying110
  a127 := Tryz.isAgg110
  z127 := Tryz.sizeOf110
  v127 := Tryz.zeroValue110
  t138 := Tryz.underlying133
  a138 := Tryz.isAgg133
  z138 := Tryz.sizeOf133
  v138 := Tryz.zeroValue133
  t139 := Tryz.underlying134
  a139 := Tryz.isAgg134
  z139 := Tryz.sizeOf134
  v139 := Tryz.zeroValue134
  t146 := Tryz.underlying115
  a146 := Tryz.isAgg115
  z146 := Tryz.sizeOf115
  v146 := Tryz.zeroValue115
  t164 := Tryz.underlying127
  a164 := Tryz.isAgg127
  z164 := Tryz.sizeOf127
  v164 := Tryz.zeroValue127
  g1 := by kernel_rfl
  g3 := by kernel_rfl
  g4 := by kernel_rfl
  t80 := Tryz.underlying49
  a80 := Tryz.isAgg49
  z80 := Tryz.sizeOf49
  v80 := Tryz.zeroValue49
  i0 := by kernel_rfl
  i3 := by kernel_rfl
  i4 := by kernel_rfl
  i5 := by kernel_rfl
  i9 := by kernel_rfl
  i20 := by kernel_rfl
  i21 := by kernel_rfl
  i37 := by kernel_rfl
  i46 := by kernel_rfl
  i51 := by kernel_rfl
  i70 := by kernel_rfl
  i72 := by kernel_rfl
  i75 := by kernel_rfl
  i76 := by kernel_rfl
  i80 := by kernel_rfl
  i105 := by kernel_rfl
  i127 := by kernel_rfl
  i138 := by kernel_rfl
  i139 := by kernel_rfl
  i146 := by kernel_rfl
  i164 := by kernel_rfl
  m1 := by kernel_rfl
  s1_3 := fun w h => Go.Proofs.cell_of_shapedOpen_int (zero := #[.int .i64 0]) (t := 3) h (of_decide_eq_true (by kernel_rfl)) (by kernel_rfl) rfl (by kernel_rfl) (by kernel_rfl) Tryz.underlying3
  m3 := by kernel_rfl
  m4 := by kernel_rfl }
theorem Tryz.Builder_Extra_M154 : Builder.Extra Tryz.prog Tryz.laysM154_ren := {
  sizeBuilder := by kernel_rfl
  liesBuilder := by kernel_rfl
  t5 := Tryz.underlying5
  a5 := Tryz.isAgg5
  z5 := Tryz.sizeOf5
  v5 := Tryz.zeroValue5
  infoByte := by kernel_rfl
  cellsByte := by kernel_rfl
  sizeByte := by kernel_rfl
  neB5 := by decide }
open Go.RowKit Go.Lib in
/-- strings.Replace, old not empty. (LAID: no walk: one application.) -/
theorem Tryz.strings_Replace_shaped (s old new : ByteArray) (n : Int) (w : World) (h : w.ShapedOpen Tryz.prog) (hs : s.size < 4294967281) (h1 : 1 ≤ old.size) (hlen : s.size + Lib.countB s old * new.size ≤ 140737488355328) :
    Calls Tryz.prog 45 #[.string s, .string old, .string new, .int .i64 n] w fun e w' =>
      e = .returned (.string ⟨(Lib.replace s.data.toList old.data.toList new.data.toList n).toArray⟩) ∧ Below w.heap.size w w' := Any.strings_Replace_shaped Tryz.laysM154 Tryz.Builder_Extra_M154 s old new n w h hs h1 hlen
def Tryz.laysM155_ren : Go.Shelf.Ren := ⟨fun | 155 => 31 | 154 => 45 | 138 => 59 | 165 => 55 | 143 => 30 | 166 => 56 | 197 => 71 | 169 => 57 | 195 => 78 | 218 => 79 | 240 => 76 | 241 => 77 | 219 => 44 | 260 => 85 | 276 => 96 | 277 => 97 | 217 => 67 | 225 => 68 | 224 => 69 | 267 => 70 | 266 => 83 | 314 => 84 | n => n, fun | 9 => 9 | 3 => 3 | 4 => 4 | 72 => 86 | 0 => 0 | 76 => 90 | 105 => 103 | 21 => 21 | 5 => 5 | 70 => 83 | 20 => 20 | 37 => 84 | 75 => 89 | 127 => 110 | 164 => 127 | 46 => 102 | 119 => 131 | 139 => 134 | 138 => 133 | 146 => 115 | 51 => 114 | 80 => 49 | n => n, fun | 1 => 0 | 3 => 1 | 4 => 2 | n => n⟩
theorem Tryz.laysM155 : Go.Proofs.LaysM.n155 Tryz.prog Tryz.laysM155_ren := {
  mixed := by kernel_rfl
  f138 := Tryz.func59.trans (congrArg some (by kernel_rfl))
  f143 := Tryz.func30.trans (congrArg some (by kernel_rfl))
  f154 := Tryz.func45.trans (congrArg some (by kernel_rfl))
  f155 := Tryz.func31.trans (congrArg some (by kernel_rfl))
  f165 := Tryz.func55.trans (congrArg some (by kernel_rfl))
  f166 := Tryz.func56.trans (congrArg some (by kernel_rfl))
  f169 := Tryz.func57.trans (congrArg some (by kernel_rfl))
  f195 := Tryz.func78.trans (congrArg some (by kernel_rfl))
  f197 := Tryz.func71.trans (congrArg some (by kernel_rfl))
  f217 := Tryz.func67.trans (congrArg some (by kernel_rfl))
  f218 := Tryz.func79.trans (congrArg some (by kernel_rfl))
  f219 := Tryz.func44.trans (congrArg some (by kernel_rfl))
  f224 := Tryz.func69.trans (congrArg some (by kernel_rfl))
  f225 := Tryz.func68.trans (congrArg some (by kernel_rfl))
  f240 := Tryz.func76.trans (congrArg some (by kernel_rfl))
  f241 := Tryz.func77.trans (congrArg some (by kernel_rfl))
  f260 := Tryz.func85.trans (congrArg some (by kernel_rfl))
  f266 := Tryz.func83.trans (congrArg some (by kernel_rfl))
  f267 := Tryz.func70.trans (congrArg some (by kernel_rfl))
  f276 := Tryz.func96.trans (congrArg some (by kernel_rfl))
  f277 := Tryz.func97.trans (congrArg some (by kernel_rfl))
  f314 := Tryz.func84.trans (congrArg some (by kernel_rfl))
  t0 := Tryz.underlying0
  a0 := Tryz.isAgg0
  z0 := Tryz.sizeOf0
  v0 := Tryz.zeroValue0
  t3 := Tryz.underlying3
  a3 := Tryz.isAgg3
  z3 := Tryz.sizeOf3
  v3 := Tryz.zeroValue3
  t4 := Tryz.underlying4
  a4 := Tryz.isAgg4
  z4 := Tryz.sizeOf4
  v4 := Tryz.zeroValue4
  t5 := Tryz.underlying5
  a5 := Tryz.isAgg5
  z5 := Tryz.sizeOf5
  v5 := Tryz.zeroValue5
  t9 := Tryz.underlying9
  a9 := Tryz.isAgg9
  z9 := Tryz.sizeOf9
  v9 := Tryz.zeroValue9
  t20 := Tryz.underlying20
  a20 := Tryz.isAgg20
  z20 := Tryz.sizeOf20
  v20 := Tryz.zeroValue20
  t21 := Tryz.underlying21
  a21 := Tryz.isAgg21
  z21 := Tryz.sizeOf21
  v21 := Tryz.zeroValue21
  t37 := Tryz.underlying84
  a37 := Tryz.isAgg84
  z37 := Tryz.sizeOf84
  v37 := Tryz.zeroValue84
  t46 := Tryz.underlying102
  a46 := Tryz.isAgg102
  z46 := Tryz.sizeOf102
  v46 := Tryz.zeroValue102
  t51 := Tryz.underlying114
  a51 := Tryz.isAgg114
  z51 := Tryz.sizeOf114
  v51 := Tryz.zeroValue114
  t70 := Tryz.underlying83
  a70 := Tryz.isAgg83
  z70 := Tryz.sizeOf83
  v70 := Tryz.zeroValue83
  t72 := Tryz.underlying86
  a72 := Tryz.isAgg86
  z72 := Tryz.sizeOf86
  v72 := Tryz.zeroValue86
  t75 := Tryz.underlying89
  a75 := Tryz.isAgg89
  z75 := Tryz.sizeOf89
  v75 := Tryz.zeroValue89
  t76 := Tryz.underlying90
  a76 := Tryz.isAgg90
  z76 := Tryz.sizeOf90
  v76 := Tryz.zeroValue90
  t105 := Tryz.underlying103
  a105 := Tryz.isAgg103
  z105 := Tryz.sizeOf103
  v105 := Tryz.zeroValue103
  t119 := Tryz.underlying131
  a119 := Tryz.isAgg131
  z119 := Tryz.sizeOf131
  t127 := Tryz.underlying110
  a127 := Tryz.isAgg110
  z127 := Tryz.sizeOf110
  v127 := Tryz.zeroValue110
  t138 := Tryz.underlying133
  a138 := Tryz.isAgg133
  z138 := Tryz.sizeOf133
  v138 := Tryz.zeroValue133
  t139 := Tryz.underlying134
  a139 := Tryz.isAgg134
  z139 := Tryz.sizeOf134
  v139 := Tryz.zeroValue134
  t146 := Tryz.underlying115
  a146 := Tryz.isAgg115
  z146 := Tryz.sizeOf115
  v146 := Tryz.zeroValue115
  t164 := Tryz.underlying127
  a164 := Tryz.isAgg127
  z164 := Tryz.sizeOf127
  v164 := Tryz.zeroValue127
  g1 := by kernel_rfl
  g3 := by kernel_rfl
  g4 := by kernel_rfl
  t80 := Tryz.underlying49
  a80 := Tryz.isAgg49
  z80 := Tryz.sizeOf49
  v80 := Tryz.zeroValue49
  i0 := by kernel_rfl
  i3 := by kernel_rfl
  i4 := by kernel_rfl
  i5 := by kernel_rfl
  i9 := by kernel_rfl
  i20 := by kernel_rfl
  i21 := by kernel_rfl
  i37 := by kernel_rfl
  i46 := by kernel_rfl
  i51 := by kernel_rfl
  i70 := by kernel_rfl
  i72 := by kernel_rfl
  i75 := by kernel_rfl
  i76 := by kernel_rfl
  i80 := by kernel_rfl
  i105 := by kernel_rfl
  i127 := by kernel_rfl
  i138 := by kernel_rfl
  i139 := by kernel_rfl
  i146 := by kernel_rfl
  i164 := by kernel_rfl
  m1 := by kernel_rfl
  s1_3 := fun w h => Go.Proofs.cell_of_shapedOpen_int (zero := #[.int .i64 0]) (t := 3) h (of_decide_eq_true (by kernel_rfl)) (by kernel_rfl) rfl (by kernel_rfl) (by kernel_rfl) Tryz.underlying3
  m3 := by kernel_rfl
  m4 := by kernel_rfl }
theorem Tryz.Builder_Extra_M155 : Builder.Extra Tryz.prog Tryz.laysM155_ren := {
  sizeBuilder := by kernel_rfl
  liesBuilder := by kernel_rfl
  t5 := Tryz.underlying5
  a5 := Tryz.isAgg5
  z5 := Tryz.sizeOf5
  v5 := Tryz.zeroValue5
  infoByte := by kernel_rfl
  cellsByte := by kernel_rfl
  sizeByte := by kernel_rfl
  neB5 := by decide }
open Go.RowKit Go.Lib in
/-- strings.ReplaceAll, old not empty. (LAID: no walk: one application.) -/
theorem Tryz.strings_ReplaceAll_shaped (s old new : ByteArray) (w : World) (h : w.ShapedOpen Tryz.prog) (hs : s.size < 4294967281) (h1 : 1 ≤ old.size) (hlen : s.size + Lib.countB s old * new.size ≤ 140737488355328) :
    Calls Tryz.prog 31 #[.string s, .string old, .string new] w fun e w' =>
      e = .returned (.string ⟨(Lib.replaceAll s.data.toList old.data.toList new.data.toList).toArray⟩) ∧ Below w.heap.size w w' := Any.strings_ReplaceAll_shaped Tryz.laysM155 Tryz.Builder_Extra_M155 s old new w h hs h1 hlen
def Tryz.lays197_ren : Go.Shelf.Ren := ⟨fun | 197 => 71 | 260 => 85 | n => n, fun | 9 => 9 | 21 => 21 | 3 => 3 | 4 => 4 | 5 => 5 | 105 => 103 | 119 => 131 | 0 => 0 | 46 => 102 | 139 => 134 | 138 => 133 | n => n, fun | 3 => 1 | 4 => 2 | n => n⟩
theorem Tryz.lays197 : Go.Proofs.Lays.n197 Tryz.prog Tryz.lays197_ren := {
  mixed := by kernel_rfl
  f197 := Tryz.func71.trans (congrArg some (by kernel_rfl))
  f260 := Tryz.func85.trans (congrArg some (by kernel_rfl))
  t0 := Tryz.underlying0
  a0 := Tryz.isAgg0
  z0 := Tryz.sizeOf0
  v0 := Tryz.zeroValue0
  t3 := Tryz.underlying3
  a3 := Tryz.isAgg3
  z3 := Tryz.sizeOf3
  v3 := Tryz.zeroValue3
  t4 := Tryz.underlying4
  a4 := Tryz.isAgg4
  z4 := Tryz.sizeOf4
  v4 := Tryz.zeroValue4
  t5 := Tryz.underlying5
  a5 := Tryz.isAgg5
  z5 := Tryz.sizeOf5
  v5 := Tryz.zeroValue5
  t9 := Tryz.underlying9
  a9 := Tryz.isAgg9
  z9 := Tryz.sizeOf9
  v9 := Tryz.zeroValue9
  t21 := Tryz.underlying21
  a21 := Tryz.isAgg21
  z21 := Tryz.sizeOf21
  v21 := Tryz.zeroValue21
  t46 := Tryz.underlying102
  a46 := Tryz.isAgg102
  z46 := Tryz.sizeOf102
  v46 := Tryz.zeroValue102
  t105 := Tryz.underlying103
  a105 := Tryz.isAgg103
  z105 := Tryz.sizeOf103
  v105 := Tryz.zeroValue103
  t119 := Tryz.underlying131
  a119 := Tryz.isAgg131
  z119 := Tryz.sizeOf131
  t138 := Tryz.underlying133
  a138 := Tryz.isAgg133
  z138 := Tryz.sizeOf133
  v138 := Tryz.zeroValue133
  t139 := Tryz.underlying134
  a139 := Tryz.isAgg134
  z139 := Tryz.sizeOf134
  v139 := Tryz.zeroValue134
  g3 := by kernel_rfl
  g4 := by kernel_rfl }
open Go.RowKit Go.Lib in
/-- unicode/utf8.DecodeRuneInString: "DecodeRuneInString is like DecodeRune but its input is a string.": ("DecodeRune unpacks the first UTF-8 encoding in p and returns the rune and its width in bytes."): WHERE s BEGINS WITH AN ASCII BYTE x: (x, 1). (LAID: no walk: one application.) -/
theorem Tryz.utf8_DecodeRuneInString_ascii (s : ByteArray) (x : UInt8) (w : World) (h0 : s.data.toList[0]? = some x) (hx : x.toNat < 128) :
    Calls Tryz.prog 71 #[.string s] w fun e w' => e = .returned (.tuple #[.int .i32 x.toNat, .int .i64 1]) ∧ w' = w := Any.utf8_DecodeRuneInString_ascii Tryz.lays197 s x w h0 hx
def Tryz.lays152_ren : Go.Shelf.Ren := ⟨fun | 152 => 98 | 137 => 105 | 119 => 106 | 224 => 69 | 225 => 68 | 217 => 67 | 266 => 83 | n => n, fun | 9 => 9 | 21 => 21 | 3 => 3 | 4 => 4 | 5 => 5 | 0 => 0 | 46 => 102 | n => n, fun | n => n⟩
theorem Tryz.lays152 : Go.Proofs.Lays.n152 Tryz.prog Tryz.lays152_ren := {
  mixed := by kernel_rfl
  f119 := Tryz.func106.trans (congrArg some (by kernel_rfl))
  f137 := Tryz.func105.trans (congrArg some (by kernel_rfl))
  f152 := Tryz.func98.trans (congrArg some (by kernel_rfl))
  f217 := Tryz.func67.trans (congrArg some (by kernel_rfl))
  f224 := Tryz.func69.trans (congrArg some (by kernel_rfl))
  f225 := Tryz.func68.trans (congrArg some (by kernel_rfl))
  f266 := Tryz.func83.trans (congrArg some (by kernel_rfl))
  t0 := Tryz.underlying0
  a0 := Tryz.isAgg0
  z0 := Tryz.sizeOf0
  v0 := Tryz.zeroValue0
  t3 := Tryz.underlying3
  a3 := Tryz.isAgg3
  z3 := Tryz.sizeOf3
  v3 := Tryz.zeroValue3
  t4 := Tryz.underlying4
  a4 := Tryz.isAgg4
  z4 := Tryz.sizeOf4
  v4 := Tryz.zeroValue4
  t5 := Tryz.underlying5
  a5 := Tryz.isAgg5
  z5 := Tryz.sizeOf5
  v5 := Tryz.zeroValue5
  t9 := Tryz.underlying9
  a9 := Tryz.isAgg9
  z9 := Tryz.sizeOf9
  v9 := Tryz.zeroValue9
  t21 := Tryz.underlying21
  a21 := Tryz.isAgg21
  z21 := Tryz.sizeOf21
  v21 := Tryz.zeroValue21
  t46 := Tryz.underlying102
  a46 := Tryz.isAgg102
  z46 := Tryz.sizeOf102
  v46 := Tryz.zeroValue102 }
open Go.RowKit Go.Lib in
theorem Tryz.strings_IndexRune_ascii (s : ByteArray) (r : Int) (w : World) (h0 : 0 ≤ r) (h1 : r < 128) :
    Calls Tryz.prog 98 #[.string s, .int .i32 r] w fun e w' => e = .returned (.int .i64 (Lib.indexByte s.data.toList r.toNat.toUInt8)) ∧ w' = w := Any.strings_IndexRune_ascii Tryz.lays152 s r w h0 h1
def Tryz.lays151_ren : Go.Shelf.Ren := ⟨fun | 151 => 81 | 152 => 98 | 137 => 105 | 119 => 106 | 224 => 69 | 225 => 68 | 217 => 67 | 266 => 83 | n => n, fun | 9 => 9 | 21 => 21 | 4 => 4 | 3 => 3 | 5 => 5 | 0 => 0 | 46 => 102 | n => n, fun | n => n⟩
theorem Tryz.lays151 : Go.Proofs.Lays.n151 Tryz.prog Tryz.lays151_ren := {
  mixed := by kernel_rfl
  f119 := Tryz.func106.trans (congrArg some (by kernel_rfl))
  f137 := Tryz.func105.trans (congrArg some (by kernel_rfl))
  f151 := Tryz.func81.trans (congrArg some (by kernel_rfl))
  f152 := Tryz.func98.trans (congrArg some (by kernel_rfl))
  f217 := Tryz.func67.trans (congrArg some (by kernel_rfl))
  f224 := Tryz.func69.trans (congrArg some (by kernel_rfl))
  f225 := Tryz.func68.trans (congrArg some (by kernel_rfl))
  f266 := Tryz.func83.trans (congrArg some (by kernel_rfl))
  t0 := Tryz.underlying0
  a0 := Tryz.isAgg0
  z0 := Tryz.sizeOf0
  v0 := Tryz.zeroValue0
  t3 := Tryz.underlying3
  a3 := Tryz.isAgg3
  z3 := Tryz.sizeOf3
  v3 := Tryz.zeroValue3
  t4 := Tryz.underlying4
  a4 := Tryz.isAgg4
  z4 := Tryz.sizeOf4
  v4 := Tryz.zeroValue4
  t5 := Tryz.underlying5
  a5 := Tryz.isAgg5
  z5 := Tryz.sizeOf5
  v5 := Tryz.zeroValue5
  t9 := Tryz.underlying9
  a9 := Tryz.isAgg9
  z9 := Tryz.sizeOf9
  v9 := Tryz.zeroValue9
  t21 := Tryz.underlying21
  a21 := Tryz.isAgg21
  z21 := Tryz.sizeOf21
  v21 := Tryz.zeroValue21
  t46 := Tryz.underlying102
  a46 := Tryz.isAgg102
  z46 := Tryz.sizeOf102
  v46 := Tryz.zeroValue102 }
open Go.RowKit Go.Lib in
theorem Tryz.strings_ContainsRune_ascii (s : ByteArray) (r : Int) (w : World) (h0 : 0 ≤ r) (h1 : r < 128) :
    Calls Tryz.prog 81 #[.string s, .int .i32 r] w fun e w' => e = .returned (.bool (decide (0 ≤ Lib.indexByte s.data.toList r.toNat.toUInt8))) ∧ w' = w := Any.strings_ContainsRune_ascii Tryz.lays151 s r w h0 h1
open Go.RowKit Go.Lib in
theorem Tryz.utf8_RuneCountInString_ascii (s : ByteArray) (w : World) (hs : s.size < 4294967281) (hascii : ∀ (j : Nat) b, s.data.toList[j]? = some b → b.toNat < 128) :
    Calls Tryz.prog 78 #[.string s] w fun e w' => e = .returned (.int .i64 s.size) ∧ w' = w.iter s s.size := Any.utf8_RuneCountInString_ascii Tryz.lays195 s w hs hascii
def Tryz.lays227_ren : Go.Shelf.Ren := ⟨fun | 227 => 62 | n => n, fun | 9 => 9 | 116 => 95 | 4 => 4 | 0 => 0 | 3 => 3 | 5 => 5 | n => n, fun | n => n⟩
theorem Tryz.lays227 : Go.Proofs.Lays.n227 Tryz.prog Tryz.lays227_ren := {
  mixed := by kernel_rfl
  f227 := Tryz.func62.trans (congrArg some (by kernel_rfl))
  t0 := Tryz.underlying0
  a0 := Tryz.isAgg0
  z0 := Tryz.sizeOf0
  v0 := Tryz.zeroValue0
  t3 := Tryz.underlying3
  a3 := Tryz.isAgg3
  z3 := Tryz.sizeOf3
  v3 := Tryz.zeroValue3
  t4 := Tryz.underlying4
  a4 := Tryz.isAgg4
  z4 := Tryz.sizeOf4
  v4 := Tryz.zeroValue4
  t5 := Tryz.underlying5
  a5 := Tryz.isAgg5
  z5 := Tryz.sizeOf5
  v5 := Tryz.zeroValue5
  t9 := Tryz.underlying9
  a9 := Tryz.isAgg9
  z9 := Tryz.sizeOf9
  v9 := Tryz.zeroValue9
  t116 := Tryz.underlying95
  a116 := Tryz.isAgg95
  z116 := Tryz.sizeOf95 }
open Go.RowKit Go.Lib in
theorem Tryz.strings_makeASCIISet (hv116 : ∀ w, (zeroValue 95).run Tryz.prog w = .ok (.agg (Array.replicate 256 (.bool false))) w) (chars : ByteArray) (w : World) (hs : chars.size < 4294967281) (hascii : ∀ (j : Nat) b, chars.data.toList[j]? = some b → b.toNat < 128) :
    Calls Tryz.prog 62 #[.string chars] w fun e w' => e = .returned (.tuple #[.agg (Lib.setCells chars.data.toList), .bool true]) ∧ w' = w.alloc (.cells (Lib.setCells chars.data.toList) 95) := Any.strings_makeASCIISet Tryz.lays227 hv116 (by kernel_rfl) chars w hs hascii
def Tryz.lays228_ren : Go.Shelf.Ren := ⟨fun | 228 => 80 | n => n, fun | 124 => 99 | 5 => 5 | 4 => 4 | 0 => 0 | 116 => 95 | n => n, fun | n => n⟩
theorem Tryz.lays228 : Go.Proofs.Lays.n228 Tryz.prog Tryz.lays228_ren := {
  mixed := by kernel_rfl
  f228 := Tryz.func80.trans (congrArg some (by kernel_rfl))
  t0 := Tryz.underlying0
  a0 := Tryz.isAgg0
  z0 := Tryz.sizeOf0
  v0 := Tryz.zeroValue0
  t4 := Tryz.underlying4
  a4 := Tryz.isAgg4
  z4 := Tryz.sizeOf4
  v4 := Tryz.zeroValue4
  t5 := Tryz.underlying5
  a5 := Tryz.isAgg5
  z5 := Tryz.sizeOf5
  v5 := Tryz.zeroValue5
  t116 := Tryz.underlying95
  a116 := Tryz.isAgg95
  z116 := Tryz.sizeOf95
  t124 := Tryz.underlying99
  a124 := Tryz.isAgg99
  z124 := Tryz.sizeOf99
  v124 := Tryz.zeroValue99 }
open Go.RowKit Go.Lib in
/-- '(as *asciiSet) contains(c)': 'as[c]': the set lies at block b, whole. (LAID: no walk: one application.) -/
theorem Tryz.asciiSet_contains (b : Nat) (x : UInt8) (v : Bool) (w : World) (hc : w.cell? ⟨b, x.toNat, none⟩ = some (.bool v)) :
    Calls Tryz.prog 80 #[.pointer (some ⟨b, 0, none⟩), .int .u8 x.toNat] w fun e w' => e = .returned (.bool v) ∧ w' = w := Any.asciiSet_contains Tryz.lays228 b x v w hc
def Tryz.lays268_ren : Go.Shelf.Ren := ⟨fun | 268 => 58 | 195 => 78 | 197 => 71 | 260 => 85 | n => n, fun | 9 => 9 | 3 => 3 | 31 => 32 | 4 => 4 | 105 => 103 | 21 => 21 | 0 => 0 | 5 => 5 | 119 => 131 | 46 => 102 | 139 => 134 | 138 => 133 | n => n, fun | 3 => 1 | 4 => 2 | n => n⟩
theorem Tryz.lays268 : Go.Proofs.Lays.n268 Tryz.prog Tryz.lays268_ren := {
  mixed := by kernel_rfl
  f195 := Tryz.func78.trans (congrArg some (by kernel_rfl))
  f197 := Tryz.func71.trans (congrArg some (by kernel_rfl))
  f260 := Tryz.func85.trans (congrArg some (by kernel_rfl))
  f268 := Tryz.func58.trans (congrArg some (by kernel_rfl))
  t0 := Tryz.underlying0
  a0 := Tryz.isAgg0
  z0 := Tryz.sizeOf0
  v0 := Tryz.zeroValue0
  t3 := Tryz.underlying3
  a3 := Tryz.isAgg3
  z3 := Tryz.sizeOf3
  v3 := Tryz.zeroValue3
  t4 := Tryz.underlying4
  a4 := Tryz.isAgg4
  z4 := Tryz.sizeOf4
  v4 := Tryz.zeroValue4
  t5 := Tryz.underlying5
  a5 := Tryz.isAgg5
  z5 := Tryz.sizeOf5
  v5 := Tryz.zeroValue5
  t9 := Tryz.underlying9
  a9 := Tryz.isAgg9
  z9 := Tryz.sizeOf9
  v9 := Tryz.zeroValue9
  t21 := Tryz.underlying21
  a21 := Tryz.isAgg21
  z21 := Tryz.sizeOf21
  v21 := Tryz.zeroValue21
  t31 := Tryz.underlying32
  a31 := Tryz.isAgg32
  z31 := Tryz.sizeOf32
  v31 := Tryz.zeroValue32
  t46 := Tryz.underlying102
  a46 := Tryz.isAgg102
  z46 := Tryz.sizeOf102
  v46 := Tryz.zeroValue102
  t105 := Tryz.underlying103
  a105 := Tryz.isAgg103
  z105 := Tryz.sizeOf103
  v105 := Tryz.zeroValue103
  t119 := Tryz.underlying131
  a119 := Tryz.isAgg131
  z119 := Tryz.sizeOf131
  t138 := Tryz.underlying133
  a138 := Tryz.isAgg133
  z138 := Tryz.sizeOf133
  v138 := Tryz.zeroValue133
  t139 := Tryz.underlying134
  a139 := Tryz.isAgg134
  z139 := Tryz.sizeOf134
  v139 := Tryz.zeroValue134
  g3 := by kernel_rfl
  g4 := by kernel_rfl }
open Go.RowKit Go.Lib in
theorem Tryz.strings_explode_all (s : ByteArray) (n : Int) (w : World) (hn : n < 0) (hs : s.size < 4294967281) (hascii : ∀ (j : Nat) b, s.data.toList[j]? = some b → b.toNat < 128) :
    Calls Tryz.prog 58 #[.string s, .int .i64 n] w fun e w' =>
      e = .returned (.slice (some ⟨(w.iter s s.size).heap.size, 0, none⟩) s.size s.size) ∧ w' = (w.iter s s.size).alloc (.cells ((Lib.charsB s).map Value.string).toArray 9) := Any.strings_explode_all Tryz.lays268 (by kernel_rfl) s n w hn hs hascii
open Go.RowKit Go.Lib in
/-- strings.genSplit at sep == "", n < 0: 'return explode(s, n)'. (LAID: no walk: one application.) -/
theorem Tryz.strings_genSplit_chars (s sep : ByteArray) (sv n : Int) (w : World) (h0 : sep.size = 0) (hn : n < 0) (hs : s.size < 4294967281) (hascii : ∀ (j : Nat) b, s.data.toList[j]? = some b → b.toNat < 128) :
    Calls Tryz.prog 40 #[.string s, .string sep, .int .i64 sv, .int .i64 n] w fun e w' =>
      e = .returned (.slice (some ⟨(w.iter s s.size).heap.size, 0, none⟩) s.size s.size) ∧ w' = (w.iter s s.size).alloc (.cells ((Lib.charsB s).map Value.string).toArray 9) := Any.strings_genSplit_chars Tryz.lays221 (by kernel_rfl) s sep sv n w h0 hn hs hascii
open Go.RowKit Go.Lib in
/-- strings.Split(s, ""), s ASCII: a piece a byte. (LAID: no walk: one application.) -/
theorem Tryz.strings_Split_chars (s sep : ByteArray) (w : World) (h0 : sep.size = 0) (hs : s.size < 4294967281) (hascii : ∀ (j : Nat) b, s.data.toList[j]? = some b → b.toNat < 128) :
    Calls Tryz.prog 26 #[.string s, .string sep] w fun e w' =>
      e = .returned (.slice (some ⟨(w.iter s s.size).heap.size, 0, none⟩) s.size s.size) ∧ w' = (w.iter s s.size).alloc (.cells ((Lib.charsB s).map Value.string).toArray 9) := Any.strings_Split_chars Tryz.lays146 (by kernel_rfl) s sep w h0 hs hascii
def Tryz.lays260_ren : Go.Shelf.Ren := ⟨fun | 260 => 85 | n => n, fun | 9 => 9 | 21 => 21 | 3 => 3 | 4 => 4 | 5 => 5 | 119 => 131 | 0 => 0 | 46 => 102 | 139 => 134 | 138 => 133 | n => n, fun | 3 => 1 | 4 => 2 | n => n⟩
theorem Tryz.lays260 : Go.Proofs.Lays.n260 Tryz.prog Tryz.lays260_ren := {
  mixed := by kernel_rfl
  f260 := Tryz.func85.trans (congrArg some (by kernel_rfl))
  t0 := Tryz.underlying0
  a0 := Tryz.isAgg0
  z0 := Tryz.sizeOf0
  v0 := Tryz.zeroValue0
  t3 := Tryz.underlying3
  a3 := Tryz.isAgg3
  z3 := Tryz.sizeOf3
  v3 := Tryz.zeroValue3
  t4 := Tryz.underlying4
  a4 := Tryz.isAgg4
  z4 := Tryz.sizeOf4
  v4 := Tryz.zeroValue4
  t5 := Tryz.underlying5
  a5 := Tryz.isAgg5
  z5 := Tryz.sizeOf5
  v5 := Tryz.zeroValue5
  t9 := Tryz.underlying9
  a9 := Tryz.isAgg9
  z9 := Tryz.sizeOf9
  v9 := Tryz.zeroValue9
  t21 := Tryz.underlying21
  a21 := Tryz.isAgg21
  z21 := Tryz.sizeOf21
  v21 := Tryz.zeroValue21
  t46 := Tryz.underlying102
  a46 := Tryz.isAgg102
  z46 := Tryz.sizeOf102
  v46 := Tryz.zeroValue102
  t119 := Tryz.underlying131
  a119 := Tryz.isAgg131
  z119 := Tryz.sizeOf131
  t138 := Tryz.underlying133
  a138 := Tryz.isAgg133
  z138 := Tryz.sizeOf133
  v138 := Tryz.zeroValue133
  t139 := Tryz.underlying134
  a139 := Tryz.isAgg134
  z139 := Tryz.sizeOf134
  v139 := Tryz.zeroValue134
  g3 := by kernel_rfl
  g4 := by kernel_rfl }
open Go.RowKit Go.Lib in
theorem Tryz.utf8_decodeRuneInStringSlow (s : ByteArray) (w : World) (hT : Lib.Utf8Tabs 1 2 w) :
    Calls Tryz.prog 85 #[.string s] w fun e w' => e = .returned (.tuple #[.int .i32 (Lib.decodeGo s).1, .int .i64 (Lib.decodeGo s).2]) ∧ Below w.heap.size w w' := Any.utf8_decodeRuneInStringSlow Tryz.lays260 s w hT
open Go.RowKit Go.Lib in
/-- **unicode/utf8.DecodeRuneInString AT EVERY STRING.** (LAID: no walk: one application.) -/
theorem Tryz.utf8_DecodeRuneInString (s : ByteArray) (w : World) (hT : Lib.Utf8Tabs 1 2 w) :
    Calls Tryz.prog 71 #[.string s] w fun e w' => e = .returned (.tuple #[.int .i32 (Lib.decodeGo s).1, .int .i64 (Lib.decodeGo s).2]) ∧ Below w.heap.size w w' := Any.utf8_DecodeRuneInString Tryz.lays197 s w hT
def Tryz.lays271_ren : Go.Shelf.Ren := ⟨fun | 271 => 82 | 120 => 99 | 197 => 71 | 260 => 85 | n => n, fun | 9 => 9 | 21 => 21 | 3 => 3 | 4 => 4 | 5 => 5 | 105 => 103 | 119 => 131 | 0 => 0 | 46 => 102 | 139 => 134 | 138 => 133 | n => n, fun | 3 => 1 | 4 => 2 | n => n⟩
theorem Tryz.lays271 : Go.Proofs.Lays.n271 Tryz.prog Tryz.lays271_ren := {
  mixed := by kernel_rfl
  f120 := Tryz.func99.trans (congrArg some (by kernel_rfl))
  f197 := Tryz.func71.trans (congrArg some (by kernel_rfl))
  f260 := Tryz.func85.trans (congrArg some (by kernel_rfl))
  f271 := Tryz.func82.trans (congrArg some (by kernel_rfl))
  t0 := Tryz.underlying0
  a0 := Tryz.isAgg0
  z0 := Tryz.sizeOf0
  v0 := Tryz.zeroValue0
  t3 := Tryz.underlying3
  a3 := Tryz.isAgg3
  z3 := Tryz.sizeOf3
  v3 := Tryz.zeroValue3
  t4 := Tryz.underlying4
  a4 := Tryz.isAgg4
  z4 := Tryz.sizeOf4
  v4 := Tryz.zeroValue4
  t5 := Tryz.underlying5
  a5 := Tryz.isAgg5
  z5 := Tryz.sizeOf5
  v5 := Tryz.zeroValue5
  t9 := Tryz.underlying9
  a9 := Tryz.isAgg9
  z9 := Tryz.sizeOf9
  v9 := Tryz.zeroValue9
  t21 := Tryz.underlying21
  a21 := Tryz.isAgg21
  z21 := Tryz.sizeOf21
  v21 := Tryz.zeroValue21
  t46 := Tryz.underlying102
  a46 := Tryz.isAgg102
  z46 := Tryz.sizeOf102
  v46 := Tryz.zeroValue102
  t105 := Tryz.underlying103
  a105 := Tryz.isAgg103
  z105 := Tryz.sizeOf103
  v105 := Tryz.zeroValue103
  t119 := Tryz.underlying131
  a119 := Tryz.isAgg131
  z119 := Tryz.sizeOf131
  t138 := Tryz.underlying133
  a138 := Tryz.isAgg133
  z138 := Tryz.sizeOf133
  v138 := Tryz.zeroValue133
  t139 := Tryz.underlying134
  a139 := Tryz.isAgg134
  z139 := Tryz.sizeOf134
  v139 := Tryz.zeroValue134
  g3 := by kernel_rfl
  g4 := by kernel_rfl }
open Go.RowKit Go.Lib in
/-- **unicode/utf8.DecodeLastRuneInString AT EVERY STRING.** (LAID: no walk: one application.) -/
theorem Tryz.utf8_DecodeLastRuneInString (s : ByteArray) (w : World) (hs : s.size ≤ 9223372036854775807) (hT : Lib.Utf8Tabs 1 2 w) :
    Calls Tryz.prog 82 #[.string s] w fun e w' => e = .returned (.tuple #[.int .i32 (Lib.decodeLastL s.data.toList).1, .int .i64 (Lib.decodeLastL s.data.toList).2]) ∧ Below w.heap.size w w' := Any.utf8_DecodeLastRuneInString Tryz.lays271 s w hs hT
def Tryz.laysNm237_ren : Go.Shelf.Ren := ⟨fun | 37 => 75 | n => n, fun | 3 => 3 | 4 => 4 | n => n, fun | n => n⟩
theorem Tryz.laysNm237 : Go.Proofs.Lays2.n37 Tryz.prog Tryz.laysNm237_ren := {
  mixed := by kernel_rfl
  f37 := Tryz.func75.trans (congrArg some (by kernel_rfl))
  t3 := Tryz.underlying3
  a3 := Tryz.isAgg3
  z3 := Tryz.sizeOf3
  v3 := Tryz.zeroValue3
  t4 := Tryz.underlying4
  a4 := Tryz.isAgg4
  z4 := Tryz.sizeOf4
  v4 := Tryz.zeroValue4 }
open Go.RowKit Go.Lib in
/-- cmp.isNaN[int]: 'x != x': false. (LAID: no walk: one application.) -/
theorem Tryz.cmp_isNaN_int2 (x : Int) (w : World) :
    Calls Tryz.prog 75 #[.int .i64 x] w fun e w' => e = .returned (.bool false) ∧ w' = w := Any.cmp_isNaN_int2 Tryz.laysNm237 x w
def Tryz.laysSortM_ren : Go.Shelf.Ren := ⟨fun | 6 => 51 | 15 => 74 | 14 => 73 | 28 => 94 | 29 => 95 | 20 => 86 | 21 => 87 | 22 => 88 | 23 => 89 | 24 => 90 | 25 => 91 | 26 => 92 | 27 => 93 | 46 => 100 | 47 => 101 | 48 => 102 | 49 => 103 | 50 => 104 | 57 => 107 | n => n, fun | 22 => 26 | 24 => 38 | 25 => 82 | 3 => 3 | 39 => 102 | 0 => 0 | 53 => 114 | 55 => 126 | 4 => 4 | 46 => 119 | 45 => 118 | 50 => 24 | 5 => 5 | 9 => 9 | 66 => 135 | 70 => 139 | 76 => 142 | 77 => 143 | n => n, fun | n => n⟩
theorem Tryz.laysSortM : Go.Proofs.SlLaysF0.n6 Tryz.prog Tryz.laysSortM_ren := {
  mixed := by kernel_rfl
  f6 := ⟨Tryz.f51.name, by decide, Tryz.func51.trans (congrArg some (by kernel_rfl))⟩
  f14 := ⟨Tryz.f73.name, by decide, Tryz.func73.trans (congrArg some (by kernel_rfl))⟩
  f15 := Tryz.func74.trans (congrArg some (by kernel_rfl))
  f20 := ⟨Tryz.f86.name, by decide, Tryz.func86.trans (congrArg some (by kernel_rfl))⟩
  f21 := ⟨Tryz.f87.name, by decide, Tryz.func87.trans (congrArg some (by kernel_rfl))⟩
  f22 := ⟨Tryz.f88.name, by decide, Tryz.func88.trans (congrArg some (by kernel_rfl))⟩
  f23 := ⟨Tryz.f89.name, by decide, Tryz.func89.trans (congrArg some (by kernel_rfl))⟩
  f24 := ⟨Tryz.f90.name, by decide, Tryz.func90.trans (congrArg some (by kernel_rfl))⟩
  f25 := ⟨Tryz.f91.name, by decide, Tryz.func91.trans (congrArg some (by kernel_rfl))⟩
  f26 := ⟨Tryz.f92.name, by decide, Tryz.func92.trans (congrArg some (by kernel_rfl))⟩
  f27 := ⟨Tryz.f93.name, by decide, Tryz.func93.trans (congrArg some (by kernel_rfl))⟩
  f28 := Tryz.func94.trans (congrArg some (by kernel_rfl))
  f29 := Tryz.func95.trans (congrArg some (by kernel_rfl))
  f46 := ⟨Tryz.f100.name, by decide, Tryz.func100.trans (congrArg some (by kernel_rfl))⟩
  f47 := Tryz.func101.trans (congrArg some (by kernel_rfl))
  f48 := Tryz.func102.trans (congrArg some (by kernel_rfl))
  f49 := ⟨Tryz.f103.name, by decide, Tryz.func103.trans (congrArg some (by kernel_rfl))⟩
  f50 := ⟨Tryz.f104.name, by decide, Tryz.func104.trans (congrArg some (by kernel_rfl))⟩
  f57 := ⟨Tryz.f107.name, by decide, Tryz.func107.trans (congrArg some (by kernel_rfl))⟩
  t0 := Tryz.underlying0
  a0 := Tryz.isAgg0
  z0 := Tryz.sizeOf0
  v0 := Tryz.zeroValue0
  t3 := Tryz.underlying3
  a3 := Tryz.isAgg3
  z3 := Tryz.sizeOf3
  v3 := Tryz.zeroValue3
  t4 := Tryz.underlying4
  a4 := Tryz.isAgg4
  z4 := Tryz.sizeOf4
  v4 := Tryz.zeroValue4
  t5 := Tryz.underlying5
  a5 := Tryz.isAgg5
  z5 := Tryz.sizeOf5
  v5 := Tryz.zeroValue5
  t9 := Tryz.underlying9
  a9 := Tryz.isAgg9
  z9 := Tryz.sizeOf9
  v9 := Tryz.zeroValue9
  t22 := Tryz.underlying26
  a22 := Tryz.isAgg26
  z22 := Tryz.sizeOf26
  v22 := Tryz.zeroValue26
  t25 := Tryz.underlying82
  a25 := Tryz.isAgg82
  z25 := Tryz.sizeOf82
  v25 := Tryz.zeroValue82
  t39 := Tryz.underlying102
  a39 := Tryz.isAgg102
  z39 := Tryz.sizeOf102
  v39 := Tryz.zeroValue102
  t45 := Tryz.underlying118
  a45 := Tryz.isAgg118
  z45 := Tryz.sizeOf118
  v45 := Tryz.zeroValue118
  t46 := Tryz.underlying119
  a46 := Tryz.isAgg119
  z46 := Tryz.sizeOf119
  v46 := Tryz.zeroValue119
  t50 := Tryz.underlying24
  a50 := Tryz.isAgg24
  z50 := Tryz.sizeOf24
  v50 := Tryz.zeroValue24
  t53 := Tryz.underlying114
  a53 := Tryz.isAgg114
  z53 := Tryz.sizeOf114
  v53 := Tryz.zeroValue114
  t55 := Tryz.underlying126
  a55 := Tryz.isAgg126
  z55 := Tryz.sizeOf126
  v55 := Tryz.zeroValue126
  t66 := Tryz.underlying135
  a66 := Tryz.isAgg135
  z66 := Tryz.sizeOf135
  v66 := Tryz.zeroValue135
  t70 := Tryz.underlying139
  a70 := Tryz.isAgg139
  z70 := Tryz.sizeOf139
  v70 := Tryz.zeroValue139
  t76 := Tryz.underlying142
  a76 := Tryz.isAgg142
  z76 := Tryz.sizeOf142
  v76 := Tryz.zeroValue142
  t77 := Tryz.underlying143
  a77 := Tryz.isAgg143
  z77 := Tryz.sizeOf143
  v77 := Tryz.zeroValue143 }
end Go.Proofs

/- THE SEAT's contracts of strings.Split and strings.ReplaceAll at a sign of one byte, by walks over the library's own text with the searches at one byte. -/
namespace Go.Proofs.YtgdlaopjabjkbaaGreatDoor.Ab
open Go Go.RowKit Go.Shelf

theorem idx_miss {c : UInt8} : ∀ {s : List UInt8}, s.count c = 0 → Go.Lib.indexByte s c = -1
  | [], _ => rfl
  | b :: s, h => by
    by_cases e : b = c
    · subst e; rw [List.count_cons_self] at h; omega
    · rw [List.count_cons_of_ne e] at h
      have hb : (b == c) = false := by simpa using e
      unfold Go.Lib.indexByte
      rw [idx_miss h, hb]
      rfl
theorem idx_hit {c : UInt8} : ∀ {s : List UInt8}, 0 < s.count c → ∃ j : Nat, Go.Lib.indexByte s c = j ∧ j < s.length ∧ (s.take j).count c = 0 ∧ s = s.take j ++ c :: s.drop (j + 1)
  | [], h => by simp at h
  | b :: s, h => by
    by_cases e : b = c
    · subst e
      refine ⟨0, ?_, by simp, by simp, by simp⟩
      unfold Go.Lib.indexByte
      simp
    · rw [List.count_cons_of_ne e] at h
      obtain ⟨j, h1, h2, h3, h4⟩ := idx_hit h
      have hb : (b == c) = false := by simpa using e
      refine ⟨j + 1, ?_, by simp; omega, ?_, ?_⟩
      · unfold Go.Lib.indexByte
        rw [hb, h1]
        have : ((j : Int) == -1) = false := by
          rw [beq_eq_false_iff_ne]; omega
        rw [this]
        simp
      · rw [List.take_succ_cons, List.count_cons_of_ne e, h3]
      · rw [List.take_succ_cons, List.drop_succ_cons, List.cons_append, ← h4]
theorem noB_none {c : UInt8} : ∀ {s : List UInt8}, s.count c = 0 → noB c s = s
  | [], _ => rfl
  | b :: s, h => by
    by_cases e : b = c
    · subst e; rw [List.count_cons_self] at h; omega
    · rw [List.count_cons_of_ne e] at h
      have hb : (b == c) = false := by simpa using e
      have := noB_none h
      unfold noB at this ⊢
      rw [List.filter_cons, hb, this]
      rfl

theorem noB_step {c : UInt8} {p q : List UInt8} (h : p.count c = 0) : noB c (p ++ c :: q) = p ++ noB c q := by
  have h1 := noB_none h
  unfold noB at h1 ⊢
  rw [List.filter_append, List.filter_cons, beq_self_eq_true, h1]
  rfl
section
variable {P : Program} {ρ : Ren}
/-- strings.Replace of a sign of one byte by nothing, where there is one. -/
theorem repl_some (L : Lays.n154 P ρ) (X : Builder.Extra P ρ) (s old new : ByteArray) (c : UInt8) (n : Int) (hneg : n < 0) (w : World) (hs : s.size < 4294967281) (ho1 : old.size = 1) (hn0 : new.size = 0) (hne : old ≠ new)
    (hI : ∀ (x : ByteArray) (w : World), Calls P (ρ.f 143) #[.string x, .string old] w fun e w' => e = .returned (.int .i64 (Go.Lib.indexByte x.data.toList c)) ∧ w' = w)
    (K : Nat) (hC : Calls P (ρ.f 138) #[.string s, .string old] w fun e w' => e = .returned (.int .i64 K) ∧ w' = w) (hK : s.data.toList.count c = K) (hK1 : 1 ≤ K) :
    Calls P (ρ.f 154) #[.string s, .string old, .string new, .int .i64 n] w fun e w' => e = .returned (.string ⟨(noB c s.data.toList).toArray⟩) ∧ Below w.heap.size w w' := by
  have hlenL : s.data.toList.length = s.size := (Go.Lib.size_eq s).symm
  have hKs : K ≤ s.size := by rw [← hK, ← hlenL]; exact List.count_le_length
  have hbeq : (old.toList == new.toList) = false := (Go.Lib.bytes_beq_false_iff old new).2 hne
  have hnz : (n == 0) = false := beq_eq_false_iff_ne.2 (by omega)
  have hcz : ((K : Int) == 0) = false := beq_eq_false_iff_ne.2 (by omega)
  have ho0 : (0 : Int) < (old.size : Int) := by omega
  have hod : decide (0 < old.size) = true := decide_eq_true (by omega)
  have hga := Go.Lib.grow_arg s.size K new.size old.size hK1 (by rw [ho1]; omega) (by rw [hn0]; omega)
  have hKo : K * old.size ≤ s.size := by rw [ho1]; omega
  have hKn : s.size + K * new.size ≤ 140737488355328 := by rw [hn0]; omega
  have hcase : n < 0 ∨ (K : Int) < n := .inl hneg
  have hnewL : new.data.toList = [] := List.eq_nil_of_length_eq_zero (by rw [← Go.Lib.size_eq]; exact hn0)
  have Ho1 := Any.hidR ho1
  have HnewL := Any.hidR hnewL
  have Hn0 := Any.hidR hn0
  clear ho1 hnewL hn0
  have mixed := L.mixed
  have t72 := L.t72; have a72 := L.a72; have z72 := L.z72; have v72 := L.v72; have u72 := run_underlying L.t72
  have t70 := L.t70; have a70 := L.a70; have z70 := L.z70; have v70 := L.v70; have u70 := run_underlying L.t70
  have t37 := L.t37; have a37 := L.a37; have z37 := L.z37; have v37 := L.v37; have u37 := run_underlying L.t37
  have t3 := L.t3; have a3 := L.a3; have z3 := L.z3; have v3 := L.v3; have u3 := run_underlying L.t3
  have t9 := L.t9; have a9 := L.a9; have z9 := L.z9; have v9 := L.v9; have u9 := run_underlying L.t9
  have t4 := L.t4; have a4 := L.a4; have z4 := L.z4; have v4 := L.v4; have u4 := run_underlying L.t4
  have e138 : ∀ args w, (callFunc (ρ.f 138) args).run P w = .ok (.enter (ρ.f 138) args) w := enters_of L.f138 (by kernel_rfl) rfl
  have e143 : ∀ args w, (callFunc (ρ.f 143) args).run P w = .ok (.enter (ρ.f 143) args) w := enters_of L.f143 (by kernel_rfl) rfl
  have e165 : ∀ args w, (callFunc (ρ.f 165) args).run P w = .ok (.enter (ρ.f 165) args) w := enters_of L.f165 (by kernel_rfl) rfl
  have e166 : ∀ args w, (callFunc (ρ.f 166) args).run P w = .ok (.enter (ρ.f 166) args) w := enters_of L.f166 (by kernel_rfl) rfl
  have e169 : ∀ args w, (callFunc (ρ.f 169) args).run P w = .ok (.enter (ρ.f 169) args) w := enters_of L.f169 (by kernel_rfl) rfl
  go_enter L.f154, Body.n154_ntmps ρ
  go_wp2_with (first | (go_at_fn (ρ.f 138); refine hC.mono ?_; rintro e w' ⟨rfl, hw⟩; rw [hw]))
  clear hC
  try rw [hga]
  refine (Any.Builder_Grow_fresh { L with } X w.heap.size w.heap.size _ _ (Nat.le_refl _) (heap_alloc_new w _) (by simp) (by omega)).mono ?_
  rintro e w1 ⟨rfl, hb0, hb1⟩
  have H1 := Any.hidR (Or.inr hb0 : Go.Lib.IsBuilder (ρ.t 72) (ρ.t 5) w.heap.size w.heap.size (Go.Lib.byteCells []) w1)
  have Hb1 := Any.hidR (((Below.refl w.heap.size w).alloc (Nat.le_refl _) _).trans hb1)
  clear hb0 hb1 hga
  go_wp2_with fail
  go_loopg [11, 53] K (fun g s11 s53 wx => ∃ (i start : Nat) (acc : List UInt8), s53 = .int .i64 i ∧ s11 = .int .i64 start ∧ i + g = K ∧ start ≤ s.size ∧
    Hid (Go.Lib.IsBuilder (ρ.t 72) (ρ.t 5) w.heap.size w.heap.size (Go.Lib.byteCells acc) wx) ∧ Hid (Below w.heap.size w wx) ∧ Hid (acc ++ noB c (s.data.toList.drop start) = noB c s.data.toList) ∧
    (s.data.toList.drop start).count c = g ∧ acc.length ≤ start)
  case atStart => exact ⟨0, 0, [], rfl, rfl, by omega, Nat.zero_le _, H1, Hb1, Any.hidR (by simp), by rw [List.drop_zero]; exact hK, by simp⟩
  case round =>
    obtain ⟨i, start, acc, rfl, rfl, hig, hst, HB, HW, HR, hgc, hbd⟩ := hrel
    have hBw : w.heap.size ≤ wr.heap.size := HW.out.size
    have c1 : (0 : Int) ≤ (start : Int) := by omega
    have c2 : (start : Int) ≤ (s.size : Int) := by omega
    cases gk with
    | zero =>
      have hiK : ¬ ((i : Int) < (K : Int)) := by omega
      go_wp2_with fail
      refine (Any.Builder_WriteString { L with } X w.heap.size w.heap.size _ _ wr HB.out (by rw [Go.Lib.byteCells_length, ByteArray.size_extract]; omega) hBw).mono ?_
      rintro e w3 ⟨rfl, h3, hb3⟩
      rw [Go.Lib.strCells_eq, Go.Lib.extract_to_end, ← Go.Lib.byteCells_append] at h3
      have hfin : acc ++ s.data.toList.drop start = noB c s.data.toList := by rw [← HR.out, noB_none hgc]
      rw [hfin] at h3
      have H3 := Any.hidR (Or.inr h3 : Go.Lib.IsBuilder (ρ.t 72) (ρ.t 5) w.heap.size w.heap.size _ w3)
      have Hb3 := Any.hidR (HW.out.trans hb3)
      have hBw3 : w.heap.size ≤ w3.heap.size := Hb3.out.size
      clear h3 hb3 hfin
      go_wp2_with fail
      refine (Any.Builder_String_any { L with } X w.heap.size w.heap.size _ w3 H3.out hBw3).mono ?_
      rintro e w5 ⟨rfl, hb5⟩
      have Hb5 := Any.hidR (Hb3.out.trans hb5)
      clear hb5
      go_wp2
      go_ret
      exact ⟨rfl, Hb5.out⟩
    | succ g =>
      have hiK : (i : Int) < (K : Int) := by omega
      obtain ⟨j, hj, hjl, hj0, hjs⟩ := idx_hit (c := c) (s := s.data.toList.drop start) (by omega)
      rw [List.length_drop, hlenL] at hjl
      have hroom : j + old.size ≤ s.size - start := by rw [Ho1.out]; omega
      have c3 : (start : Int) ≤ (start : Int) + (j : Int) := by omega
      have c4 : (start : Int) + (j : Int) ≤ (s.size : Int) := by omega
      have hnext : Go.Lib.byteCells acc ++ Go.Lib.strCells (s.extract start (start + j)) ++ Go.Lib.strCells new = Go.Lib.byteCells (acc ++ (s.data.toList.drop start).take j) := by
        rw [Go.Lib.strCells_eq, Go.Lib.strCells_eq, Go.Lib.extract_data, Nat.add_sub_cancel_left, ← Go.Lib.byteCells_append, ← Go.Lib.byteCells_append, HnewL.out, List.append_nil]
      have hdd : (s.data.toList.drop start).drop (j + 1) = s.data.toList.drop (start + j + old.size) := by rw [List.drop_drop, Ho1.out]; congr 1
      have hrep : (acc ++ (s.data.toList.drop start).take j) ++ noB c (s.data.toList.drop (start + j + old.size)) = noB c s.data.toList := by
        have h9 : noB c (s.data.toList.drop start) = (s.data.toList.drop start).take j ++ noB c ((s.data.toList.drop start).drop (j + 1)) := by
          have h8 := noB_step (p := (s.data.toList.drop start).take j) (q := (s.data.toList.drop start).drop (j + 1)) hj0
          rw [← hjs] at h8
          exact h8
        rw [← HR.out, ← hdd, h9, List.append_assoc]
      have hcnt : (s.data.toList.drop (start + j + old.size)).count c = g := by
        rw [← hdd]
        rw [hjs, List.count_append, hj0, List.count_cons_self] at hgc
        omega
      have htl : ((s.data.toList.drop start).take j).length = j := by rw [List.length_take, List.length_drop, hlenL]; omega
      have Hn := Any.hidR hnext
      have Hrep := Any.hidR hrep
      have Hcnt := Any.hidR hcnt
      clear hnext hrep HR hdd hjs hj0 hcnt
      go_wp2_with (first | (go_at_fn (ρ.f 143); refine (hI _ _).mono ?_; rintro e w' ⟨rfl, hw⟩; rw [hw, Go.Lib.extract_to_end, hj]))
      refine (Any.Builder_WriteString { L with } X w.heap.size w.heap.size _ (s.extract start (start + j)) wr HB.out (by rw [Go.Lib.byteCells_length, ByteArray.size_extract]; omega) hBw).mono ?_
      rintro e w3 ⟨rfl, h3, hb3⟩
      have hBw3 : w.heap.size ≤ w3.heap.size := Nat.le_trans hBw hb3.size
      have H3 := Any.hidR h3
      have Hb3 := Any.hidR hb3
      clear h3 hb3
      go_wp2_with fail
      refine (Any.Builder_WriteString { L with } X w.heap.size w.heap.size _ new w3 (Or.inr H3.out) (by have h90 := Hn0.out; rw [List.length_append, Go.Lib.byteCells_length, Go.Lib.strCells_length, ByteArray.size_extract]; omega) hBw3).mono ?_
      rintro e w4 ⟨rfl, h4, hb4⟩
      rw [Hn.out] at h4
      have H4 := Any.hidR (Or.inr h4 : Go.Lib.IsBuilder (ρ.t 72) (ρ.t 5) w.heap.size w.heap.size _ w4)
      have Hb4 := Any.hidR ((HW.out.trans Hb3.out).trans hb4)
      clear h4 hb4
      go_wp2
      go_roundg g
      case measure => omega
      case rel => exact ⟨i + 1, start + j + old.size, _, by first | rfl | (simp; unfold wrap64; omega), by first | rfl | simp | (simp; unfold wrap64; omega), by omega, by rw [Ho1.out]; omega, H4, Hb4, Hrep, Hcnt.out, by simp only [List.length_append, htl, Ho1.out]; omega⟩
end

/-! ### strings.Split -/
theorem splA_none {c : UInt8} : ∀ {s cur : List UInt8}, s.count c = 0 → splA c cur s = [cur ++ s]
  | [], cur, _ => by simp [splA]
  | b :: s, cur, h => by
    by_cases e : b = c
    · subst e; rw [List.count_cons_self] at h; omega
    · rw [List.count_cons_of_ne e] at h
      unfold splA
      rw [if_neg e, splA_none h]
      simp
theorem splA_step {c : UInt8} : ∀ {p q cur : List UInt8}, p.count c = 0 → splA c cur (p ++ c :: q) = (cur ++ p) :: splA c [] q
  | [], q, cur, _ => by simp [splA]
  | b :: p, q, cur, h => by
    by_cases e : b = c
    · subst e; rw [List.count_cons_self] at h; omega
    · rw [List.count_cons_of_ne e] at h
      rw [List.cons_append, splA_cons, if_neg e, splA_step h]
      simp
theorem splK_eq (c : UInt8) : ∀ (k : Nat) (s : List UInt8), s.count c = k → Go.Lib.splitK [c] 0 k s = splA c [] s
  | 0, s, h => by rw [splA_none h]; rfl
  | k + 1, s, h => by
    obtain ⟨j, h1, h2, h3, h4⟩ := idx_hit (c := c) (s := s) (by omega)
    have hi : Go.Lib.index s [c] = j := by rw [Go.Lib.index_one, h1]
    have hm : ¬ (Go.Lib.index s [c] == -1) = true := fun e => by have := beq_iff_eq.1 e; omega
    unfold Go.Lib.splitK
    rw [if_neg hm, hi]
    simp only [Int.toNat_natCast, Nat.add_zero, List.length_cons, List.length_nil, Nat.zero_add]
    have hc : (s.drop (j + 1)).count c = k := by
      rw [h4, List.count_append, h3, List.count_cons_self] at h
      omega
    have h9 := splA_step (q := s.drop (j + 1)) (cur := []) h3
    rw [← h4] at h9
    rw [splK_eq c k _ hc, h9]
    rfl
section
variable {P : Program} {ρ : Ren}
set_option maxHeartbeats 1000000 in
/-- strings.Split at a sign of one byte. -/
theorem split_one (L : Lays.n146 P ρ) (hi9 : (P.info? (ρ.t 9)).map (fun i => (i.zero, i.size, i.bytes)) = some (some (.string ByteArray.empty), 1, 16)) (s : ByteArray) (c : UInt8) (w : World) (hs : s.size < 4294967281) :
    Calls P (ρ.f 146) #[.string s, .string ⟨#[c]⟩] w fun e w' => e = .returned (.slice (some ⟨w.heap.size, 0, none⟩) (Go.Lib.countB s ⟨#[c]⟩ + 1) (Go.Lib.countB s ⟨#[c]⟩ + 1)) ∧ w' = w.alloc (.cells ((Go.Lib.splitB ⟨#[c]⟩ 0 (Go.Lib.countB s ⟨#[c]⟩) s).map Value.string).toArray (ρ.t 9)) := by
  obtain ⟨sep, hsep⟩ : ∃ sep : ByteArray, sep = ⟨#[c]⟩ := ⟨_, rfl⟩
  have h1 : 1 ≤ sep.size := by rw [hsep]; exact Nat.le_refl _
  have hle := Go.Lib.countB_le sep h1 s.size s (Nat.le_refl _)
  have hlen := Go.Lib.splitB_all sep h1 0 _ s rfl
  have hI : ∀ (x : ByteArray) (cc : Array Value), x.size ≤ s.size → Calls P (ρ.f 143) #[.string x, .string sep] (w.alloc (.cells cc (ρ.t 9))) fun e w' => e = .returned (.int .i64 (Go.Lib.indexB x sep)) ∧ w' = w.alloc (.cells cc (ρ.t 9)) := by
    intro x cc _
    have := Any.strings_Index_one { L with } x c (w.alloc (.cells cc (ρ.t 9)))
    rw [hsep]
    refine this.mono ?_
    rintro e w' ⟨rfl, rfl⟩
    refine ⟨?_, rfl⟩
    have : Go.Lib.indexB x ⟨#[c]⟩ = Go.Lib.indexByte x.data.toList c := Go.Lib.index_one _ _
    rw [this]
  have hC : Calls P (ρ.f 138) #[.string s, .string sep] w fun e w' => e = .returned (.int .i64 (Go.Lib.countB s sep)) ∧ w' = w := by
    rw [hsep]
    refine (Any.strings_Count_one { L with } s c w).mono ?_
    rintro e w' ⟨rfl, rfl⟩
    refine ⟨?_, rfl⟩
    have : Go.Lib.countB s ⟨#[c]⟩ = s.data.toList.count c := Go.Lib.count_one c _
    rw [this]
    rfl
  have cc := Any.strings_genSplit_core { L with } hi9 s sep 0 (-1) (Go.Lib.countB s sep + 1) w hs h1 (Nat.zero_le _) hI hC (by decide) (by decide) (by rw [if_pos (by decide)]; omega)
  rw [Nat.add_sub_cancel, hlen] at cc
  have e2 : Go.Lib.cellsOf (Go.Lib.splitB sep 0 (Go.Lib.countB s sep) s) (Go.Lib.countB s sep + 1) = ((Go.Lib.splitB sep 0 (Go.Lib.countB s sep) s).map Value.string).toArray := by rw [← hlen]; exact Go.Lib.cellsOf_full _
  rw [e2] at cc
  rw [← hsep]
  clear hI hC hsep hle hlen e2
  have t3 := L.t3; have t9 := L.t9; have t31 := L.t31
  have a3 := L.a3; have a9 := L.a9; have a31 := L.a31
  have z3 := L.z3; have v3 := L.v3; have z9 := L.z9; have v9 := L.v9; have z31 := L.z31; have v31 := L.v31
  have e221 : ∀ args w, (callFunc (ρ.f 221) args).run P w = .ok (.enter (ρ.f 221) args) w := enters_of L.f221 (by kernel_rfl) rfl
  go_enter L.f146, Body.n146_ntmps ρ
  go_wp2_with (go_at_fn (ρ.f 221); refine cc.mono ?_; rintro e w' ⟨rfl, hw⟩; rw [hw])
  go_ret
  exact ⟨rfl, rfl⟩
set_option maxHeartbeats 1000000 in
theorem repl_none (L : Lays.n154 P ρ) (s old new : ByteArray) (w : World) (hne : old ≠ new) (hC : Calls P (ρ.f 138) #[.string s, .string old] w fun e w' => e = .returned (.int .i64 0) ∧ w' = w) :
    Calls P (ρ.f 154) #[.string s, .string old, .string new, .int .i64 (-1)] w fun e w' => e = .returned (.string s) ∧ w' = w := by
  have hbeq : (old.toList == new.toList) = false := (Go.Lib.bytes_beq_false_iff old new).2 hne
  have t3 := L.t3; have a3 := L.a3; have z3 := L.z3; have v3 := L.v3
  have t9 := L.t9; have a9 := L.a9; have z9 := L.z9; have v9 := L.v9
  have t4 := L.t4; have a4 := L.a4; have z4 := L.z4; have v4 := L.v4
  have e138 : ∀ args w, (callFunc (ρ.f 138) args).run P w = .ok (.enter (ρ.f 138) args) w := enters_of L.f138 (by kernel_rfl) rfl
  go_enter L.f154, Body.n154_ntmps ρ
  go_wp2_with (first | (go_at_fn (ρ.f 138); refine hC.mono ?_; rintro e w' ⟨rfl, hw⟩; rw [hw]))
  go_ret
  exact ⟨rfl, rfl⟩
set_option maxHeartbeats 1000000 in
/-- strings.ReplaceAll of a sign of one byte by nothing. -/
theorem repl_all (L : Lays.n155 P ρ) (X : Builder.Extra P ρ) (s : ByteArray) (c : UInt8) (w : World) (hs : s.size < 4294967281) :
    Calls P (ρ.f 155) #[.string s, .string ⟨#[c]⟩, .string ⟨#[]⟩] w fun e w' => e = .returned (.string ⟨(noB c s.data.toList).toArray⟩) ∧ Below w.heap.size w w' := by
  obtain ⟨old, hold⟩ : ∃ old : ByteArray, old = ⟨#[c]⟩ := ⟨_, rfl⟩
  obtain ⟨new, hnew⟩ : ∃ new : ByteArray, new = ⟨#[]⟩ := ⟨_, rfl⟩
  have ho1 : old.size = 1 := by rw [hold]; rfl
  have hn0 : new.size = 0 := by rw [hnew]; rfl
  have hne : old ≠ new := fun e => by rw [e, hn0] at ho1; omega
  have hI : ∀ (x : ByteArray) (w : World), Calls P (ρ.f 143) #[.string x, .string old] w fun e w' => e = .returned (.int .i64 (Go.Lib.indexByte x.data.toList c)) ∧ w' = w := by
    intro x w
    rw [hold]
    exact Any.strings_Index_one { L with } x c w
  have hC : Calls P (ρ.f 138) #[.string s, .string old] w fun e w' => e = .returned (.int .i64 (s.data.toList.count c : Nat)) ∧ w' = w := by
    rw [hold]
    exact Any.strings_Count_one { L with } s c w
  have key : Calls P (ρ.f 154) #[.string s, .string old, .string new, .int .i64 (-1)] w fun e w' => e = .returned (.string ⟨(noB c s.data.toList).toArray⟩) ∧ Below w.heap.size w w' := by
    by_cases h0 : s.data.toList.count c = 0
    · rw [h0] at hC
      rw [noB_none h0]
      refine (repl_none { L with } s old new w hne hC).mono ?_
      rintro e w' ⟨rfl, rfl⟩
      exact ⟨rfl, Below.refl _ _⟩
    · exact repl_some { L with } X s old new c (-1) (by omega) w hs ho1 hn0 hne hI _ hC rfl (by omega)
  rw [← hold, ← hnew]
  clear hI hC hold hnew ho1 hn0 hne
  have t3 := L.t3; have a3 := L.a3; have z3 := L.z3; have v3 := L.v3
  have t9 := L.t9; have a9 := L.a9; have z9 := L.z9; have v9 := L.v9
  have e154 : ∀ args w, (callFunc (ρ.f 154) args).run P w = .ok (.enter (ρ.f 154) args) w := enters_of L.f154 (by kernel_rfl) rfl
  go_enter L.f155, Body.n155_ntmps ρ
  go_wp2_with (go_at_fn (ρ.f 154); refine key.mono ?_; rintro e w' ⟨rfl, hw⟩)
  go_ret
  exact ⟨rfl, hw⟩
end
theorem x_ReplaceAll : ExtAt Go.Proofs.Tryz.prog F 341 xReplaceAll := by
  intro xs r hr
  unfold xReplaceAll at hr
  split at hr
  · rename_i s c
    split at hr
    · rename_i hl
      cases hr
      refine ⟨by decide +kernel, fun m w args hx => ?_⟩
      simp only [RelL] at hx
      obtain ⟨u, l, e1, h1, v, l2, rfl, h2, t, l3, rfl, h3, rfl⟩ := hx
      obtain rfl : args = #[u, v, t] := by rw [← Array.toArray_toList (xs := args), e1]
      rw [rel_str h1, rel_str h2, rel_str h3]
      refine (repl_all Tryz.lays155 Tryz.Builder_Extra_155 ⟨s.toArray⟩ c w (by show s.toArray.size < _; simp; omega)).mono ?_
      rintro e w' ⟨rfl, hb⟩
      exact ⟨_, rfl, by simp only [RelV], hb⟩
    · cases hr
  · cases hr
theorem strs_map2 : ∀ (L : List (List UInt8)) (m : Emb), RelL F m (L.map AV.str) (L.map fun s => Value.string ⟨s.toArray⟩)
  | [], _ => by simp [RelL]
  | s :: L, m => by
    simp only [List.map_cons, RelL]
    exact ⟨_, _, rfl, by simp only [RelV], strs_map2 L m⟩
theorem x_Split : ExtAtW Go.Proofs.Tryz.prog F 338 xSplit := by
  intro xs h r h' hr
  unfold xSplit at hr
  split at hr
  · rename_i hh s c
    split at hr
    · rename_i hl
      cases hr
      refine ⟨by decide +kernel, fun base m w args hrel hx => ?_⟩
      obtain ⟨u, v, rfl, h1, h2⟩ : ∃ u v, args = #[u, v] ∧ RelV F m (.str s) u ∧ RelV F m (.str [c]) v := by
        simp only [RelL] at hx
        obtain ⟨u, l, e1, h1, v, l2, rfl, h2, rfl⟩ := hx
        exact ⟨u, v, by rw [← Array.toArray_toList (xs := args), e1], h1, h2⟩
      rw [rel_str h1, rel_str h2]
      refine (split_one Tryz.lays146 (by kernel_rfl) ⟨s.toArray⟩ c w (by show s.toArray.size < _; simp; omega)).mono ?_
      rintro e w' ⟨rfl, rfl⟩
      have hcnt : Go.Lib.countB ⟨s.toArray⟩ ⟨#[c]⟩ = s.count c := Go.Lib.count_one c _
      have hd := Go.Lib.splitB_data ⟨#[c]⟩ 0 (Go.Lib.countB ⟨s.toArray⟩ ⟨#[c]⟩) ⟨s.toArray⟩
      have hd2 : (Go.Lib.splitB ⟨#[c]⟩ 0 (Go.Lib.countB ⟨s.toArray⟩ ⟨#[c]⟩) ⟨s.toArray⟩).map Value.string = (splA c [] s).map fun s => Value.string ⟨s.toArray⟩ := by
        have h3 : (Go.Lib.splitB ⟨#[c]⟩ 0 (Go.Lib.countB ⟨s.toArray⟩ ⟨#[c]⟩) ⟨s.toArray⟩).map (·.data.toList) = splA c [] s := by
          rw [hd]
          show Go.Lib.splitK [c] 0 _ s = _
          exact splK_eq c _ s hcnt.symm
        rw [← h3, List.map_map]
        rfl
      have hlen : (splA c [] s).length = Go.Lib.countB ⟨s.toArray⟩ ⟨#[c]⟩ + 1 := by
        have h4 := congrArg List.length hd2
        rw [List.length_map, List.length_map, Go.Lib.splitB_all ⟨#[c]⟩ (Nat.le_refl _) 0 _ ⟨s.toArray⟩ rfl] at h4
        exact h4.symm
      rw [hd2]
      have hsc : ((splA c [] s).map AV.str).all AV.sc = true := by simp [AV.sc]
      have hn : newRow h ((splA c [] s).map AV.str) = some (h.length, h ++ [.row ((splA c [] s).map AV.str) 0 0 false]) := by simp only [newRow, hsc, if_true]
      obtain ⟨_, st⟩ := newRow_step (w' := w.alloc (.cells ((splA c [] s).map fun s => Value.string ⟨s.toArray⟩).toArray _)) hrel hn (strs_map2 (splA c [] s) m) (rest := []) (t := _) (fr := (0, 0)) (.inr (Nat.le_refl _)) (by rw [List.append_nil]; rfl) rfl rfl rfl
      refine ⟨_, _, rfl, ?_, st⟩
      simp only [RelV]
      refine ⟨_, 0, _, Emb.addRow_at _ _ _ _, by rw [hlen], Nat.le_of_eq hlen, .inr ⟨Nat.le_refl _, rfl, ?_, ?_⟩⟩
      · simp; try omega
      · simp; try omega
    · cases hr
  · cases hr

/-! ### slices.SortFunc at moves -/
abbrev encMv (x : Mo) : List Value := [.int .i64 x.1, .int .i64 x.2]
abbrev cmpMo (x y : Mo) : Int := if Go.Lib.compareInt x.1 y.1 ≠ 0 then Go.Lib.compareInt x.1 y.1 else Go.Lib.compareInt x.2 y.2
theorem cmpMo_lt (x y : Mo) : ltOf cmpMo x y = decide (ltMo x y) := by
  unfold ltOf
  congr 1
  unfold cmpMo Go.Lib.compareInt ltMo
  apply propext
  repeat' split
  all_goals omega
theorem put_any {α : Type} [Inhabited α] (en : α → Value) {w : World} {blk off : Nat} {d : Array α} (hH : Go.Sort.Holds en w blk off d) {xs : List α} (hl : xs.length = d.size) : Go.Sort.putRow en w blk off xs.toArray = w.setCells blk off (xs.map en) := by
  have h1 := Go.Lib.putRow_setCells en w blk off xs d 0 (by omega)
  rw [Go.Sort.putRow_self en w blk off d hH, Nat.add_zero] at h1
  rw [h1]
  congr 1
  apply Array.ext_getElem?
  intro j
  rw [Go.Lib.lay_get? xs d 0 j (by omega)]
  by_cases hj : j < xs.length
  · rw [if_pos ⟨Nat.zero_le _, by omega⟩, Nat.sub_zero]; simp
  · rw [if_neg (by omega), Array.getElem?_eq_none (by simp; omega), Array.getElem?_eq_none (by omega)]
end Go.Proofs.YtgdlaopjabjkbaaGreatDoor.Ab

/- THE SEAT's contract of slices.SortFunc at moves: the comparing closure by a walk, the sort by the shelf's contract. -/
namespace Go.Proofs.YtgdlaopjabjkbaaGreatDoor.Ab
open Go Go.RowKit Go.Shelf Go.Sort

set_option maxHeartbeats 2000000 in
/-- cmp.Or of two numbers. -/
theorem or_two (b : Nat) (x y : Int) (w : World) (h0 : w.cell? ⟨b, 0, none⟩ = some (.int .i64 x)) (h1 : w.cell? ⟨b, 1, none⟩ = some (.int .i64 y)) :
    Calls Go.Proofs.Tryz.prog 53 #[.slice (some ⟨b, 0, none⟩) 2 2] w fun e w' => e = .returned (.int .i64 (if x ≠ 0 then x else y)) ∧ w' = w := by
  by_cases hx : x = 0
  · by_cases hy : y = 0
    · subst hx hy
      go_enter Go.Proofs.Tryz.func53, Go.Proofs.Tryz.ntmps53
      go_wp2
      refine wp_loop_rounds 3 ?_
      rw [rounds_succ]
      go_wp2
      rw [rounds_succ]
      go_wp2
      rw [rounds_succ]
      go_wp2
      go_ret
      exact ⟨rfl, rfl⟩
    · subst hx
      have hyb : (y == 0) = false := beq_eq_false_iff_ne.2 hy
      have hyn : (y != 0) = true := by rw [bne, hyb]; rfl
      go_enter Go.Proofs.Tryz.func53, Go.Proofs.Tryz.ntmps53
      go_wp2
      refine wp_loop_rounds 3 ?_
      rw [rounds_succ]
      go_wp2
      rw [rounds_succ]
      go_wp2
      go_ret
      exact ⟨rfl, rfl⟩
  · have hxb : (x == 0) = false := beq_eq_false_iff_ne.2 hx
    have hxn : (x != 0) = true := by rw [bne, hxb]; rfl
    have hif : (if x ≠ 0 then x else y) = x := if_pos hx
    rw [hif]
    clear hif
    go_enter Go.Proofs.Tryz.func53, Go.Proofs.Tryz.ntmps53
    go_wp2
    refine wp_loop_rounds 3 ?_
    rw [rounds_succ]
    go_wp2
    go_ret
    exact ⟨rfl, rfl⟩

theorem grown_three (W : World) (A B C : Obj) : ∃ q os', (((W.alloc A).alloc B).alloc C).drew = grow (W.drewN q) os' := ⟨1, #[A] ++ #[B] ++ #[C], by rw [alloc_eq_grow, alloc_eq_grow, alloc_eq_grow, grow_grow, grow_grow]; rfl⟩
theorem cell_third (W : World) (A B : Obj) (a b : Value) (t : TypeId) : (((W.alloc A).alloc B).alloc (.cells #[a, b] t)).drew.cell? ⟨W.heap.size + 1 + 1, 0, none⟩ = some a ∧ (((W.alloc A).alloc B).alloc (.cells #[a, b] t)).drew.cell? ⟨W.heap.size + 1 + 1, 1, none⟩ = some b := by
  have h : (((W.alloc A).alloc B).alloc (.cells #[a, b] t)).drew.heap[W.heap.size + 1 + 1]? = some (.cells #[a, b] t (0, 0)) := by
    have h0 := heap_alloc_new ((W.alloc A).alloc B) (.cells #[a, b] t)
    rw [World.size_alloc, World.size_alloc] at h0
    exact h0
  exact ⟨cell_at h, cell_at h⟩
set_option maxHeartbeats 16000000 in
set_option maxRecDepth 1000000 in
/-- The closure that compares two moves. -/
theorem mv_cmp (x y : Mo) (W : World) : Calls Go.Proofs.Tryz.prog 52 #[.agg #[.int .i64 x.1, .int .i64 x.2], .agg #[.int .i64 y.1, .int .i64 y.2]] W fun e w' => e = .returned (.int .i64 (cmpMo x y)) ∧ ∃ q os', w' = grow (W.drewN q) os' := by
  obtain ⟨x1, x2⟩ := x
  obtain ⟨y1, y2⟩ := y
  obtain ⟨cf, hcf⟩ : ∃ cf : Int → Int → Int, cf = Go.Lib.compareInt := ⟨_, rfl⟩
  have c1 : ∀ a b W', Calls Go.Proofs.Tryz.prog 54 #[.int .i64 a, .int .i64 b] W' fun e w' => e = .returned (.int .i64 (cf a b)) ∧ w' = W' := fun a b W' => by
    rw [hcf]; exact Tryz.cmp_Compare_int a b W'
  unfold cmpMo
  simp only
  rw [← hcf]
  clear hcf
  have c3 : ∀ W' : World, W'.cell? ⟨W.heap.size + 1 + 1, 0, none⟩ = some (.int .i64 (cf x1 y1)) → W'.cell? ⟨W.heap.size + 1 + 1, 1, none⟩ = some (.int .i64 (cf x2 y2)) →
      Calls Go.Proofs.Tryz.prog 53 #[.slice (some ⟨W.heap.size + 1 + 1, 0, none⟩) 2 2] W' fun e w' => e = .returned (.int .i64 (if cf x1 y1 ≠ 0 then cf x1 y1 else cf x2 y2)) ∧ w' = W' := fun W' h0 h1 => or_two _ _ _ W' h0 h1
  generalize (if cf x1 y1 ≠ 0 then cf x1 y1 else cf x2 y2) = r at c3 ⊢
  go_enter Go.Proofs.Tryz.func52, Go.Proofs.Tryz.ntmps52
  go_wp2
  go_region_held (fun w' => w'.cell? ⟨W.heap.size, 0, none⟩ = some (.int .i64 x1) ∧ w'.cell? ⟨W.heap.size, 1, none⟩ = some (.int .i64 x2) ∧ w'.cell? ⟨W.heap.size + 1, 0, none⟩ = some (.int .i64 y1) ∧ w'.cell? ⟨W.heap.size + 1, 1, none⟩ = some (.int .i64 y2)) (go_keep) (first
    | (go_at_call 54; refine (c1 _ _ _).mono ?_; rintro e w' ⟨rfl, rfl⟩)
    | (go_at_call 53; refine (c3 _ (cell_third W _ _ _ _ _).1 (cell_third W _ _ _ _ _).2).mono ?_; rintro e w' ⟨rfl, rfl⟩))
  go_wp2
  go_ret
  exact ⟨rfl, grown_three W _ _ _⟩

theorem ltMo_swo : SWO (ltOf cmpMo) where
  irrefl x := by rw [cmpMo_lt]; unfold ltMo; simp
  trans x y z h1 h2 := by rw [cmpMo_lt, decide_eq_true_iff] at *; unfold ltMo at *; omega
  ntrans x y z h1 h2 := by rw [cmpMo_lt, decide_eq_false_iff_not] at *; unfold ltMo at *; omega
theorem ltMo_one (x y : Mo) (h1 : ltOf cmpMo x y = false) (h2 : ltOf cmpMo y x = false) : x = y := by
  rw [cmpMo_lt, decide_eq_false_iff_not] at h1 h2
  unfold ltMo at h1 h2
  exact Prod.ext (by omega) (by omega)
theorem mos_rel {m : Emb} : ∀ {cs : List AV} {ms : List Mo} {vs : List Value}, mosOf cs = some ms → RelL F m cs vs → vs = ms.flatMap encMv
  | [], ms, vs, h, hr => by
    simp only [mosOf, Option.some.injEq] at h
    subst h
    simpa only [RelL, List.flatMap_nil] using hr
  | [x], ms, vs, h, hr => by cases x <;> simp [mosOf] at h
  | x :: y :: cs, ms, vs, h, hr => by
    unfold mosOf at h
    split at h
    · rename_i heq; cases heq
    · rename_i a b l heq
      simp only [List.cons.injEq] at heq
      obtain ⟨rfl, rfl, rfl⟩ := heq
      rw [Option.map_eq_some_iff] at h
      obtain ⟨ns, hn, rfl⟩ := h
      simp only [RelL] at hr
      obtain ⟨v, l1, rfl, h1, u, l2, rfl, h2, h3⟩ := hr
      rw [mos_rel hn h3]
      simp only [RelV] at h1 h2
      subst h1 h2
      rfl
    · cases h
theorem mos_map : ∀ (L : List Mo) (m : Emb), RelL F m (moC L) (L.flatMap encMv)
  | [], _ => by simp [RelL]
  | x :: L, m => by
    simp only [moC, List.flatMap_cons, List.cons_append, List.nil_append, RelL]
    exact ⟨_, _, rfl, by simp only [RelV], _, _, rfl, by simp only [RelV], mos_map L m⟩
theorem mos_get : ∀ (L : List Mo) (t : Nat), t < L.length * 2 → (L.flatMap encMv)[t]? = some ((encMv L[t / 2]!)[t % 2]!)
  | [], t, h => by simp at h
  | x :: L, 0, h => by simp
  | x :: L, 1, h => by simp
  | x :: L, t + 2, h => by
    have ih := mos_get L t (by simp at h; omega)
    rw [List.flatMap_cons]
    show (_ :: _ :: L.flatMap encMv)[t + 2]? = _
    rw [List.getElem?_cons_succ, List.getElem?_cons_succ, ih]
    have e1 : (t + 2) / 2 = t / 2 + 1 := by omega
    have e2 : (t + 2) % 2 = t % 2 := by omega
    rw [e1, e2]
    simp
theorem mos_flen (L : List Mo) : (L.flatMap encMv).length = L.length * 2 := by
  induction L with
  | nil => rfl
  | cons a L ih => rw [List.flatMap_cons, List.length_append, ih]; show 2 + L.length * 2 = (L.length + 1) * 2; omega
theorem flatK_list (L : List Mo) : flatK encMv 2 L.toArray = (L.flatMap encMv).toArray := by
  refine ext_get! (by rw [size_flatK, List.size_toArray, List.size_toArray, mos_flen]) fun t ht => ?_
  have ht' : t < L.toArray.size * 2 := by rw [size_flatK] at ht; exact ht
  have h2 : t < L.length * 2 := by simpa using ht'
  rw [get_flatK _ _ _ _ ht']
  have h3 := mos_get L t h2
  have hlt : t < (L.flatMap encMv).toArray.size := by rw [List.size_toArray, mos_flen]; exact h2
  rw [getElem!_pos (L.flatMap encMv).toArray t hlt]
  have hlt' : t < (L.flatMap encMv).length := by rw [mos_flen]; exact h2
  rw [List.getElem?_eq_getElem hlt'] at h3
  have h4 : (L.toArray)[t / 2]! = L[t / 2]! := by simp
  rw [h4]
  simp only [Option.some.injEq] at h3
  rw [List.getElem_toArray]
  exact h3.symm
set_option maxRecDepth 1000000 in
set_option maxHeartbeats 2000000 in
theorem x_SortM : ExtAtW Go.Proofs.Tryz.prog F 343 (xSortM 344) := by
  intro xs h r h' hr
  have hF : F 344 = 52 := by decide +kernel
  have two : ∀ {x y : AV} {args : Array Value} {m : Emb}, RelL F m [x, y] args.toList → ∃ u v, args = #[u, v] ∧ RelV F m x u ∧ RelV F m y v := by
    intro x y args m h
    simp only [RelL] at h
    obtain ⟨u, l, e1, h1, v, l2, rfl, h2, rfl⟩ := h
    exact ⟨u, v, by rw [← Array.toArray_toList (xs := args), e1], h1, h2⟩
  have unit : ∀ {m : Emb}, RelV F m (.tup []) (.tuple #[]) := by simp [RelV, RelL]
  have fnv : ∀ {m : Emb} {v : Value}, RelV F m (.fn 344 []) v → v = .func (.func 52) #[] #[] := by
    intro m v h
    simp only [RelV, RelL] at h
    obtain ⟨vs, h1, h2⟩ := h
    rw [hF] at h1
    obtain rfl : vs = #[] := by cases vs; simp_all
    exact h1
  have empt : ∀ (base : Nat) (m : Emb) (w : World) (p : Option Addr) (cap : Nat) (v : Value), RelH F base m h w → Calls Go.Proofs.Tryz.prog (F 343) #[.slice p 0 cap, v] w fun e w' => ∃ v m', e = .returned v ∧ RelV F m' (.tup []) v ∧ StepR F base m h w m' h w' := by
    intro base m w p cap v hrel
    refine (AnyF.slices_SortFunc_none Tryz.laysSortM p cap v w).mono ?_
    rintro e w' ⟨rfl, rfl⟩
    exact ⟨_, m, rfl, unit, StepR.refl hrel⟩
  have same : (fun x y : Mo => !ltOf cmpMo y x) = fun x y => !decide (ltMo y x) := by funext x y; rw [cmpMo_lt]
  unfold xSortM at hr
  split at hr
  · rename_i hh g
    split at hr
    · rename_i hg
      cases hr
      refine ⟨by decide +kernel, fun base m w args hrel hx => ?_⟩
      obtain ⟨u, v, rfl, h1, h2⟩ := two hx
      simp only [RelV] at h1
      subst h1
      exact empt base m w _ _ _ hrel
    · cases hr
  · rename_i hh g
    split at hr
    · rename_i hg
      cases hr
      refine ⟨by decide +kernel, fun base m w args hrel hx => ?_⟩
      obtain ⟨u, v, rfl, h1, h2⟩ := two hx
      simp only [RelV] at h1
      obtain ⟨a, rfl⟩ := h1
      exact empt base m w _ _ _ hrel
    · cases hr
  · rename_i hh c k off n e g
    split at hr
    · rename_i hg
      obtain ⟨rfl, rfl⟩ := hg
      cases hr
      refine ⟨by decide +kernel, fun base m w args hrel hx => ?_⟩
      obtain ⟨u, v, rfl, h1, h2⟩ := two hx
      simp only [RelV] at h1
      obtain ⟨p, o, cap, hp, rfl, hcap, hpl⟩ := h1
      exact empt base m w _ _ _ hrel
    · rename_i hg0
      split at hr
      · rename_i hcond
        obtain ⟨rfl, rfl, hnm⟩ := hcond
        have hn1 : n ≠ 0 := fun e => hg0 ⟨rfl, e⟩
        split at hr
        · rename_i cs hcs
          split at hr
          · rename_i ms hms
            rw [Option.map_eq_some_iff] at hr
            obtain ⟨h2, hw, hr⟩ := hr
            cases hr
            refine ⟨by decide +kernel, fun base m w args hrel hx => ?_⟩
            obtain ⟨u, v, rfl, h1, hf⟩ := two hx
            obtain rfl := fnv hf
            simp only [RelV] at h1
            obtain ⟨p, o, cap, hp, rfl, hcap, hpl⟩ := h1
            obtain ⟨q1, rfl, q3, q4⟩ := hpl.resolve_left (by omega)
            obtain ⟨vs, n1, n2, n3⟩ := hrel.row_at hcs hp (by omega) (by omega)
            have hvs := mos_rel hms n1
            subst hvs
            have hmsl : ms.length = n := by rw [mos_flen] at n2; omega
            subst hmsl
            have hsrt : (srtMo ms).length = ms.length := List.length_mergeSort _
            have hmoc : (moC (srtMo ms)).length = ms.length * 2 := by
              have : ∀ L : List Mo, (moC L).length = L.length * 2 := by
                intro L
                induction L with
                | nil => rfl
                | cons a L ih => simp only [moC] at ih ⊢; rw [List.flatMap_cons, List.length_append, ih]; show 2 + L.length * 2 = (L.length + 1) * 2; omega
              rw [this, hsrt]
            have hwc := wr_cells hrel hw hp (by omega) (by rw [hmoc]; omega)
            rw [hmoc] at hwc
            have hH : Go.Sort.Holds id w p.blk (p.base + (off - p.lo)) (ms.flatMap encMv).toArray := by
              intro j hj
              have hj' : j < (ms.flatMap encMv).length := by simpa using hj
              refine ⟨?_, (hwc j (by rw [mos_flen] at hj'; exact hj')).2⟩
              apply n3
              rw [List.getElem?_eq_getElem hj', getElem!_pos _ j hj]
              simp
            have hHK : HoldsK encMv 2 w p.blk (p.base + (off - p.lo)) ms.toArray := by
              unfold HoldsK
              rw [flatK_list]
              exact hH
            have hblk := hrel.ltr c k p hp
            have eg : ∀ args w, (callFunc 52 args).run Go.Proofs.Tryz.prog w = .ok (.enter 52 args) w := enters_of Go.Proofs.Tryz.func52 (by kernel_rfl) rfl
            have := AnyQ.slices_SortFunc_total Tryz.laysSortM 2 Tryz.isAgg38 Tryz.sizeOf38 encMv (fun _ => rfl) (fun x v hv => by simp at hv; rcases hv with rfl | rfl <;> rfl) cmpMo ltMo_swo 52 #[] p.blk (p.base + (off - p.lo)) cap ms.toArray w eg (fun _ _ _ _ x y => mv_cmp x y _) hHK hblk (by simp; omega) ltMo_one
            rw [same] at this
            have this2 : Calls Go.Proofs.Tryz.prog (F 343) #[.slice (some ⟨p.blk, p.base + (off - p.lo), none⟩) ms.length cap, .func (.func 52) #[] #[]] w fun e w' => e = .returned (.tuple #[]) ∧ ∃ n os, w' = sortWorldK encMv 2 w p.blk (p.base + (off - p.lo)) n (srtMo ms).toArray os := this
            refine this2.mono ?_
            rintro e w' ⟨rfl, q, os, rfl⟩
            refine ⟨_, m, rfl, unit, ?_⟩
            have st0 : StepR F base m h w m h (Go.Sort.ahead w q) := StepR.draw hrel rfl rfl rfl rfl
            have hH2 : Go.Sort.Holds id (Go.Sort.ahead w q) p.blk (p.base + (off - p.lo)) (ms.flatMap encMv).toArray := hH
            have e2 := put_any id hH2 (xs := (srtMo ms).flatMap encMv) (by rw [mos_flen, List.size_toArray, mos_flen, hsrt])
            have e3 : sortWorldK encMv 2 w p.blk (p.base + (off - p.lo)) q (srtMo ms).toArray os = grow ((Go.Sort.ahead w q).setCells p.blk (p.base + (off - p.lo)) ((srtMo ms).flatMap encMv)) os := by
              unfold sortWorldK putRowK
              rw [flatK_list, e2, List.map_id]
            have e4 : StepR F base m h w m h' (sortWorldK encMv 2 w p.blk (p.base + (off - p.lo)) q (srtMo ms).toArray os) := by
              rw [e3]
              have st1 := wr_set (P := Go.Proofs.Tryz.prog) st0.rel hw hp (by omega) (by rw [hmoc]; omega) (mos_map _ m) (by
                intro v hv
                obtain ⟨x, _, hx⟩ := List.mem_flatMap.1 hv
                simp at hx
                rcases hx with rfl | rfl <;> rfl)
              refine st0.trans (st1.trans ?_)
              refine StepR.grown st1.rel (fun b hb => ?_) (by simp [Go.Sort.grow]) rfl rfl rfl
              simp only [Go.Sort.grow]
              rw [Array.getElem?_append_left hb]
            exact e4
          · cases hr
        · cases hr
      · cases hr
  · cases hr
end Go.Proofs.YtgdlaopjabjkbaaGreatDoor.Ab
