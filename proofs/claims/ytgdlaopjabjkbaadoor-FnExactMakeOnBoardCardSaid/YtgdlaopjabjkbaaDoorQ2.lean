/- Part 3 of the proof of a law of the given program: the rules that it leans on, and what the functions that it reaches answer; the conditions stand with each theorem. -/
import Derived.Orders
import Derived.LoopN
import Derived.Test.YtgdlaopjabjkbaaDoorProg
import Derived.Laws.IdiomCopy
import Derived.Shelf.SlGeneric
import Derived.Shelf.SlLaysF0
import Derived.Ground.SlsfProg
import Derived.Shelf.Strings.Builder1
import Derived.Shelf.Strings.Builder2
import Derived.Shelf.Strings.OnBuilder
import Derived.Shelf.Strings.Trim
import Derived.Shelf.Small.Utf8
import Derived.Shelf.Small.Bits
import Derived.Shelf.Small.Strs
import Derived.Shelf.Small.Wraps
import Derived.Shelf.Strconv.Itoa0
import Derived.Shelf.Strings.Search1
import Derived.Shelf.Strings.Search2
import Derived.Shelf.Strings.Search3
import Derived.Shelf.Strings.Count
import Derived.Shelf.LaysM
import Derived.Shelf.Strings.Shaped
import Derived.Shelf.Strings.Split
import Derived.Shelf.Strings.Replace
import Derived.Shelf.Strings.Runes
import Derived.Shelf.Strings.AsciiSet
import Derived.Shelf.Unicode.DecodeSlow
import Derived.Shelf.SlSortCmp.NoneTotal
import Derived.Shelf.SlicesG.Cmp
import Derived.Lib.SlicesDelete
import Derived.Deep.RegionHeld
import Derived.Shelf.Strings.SlTrimAscii
import Derived.ChangeSame
import Derived.Below
import Derived.WideKeyArgs
import Derived.Carry
import Derived.Deep.Slices
import Derived.Deep.Fields
import Derived.Lib.SmallJoins
import Derived.Test.YtgdlaopjabjkbaaDoorQ1
set_option linter.unusedSimpArgs false
set_option linter.unusedVariables false
/- REGIONS whose order is drawn: all that turns or reads the heap stands in one order. -/
namespace Go.Proofs.YtgdlaopjabjkbaaDoor.Ab
open Go Go.RowKit

/-! ### The checker -/
def mkMask (o : Oper) (acc : List Nat) : Nat := o.after.toList.foldl (fun s e => if Region.binds .any e then s ||| 2 ^ e.on ||| acc.getD e.on 0 else s) 0
def masks : List Oper → List Nat → List Nat
  | [], acc => acc
  | o :: os, acc => masks os (acc ++ [mkMask o acc])
def I.reads (x : I) : List Nat := x.op.ods.flatMap Opd.ts ++ (match x.grd with | some (t, _) => [t] | none => [])
def clashK : K → K → Bool
  | .q, _ | _, .q => false
  | .l, .l => false
  | _, _ => true
def pairOk (ps : List (Nat × Nat)) (i j : Nat) (x y : I) (bit : Bool) : Bool :=
  bit || ((match x.dst, y.dst with
    | some t, some u => decide (t ≠ u)
    | _, _ => true) && (match x.dst with
    | some t => decide (t ∉ y.reads)
    | none => true) && (match y.dst with
    | some t => decide (t ∉ x.reads)
    | none => true) && (!(clashK x.op.kind y.op.kind) || (decide (x.op.kind = .l) && clashK y.op.kind .l && ps.contains (i, j)) || (decide (y.op.kind = .l) && clashK x.op.kind .l && ps.contains (j, i))))
def dstsOk (x y : I) : Bool := match x.dst, y.dst with
  | some t, some u => decide (t ≠ u)
  | _, _ => true
def pairsOk (ps : List (Nat × Nat)) (B : List Nat) (is : List I) (y : I) (j : Nat) : Bool := (List.range j).all fun i => match is[i]? with
  | some x => dstsOk x y && pairOk ps i j x y ((B.getD j 0).testBit i)
  | none => false
def edgesOk : List Oper → Nat → Bool
  | [], _ => true
  | o :: os, i => o.after.toList.all (fun e => !Region.binds .any e || decide (e.on < i)) && edgesOk os (i + 1)
def drwOk (ops : Array Oper) (is : List I) (ps : List (Nat × Nat)) : Bool :=
  let B := masks ops.toList []
  edgesOk ops.toList 0 && (List.range is.length).all fun j => match is[j]? with
    | some y => pairsOk ps B is y j
    | none => false

theorem mask_bit {o : Oper} {acc : List Nat} {i : Nat} (h : (mkMask o acc).testBit i = true) : ∃ e ∈ o.after.toList, Region.binds .any e = true ∧ (i = e.on ∨ (acc.getD e.on 0).testBit i = true) := by
  have gen : ∀ (l : List Edge) (s : Nat), (l.foldl (fun s e => if Region.binds .any e then s ||| 2 ^ e.on ||| acc.getD e.on 0 else s) s).testBit i = true → s.testBit i = true ∨ ∃ e ∈ l, Region.binds .any e = true ∧ (i = e.on ∨ (acc.getD e.on 0).testBit i = true) := by
    intro l
    induction l with
    | nil => intro s h; exact .inl h
    | cons e l ih =>
      intro s h
      simp only [List.foldl_cons] at h
      rcases ih _ h with h1 | ⟨e', he', h2⟩
      · split at h1
        · rename_i hb
          simp only [Nat.testBit_or, Bool.or_eq_true] at h1
          rcases h1 with (h1 | h1) | h1
          · exact .inl h1
          · refine .inr ⟨e, by simp, hb, .inl ?_⟩
            rw [Nat.testBit_two_pow] at h1
            exact (of_decide_eq_true h1).symm
          · exact .inr ⟨e, by simp, hb, .inr h1⟩
        · exact .inl h1
      · exact .inr ⟨e', by simp [he'], h2⟩
  rcases gen _ _ h with h1 | h1
  · simp at h1
  · exact h1

theorem masks_closed {S : Nat → Prop} : ∀ (os : List Oper) (acc : List Nat), (∀ k, k < acc.length → S k → ∀ i, (acc.getD k 0).testBit i = true → S i) →
    (∀ (k : Nat) (o : Oper), os[k]? = some o → S (acc.length + k) → ∀ e ∈ o.after.toList, Region.binds .any e = true → S e.on) → ∀ j, S j → ∀ i, ((masks os acc).getD j 0).testBit i = true → S i
  | [], acc, ha, _, j, hj, i, hb => by
    simp only [masks] at hb
    by_cases hlt : j < acc.length
    · exact ha j hlt hj i hb
    · rw [List.getD_eq_getElem?_getD, List.getElem?_eq_none (by omega)] at hb; simp at hb
  | o :: os, acc, ha, ho, j, hj, i, hb => by
    simp only [masks] at hb
    refine masks_closed os _ ?_ ?_ j hj i hb
    · intro k hk hSk i hb
      simp only [List.length_append, List.length_singleton] at hk
      by_cases hlt : k < acc.length
      · rw [List.getD_eq_getElem?_getD, List.getElem?_append_left hlt, ← List.getD_eq_getElem?_getD] at hb
        exact ha k hlt hSk i hb
      · have hke : k = acc.length := by omega
        subst hke
        rw [List.getD_eq_getElem?_getD, List.getElem?_append_right (Nat.le_refl _)] at hb
        simp only [Nat.sub_self, List.getElem?_cons_zero, Option.getD_some] at hb
        obtain ⟨e, he, hbd, h1⟩ := mask_bit hb
        have hSe := ho 0 o rfl hSk e he hbd
        rcases h1 with rfl | h1
        · exact hSe
        · by_cases hlt2 : e.on < acc.length
          · exact ha _ hlt2 hSe i h1
          · rw [List.getD_eq_getElem?_getD, List.getElem?_eq_none (by omega)] at h1; simp at h1
    · intro k o' hk hS
      refine ho (k + 1) o' (by simpa using hk) ?_
      simp only [List.length_append, List.length_singleton] at hS
      rwa [show acc.length + (k + 1) = acc.length + 1 + k by omega]

theorem edges_get : ∀ (os : List Oper) (b k : Nat) (o : Oper), edgesOk os b = true → os[k]? = some o → ∀ e ∈ o.after.toList, Region.binds .any e = true → e.on < b + k
  | [], _, _, _, _, h => by simp at h
  | o :: os, b, k, o', hc, h => by
    simp only [edgesOk, Bool.and_eq_true] at hc
    intro e he hb
    cases k with
    | zero =>
      simp at h; subst h
      have := List.all_eq_true.1 hc.1 e he
      simpa [hb] using this
    | succ k =>
      have := edges_get os (b + 1) k o' hc.2 (by simpa using h) e he hb
      omega

/-! ### The states between -/
theorem states {cf : CF} : ∀ (is : List I) (e : Env) (h : AH) (e' : Env) (h' : AH), evR cf is e h = some (e', h') → ∃ st : Nat → Env × AH, st 0 = (e, h) ∧ st is.length = (e', h') ∧ ∀ i x, is[i]? = some x → evI cf x (st i).1 (st i).2 = some (st (i + 1))
  | [], e, h, e', h', hev => by
    simp only [evR, Option.some.injEq, Prod.mk.injEq] at hev
    obtain ⟨rfl, rfl⟩ := hev
    exact ⟨fun _ => (e, h), rfl, rfl, fun i x hx => by simp at hx⟩
  | x :: is, e, h, e', h', hev => by
    simp only [evR] at hev
    split at hev
    · rename_i e1 h1 h2
      obtain ⟨st, s0, sn, ss⟩ := states is e1 h1 e' h' hev
      refine ⟨fun i => match i with | 0 => (e, h) | i + 1 => st i, rfl, sn, ?_⟩
      intro i y hy
      cases i with
      | zero => simp at hy; subst hy; simp only [h2, s0]
      | succ i => exact ss i y (by simpa using hy)
    · cases hev

theorem evI_env {cf : CF} {x : I} {e e' : Env} {h h' : AH} (hev : evI cf x e h = some (e', h')) {t : Nat} (ht : x.dst ≠ some t) : e'.get t = e.get t := by
  have key : ∀ v, (put e x.dst v).get t = e.get t := by
    intro v
    cases hd : x.dst with
    | none => rfl
    | some u =>
      simp only [put, Env.get_set]
      rw [if_neg]
      intro hu; subst hu; exact ht hd
  unfold evI at hev
  split at hev
  · simp only [Option.map_eq_some_iff, Prod.mk.injEq] at hev
    obtain ⟨⟨v, h2⟩, _, rfl, _⟩ := hev
    exact key v
  · split at hev
    · split at hev
      · simp only [Option.map_eq_some_iff, Prod.mk.injEq] at hev
        obtain ⟨⟨v, h2⟩, _, rfl, _⟩ := hev
        exact key v
      · simp only [Option.some.injEq, Prod.mk.injEq] at hev
        obtain ⟨rfl, _⟩ := hev
        exact key _
    · simp only [Option.some.injEq, Prod.mk.injEq] at hev
      obtain ⟨rfl, _⟩ := hev
      exact key _
    · cases hev

theorem evI_heap {cf : CF} {x : I} {e e' : Env} {h h' : AH} (hev : evI cf x e h = some (e', h')) (hk : clashK x.op.kind .l = false ∨ x.op.kind = .l) : h' = h := by
  have key : ∀ v h2, evOp cf (env e) h x.op = some (v, h2) → h2 = h := by
    intro v h2 ho
    rcases hk with hk | hk
    · cases hkk : x.op.kind <;> rw [hkk] at hk <;> simp [clashK] at hk
      · have := evOp_q hkk ho h
        rw [ho] at this; cases this; rfl
      · exact evOp_l_same hkk ho
    · exact evOp_l_same hk ho
  unfold evI at hev
  split at hev
  · simp only [Option.map_eq_some_iff, Prod.mk.injEq] at hev
    obtain ⟨⟨v, h2⟩, ho, _, rfl⟩ := hev
    exact key v _ ho
  · split at hev
    · split at hev
      · simp only [Option.map_eq_some_iff, Prod.mk.injEq] at hev
        obtain ⟨⟨v, h2⟩, ho, _, rfl⟩ := hev
        exact key v _ ho
      · simp only [Option.some.injEq, Prod.mk.injEq] at hev
        exact hev.2.symm
    · simp only [Option.some.injEq, Prod.mk.injEq] at hev
      exact hev.2.symm
    · cases hev

/-- Some slots of an environment alone. -/
def Env.only (l : List Nat) (e : Env) : Env := l.map fun t => (t, e.get t)
theorem only_get (l : List Nat) (e : Env) (t : Nat) : (Env.only l e).get t = if t ∈ l then e.get t else .undef := by
  induction l with
  | nil => simp [Env.only, Env.get]
  | cons u l ih =>
    simp only [Env.only, List.map_cons, Env.get, List.mem_cons]
    by_cases h : u = t
    · subst h; simp
    · rw [if_neg h]
      have := ih
      simp only [Env.only] at this
      rw [this]
      have h' : ¬ t = u := fun hh => h hh.symm
      simp only [h', false_or]


/-! ### What the checker gives -/
structure Fit (ps : List (Nat × Nat)) (B : List Nat) (is : List I) : Prop where
  dst : ∀ (i j : Nat) (x y : I) (t : Nat), i < j → is[i]? = some x → is[j]? = some y → x.dst = some t → y.dst = some t → False
  rd : ∀ (i j : Nat) (x y : I) (t : Nat), i < j → is[i]? = some x → is[j]? = some y → x.dst = some t → t ∈ y.reads → (B.getD j 0).testBit i = true
  wr : ∀ (i j : Nat) (x y : I) (t : Nat), i < j → is[i]? = some x → is[j]? = some y → y.dst = some t → t ∈ x.reads → (B.getD j 0).testBit i = true
  hp : ∀ (i j : Nat) (x y : I), i < j → is[i]? = some x → is[j]? = some y → clashK x.op.kind y.op.kind = true → (B.getD j 0).testBit i = true ∨ (x.op.kind = .l ∧ clashK y.op.kind .l = true ∧ (i, j) ∈ ps) ∨ (y.op.kind = .l ∧ clashK x.op.kind .l = true ∧ (j, i) ∈ ps)

theorem fit_of {ops : Array Oper} {is : List I} {ps : List (Nat × Nat)} (h : drwOk ops is ps = true) : Fit ps (masks ops.toList []) is ∧ edgesOk ops.toList 0 = true := by
  simp only [drwOk, Bool.and_eq_true] at h
  obtain ⟨he, h⟩ := h
  have pair : ∀ (i j : Nat) (x y : I), i < j → is[i]? = some x → is[j]? = some y → dstsOk x y = true ∧ pairOk ps i j x y (((masks ops.toList []).getD j 0).testBit i) = true := by
    intro i j x y hij hx hy
    have hj := (List.getElem?_eq_some_iff.1 hy).1
    have h1 := List.all_eq_true.1 h j (List.mem_range.2 hj)
    rw [hy] at h1
    have h2 := List.all_eq_true.1 h1 i (List.mem_range.2 hij)
    rw [hx] at h2
    simpa using h2
  refine ⟨⟨?_, ?_, ?_, ?_⟩, he⟩
  · intro i j x y t hij hx hy h1 h2
    have := (pair i j x y hij hx hy).1
    simp [dstsOk, h1, h2] at this
  · intro i j x y t hij hx hy h1 h2
    have := (pair i j x y hij hx hy).2
    simp only [pairOk, Bool.or_eq_true, Bool.and_eq_true] at this
    rcases this with h3 | h3
    · exact h3
    · have := h3.1.1.2
      simp [h1, h2] at this
  · intro i j x y t hij hx hy h1 h2
    have := (pair i j x y hij hx hy).2
    simp only [pairOk, Bool.or_eq_true, Bool.and_eq_true] at this
    rcases this with h3 | h3
    · exact h3
    · have := h3.1.2
      simp [h1, h2] at this
  · intro i j x y hij hx hy h1
    have := (pair i j x y hij hx hy).2
    simp only [pairOk, Bool.or_eq_true, Bool.and_eq_true] at this
    rcases this with h3 | h3
    · exact .inl h3
    · rcases h3.2 with (h4 | h4) | h4
      · simp [h1] at h4
      · exact .inr (.inl ⟨of_decide_eq_true h4.1.1, h4.1.2, List.contains_iff_mem.1 h4.2⟩)
      · exact .inr (.inr ⟨of_decide_eq_true h4.1.1, h4.1.2, List.contains_iff_mem.1 h4.2⟩)

def cnt (S : Nat → Bool) : Nat → Nat
  | 0 => 0
  | n + 1 => cnt S n + if S n then 0 else 1
theorem cnt_mono {S S' : Nat → Bool} (h : ∀ i, S i = true → S' i = true) : ∀ n, cnt S' n ≤ cnt S n
  | 0 => Nat.le_refl _
  | n + 1 => by
    have := cnt_mono h n
    simp only [cnt]
    cases h1 : S n
    · cases h2 : S' n <;> simp <;> omega
    · rw [h n h1]; simpa using this
theorem cnt_lt {S S' : Nat → Bool} (h : ∀ i, S i = true → S' i = true) {i : Nat} (h1 : S i = false) (h2 : S' i = true) : ∀ n, i < n → cnt S' n < cnt S n
  | 0, hn => by omega
  | n + 1, hn => by
    have hm := cnt_mono h n
    simp only [cnt]
    by_cases he : i = n
    · subst he; simp only [h1, h2, if_true, Bool.false_eq_true, if_false]; omega
    · have := cnt_lt h h1 h2 n (by omega)
      cases h3 : S n
      · cases h4 : S' n <;> simp <;> omega
      · rw [h n h3]; simpa using this
theorem cnt_zero {S : Nat → Bool} : ∀ n, cnt S n = 0 → ∀ i, i < n → S i = true
  | 0, _, i, hi => by omega
  | n + 1, h, i, hi => by
    simp only [cnt] at h
    by_cases he : i = n
    · subst he
      cases h1 : S i
      · simp [h1] at h
      · rfl
    · exact cnt_zero n (by omega) i (by omega)

section
variable {P : Program} {F : Nat → Nat} {base : Nat} {m m0 : Emb} {h h' : AH} {w w0 : World} {e e' : Env} {cf : CF} {nt : Nat} {ops : Array Oper} {Q : Exit → Act → World → Prop} {is : List I} {st : Nat → Env × AH}

theorem chk_get : ∀ {os : List Oper} {is : List I}, chkIs P F nt ops os is = true → os.length = is.length ∧ ∀ (i : Nat) (o : Oper) (x : I), os[i]? = some o → is[i]? = some x → chkI P F nt ops o x = true
  | [], [], _ => ⟨rfl, fun i o x h _ => by simp at h⟩
  | [], _ :: _, h => by simp [chkIs] at h
  | _ :: _, [], h => by simp [chkIs] at h
  | o :: os, x :: is, h => by
    simp only [chkIs, Bool.and_eq_true] at h
    obtain ⟨g1, g2⟩ := chk_get h.2
    refine ⟨by simp [g1], ?_⟩
    intro i o' x' h1 h2
    cases i with
    | zero => simp at h1 h2; subst h1; subst h2; exact h.1
    | succ i => exact g2 i o' x' (by simpa using h1) (by simpa using h2)

/-- No one writes a slot between: it is as it was. -/
theorem env_same (hst : ∀ (i : Nat) (x : I), is[i]? = some x → evI cf x (st i).1 (st i).2 = some (st (i + 1))) {t : Nat} : ∀ (d i : Nat), i + d ≤ is.length → (∀ (k : Nat) (x : I), i ≤ k → k < i + d → is[k]? = some x → x.dst ≠ some t) → (st (i + d)).1.get t = (st i).1.get t
  | 0, i, _, _ => rfl
  | d + 1, i, hl, hk => by
    have ih := env_same hst d i (by omega) (fun k x h1 h2 => hk k x h1 (by omega))
    obtain ⟨x, hx⟩ : ∃ x, is[i + d]? = some x := ⟨is[i + d]'(by omega), by simp⟩
    have := evI_env (hst (i + d) x hx) (hk (i + d) x (by omega) (by omega) hx)
    rw [← ih]; exact this
theorem heap_same (hst : ∀ (i : Nat) (x : I), is[i]? = some x → evI cf x (st i).1 (st i).2 = some (st (i + 1))) : ∀ (d i : Nat), i + d ≤ is.length → (∀ (k : Nat) (x : I), i ≤ k → k < i + d → is[k]? = some x → clashK x.op.kind .l = false ∨ x.op.kind = .l) → (st (i + d)).2 = (st i).2
  | 0, i, _, _ => rfl
  | d + 1, i, hl, hk => by
    have ih := heap_same hst d i (by omega) (fun k x h1 h2 => hk k x h1 (by omega))
    obtain ⟨x, hx⟩ : ∃ x, is[i + d]? = some x := ⟨is[i + d]'(by omega), by simp⟩
    have := evI_heap (hst (i + d) x hx) (hk (i + d) x (by omega) (by omega) hx)
    rw [← ih]; exact this

def AOp.heapy (op : AOp) : Bool := clashK op.kind .l
theorem heapy_not {op : AOp} (h : op.heapy = false) : clashK op.kind .l = false ∨ op.kind = .l := .inl h

/-- What holds when some operations have been carried out. -/
structure Inv (F : Nat → Nat) (base nt : Nat) (m0 : Emb) (w0 : World) (ds : List Deferred) (is : List I) (st : Nat → Env × AH) (ops : Array Oper) (S : Nat → Bool) (m : Emb) (a : Act) (w : World) : Prop where
  defs : a.defers = ds
  size : nt ≤ a.tmps.size
  done : ∀ (t k : Nat) (x : I), is[k]? = some x → x.dst = some t → S k = true → RelV F m ((st is.length).1.get t) (a.tmps.getD t undef)
  todo : ∀ t, (∀ (k : Nat) (x : I), is[k]? = some x → x.dst = some t → S k = false) → RelV F m ((st 0).1.get t) (a.tmps.getD t undef)
  closed : ∀ (k : Nat) (o : Oper), ops[k]? = some o → S k = true → ∀ e ∈ o.after.toList, Region.binds .any e = true → S e.on = true
  step : ∃ p, p ≤ is.length ∧ (∀ (k : Nat) (x : I), k < p → is[k]? = some x → x.op.heapy = true → S k = true) ∧ (∀ (k : Nat) (x : I), p ≤ k → is[k]? = some x → x.op.heapy = true → S k = false) ∧
    StepR F base m0 (st 0).2 w0 m (st p).2 w

theorem inv_end {ds : List Deferred} {S : Nat → Bool} {a : Act} (hst : ∀ (i : Nat) (x : I), is[i]? = some x → evI cf x (st i).1 (st i).2 = some (st (i + 1))) (hi : Inv F base nt m0 w0 ds is st ops S m a w) (hall : ∀ k, k < is.length → S k = true) :
    RelEnv F m (st is.length).1 a.tmps ∧ StepR F base m0 (st 0).2 w0 m (st is.length).2 w := by
  constructor
  · intro t
    by_cases hw : ∃ (k : Nat) (x : I), is[k]? = some x ∧ x.dst = some t
    · obtain ⟨k, x, hx, ht⟩ := hw
      exact hi.done t k x hx ht (hall k (List.getElem?_eq_some_iff.1 hx).1)
    · have hn : ∀ (k : Nat) (x : I), is[k]? = some x → x.dst ≠ some t := fun k x h1 h2 => hw ⟨k, x, h1, h2⟩
      have := env_same hst is.length 0 (by omega) (t := t) (fun k x _ _ h1 => hn k x h1)
      rw [Nat.zero_add] at this
      rw [this]
      exact hi.todo t fun k x h1 h2 => absurd h2 (hn k x h1)
  · obtain ⟨p, hp, h1, h2, h3⟩ := hi.step
    have := heap_same hst (is.length - p) p (by omega) (fun k x hk hk2 hx => by
      refine heapy_not ?_
      cases hh : x.op.heapy
      · rfl
      · have g := h2 k x hk hx hh
        rw [hall k (by omega)] at g; cases g)
    rw [show p + (is.length - p) = is.length by omega] at this
    rw [this]; exact h3

theorem reads_od {x : I} {y : Opd} (hy : y ∈ x.op.ods) {t : Nat} (ht : t ∈ y.ts) : t ∈ x.reads := by
  simp only [I.reads, List.mem_append, List.mem_flatMap]
  exact .inl ⟨y, hy, ht⟩
theorem env_only {x : I} {e : Env} : ∀ y ∈ x.op.ods, env e y = env (Env.only x.reads e) y := by
  intro y hy
  cases y with
  | c v => rfl
  | t n =>
    simp only [env, only_get]
    rw [if_pos (reads_od hy (by simp [Opd.ts]))]

theorem read_same (hst : ∀ (i : Nat) (x : I), is[i]? = some x → evI cf x (st i).1 (st i).2 = some (st (i + 1))) {op : AOp} {ρ : Opd → AV} : ∀ (d i : Nat), i + d ≤ is.length →
    (∀ (k : Nat) (x : I), i ≤ k → k < i + d → is[k]? = some x → x.op.heapy = false ∨ (evOp noCall ρ (st k).2 op).map (·.1) = (evOp noCall ρ (st (k + 1)).2 op).map (·.1)) →
    (evOp noCall ρ (st (i + d)).2 op).map (·.1) = (evOp noCall ρ (st i).2 op).map (·.1)
  | 0, i, _, _ => rfl
  | d + 1, i, hl, hk => by
    have ih := read_same hst d i (by omega) (fun k x h1 h2 => hk k x h1 (by omega))
    obtain ⟨x, hx⟩ : ∃ x, is[i + d]? = some x := ⟨is[i + d]'(by omega), by simp⟩
    rcases hk (i + d) x (by omega) (by omega) hx with h1 | h1
    · have := evI_heap (hst (i + d) x hx) (heapy_not h1)
      rw [show i + (d + 1) = i + d + 1 by omega, this]; exact ih
    · rw [show i + (d + 1) = i + d + 1 by omega, ← h1]; exact ih

theorem inv_step (hs : Sound P F cf) (hst : ∀ (i : Nat) (x : I), is[i]? = some x → evI cf x (st i).1 (st i).2 = some (st (i + 1))) {ps : List (Nat × Nat)} (hf : Fit ps (masks ops.toList []) is) (hstb : ∀ q ∈ ps, ∀ o : I, is[q.1]? = some o → q.2 < is.length → (evOp noCall (env (st q.1).1) (st q.2).2 o.op).map (·.1) = (evOp noCall (env (st q.1).1) (st (q.2 + 1)).2 o.op).map (·.1)) {ds : List Deferred} {S S' : Nat → Bool} {a : Act} (hinv : Inv F base nt m0 w0 ds is st ops S m a w)
    {i : Nat} {o : Oper} {x : I} (ho : ops[i]? = some o) (hx : is[i]? = some x) (hc : chkI P F nt ops o x = true) (hSi : S i = false) (hS' : ∀ k, S' k = true ↔ k = i ∨ S k = true) (hready : ∀ e ∈ o.after.toList, Region.binds .any e = true → S e.on = true)
    {K : Act → World → Prop} (hK : ∀ a' w' m', Inv F base nt m0 w0 ds is st ops S' m' a' w' → K a' w') : wpOp P ops Q i K a w := by
  have hlt : i < is.length := (List.getElem?_eq_some_iff.1 hx).1
  simp only [chkI, Bool.and_eq_true] at hc
  obtain ⟨⟨hd, hg⟩, hop⟩ := hc
  obtain ⟨hdd, hdlt⟩ := chkD_lt hd
  have hcl' : ∀ (k : Nat) (o' : Oper), ops.toList[k]? = some o' → S' (([] : List Nat).length + k) = true → ∀ e ∈ o'.after.toList, Region.binds .any e = true → S' e.on = true := by
    intro k o' hk hSk e he hb
    simp only [List.length_nil, Nat.zero_add] at hSk
    rw [Array.getElem?_toList] at hk
    rcases (hS' k).1 hSk with rfl | h1
    · rw [ho] at hk; cases hk
      exact (hS' _).2 (.inr (hready e he hb))
    · exact (hS' _).2 (.inr (hinv.closed k o' hk h1 e he hb))
  have fact1 : ∀ q, q < i → ((masks ops.toList []).getD i 0).testBit q = true → S q = true := by
    intro q hq hb
    have := masks_closed (S := fun k => S' k = true) ops.toList [] (fun k hk => by simp at hk) hcl' i ((hS' i).2 (.inl rfl)) q hb
    rcases (hS' q).1 this with h1 | h1
    · omega
    · exact h1
  have fact2 : ∀ q, i < q → ((masks ops.toList []).getD q 0).testBit i = true → S q = false := by
    intro q hq hb
    cases hSq : S q
    · rfl
    · have := masks_closed (S := fun k => S k = true) ops.toList [] (fun k hk => by simp at hk) (fun k o' hk hSk => by
        simp only [List.length_nil, Nat.zero_add] at hSk
        rw [Array.getElem?_toList] at hk
        exact hinv.closed k o' hk hSk) q hSq i hb
      rw [hSi] at this; cases this
  obtain ⟨p, hp, hp1, hp2, hstep⟩ := hinv.step
  have hlow : ∀ (k : Nat) (y : I), k < i → is[k]? = some y → y.op.heapy = true → x.op.kind ≠ .q → S k = true ∨ (x.op.kind = .l ∧ (i, k) ∈ ps) := by
    intro k y hk hy hh hq
    have hcl : clashK y.op.kind x.op.kind = true := by
      unfold AOp.heapy at hh
      cases h1 : y.op.kind <;> rw [h1] at hh <;> simp [clashK] at hh <;> cases h2 : x.op.kind <;> simp [clashK] <;> exact absurd h2 hq
    rcases hf.hp k i y x hk hy hx hcl with h1 | ⟨h1, _⟩ | ⟨h1, _, h2⟩
    · exact .inl (fact1 k hk h1)
    · rw [AOp.heapy, h1] at hh; simp [clashK] at hh
    · exact .inr ⟨h1, h2⟩
  have hupp : ∀ (k : Nat) (y : I), i < k → is[k]? = some y → y.op.heapy = true → x.op.kind ≠ .q → S k = false ∨ (x.op.kind = .l ∧ (i, k) ∈ ps) := by
    intro k y hk hy hh hq
    have hcl : clashK x.op.kind y.op.kind = true := by
      unfold AOp.heapy at hh
      cases h1 : y.op.kind <;> rw [h1] at hh <;> simp [clashK] at hh <;> cases h2 : x.op.kind <;> simp [clashK] <;> exact absurd h2 hq
    rcases hf.hp i k x y hk hx hy hcl with h1 | ⟨h1, _, h2⟩ | ⟨h1, _⟩
    · exact .inl (fact2 k hk h1)
    · exact .inr ⟨h1, h2⟩
    · rw [AOp.heapy, h1] at hh; simp [clashK] at hh
  have hV : x.op.kind = .q ∨ (x.op.heapy = true ∧ (st p).2 = (st i).2) ∨ (x.op.kind = .l ∧ ∀ ρ, ρ = env (st i).1 → (evOp noCall ρ (st p).2 x.op).map (·.1) = (evOp noCall ρ (st i).2 x.op).map (·.1)) := by
    by_cases hq : x.op.kind = .q
    · exact .inl hq
    by_cases hl : x.op.kind = .l
    · refine .inr (.inr ⟨hl, ?_⟩)
      rintro ρ rfl
      by_cases hpi : p ≤ i
      · have := read_same hst (op := x.op) (ρ := env (st i).1) (i - p) p (by omega) (fun k y hk hk2 hy => by
          cases hh : y.op.heapy
          · exact .inl rfl
          · refine .inr ?_
            rcases hlow k y (by omega) hy hh hq with g1 | ⟨_, g1⟩
            · rw [hp2 k y hk hy hh] at g1; cases g1
            · exact hstb _ g1 x hx (by simp only; omega))
        rw [show p + (i - p) = i by omega] at this
        exact this.symm
      · have := read_same hst (op := x.op) (ρ := env (st i).1) (p - i) i (by omega) (fun k y hk hk2 hy => by
          cases hh : y.op.heapy
          · exact .inl rfl
          · refine .inr ?_
            by_cases hki : k = i
            · subst hki; rw [hx] at hy; cases hy; rw [AOp.heapy, hl] at hh; simp [clashK] at hh
            · rcases hupp k y (by omega) hy hh hq with g1 | ⟨_, g1⟩
              · rw [hp1 k y (by omega) hy hh] at g1; cases g1
              · exact hstb _ g1 x hx (by simp only; omega))
        rw [show i + (p - i) = p by omega] at this
        exact this
    · have hhx : x.op.heapy = true := by
        unfold AOp.heapy
        cases h2 : x.op.kind <;> simp [clashK] <;> first | exact absurd h2 hq | exact absurd h2 hl
      refine .inr (.inl ⟨hhx, ?_⟩)
      by_cases hpi : p ≤ i
      · have := heap_same hst (i - p) p (by omega) (fun k y hk hk2 hy => heapy_not (by
          cases hh : y.op.heapy
          · rfl
          · rcases hlow k y (by omega) hy hh hq with g1 | ⟨g1, _⟩
            · rw [hp2 k y hk hy hh] at g1; cases g1
            · exact absurd g1 hl))
        rw [show p + (i - p) = i by omega] at this
        exact this.symm
      · have := hp1 i x (by omega) hx hhx
        rw [hSi] at this; cases this
  have hhi : x.op.heapy = true → p ≤ i ∧ (∀ (k : Nat) (y : I), k < i + 1 → is[k]? = some y → y.op.heapy = true → S' k = true) ∧ (∀ (k : Nat) (y : I), i + 1 ≤ k → is[k]? = some y → y.op.heapy = true → S' k = false) := by
    intro hh
    have hnq : x.op.kind ≠ .q := by intro h1; rw [AOp.heapy, h1] at hh; simp [clashK] at hh
    have hnl : x.op.kind ≠ .l := by intro h1; rw [AOp.heapy, h1] at hh; simp [clashK] at hh
    refine ⟨?_, ?_, ?_⟩
    · by_cases hpi : p ≤ i
      · exact hpi
      · have := hp1 i x (by omega) hx hh
        rw [hSi] at this; cases this
    · intro k y hk hy hyh
      by_cases hki : k = i
      · exact (hS' k).2 (.inl hki)
      · rcases hlow k y (by omega) hy hyh hnq with g | ⟨g, _⟩
        · exact (hS' k).2 (.inr g)
        · exact absurd g hnl
    · intro k y hk hy hyh
      rcases hupp k y (by omega) hy hyh hnq with g | ⟨g, _⟩
      · cases hSk : S' k
        · rfl
        · rcases (hS' k).1 hSk with h1 | h1
          · omega
          · rw [g] at h1; cases h1
      · exact absurd g hnl
  have hrel : RelEnv F m (Env.only x.reads (st i).1) a.tmps := by
    intro t
    rw [only_get]
    split
    case isFalse => simp only [RelV]
    rename_i ht
    by_cases hw : ∃ (k : Nat) (y : I), is[k]? = some y ∧ y.dst = some t
    · obtain ⟨k, y, hy, hyt⟩ := hw
      have uniq : ∀ (q : Nat) (z : I), is[q]? = some z → z.dst = some t → q = k := by
        intro q z hz hzt
        rcases Nat.lt_trichotomy q k with h1 | h1 | h1
        · exact absurd (hf.dst q k z y t h1 hz hy hzt hyt) id
        · exact h1
        · exact absurd (hf.dst k q y z t h1 hy hz hyt hzt) id
      have pre : ¬ k < i → S k = false → RelV F m ((st i).1.get t) (a.tmps.getD t undef) := by
        intro hki hSk
        have := env_same hst i 0 (by omega) (t := t) (fun q z h1 h2 hz hzt => by have := uniq q z hz hzt; omega)
        rw [Nat.zero_add] at this
        rw [this]
        exact hinv.todo t fun q z hz hzt => by rw [uniq q z hz hzt]; exact hSk
      rcases Nat.lt_trichotomy k i with h1 | h1 | h1
      · have hSk := fact1 k h1 (hf.rd k i y x t h1 hy hx hyt ht)
        have := env_same hst (is.length - i) i (by omega) (t := t) (fun q z g1 g2 hz hzt => by have := uniq q z hz hzt; omega)
        rw [show i + (is.length - i) = is.length by omega] at this
        rw [← this]
        exact hinv.done t k y hy hyt hSk
      · exact pre (by omega) (by rw [h1]; exact hSi)
      · exact pre (by omega) (fact2 k h1 (hf.wr i k x y t h1 hx hy hyt ht))
    · have hn : ∀ (k : Nat) (y : I), is[k]? = some y → y.dst ≠ some t := fun k y h1 h2 => hw ⟨k, y, h1, h2⟩
      have := env_same hst i 0 (by omega) (t := t) (fun q z _ _ hz => hn q z hz)
      rw [Nat.zero_add] at this
      rw [this]
      exact hinv.todo t fun q z hz hzt => absurd hzt (hn q z hz)
  have after : ∀ (v : AV) (v' : Value) (m' : Emb) (w' : World) (V' : AH), RelV F m' v v' → (st (i + 1)).1 = put (st i).1 x.dst v → StepR F base m (st p).2 w m' V' w' → (x.op.heapy = true → V' = (st (i + 1)).2) → (x.op.heapy = false → V' = (st p).2) → Inv F base nt m0 w0 ds is st ops S' m' (a.put o.dst v') w' := by
    intro v v' m' w' V' hv hput hst' h1 h2
    refine ⟨by rw [Act.put_defs]; exact hinv.defs, by rw [Act.put_size]; exact hinv.size, ?_, ?_, ?_, ?_⟩
    · intro t k y hy hyt hSk
      by_cases hki : k = i
      · subst hki
        rw [hx] at hy; cases hy
        have uniq : ∀ (q : Nat) (z : I), is[q]? = some z → z.dst = some t → q = k := by
          intro q z hz hzt
          rcases Nat.lt_trichotomy q k with h1 | h1 | h1
          · exact absurd (hf.dst q k z x t h1 hz hx hzt hyt) id
          · exact h1
          · exact absurd (hf.dst k q x z t h1 hx hz hyt hzt) id
        have := env_same hst (is.length - (k + 1)) (k + 1) (by omega) (t := t) (fun q z g1 g2 hz hzt => by have := uniq q z hz hzt; omega)
        rw [show k + 1 + (is.length - (k + 1)) = is.length by omega] at this
        rw [this, hput, hyt]
        have hod : o.dst = some t := hdd.trans hyt
        have hlt2 := hdlt t hod
        simp only [put, Env.get_set, if_true, hod, Act.put]
        rw [getD_set]
        rw [if_pos ⟨rfl, Nat.lt_of_lt_of_le hlt2 hinv.size⟩]
        exact hv
      · have hSk' := ((hS' k).1 hSk).resolve_left hki
        have hne : o.dst ≠ some t := by
          intro hod
          have hxt : x.dst = some t := hdd ▸ hod
          rcases Nat.lt_trichotomy k i with h1 | h1 | h1
          · exact hf.dst k i y x t h1 hy hx hyt hxt
          · exact hki h1
          · exact hf.dst i k x y t h1 hx hy hxt hyt
        have hsame : (a.put o.dst v').tmps.getD t undef = a.tmps.getD t undef := by
          cases hod : o.dst with
          | none => rfl
          | some u =>
            simp only [Act.put]
            rw [getD_set, if_neg]
            rintro ⟨rfl, _⟩
            exact hne hod
        rw [hsame]
        exact RelV.mono hst'.le _ _ (hinv.done t k y hy hyt hSk')
    · intro t hall
      have hne : o.dst ≠ some t := by
        intro hod
        have hxt : x.dst = some t := hdd ▸ hod
        have := hall i x hx hxt
        rw [(hS' i).2 (.inl rfl)] at this; cases this
      have hsame : (a.put o.dst v').tmps.getD t undef = a.tmps.getD t undef := by
        cases hod : o.dst with
        | none => rfl
        | some u =>
          simp only [Act.put]
          rw [getD_set, if_neg]
          rintro ⟨rfl, _⟩
          exact hne hod
      rw [hsame]
      refine RelV.mono hst'.le _ _ (hinv.todo t fun k y hy hyt => ?_)
      have := hall k y hy hyt
      cases hSk : S k
      · rfl
      · rw [(hS' k).2 (.inr hSk)] at this; cases this
    · intro k o' hk hSk e he hb
      exact hcl' k o' (by rw [Array.getElem?_toList]; exact hk) (by simpa using hSk) e he hb
    · cases hh : x.op.heapy
      · rw [h2 hh] at hst'
        refine ⟨p, hp, ?_, ?_, hstep.trans hst'⟩
        · intro k y hk hy hyh; exact (hS' k).2 (.inr (hp1 k y hk hy hyh))
        · intro k y hk hy hyh
          cases hSk : S' k
          · rfl
          · rcases (hS' k).1 hSk with g | g
            · subst g; rw [hx] at hy; cases hy; rw [hh] at hyh; cases hyh
            · rw [hp2 k y hk hy hyh] at g; cases g
      · obtain ⟨g1, g2, g3⟩ := hhi hh
        rw [h1 hh] at hst'
        exact ⟨i + 1, by omega, g2, g3, hstep.trans hst'⟩
  have hevi := hst i x hx
  have run : (evOp cf (env (st i).1) (st i).2 x.op).map (fun (v, h') => (put (st i).1 x.dst v, h')) = some (st (i + 1)) → Region.wanted o (yielded ops a.tmps) = true → wpOp P ops Q i K a w := by
    intro hev hw
    simp only [Option.map_eq_some_iff] at hev
    obtain ⟨⟨v, h2⟩, hv, hst2⟩ := hev
    have hput : (st (i + 1)).1 = put (st i).1 x.dst v := by rw [← hst2]
    have hh2 : (st (i + 1)).2 = h2 := by rw [← hst2]
    have hev' : ∃ V', evOp cf (env (Env.only x.reads (st i).1)) (st p).2 x.op = some (v, V') ∧ (x.op.heapy = true → V' = (st (i + 1)).2) ∧ (x.op.heapy = false → V' = (st p).2) := by
      rw [evOp_congr (env_only (x := x))] at hv
      rcases hV with hq | ⟨hhx, hV⟩ | ⟨hl, hV⟩
      · refine ⟨(st p).2, evOp_q hq hv _, ?_, fun _ => rfl⟩
        intro hh; simp [AOp.heapy, hq, clashK] at hh
      · rw [hV]
        refine ⟨h2, hv, fun _ => hh2.symm, ?_⟩
        intro hh; rw [hhx] at hh; cases hh
      · have hcall : x.op.isCall = false := by
          cases hxo : x.op <;> rw [hxo] at hl <;> simp [AOp.kind] at hl <;> rfl
        have h3 := hV (env (st i).1) rfl
        rw [evOp_congr (env_only (x := x)), evOp_congr (ρ := env (st i).1) (env_only (x := x)), evOp_any hcall noCall cf, evOp_any hcall noCall cf, hv] at h3
        simp only [Option.map_some, Option.map_eq_some_iff] at h3
        obtain ⟨⟨u, V'⟩, hu, rfl⟩ := h3
        have := evOp_l_same hl hu
        subst this
        refine ⟨_, hu, ?_, fun _ => rfl⟩
        intro hh; rw [AOp.heapy, hl] at hh; simp [clashK] at hh
    obtain ⟨V', hev2, k1, k2⟩ := hev'
    unfold wpOp
    simp only [ho, hw, if_true]
    refine .inl (Oper.wp_mono ?_ (op_sound hs hstep.rel hrel hop hev2 Q))
    rintro a2 w2 ⟨v2, m2, rfl, hv2, hst3⟩
    exact hK _ w2 m2 (after v v2 m2 w2 V' hv2 hput hst3 k1 k2)
  unfold evI at hevi
  split at hevi
  · rename_i hgn
    exact run hevi (i_free hg hgn)
  · rename_i t want hgs
    split at hevi
    · rename_i b hb
      have hb' : (Env.only x.reads (st i).1).get t = .bool b := by
        rw [only_get, if_pos (by simp [I.reads, hgs])]; exact hb
      have hw := i_wanted hg hrel hgs hb'
      split at hevi
      · rename_i hbw
        exact run hevi (by rw [hw]; simpa using hbw)
      · rename_i hbw
        simp only [Option.some.injEq] at hevi
        have hw' : Region.wanted o (yielded ops a.tmps) = false := by rw [hw]; simpa using hbw
        unfold wpOp
        simp only [ho, hw', Bool.false_eq_true, if_false]
        have hheap : (st (i + 1)).2 = (st i).2 := by rw [← hevi]
        refine hK _ w m (after (.tup []) undef m w (st p).2 rel_skp (by rw [← hevi]) (StepR.refl hstep.rel) ?_ (fun _ => rfl))
        intro hh
        rcases hV with hq | ⟨_, hV⟩ | ⟨hl, _⟩
        · simp [AOp.heapy, hq, clashK] at hh
        · rw [hV, hheap]
        · rw [AOp.heapy, hl] at hh; simp [clashK] at hh
    · rename_i hb
      have hb' : (Env.only x.reads (st i).1).get t = .tup [] := by
        rw [only_get, if_pos (by simp [I.reads, hgs])]; exact hb
      simp only [Option.some.injEq] at hevi
      have hw' : Region.wanted o (yielded ops a.tmps) = false := i_skp hg hrel hgs hb'
      unfold wpOp
      simp only [ho, hw', Bool.false_eq_true, if_false]
      have hheap : (st (i + 1)).2 = (st i).2 := by rw [← hevi]
      refine hK _ w m (after (.tup []) undef m w (st p).2 rel_skp (by rw [← hevi]) (StepR.refl hstep.rel) ?_ (fun _ => rfl))
      intro hh
      rcases hV with hq | ⟨_, hV⟩ | ⟨hl, _⟩
      · simp [AOp.heapy, hq, clashK] at hh
      · rw [hV, hheap]
      · rw [AOp.heapy, hl] at hh; simp [clashK] at hh
    · cases hevi

theorem drw_sound (hs : Sound P F cf) (hm : P.follows .mixedOrders = true) {ps : List (Nat × Nat)} {id : Nat} {a : Act} (hc : chkIs P F nt ops ops.toList is = true) (hd : drwOk ops is ps = true) (hev : evDraw cf is ps e h = some (e', h'))
    (hr : RelH F base m h w) (he : RelEnv F m e a.tmps) (hn : nt ≤ a.tmps.size)
    (hQ : ∀ a' w' m', a'.defers = a.defers → nt ≤ a'.tmps.size → RelEnv F m' e' a'.tmps → StepR F base m h w m' h' w' → Q .normal a' w') : (Code.region id ops true).wp P Q a w := by
  have hev : evR cf is e h = some (e', h') ∧ ∀ q ∈ ps, Stable cf is e h q.1 q.2 := by
    unfold evDraw at hev
    split at hev
    · rename_i hh; exact ⟨hev, hh⟩
    · cases hev
  obtain ⟨hev, hstable⟩ := hev
  obtain ⟨hf, hed⟩ := fit_of hd
  obtain ⟨hlen, hchk⟩ := chk_get hc
  obtain ⟨st, s0, sn, hst⟩ := states is e h e' h' hev
  have hstate : ∀ i, i ≤ is.length → stateAt cf is i e h = some (st i) := by
    intro i
    induction i with
    | zero => intro _; simp [stateAt, evR, s0]
    | succ i ih =>
      intro hi
      have h1 := ih (by omega)
      obtain ⟨x, hx⟩ : ∃ x, is[i]? = some x := ⟨is[i]'(by omega), by simp⟩
      have app : ∀ (l : List I) (e : Env) (h : AH) (s : Env × AH), evR cf l e h = some s → evR cf (l ++ [x]) e h = evI cf x s.1 s.2 := by
        intro l
        induction l with
        | nil =>
          intro e h s hs
          simp only [evR, Option.some.injEq] at hs
          subst hs
          simp only [List.nil_append, evR]
          cases evI cf x e h with
          | none => rfl
          | some y => rfl
        | cons y l ih =>
          intro e h s hs
          simp only [List.cons_append, evR] at hs ⊢
          split at hs
          · rename_i e1 h1 h2; exact ih _ _ _ hs
          · cases hs
      unfold stateAt at h1 ⊢
      rw [List.take_add_one, hx]
      simp only [Option.toList_some]
      rw [app _ _ _ _ h1, hst i x hx]
  have hstb : ∀ q ∈ ps, ∀ o : I, is[q.1]? = some o → q.2 < is.length → (evOp noCall (env (st q.1).1) (st q.2).2 o.op).map (·.1) = (evOp noCall (env (st q.1).1) (st (q.2 + 1)).2 o.op).map (·.1) := by
    intro q hq o ho hlt
    have hlt1 := (List.getElem?_eq_some_iff.1 ho).1
    exact hstable q hq o _ _ _ _ _ _ ho (hstate q.1 (by omega)) (hstate q.2 (by omega)) (hstate (q.2 + 1) (by omega))
  refine wp_region_any hm ?_
  have hdraw : StepR F base m h w m h { w with drawn := w.drawn + 1 } := StepR.draw hr rfl rfl rfl rfl
  have main : ∀ (fuel : Nat) (listed : Array Bool) (a1 : Act) (m1 : Emb) (w1 : World), listed.size = ops.size → cnt (fun k => listed.getD k false) ops.size ≤ fuel → Inv F base nt m w a.defers is st ops (fun k => listed.getD k false) m1 a1 w1 → wpAny P .any ops Q fuel listed a1 w1 := by
    have fin : ∀ (listed : Array Bool) (a1 : Act) (m1 : Emb) (w1 : World), Inv F base nt m w a.defers is st ops (fun k => listed.getD k false) m1 a1 w1 → (∀ k, k < is.length → listed.getD k false = true) → Q .normal a1 w1 := by
      intro listed a1 m1 w1 hinv hall
      obtain ⟨g1, g2⟩ := inv_end hst hinv hall
      rw [sn] at g1 g2
      rw [s0] at g2
      exact hQ a1 w1 m1 hinv.defs hinv.size g1 g2
    have allOf : ∀ listed : Array Bool, listed.size = ops.size → Region.ready .any ops listed = [] → ∀ k, k < ops.size → listed.getD k false = true := by
      intro listed hsz hrd k
      induction k using Nat.strongRecOn with
      | ind k ih =>
        intro hk
        cases hl : listed.getD k false with
        | true => rfl
        | false =>
          have : k ∈ Region.ready .any ops listed := by
            rw [mem_ready]
            refine ⟨?_, ops[k], by simp, ?_⟩
            · rw [Array.getD_eq_getD_getElem?] at hl ⊢
              rw [Array.getElem?_eq_getElem (by omega)] at hl ⊢
              simpa using hl
            · intro ed hed' hb
              have := edges_get ops.toList 0 k ops[k] hed (by simp) ed (by simpa using hed') hb
              exact ih ed.on (by omega) (by omega)
          rw [hrd] at this
          cases this
    intro fuel
    induction fuel with
    | zero =>
      intro listed a1 m1 w1 hsz hcnt hinv
      have hall := cnt_zero (S := fun k => listed.getD k false) ops.size (by omega)
      refine ⟨?_, fin listed a1 m1 w1 hinv (fun k hk => hall k (by simp at hlen; omega))⟩
      cases hrd : Region.ready .any ops listed with
      | nil => rfl
      | cons k l =>
        have hk : k ∈ Region.ready .any ops listed := by rw [hrd]; simp
        rw [mem_ready] at hk
        obtain ⟨h1, o, ho, _⟩ := hk
        have hlt := (Array.getElem?_eq_some_iff.1 ho).1
        have h2 := hall k hlt
        rw [Array.getD_eq_getD_getElem?, Array.getElem?_eq_getElem (by omega)] at h1 h2
        simp at h1 h2
        rw [h1] at h2; cases h2
    | succ fuel ih =>
      intro listed a1 m1 w1 hsz hcnt hinv
      refine ⟨fun hrd => fin listed a1 m1 w1 hinv (fun k hk => allOf listed hsz hrd k (by simp at hlen; omega)), ?_⟩
      intro i hi
      rw [mem_ready] at hi
      obtain ⟨h1, o, ho, hedge⟩ := hi
      have hlt := (Array.getElem?_eq_some_iff.1 ho).1
      have hlt2 : i < is.length := by simp at hlen; omega
      have hSi : listed.getD i false = false := by
        rw [Array.getD_eq_getD_getElem?, Array.getElem?_eq_getElem (by omega)] at h1 ⊢
        simpa using h1
      have hS' : ∀ k, (listed.setIfInBounds i true).getD k false = true ↔ k = i ∨ listed.getD k false = true := by
        intro k
        simp only [Array.getD_eq_getD_getElem?, Array.getElem?_setIfInBounds]
        by_cases hik : i = k
        · subst hik
          simp [show i < listed.size by omega]
        · rw [if_neg hik]
          constructor
          · intro hh; exact .inr hh
          · rintro (hh | hh)
            · exact absurd hh.symm hik
            · exact hh
      refine inv_step hs hst hf hstb hinv (S' := fun k => (listed.setIfInBounds i true).getD k false) ho (x := is[i]) (by simp) (hchk i o is[i] (by rw [Array.getElem?_toList]; exact ho) (by simp)) hSi hS' (fun ed hed' hb => hedge ed (by simpa using hed') hb) ?_
      intro a' w' m' hinv'
      refine ih _ a' m' w' (by simp [hsz]) ?_ hinv'
      have := cnt_lt (S := fun k => listed.getD k false) (S' := fun k => (listed.setIfInBounds i true).getD k false) (fun k hk => (hS' k).2 (.inr hk)) hSi ((hS' i).2 (.inl rfl)) ops.size hlt
      omega
  refine main ops.size _ a m _ (by simp) ?_ ?_
  · have : ∀ (S : Nat → Bool) n, cnt S n ≤ n := by
      intro S n
      induction n with
      | zero => exact Nat.le_refl _
      | succ n ih => simp only [cnt]; split <;> omega
    exact this _ _
  · have hno : ∀ k, (Array.replicate ops.size false).getD k false = false := by
      intro k
      rw [Array.getD_eq_getD_getElem?, Array.getElem?_replicate]
      split <;> rfl
    refine ⟨rfl, hn, ?_, ?_, ?_, ?_⟩
    · intro t k x hx hxt hS; rw [hno] at hS; cases hS
    · intro t _; rw [s0]; exact he t
    · intro k o ho hS; rw [hno] at hS; cases hS
    · refine ⟨0, Nat.zero_le _, fun k x hk => by omega, fun k x _ _ _ => hno k, ?_⟩
      rw [s0]; exact hdraw
end
end Go.Proofs.YtgdlaopjabjkbaaDoor.Ab

/- CODE AND CALLS: what the evaluator says, the program does. -/
namespace Go.Proofs.YtgdlaopjabjkbaaDoor.Ab
open Go Go.RowKit

section
variable (P : Program) (F : Nat → Nat)

def chkC (nt : Nat) : C → Code → Bool
  | .kl _ c, d => chkC nt c d
  | .skip, .skip => true
  | .reg is, .region _ ops false => chkIs P F nt ops ops.toList is
  | .drw is ps, .region _ ops true => P.follows .mixedOrders && chkIs P F nt ops ops.toList is && drwOk ops is ps
  | .seq a b, .seq x y => chkC nt a x && chkC nt b y
  | .cond c a b, .cond y x z => chkO F y c && chkC nt a x && chkC nt b z
  | .blk i c, .block j d => decide (i = j) && chkC nt c d
  | .loop c, .loop d => chkC nt c d
  | .exit i, .exit j => decide (i = j)
  | .ret, .ret => true
  | .bad, _ => true
  | _, _ => false

def chkRes : List ResultVar → List Res → Bool
  | [], [] => true
  | .tmp t :: rs, .tmp t' :: qs => decide (t = t') && chkRes rs qs
  | .cell a t :: rs, .cell agg n a' :: qs => decide (a = a') && shp P t agg n && chkRes rs qs
  | _, _ => false

def chkF (f : Nat) (fi : FI) : Bool := match P.funcs[F f]? with
  | some fn => match fn.body with
    | some c => !(fn.name == "runtime.NumGoroutine") && chkC P F fn.ntmps fi.body c && chkRes P fn.results.toList fi.res
    | none => false
  | none => false
end

def X.exit' : X → Exit
  | .normal => .normal
  | .exit i => .exit i
  | .ret => .ret

section
variable {P : Program} {F : Nat → Nat} {base : Nat} {cf : CF} {nt : Nat}

/-- What a piece of code leaves behind. -/
def Post (P : Program) (F : Nat → Nat) (base nt : Nat) (m : Emb) (h : AH) (w : World) (ds : List Deferred) (x : X) (e' : Env) (h' : AH) : Exit → Act → World → Prop :=
  fun ee a' w' => ee = x.exit' ∧ a'.defers = ds ∧ nt ≤ a'.tmps.size ∧ ∃ m', RelEnv F m' e' a'.tmps ∧ StepR F base m h w m' h' w'

theorem Post.trans {m m1 : Emb} {h h1 h' : AH} {w w1 : World} {ds : List Deferred} {x : X} {e' : Env} {ee : Exit} {a' : Act} {w' : World} (hs : StepR F base m h w m1 h1 w1) (hp : Post P F base nt m1 h1 w1 ds x e' h' ee a' w') : Post P F base nt m h w ds x e' h' ee a' w' := by
  obtain ⟨h1, h2, h3, m', h4, h5⟩ := hp
  exact ⟨h1, h2, h3, m', h4, hs.trans h5⟩

theorem code_sound (hs : Sound P F cf) (n : Nat) : ∀ (c : C) (d : Code) (a : Act) (m : Emb) (e : Env) (h : AH) (w : World) (x : X) (e' : Env) (h' : AH), chkC P F nt c d = true → evC cf n c e h = some (x, e', h') →
    RelH F base m h w → RelEnv F m e a.tmps → nt ≤ a.tmps.size → d.wp P (Post P F base nt m h w a.defers x e' h') a w := by
  intro c
  induction c with
  | skip =>
    intro d a m e h w x e' h' hc hev hr he hn
    cases d <;> simp [chkC] at hc
    simp only [evC, Option.some.injEq, Prod.mk.injEq] at hev
    obtain ⟨rfl, rfl, rfl⟩ := hev
    exact wp_skip ⟨rfl, rfl, hn, m, he, StepR.refl hr⟩
  | reg is =>
    intro d a m e h w x e' h' hc hev hr he hn
    cases d <;> try (simp [chkC] at hc; done)
    rename_i id ops draw
    cases draw <;> try (simp [chkC] at hc; done)
    simp only [chkC] at hc
    simp only [evC, Option.map_eq_some_iff, Prod.mk.injEq] at hev
    obtain ⟨⟨e1, h1⟩, hev, rfl, rfl, rfl⟩ := hev
    exact reg_sound hs hc hev hr he hn fun a' w' m' k1 k2 k3 k4 => ⟨rfl, k1, k2, m', k3, k4⟩
  | drw is ps =>
    intro d a m e h w x e' h' hc hev hr he hn
    cases d <;> try (simp [chkC] at hc; done)
    rename_i id ops draw
    cases draw <;> try (simp [chkC] at hc; done)
    simp only [chkC] at hc
    simp only [Bool.and_eq_true] at hc
    simp only [evC, Option.map_eq_some_iff, Prod.mk.injEq] at hev
    obtain ⟨⟨e1, h1⟩, hev, rfl, rfl, rfl⟩ := hev
    exact drw_sound hs hc.1.1 hc.1.2 hc.2 hev hr he hn fun a' w' m' k1 k2 k3 k4 => ⟨rfl, k1, k2, m', k3, k4⟩
  | kl ts c ih =>
    intro d a m e h w x e' h' hc hev hr he hn
    simp only [chkC] at hc
    simp only [evC] at hev
    exact ih d a m _ h w x e' h' hc hev hr (he.dels ts) hn
  | seq c1 c2 ih1 ih2 =>
    intro d a m e h w x e' h' hc hev hr he hn
    cases d <;> simp only [chkC] at hc <;> try (cases hc; done)
    simp only [Bool.and_eq_true] at hc
    simp only [evC] at hev
    refine wp_seq ?_
    split at hev
    · rename_i e1 h1 hev1
      refine wp_mono (ih1 _ a m e h w _ e1 h1 hc.1 hev1 hr he hn) ?_
      rintro ee a1 w1 ⟨rfl, k1, k2, m1, k3, k4⟩
      have := ih2 _ a1 m1 e1 h1 w1 x e' h' hc.2 hev k4.rel k3 k2
      rw [k1] at this
      exact wp_mono this fun ee a2 w2 hp => Post.trans k4 hp
    · rename_i hne
      refine wp_mono (ih1 _ a m e h w _ e' h' hc.1 hev hr he hn) ?_
      rintro ee a1 w1 ⟨rfl, k1, k2, m1, k3, k4⟩
      cases x with
      | normal => exact absurd hev (hne _ _)
      | exit i => exact ⟨rfl, k1, k2, m1, k3, k4⟩
      | ret => exact ⟨rfl, k1, k2, m1, k3, k4⟩
  | cond y c1 c2 ih1 ih2 =>
    intro d a m e h w x e' h' hc hev hr he hn
    cases d <;> simp only [chkC] at hc <;> try (cases hc; done)
    simp only [Bool.and_eq_true] at hc
    simp only [evC] at hev
    split at hev
    · rename_i t ht
      have hv := chkO_rel he hc.1.1
      rw [ht] at hv
      refine wp_cond (rel_bool hv) ?_
      cases t
      · exact ih2 _ a m e h w x e' h' hc.2 hev hr he hn
      · exact ih1 _ a m e h w x e' h' hc.1.2 hev hr he hn
    · cases hev
  | blk id c ih =>
    intro d a m e h w x e' h' hc hev hr he hn
    cases d <;> simp only [chkC] at hc <;> try (cases hc; done)
    rename_i id2 d2
    simp only [Bool.and_eq_true, decide_eq_true_eq] at hc
    obtain ⟨rfl, hc⟩ := hc
    simp only [evC] at hev
    refine wp_block ?_
    split at hev
    · rename_i id' e1 h1 hev1
      refine wp_mono (ih _ a m e h w _ e1 h1 hc hev1 hr he hn) ?_
      rintro ee a1 w1 ⟨rfl, k1, k2, m1, k3, k4⟩
      simp only [X.exit', Exit.inBlock]
      split at hev
      · rename_i hid
        rw [if_pos hid]
        simp only [Option.some.injEq, Prod.mk.injEq] at hev
        obtain ⟨rfl, rfl, rfl⟩ := hev
        exact ⟨rfl, k1, k2, m1, k3, k4⟩
      · rename_i hid
        rw [if_neg hid]
        simp only [Option.some.injEq, Prod.mk.injEq] at hev
        obtain ⟨rfl, rfl, rfl⟩ := hev
        exact ⟨rfl, k1, k2, m1, k3, k4⟩
    · rename_i hne
      refine wp_mono (ih _ a m e h w _ e' h' hc hev hr he hn) ?_
      rintro ee a1 w1 ⟨rfl, k1, k2, m1, k3, k4⟩
      cases x with
      | normal => exact ⟨rfl, k1, k2, m1, k3, k4⟩
      | exit i => exact absurd hev (hne _ _ _)
      | ret => exact ⟨rfl, k1, k2, m1, k3, k4⟩
  | loop c ih =>
    intro d a m e h w x e' h' hc hev hr he hn
    cases d <;> simp only [chkC] at hc <;> try (cases hc; done)
    rename_i d2
    simp only [evC] at hev
    have key : ∀ (k : Nat) (a : Act) (m : Emb) (e : Env) (h : AH) (w : World), evLoop (evC cf n c) k e h = some (x, e', h') → RelH F base m h w → RelEnv F m e a.tmps → nt ≤ a.tmps.size →
        Code.rounds P d2 (Post P F base nt m h w a.defers x e' h') k a w := by
      intro k
      induction k with
      | zero => intro a m e h w hev; simp [evLoop] at hev
      | succ k ihk =>
        intro a m e h w hev hr he hn
        rw [rounds_succ]
        simp only [evLoop] at hev
        split at hev
        · rename_i e1 h1 hev1
          refine wp_mono (ih _ a m e h w _ e1 h1 hc hev1 hr he hn) ?_
          rintro ee a1 w1 ⟨rfl, k1, k2, m1, k3, k4⟩
          have := ihk a1 m1 e1 h1 w1 hev k4.rel k3 k2
          rw [k1] at this
          simp only [X.exit', Exit.then]
          have mono : ∀ (k : Nat) (Q Q' : Exit → Act → World → Prop), (∀ ee a w, Q ee a w → Q' ee a w) → ∀ a w, Code.rounds P d2 Q k a w → Code.rounds P d2 Q' k a w := by
            intro k Q Q' hq
            induction k with
            | zero => intro a w hh; exact hh
            | succ k ih =>
              intro a w hh
              rw [rounds_succ] at hh ⊢
              refine wp_mono hh ?_
              intro ee a w hx
              cases ee <;> first | exact ih _ _ hx | exact hq _ _ _ hx
          exact mono _ _ _ (fun ee a2 w2 hp => Post.trans k4 hp) _ _ this
        · rename_i hne
          refine wp_mono (ih _ a m e h w _ e' h' hc hev hr he hn) ?_
          rintro ee a1 w1 ⟨rfl, k1, k2, m1, k3, k4⟩
          cases x with
          | normal => exact absurd hev (hne _ _)
          | exit i => exact ⟨rfl, k1, k2, m1, k3, k4⟩
          | ret => exact ⟨rfl, k1, k2, m1, k3, k4⟩
    exact wp_loop_rounds n (key n a m e h w hev hr he hn)
  | exit i =>
    intro d a m e h w x e' h' hc hev hr he hn
    cases d <;> simp [chkC] at hc
    subst hc
    simp only [evC, Option.some.injEq, Prod.mk.injEq] at hev
    obtain ⟨rfl, rfl, rfl⟩ := hev
    exact wp_exit ⟨rfl, rfl, hn, m, he, StepR.refl hr⟩
  | ret =>
    intro d a m e h w x e' h' hc hev hr he hn
    cases d <;> simp [chkC] at hc
    simp only [evC, Option.some.injEq, Prod.mk.injEq] at hev
    obtain ⟨rfl, rfl, rfl⟩ := hev
    exact wp_ret ⟨rfl, rfl, hn, m, he, StepR.refl hr⟩
  | bad =>
    intro d a m e h w x e' h' hc hev hr he hn
    simp [evC] at hev

def oneRes (tmps : Array Value) : ResultVar → Sem Value
  | .tmp t => pure (tmps.getD t undef)
  | .cell a t => do loadVar t (← asAddr (tmps.getD a undef))
theorem results_eq (fn : Func) (tmps : Array Value) : results fn tmps = (do
    let vs ← fn.results.mapM (oneRes tmps)
    pure (if h : vs.size = 1 then vs[0] else .tuple vs)) := rfl

theorem res_run : ∀ (rs : List ResultVar) (qs : List Res) {e : Env} {h : AH} {w : World} {m : Emb} {tmps : Array Value} {vs : List AV}, chkRes P rs qs = true → RelH F base m h w → RelEnv F m e tmps → resL e h qs = some vs →
    ∃ us : List Value, (rs.mapM (oneRes tmps)).run P w = .ok us w ∧ RelL F m vs us
  | [], [], e, h, w, m, tmps, vs, hc, hr, he, hv => by
    simp only [resL, Option.some.injEq] at hv
    subst hv
    exact ⟨[], by simp, by simp [RelL]⟩
  | [], _ :: _, e, h, w, m, tmps, vs, hc, hr, he, hv => by simp [chkRes] at hc
  | .tmp _ :: _, [], e, h, w, m, tmps, vs, hc, hr, he, hv => by simp [chkRes] at hc
  | .cell _ _ :: _, [], e, h, w, m, tmps, vs, hc, hr, he, hv => by simp [chkRes] at hc
  | .tmp _ :: _, .cell .. :: _, e, h, w, m, tmps, vs, hc, hr, he, hv => by simp [chkRes] at hc
  | .cell _ _ :: _, .tmp _ :: _, e, h, w, m, tmps, vs, hc, hr, he, hv => by simp [chkRes] at hc
  | .tmp t :: rs, .tmp t' :: qs, e, h, w, m, tmps, vs, hc, hr, he, hv => by
    simp only [chkRes, Bool.and_eq_true, decide_eq_true_eq] at hc
    obtain ⟨rfl, hc⟩ := hc
    simp only [resL, res1] at hv
    split at hv
    · rename_i v vs' h1 h2
      cases hv
      cases h1
      obtain ⟨us, hu, hrel⟩ := res_run rs qs hc hr he h2
      refine ⟨tmps.getD t undef :: us, ?_, ?_⟩
      · simp only [List.mapM_cons, oneRes, Sem.run_bind, Sem.run_pure, Result.andThen, hu]
      · simp only [RelL]; exact ⟨_, _, rfl, he t, hrel⟩
    · cases hv
  | .cell t ty :: rs, .cell agg n t' :: qs, e, h, w, m, tmps, vs, hc, hr, he, hv => by
    simp only [chkRes, Bool.and_eq_true, decide_eq_true_eq] at hc
    obtain ⟨⟨rfl, hsh⟩, hc⟩ := hc
    simp only [resL] at hv
    split at hv
    · rename_i v vs' h1 h2
      cases hv
      obtain ⟨us, hu, hrel⟩ := res_run rs qs hc hr he h2
      simp only [res1] at h1
      split at h1
      case h_2 => cases h1
      rename_i c k off mm hk
      have hx := he t
      rw [hk] at hx
      obtain ⟨p, hp, hv2, hlo, hext⟩ := rel_ptr hx
      split at h1
      case isFalse => cases h1
      rename_i hle
      split at h1
      case h_2 => cases h1
      rename_i cs hcs
      obtain ⟨ls, hls, hlen, hrun⟩ := hr.loads (P := P) hcs hp hlo (by omega)
      have hsh' := hsh
      simp only [shp, Bool.and_eq_true, Bool.or_eq_true] at hsh'
      obtain ⟨⟨g1, g2⟩, g3⟩ := hsh'
      have hlv : ∃ u, (loadVar ty ⟨p.blk, p.base + (off - p.lo), none⟩).run P w = .ok u w ∧ RelV F m v u := by
        rcases mkv_rel h1 hls with ⟨rfl, hrv⟩ | ⟨rfl, u, rfl, hrv⟩
        · exact ⟨_, by simp [loadVar, run_isAg g1, run_sz g2, hrun], hrv⟩
        · have hn : n = 1 := by simpa using g3
          subst hn
          have hrun' := hrun
          have hcell : w.cell? ⟨p.blk, p.base + (off - p.lo), none⟩ = some u := by
            obtain ⟨us', hus', hlen', hc'⟩ := hr.row_at hcs hp hlo (by omega)
            simp only [loadCells, loadCellsFrom, Sem.run_bind, addr_add, Nat.add_zero, run_load] at hrun'
            cases hcc : w.cell? ⟨p.blk, p.base + (off - p.lo), none⟩ with
            | some q => rw [hcc] at hrun'; simp at hrun'; rw [hrun']
            | none =>
              obtain ⟨q, hq⟩ : ∃ q, us'[0]? = some q := ⟨us'[0], by simp⟩
              have := hc' 0 q hq
              rw [Nat.add_zero, hcc] at this; cases this
          exact ⟨u, by simp [loadVar, run_isAg g1, hcell], hrv⟩
      obtain ⟨u, hlu, hru⟩ := hlv
      refine ⟨u :: us, ?_, ?_⟩
      · simp only [List.mapM_cons, oneRes, Sem.run_bind, hv2, asAddr, Sem.run_pure, Result.andThen, hlu, hu]
      · simp only [RelL]; exact ⟨_, _, rfl, hru, hrel⟩
    · cases hv

theorem results_run {fn : Func} {qs : List Res} {e : Env} {h : AH} {w : World} {m : Emb} {tmps : Array Value} {r : AV} (hc : chkRes P fn.results.toList qs = true) (hr : RelH F base m h w) (he : RelEnv F m e tmps) (hv : resV e h qs = some r) :
    ∃ v, (results fn tmps).run P w = .ok v w ∧ RelV F m r v := by
  unfold resV at hv
  have key : ∀ vs, resL e h qs = some vs → ∃ us : List Value, RelL F m vs us ∧ (results fn tmps).run P w = .ok (if h : us.toArray.size = 1 then us.toArray[0] else .tuple us.toArray) w := by
    intro vs hvs
    obtain ⟨us, h1, h2⟩ := res_run fn.results.toList qs hc hr he hvs
    refine ⟨us, h2, ?_⟩
    rw [results_eq, Array.mapM_eq_mapM_toList]
    simp only [Sem.run_bind, Sem.run_map, h1, Result.andThen, Sem.run_pure]
  split at hv
  · rename_i v hvs
    cases hv
    obtain ⟨us, h1, h2⟩ := key _ hvs
    simp only [RelL] at h1
    obtain ⟨u, l, rfl, hu, rfl⟩ := h1
    exact ⟨u, by rw [h2]; simp, hu⟩
  · rename_i vs hne hvs
    cases hv
    obtain ⟨us, h1, h2⟩ := key _ hvs
    refine ⟨.tuple us.toArray, ?_, by simp only [RelV]; exact ⟨_, rfl, by simpa using h1⟩⟩
    have hl := h1.length
    have hne1 : us.length ≠ 1 := by
      intro h0
      rw [h0] at hl
      match vs, hl with
      | [v], _ => exact hne v rfl
    rw [h2]
    simp [hne1]
  · cases hv

/-- What a contract of a function outside the table owes. -/
def ExtOk (P : Program) (F : Nat → Nat) (E : Ext) : Prop := ∀ f G, E f = some G → ∀ cf, Sound P F cf → ∀ xs h r h', G cf xs h = some (r, h') → fnOk P (F f) = true ∧ ∀ base m w args, RelH F base m h w → RelL F m xs args.toList →
    Calls P (F f) args w fun e w' => ∃ v m', e = .returned v ∧ RelV F m' r v ∧ StepR F base m h w m' h' w'

theorem sound {T : Nat → Option FI} {E : Ext} (hT : ∀ f fi, E f = none → T f = some fi → chkF P F f fi = true) (hE : ExtOk P F E) : ∀ n, Sound P F (evF T E n)
  | 0 => by intro f xs h r h' hev; simp [evF] at hev
  | n + 1 => by
    intro f xs h r h' hev
    simp only [evF] at hev
    split at hev
    · rename_i G hG
      exact hE f G hG _ (sound hT hE n) xs h r h' hev
    · rename_i hG
      split at hev
      case h_2 => cases hev
      rename_i fi hfi
      have hc := hT f fi hG hfi
      unfold chkF at hc
      split at hc
      case h_2 => cases hc
      rename_i fn hfn
      split at hc
      case h_2 => cases hc
      rename_i c hbody
      simp only [Bool.and_eq_true, Bool.not_eq_true'] at hc
      obtain ⟨⟨h1, h2⟩, h3⟩ := hc
      refine ⟨by simp [fnOk, hfn, hbody]; simpa using h1, ?_⟩
      intro base m w args hr hx
      refine calls_of_wp hfn hbody ?_
      have hlen := hx.length
      have he : RelEnv F m (Env.init 0 xs) (args ++ Array.replicate (fn.ntmps - args.size) undef) := by
        intro t
        rw [init_get]
        split
        · rename_i ht
          have hlt : t < xs.length := by omega
          obtain ⟨v, hv, hxv⟩ := hx.get t xs[t] (by simp)
          have h0 : xs.getD (t - 0) .undef = xs[t] := by simp [List.getD_eq_getElem?_getD, hlt]
          rw [h0]
          rw [Array.getElem?_toList] at hv
          have : (args ++ Array.replicate (fn.ntmps - args.size) undef).getD t undef = v := by
            rw [Array.getD_eq_getD_getElem?, Array.getElem?_append_left (by simp at hlen; omega), hv]; rfl
          rw [this]; exact hxv
        · simp only [RelV]
      have hn : fn.ntmps ≤ (args ++ Array.replicate (fn.ntmps - args.size) undef).size := by simp; omega
      have main : ∀ x e' h1', evC (evF T E n) n fi.body (Env.init 0 xs) h = some (x, e', h1') → (x = .normal ∨ x = .ret) → (resV e' h1' fi.res).map (·, h1') = some (r, h') →
          c.wp P (bodyPost P fn fun ee w' => ∃ v m', ee = .returned v ∧ RelV F m' r v ∧ StepR F base m h w m' h' w') { tmps := args ++ Array.replicate (fn.ntmps - args.size) undef, defers := [] } w := by
        intro x e' h1' hev hx' hres
        refine wp_mono (code_sound (sound hT hE n) n fi.body c _ m _ h w x e' h1' h2 hev hr he hn) ?_
        rintro ee a' w' ⟨rfl, k1, k2, m', k3, k4⟩
        simp only [Option.map_eq_some_iff, Prod.mk.injEq] at hres
        obtain ⟨r', hres, rfl, rfl⟩ := hres
        obtain ⟨v, hv, hrv⟩ := results_run h3 k4.rel k3 hres
        rcases hx' with rfl | rfl
        · exact ⟨k1, v, hv, v, m', rfl, hrv, k4⟩
        · exact ⟨k1, v, hv, v, m', rfl, hrv, k4⟩
      split at hev
      · rename_i e' h1' hc'
        exact main _ e' h1' hc' (.inl rfl) hev
      · rename_i e' h1' hc'
        exact main _ e' h1' hc' (.inr rfl) hev
      · cases hev

end
end Go.Proofs.YtgdlaopjabjkbaaDoor.Ab

/- THE SEAT's numbers of functions, and that the bodies are the program's. -/
namespace Go.Proofs.YtgdlaopjabjkbaaDoor.Ab
open Go

def F : Nat → Nat := fun n => [0, 0, 0, 0, 0, 0, 0, 0, 0, 0, 0, 0, 0, 0, 0, 0, 0, 0, 0, 0, 0, 0, 0, 0, 0, 0, 0, 0, 0, 0, 0, 0, 0, 0, 0, 0, 0, 0, 0, 0, 0, 0, 0, 0, 0, 0, 0, 0, 0, 0, 0, 0, 0, 0, 0, 0, 0, 0, 0, 0, 59, 88, 0, 0, 0, 0, 0, 0, 57, 0, 0, 0, 0, 0, 49, 0, 0, 27, 0, 0, 0, 0, 32, 0, 0, 0, 0, 0, 0, 0, 0, 0, 0, 0, 0, 0, 0, 0, 0, 0, 0, 0, 0, 35, 28, 0, 0, 0, 44, 37, 0, 50, 0, 0, 0, 0, 0, 0, 0, 0, 0, 0, 0, 0, 0, 0, 0, 0, 0, 0, 0, 62, 0, 89, 0, 0, 0, 0, 0, 0, 0, 0, 0, 0, 0, 0, 0, 0, 0, 0, 0, 0, 0, 0, 0, 0, 0, 0, 0, 0, 0, 0, 0, 0, 0, 0, 0, 0, 0, 0, 0, 0, 0, 0, 0, 0, 0, 0, 0, 0, 0, 0, 0, 0, 48, 0, 0, 0, 0, 0, 110, 0, 0, 0, 33, 0, 0, 0, 0, 0, 0, 0, 0, 0, 0, 0, 43, 0, 0, 0, 0, 0, 0, 0, 0, 0, 0, 0, 0, 0, 0, 0, 0, 0, 0, 0, 0, 10, 11, 12, 0, 0, 0, 0, 0, 0, 0, 0, 0, 0, 21, 0, 0, 0, 0, 0, 0, 0, 0, 0, 0, 0, 0, 0, 0, 60, 0, 0, 0, 0, 0, 0, 0, 0, 0, 0, 0, 0, 0, 0, 0, 0, 0, 0, 0, 0, 55, 0, 0, 0, 0, 0, 0, 0, 0, 0, 0, 0, 101, 102, 0, 0, 0, 0, 0, 0, 0, 0, 0, 0, 0, 0, 0, 0, 0, 0, 41, 56, 0, 0, 0, 0, 0, 0, 0, 0, 0, 0, 3, 6, 7, 4, 8, 9, 5, 14, 13, 15, 16, 17, 18, 19, 20, 22, 24, 23, 25, 26, 29, 31, 30, 34, 36, 38, 39, 42, 45, 46, 53, 54, 40, 58, 78, 79, 80, 81, 82, 83, 84, 85, 100, 103, 104, 109].getD n 0
theorem chk318 : chkF Go.Proofs.Tryd.prog F 318 fi318 = true := by decide +kernel
theorem chk321 : chkF Go.Proofs.Tryd.prog F 321 fi321 = true := by decide +kernel
theorem chk324 : chkF Go.Proofs.Tryd.prog F 324 fi324 = true := by decide +kernel
theorem chk319 : chkF Go.Proofs.Tryd.prog F 319 fi319 = true := by decide +kernel
theorem chk320 : chkF Go.Proofs.Tryd.prog F 320 fi320 = true := by decide +kernel
theorem chk322 : chkF Go.Proofs.Tryd.prog F 322 fi322 = true := by decide +kernel
theorem chk323 : chkF Go.Proofs.Tryd.prog F 323 fi323 = true := by decide +kernel
theorem chk227 : chkF Go.Proofs.Tryd.prog F 227 fi227 = true := by decide +kernel
theorem chk228 : chkF Go.Proofs.Tryd.prog F 228 fi228 = true := by decide +kernel
theorem chk229 : chkF Go.Proofs.Tryd.prog F 229 fi229 = true := by decide +kernel
theorem chk326 : chkF Go.Proofs.Tryd.prog F 326 fi326 = true := by decide +kernel
theorem chk325 : chkF Go.Proofs.Tryd.prog F 325 fi325 = true := by decide +kernel
theorem chk327 : chkF Go.Proofs.Tryd.prog F 327 fi327 = true := by decide +kernel
theorem chk328 : chkF Go.Proofs.Tryd.prog F 328 fi328 = true := by decide +kernel
theorem chk329 : chkF Go.Proofs.Tryd.prog F 329 fi329 = true := by decide +kernel
theorem chk330 : chkF Go.Proofs.Tryd.prog F 330 fi330 = true := by decide +kernel
theorem chk331 : chkF Go.Proofs.Tryd.prog F 331 fi331 = true := by decide +kernel
theorem chk332 : chkF Go.Proofs.Tryd.prog F 332 fi332 = true := by decide +kernel
theorem chk240 : chkF Go.Proofs.Tryd.prog F 240 fi240 = true := by decide +kernel
theorem chk333 : chkF Go.Proofs.Tryd.prog F 333 fi333 = true := by decide +kernel
theorem chk335 : chkF Go.Proofs.Tryd.prog F 335 fi335 = true := by decide +kernel
theorem chk334 : chkF Go.Proofs.Tryd.prog F 334 fi334 = true := by decide +kernel
theorem chk336 : chkF Go.Proofs.Tryd.prog F 336 fi336 = true := by decide +kernel
theorem chk337 : chkF Go.Proofs.Tryd.prog F 337 fi337 = true := by decide +kernel
theorem chk77 : chkF Go.Proofs.Tryd.prog F 77 fi77 = true := by decide +kernel
theorem chk104 : chkF Go.Proofs.Tryd.prog F 104 fi104 = true := by decide +kernel
theorem chk340 : chkF Go.Proofs.Tryd.prog F 340 fi340 = true := by decide +kernel
theorem chk339 : chkF Go.Proofs.Tryd.prog F 339 fi339 = true := by decide +kernel
theorem chk82 : chkF Go.Proofs.Tryd.prog F 82 fi82 = true := by decide +kernel
theorem chk103 : chkF Go.Proofs.Tryd.prog F 103 fi103 = true := by decide +kernel
theorem chk342 : chkF Go.Proofs.Tryd.prog F 342 fi342 = true := by decide +kernel
theorem chk109 : chkF Go.Proofs.Tryd.prog F 109 fi109 = true := by decide +kernel
theorem chk344 : chkF Go.Proofs.Tryd.prog F 344 fi344 = true := by decide +kernel
theorem chk350 : chkF Go.Proofs.Tryd.prog F 350 fi350 = true := by decide +kernel
theorem chk306 : chkF Go.Proofs.Tryd.prog F 306 fi306 = true := by decide +kernel
theorem chk345 : chkF Go.Proofs.Tryd.prog F 345 fi345 = true := by decide +kernel
theorem chk206 : chkF Go.Proofs.Tryd.prog F 206 fi206 = true := by decide +kernel
theorem chk108 : chkF Go.Proofs.Tryd.prog F 108 fi108 = true := by decide +kernel
theorem chk346 : chkF Go.Proofs.Tryd.prog F 346 fi346 = true := by decide +kernel
theorem chk347 : chkF Go.Proofs.Tryd.prog F 347 fi347 = true := by decide +kernel
theorem chk184 : chkF Go.Proofs.Tryd.prog F 184 fi184 = true := by decide +kernel
theorem chk74 : chkF Go.Proofs.Tryd.prog F 74 fi74 = true := by decide +kernel
theorem chk348 : chkF Go.Proofs.Tryd.prog F 348 fi348 = true := by decide +kernel
theorem chk349 : chkF Go.Proofs.Tryd.prog F 349 fi349 = true := by decide +kernel
theorem chk307 : chkF Go.Proofs.Tryd.prog F 307 fi307 = true := by decide +kernel
theorem chk68 : chkF Go.Proofs.Tryd.prog F 68 fi68 = true := by decide +kernel
theorem chk351 : chkF Go.Proofs.Tryd.prog F 351 fi351 = true := by decide +kernel
theorem chk60 : chkF Go.Proofs.Tryd.prog F 60 fi60 = true := by decide +kernel
theorem chk352 : chkF Go.Proofs.Tryd.prog F 352 fi352 = true := by decide +kernel
theorem chk353 : chkF Go.Proofs.Tryd.prog F 353 fi353 = true := by decide +kernel
theorem chk354 : chkF Go.Proofs.Tryd.prog F 354 fi354 = true := by decide +kernel
theorem chk355 : chkF Go.Proofs.Tryd.prog F 355 fi355 = true := by decide +kernel
theorem chk356 : chkF Go.Proofs.Tryd.prog F 356 fi356 = true := by decide +kernel
theorem chk357 : chkF Go.Proofs.Tryd.prog F 357 fi357 = true := by decide +kernel
theorem chk358 : chkF Go.Proofs.Tryd.prog F 358 fi358 = true := by decide +kernel
theorem chk359 : chkF Go.Proofs.Tryd.prog F 359 fi359 = true := by decide +kernel
theorem chk61 : chkF Go.Proofs.Tryd.prog F 61 fi61 = true := by decide +kernel
theorem chk133 : chkF Go.Proofs.Tryd.prog F 133 fi133 = true := by decide +kernel
theorem chk360 : chkF Go.Proofs.Tryd.prog F 360 fi360 = true := by decide +kernel
theorem chk288 : chkF Go.Proofs.Tryd.prog F 288 fi288 = true := by decide +kernel
theorem chk361 : chkF Go.Proofs.Tryd.prog F 361 fi361 = true := by decide +kernel
theorem chk362 : chkF Go.Proofs.Tryd.prog F 362 fi362 = true := by decide +kernel
theorem chk363 : chkF Go.Proofs.Tryd.prog F 363 fi363 = true := by decide +kernel
theorem hT : ∀ f fi, E f = none → T f = some fi → chkF Go.Proofs.Tryd.prog F f fi = true := by
  have all : ∀ x ∈ tab, chkF Go.Proofs.Tryd.prog F x.1 x.2 = true := by
    intro x hx
    simp only [tab, List.mem_cons, List.not_mem_nil, or_false] at hx
    rcases hx with rfl | rfl | rfl | rfl | rfl | rfl | rfl | rfl | rfl | rfl | rfl | rfl | rfl | rfl | rfl | rfl | rfl | rfl | rfl | rfl | rfl | rfl | rfl | rfl | rfl | rfl | rfl | rfl | rfl | rfl | rfl | rfl | rfl | rfl | rfl | rfl | rfl | rfl | rfl | rfl | rfl | rfl | rfl | rfl | rfl | rfl | rfl | rfl | rfl | rfl | rfl | rfl | rfl | rfl | rfl | rfl | rfl | rfl | rfl | rfl | rfl | rfl | rfl
    · exact chk318
    · exact chk321
    · exact chk324
    · exact chk319
    · exact chk320
    · exact chk322
    · exact chk323
    · exact chk227
    · exact chk228
    · exact chk229
    · exact chk326
    · exact chk325
    · exact chk327
    · exact chk328
    · exact chk329
    · exact chk330
    · exact chk331
    · exact chk332
    · exact chk240
    · exact chk333
    · exact chk335
    · exact chk334
    · exact chk336
    · exact chk337
    · exact chk77
    · exact chk104
    · exact chk340
    · exact chk339
    · exact chk82
    · exact chk103
    · exact chk342
    · exact chk109
    · exact chk344
    · exact chk350
    · exact chk306
    · exact chk345
    · exact chk206
    · exact chk108
    · exact chk346
    · exact chk347
    · exact chk184
    · exact chk74
    · exact chk348
    · exact chk349
    · exact chk307
    · exact chk68
    · exact chk351
    · exact chk60
    · exact chk352
    · exact chk353
    · exact chk354
    · exact chk355
    · exact chk356
    · exact chk357
    · exact chk358
    · exact chk359
    · exact chk61
    · exact chk133
    · exact chk360
    · exact chk288
    · exact chk361
    · exact chk362
    · exact chk363
  intro f fi _ h
  simp only [T, Option.map_eq_some_iff] at h
  obtain ⟨x, hx, rfl⟩ := h
  have h1 := List.find?_some hx
  have h2 := List.mem_of_find?_eq_some hx
  have h3 : x.1 = f := by simpa using h1
  rw [← h3]; exact all x h2
end Go.Proofs.YtgdlaopjabjkbaaDoor.Ab

/- FOR CONTRACTS outside the table: calls that turn nothing old. -/
namespace Go.Proofs.YtgdlaopjabjkbaaDoor.Ab
open Go Go.RowKit

theorem StepR.grown {F : Nat → Nat} {base : Nat} {m : Emb} {h : AH} {w w' : World} (hr : RelH F base m h w) (hold : ∀ b : Nat, b < w.heap.size → w'.heap[b]? = w.heap[b]?) (hsz : w.heap.size ≤ w'.heap.size) (ho : w'.os = w.os) (ht : w'.tape = w.tape) (hu : w'.output = w.output) : StepR F base m h w m h w' := by
  refine ⟨Emb.le_refl m, ⟨hr.rowc, hr.objc, ?_, hr.inj, hr.injo, hr.injr, ?_, ?_, hr.vers, Nat.le_trans hr.le hsz⟩, ho, ht, hu, hsz, fun b hb _ => hold b hb, fun _ _ _ h => .inl h, fun _ _ h => .inl h, fun _ _ _ => rfl, Nat.le_refl _⟩
  · intro c ob hc
    exact ObjRel.keep (hr.ob c ob hc) (Emb.le_refl m) (fun _ _ h => h) (fun _ h => h) (fun k p hp => hold _ (hr.ltr c k p hp)) (fun b hb => hold _ (hr.lto c b hb))
  · intro c k p hp; exact Nat.lt_of_lt_of_le (hr.ltr c k p hp) hsz
  · intro c b hb; exact Nat.lt_of_lt_of_le (hr.lto c b hb) hsz
theorem StepR.below' {F : Nat → Nat} {base : Nat} {m : Emb} {h : AH} {w w' : World} (hr : RelH F base m h w) (hb : Below w.heap.size w w') : StepR F base m h w m h w' :=
  StepR.grown hr hb.block hb.size hb.os hb.tape hb.output

/-- A contract of one function. -/
def ExtAt (P : Program) (F : Nat → Nat) (f : Nat) (G : List AV → Option AV) : Prop :=
  ∀ xs r, G xs = some r → fnOk P (F f) = true ∧ ∀ (m : Emb) (w : World) (args : Array Value), RelL F m xs args.toList →
    Calls P (F f) args w fun e w' => ∃ v, e = .returned v ∧ RelV F m r v ∧ Below w.heap.size w w'
/-- .. that reads the heap. -/
def ExtAtH (P : Program) (F : Nat → Nat) (f : Nat) (G : List AV → AH → Option AV) : Prop :=
  ∀ xs h r, G xs h = some r → fnOk P (F f) = true ∧ ∀ (base : Nat) (m : Emb) (w : World) (args : Array Value), RelH F base m h w → RelL F m xs args.toList →
    Calls P (F f) args w fun e w' => ∃ v, e = .returned v ∧ RelV F m r v ∧ Below w.heap.size w w'
theorem ExtAt.h {P : Program} {F : Nat → Nat} {f : Nat} {G : List AV → Option AV} (hG : ExtAt P F f G) : ExtAtH P F f fun xs _ => G xs := fun xs _ r hr => by
  obtain ⟨h1, h2⟩ := hG xs r hr
  exact ⟨h1, fun _ m w args _ hx => h2 m w args hx⟩
theorem ext_pure {P : Program} {F : Nat → Nat} {f : Nat} {G : List AV → AH → Option AV} (hG : ExtAtH P F f G) (cf : CF) (xs : List AV) (h : AH) (r : AV) (h' : AH) (hev : pureX G cf xs h = some (r, h')) : fnOk P (F f) = true ∧ ∀ base m w args, RelH F base m h w → RelL F m xs args.toList →
    Calls P (F f) args w fun e w' => ∃ v m', e = .returned v ∧ RelV F m' r v ∧ StepR F base m h w m' h' w' := by
  simp only [pureX, Option.map_eq_some_iff, Prod.mk.injEq] at hev
  obtain ⟨r', hr', rfl, rfl⟩ := hev
  obtain ⟨h1, h2⟩ := hG xs h r' hr'
  refine ⟨h1, fun base m w args hr hx => (h2 base m w args hr hx).mono ?_⟩
  rintro e w' ⟨v, rfl, hv, hb⟩
  exact ⟨v, m, rfl, hv, StepR.below' hr hb⟩
/-- .. that turns the heap. -/
def ExtAtW (P : Program) (F : Nat → Nat) (f : Nat) (G : List AV → AH → Option (AV × AH)) : Prop :=
  ∀ xs h r h', G xs h = some (r, h') → fnOk P (F f) = true ∧ ∀ (base : Nat) (m : Emb) (w : World) (args : Array Value), RelH F base m h w → RelL F m xs args.toList →
    Calls P (F f) args w fun e w' => ∃ v m', e = .returned v ∧ RelV F m' r v ∧ StepR F base m h w m' h' w'
/-- .. that leans on calls. -/
def ExtAtZ (P : Program) (F : Nat → Nat) (f : Nat) (G : CF → List AV → AH → Option (AV × AH)) : Prop := ∀ cf, Sound P F cf → ExtAtW P F f (G cf)
theorem ext_ok {P : Program} {F : Nat → Nat} (h : ∀ x ∈ xtab, ExtAtH P F x.1 x.2) (h2 : ∀ x ∈ ytab, ExtAtW P F x.1 x.2) (h4 : ∀ x ∈ ztab, ExtAtZ P F x.1 x.2) : ExtOk P F E := by
  intro f G hf cf hcf xs hh r h' hev
  unfold E at hf
  split at hf
  · rename_i x hx
    cases hf
    have h1 := List.find?_some hx
    have h3 : x.1 = f := by simpa using h1
    have := ext_pure (h x (List.mem_of_find?_eq_some hx)) cf xs hh r h' hev
    rwa [h3] at this
  · split at hf
    · rename_i x hx
      cases hf
      have h1 := List.find?_some hx
      have h3 : x.1 = f := by simpa using h1
      have := h2 x (List.mem_of_find?_eq_some hx) xs hh r h' hev
      rwa [h3] at this
    · simp only [Option.map_eq_some_iff] at hf
      obtain ⟨x, hx, rfl⟩ := hf
      have h1 := List.find?_some hx
      have h3 : x.1 = f := by simpa using h1
      have := h4 x (List.mem_of_find?_eq_some hx) cf hcf xs hh r h' hev
      rwa [h3] at this

/-! ### Writes, by the model's own words -/
theorem wr_cells {F : Nat → Nat} {base : Nat} {m : Emb} {h : AH} {w : World} (hr : RelH F base m h w) {c k off : Nat} {xs : List AV} {h' : AH} (hw : wrRow h c k off xs = some h') {p : Place} (hp : m.row c k = some p) (hlo : p.lo ≤ off) (hext : off + xs.length ≤ p.ext) :
    ∀ j, j < xs.length → (w.cell? ⟨p.blk, p.base + (off - p.lo) + j, none⟩).isSome = true ∧ w.frozen? ⟨p.blk, p.base + (off - p.lo) + j, none⟩ = false := by
  unfold wrRow at hw
  split at hw
  · rename_i cs ver fl hc
    split at hw
    · rename_i hcond
      obtain ⟨rfl, hfl, hl, hsc⟩ := hcond
      obtain ⟨_, h2, h3, h4, C, e, fr, hg, hs, hb, hf, hcell⟩ := hr.ob c _ hc k p hp hfl
      intro j hj
      have hlt : p.base + (off - p.lo) + j < C.size := by omega
      have hf' := hf rfl
      constructor
      · simp only [World.cell?, hg, Option.isSome_none, Bool.false_eq_true, if_false]
        rw [Array.getElem?_eq_getElem hlt]; rfl
      · simp only [World.frozen?, hg]
        rcases hf' with h | h
        · simp; omega
        · simp; omega
    · cases hw
  · cases hw
theorem wr_set {P : Program} {F : Nat → Nat} {base : Nat} {m : Emb} {h : AH} {w : World} (hr : RelH F base m h w) {c k off : Nat} {xs : List AV} {h' : AH} (hw : wrRow h c k off xs = some h') {p : Place} (hp : m.row c k = some p) (hlo : p.lo ≤ off) (hext : off + xs.length ≤ p.ext) {vs : List Value} (hvs : RelL F m xs vs) (hone : ∀ v ∈ vs, v.oneCell' = true) :
    StepR F base m h w m h' (w.setCells p.blk (p.base + (off - p.lo)) vs) := by
  obtain ⟨w', h1, h2⟩ := wr_step (P := P) hr hw hp hlo hext hvs
  have hl := hvs.length
  have hc := wr_cells hr hw hp hlo hext
  have h3 := run_storeCells_cells (P := P) p.blk (p.base + (off - p.lo)) vs 0 w (fun j hj => by simpa using (hc j (by omega)).1) (fun j hj => by simpa using (hc j (by omega)).2) hone
  rw [h1] at h3
  cases h3
  exact h2
/-- 'clear(s)' at elements of three numbers. -/
theorem run_clear3 {P : Program} (w : World) (t e ty : TypeId) (z : Value) (ht : P.underlying t = some (.slice e)) (hv : ∀ w, (zeroValue e).run P w = .ok z w) (hz : z.cells = #[.int .i64 0, .int .i64 0, .int .i64 0]) (b o n c : Nat) (hn : 0 < n)
    (hc : ∀ j, j < n * 3 → (w.cell? ⟨b, o + j, none⟩).isSome = true) (hf : ∀ j, j < n * 3 → w.frozen? ⟨b, o + j, none⟩ = false) :
    (Builtin.clear_ #[t] ty #[.slice (some ⟨b, o, none⟩) n c]).run P w = .ok (.tuple #[]) (w.setCells b o (List.replicate (n * 3) (.int .i64 0))) := by
  have hzc : (Builtin.zeroCells z.cells n).toList = List.replicate (n * 3) (.int .i64 0) := by
    rw [hz]
    simp only [Builtin.zeroCells]
    apply List.ext_getElem
    · simp
    · intro i h1 h2
      have : i % 3 = 0 ∨ i % 3 = 1 ∨ i % 3 = 2 := by omega
      rcases this with h | h | h <;> simp [h]
  have hst := run_storeCells_cells (P := P) b o (List.replicate (n * 3) (.int .i64 0)) 0 w (by simpa using hc) (by simpa using hf) (by intro v hv'; rw [List.eq_of_mem_replicate hv']; rfl)
  simp only [Nat.add_zero] at hst
  obtain ⟨m, rfl⟩ : ∃ m, n = m + 1 := ⟨n - 1, by omega⟩
  simp [Builtin.clear_, run_underlying ht, hv, hzc, hst]
end Go.Proofs.YtgdlaopjabjkbaaDoor.Ab

/-
  DERIVED: THE SHELF's CONTRACTS AT THIS DUMP, IN PLAIN WORDS (tools/lay-plain.mjs out of 'TrydShelf.lean', which tools/lay-shelf.mjs wrote): THE SAME DECLARATIONS UNDER THE SAME NAMES: 'import', 'namespace', 'open', 'def', 'theorem' AND NOTHING ELSE: no command of the shelf's: FOR A HAND-IN. Each laying: the table of numbers ('.._ren') and one theorem, a field a fact of the dump's own or the kernel's comparison; each contract: ONE APPLICATION.
-/
namespace Go.Proofs
open Go.Shelf
def Tryd.lays169_ren : Go.Shelf.Ren := ⟨fun | 169 => 77 | n => n, fun | 70 => 97 | 9 => 9 | 0 => 0 | 72 => 100 | 37 => 98 | 127 => 127 | 3 => 3 | 5 => 5 | n => n, fun | n => n⟩
theorem Tryd.lays169 : Go.Proofs.Lays.n169 Tryd.prog Tryd.lays169_ren := {
  mixed := by kernel_rfl
  f169 := Tryd.func77.trans (congrArg some (by kernel_rfl))
  t0 := Tryd.underlying0
  a0 := Tryd.isAgg0
  z0 := Tryd.sizeOf0
  v0 := Tryd.zeroValue0
  t3 := Tryd.underlying3
  a3 := Tryd.isAgg3
  z3 := Tryd.sizeOf3
  v3 := Tryd.zeroValue3
  t9 := Tryd.underlying9
  a9 := Tryd.isAgg9
  z9 := Tryd.sizeOf9
  v9 := Tryd.zeroValue9
  t37 := Tryd.underlying98
  a37 := Tryd.isAgg98
  z37 := Tryd.sizeOf98
  v37 := Tryd.zeroValue98
  t70 := Tryd.underlying97
  a70 := Tryd.isAgg97
  z70 := Tryd.sizeOf97
  v70 := Tryd.zeroValue97
  t72 := Tryd.underlying100
  a72 := Tryd.isAgg100
  z72 := Tryd.sizeOf100
  v72 := Tryd.zeroValue100
  t127 := Tryd.underlying127
  a127 := Tryd.isAgg127
  z127 := Tryd.sizeOf127
  v127 := Tryd.zeroValue127 }
theorem Tryd.Builder_Extra_169 : Builder.Extra Tryd.prog Tryd.lays169_ren := {
  sizeBuilder := by kernel_rfl
  liesBuilder := by kernel_rfl
  t5 := Tryd.underlying5
  a5 := Tryd.isAgg5
  z5 := Tryd.sizeOf5
  v5 := Tryd.zeroValue5
  infoByte := by kernel_rfl
  cellsByte := by kernel_rfl
  sizeByte := by kernel_rfl
  neB5 := by decide }
open Go.RowKit in
/-- (*strings.Builder).String: "String returns the accumulated string.": OF A BUILDER THAT HOLDS AT LEAST ONE BYTE. ✋ THE MODEL FREEZES THOSE BYTES IN THE BUFFER (unsafe.String): a later write INTO them ends the model's run without an answer; a later append BEHIND them goes on. The statement's order of evaluation is drawn: one draw. (LAID: no walk: one application.) -/
theorem Tryd.Builder_String (B b : Nat) (l : List UInt8) (w : World) (h : Lib.IsBuilder 100 5 B b (Lib.byteCells l) w) (h0 : l ≠ []) :
    Calls Tryd.prog 77 #[.pointer (some ⟨b, 0, none⟩)] w fun e w' => e = .returned (.string ⟨l.toArray⟩) ∧ Below B w w' := Any.Builder_String Tryd.lays169 Tryd.Builder_Extra_169 B b l w h h0
open Go.RowKit in
/-- (*strings.Builder).String OF A BUILDER THAT HOLDS NO BYTE: the empty string. (Its buffer is nil, or a row of which it has taken nothing yet; where that row has NO capacity the model lays one new block for unsafe.SliceData's 'some address'.) One draw. (LAID: no walk: one application.) -/
theorem Tryd.Builder_String_empty (B b : Nat) (w : World) (h : Lib.IsBuilder 100 5 B b [] w) (hBw : B ≤ w.heap.size) :
    Calls Tryd.prog 77 #[.pointer (some ⟨b, 0, none⟩)] w fun e w' => e = .returned (.string ⟨#[]⟩) ∧ Below B w w' := Any.Builder_String_empty Tryd.lays169 Tryd.Builder_Extra_169 B b w h hBw
open Go.RowKit in
/-- (*strings.Builder).String: "String returns the accumulated string.": WHATEVER THE BUILDER HOLDS. (LAID: no walk: one application.) -/
theorem Tryd.Builder_String_any (B b : Nat) (l : List UInt8) (w : World) (h : Lib.IsBuilder 100 5 B b (Lib.byteCells l) w) (hBw : B ≤ w.heap.size) :
    Calls Tryd.prog 77 #[.pointer (some ⟨b, 0, none⟩)] w fun e w' => e = .returned (.string ⟨l.toArray⟩) ∧ Below B w w' := Any.Builder_String_any Tryd.lays169 Tryd.Builder_Extra_169 B b l w h hBw
def Tryd.lays241_ren : Go.Shelf.Ren := ⟨fun | 241 => 98 | 277 => 108 | n => n, fun | 70 => 97 | 3 => 3 | 0 => 0 | 72 => 100 | 37 => 98 | 5 => 5 | n => n, fun | n => n⟩
theorem Tryd.lays241 : Go.Proofs.Lays.n241 Tryd.prog Tryd.lays241_ren := {
  mixed := by kernel_rfl
  f241 := Tryd.func98.trans (congrArg some (by kernel_rfl))
  f277 := Tryd.func108.trans (congrArg some (by kernel_rfl))
  t0 := Tryd.underlying0
  a0 := Tryd.isAgg0
  z0 := Tryd.sizeOf0
  v0 := Tryd.zeroValue0
  t3 := Tryd.underlying3
  a3 := Tryd.isAgg3
  z3 := Tryd.sizeOf3
  v3 := Tryd.zeroValue3
  t37 := Tryd.underlying98
  a37 := Tryd.isAgg98
  z37 := Tryd.sizeOf98
  v37 := Tryd.zeroValue98
  t70 := Tryd.underlying97
  a70 := Tryd.isAgg97
  z70 := Tryd.sizeOf97
  v70 := Tryd.zeroValue97
  t72 := Tryd.underlying100
  a72 := Tryd.isAgg100
  z72 := Tryd.sizeOf100
  v72 := Tryd.zeroValue100 }
theorem Tryd.Builder_Extra_241 : Builder.Extra Tryd.prog Tryd.lays241_ren := {
  sizeBuilder := by kernel_rfl
  liesBuilder := by kernel_rfl
  t5 := Tryd.underlying5
  a5 := Tryd.isAgg5
  z5 := Tryd.sizeOf5
  v5 := Tryd.zeroValue5
  infoByte := by kernel_rfl
  cellsByte := by kernel_rfl
  sizeByte := by kernel_rfl
  neB5 := by decide }
open Go.RowKit in
/-- (*strings.Builder).grow (no doc but "grow copies the buffer to a new, larger buffer so that there are at least n bytes of capacity beyond len(b.buf)."): AT A BUILDER WITHOUT A BUFFER: a new row of whatever bytes for its buffer, none of them its own yet. Three draws. (LAID: no walk: one application.) -/
theorem Tryd.Builder_grow_fresh (B b n : Nat) (w : World) (hB : B ≤ b) (hbk : w.heap[b]? = some (.cells #[.pointer (some ⟨b, 0, none⟩), .slice none 0 0] 100 (0, 0))) (hBw : B ≤ w.heap.size) (hn : n ≤ 281474976710656) :
    Calls Tryd.prog 98 #[.pointer (some ⟨b, 0, none⟩), .int .i64 n] w fun e w' => e = .returned (.tuple #[]) ∧ (Lib.BuilderAt 100 5 B b (.pointer (some ⟨b, 0, none⟩)) [] w' ∧ Below B w w') := Any.Builder_grow_fresh Tryd.lays241 Tryd.Builder_Extra_241 B b n w hB hbk hBw hn
def Tryd.lays165_ren : Go.Shelf.Ren := ⟨fun | 165 => 74 | 240 => 97 | 241 => 98 | 276 => 107 | 277 => 108 | n => n, fun | 70 => 97 | 3 => 3 | 0 => 0 | 4 => 4 | 9 => 9 | 20 => 20 | 72 => 100 | 37 => 98 | 164 => 135 | 5 => 5 | n => n, fun | n => n⟩
theorem Tryd.lays165 : Go.Proofs.Lays.n165 Tryd.prog Tryd.lays165_ren := {
  mixed := by kernel_rfl
  f165 := Tryd.func74.trans (congrArg some (by kernel_rfl))
  f240 := Tryd.func97.trans (congrArg some (by kernel_rfl))
  f241 := Tryd.func98.trans (congrArg some (by kernel_rfl))
  f276 := Tryd.func107.trans (congrArg some (by kernel_rfl))
  f277 := Tryd.func108.trans (congrArg some (by kernel_rfl))
  t0 := Tryd.underlying0
  a0 := Tryd.isAgg0
  z0 := Tryd.sizeOf0
  v0 := Tryd.zeroValue0
  t3 := Tryd.underlying3
  a3 := Tryd.isAgg3
  z3 := Tryd.sizeOf3
  v3 := Tryd.zeroValue3
  t4 := Tryd.underlying4
  a4 := Tryd.isAgg4
  z4 := Tryd.sizeOf4
  v4 := Tryd.zeroValue4
  t9 := Tryd.underlying9
  a9 := Tryd.isAgg9
  z9 := Tryd.sizeOf9
  v9 := Tryd.zeroValue9
  t20 := Tryd.underlying20
  a20 := Tryd.isAgg20
  z20 := Tryd.sizeOf20
  v20 := Tryd.zeroValue20
  t37 := Tryd.underlying98
  a37 := Tryd.isAgg98
  z37 := Tryd.sizeOf98
  v37 := Tryd.zeroValue98
  t70 := Tryd.underlying97
  a70 := Tryd.isAgg97
  z70 := Tryd.sizeOf97
  v70 := Tryd.zeroValue97
  t72 := Tryd.underlying100
  a72 := Tryd.isAgg100
  z72 := Tryd.sizeOf100
  v72 := Tryd.zeroValue100
  t164 := Tryd.underlying135
  a164 := Tryd.isAgg135
  z164 := Tryd.sizeOf135
  v164 := Tryd.zeroValue135 }
theorem Tryd.Builder_Extra_165 : Builder.Extra Tryd.prog Tryd.lays165_ren := {
  sizeBuilder := by kernel_rfl
  liesBuilder := by kernel_rfl
  t5 := Tryd.underlying5
  a5 := Tryd.isAgg5
  z5 := Tryd.sizeOf5
  v5 := Tryd.zeroValue5
  infoByte := by kernel_rfl
  cellsByte := by kernel_rfl
  sizeByte := by kernel_rfl
  neB5 := by decide }
open Go.RowKit in
/-- (*strings.Builder).Grow AT A BUILDER THAT HAS NOT BEEN WRITTEN ('var b strings.Builder; b.Grow(n)'): "Grow grows b's capacity, if necessary, to guarantee space for another n bytes.": it holds no byte behind it as before it. (LAID: no walk: one application.) -/
theorem Tryd.Builder_Grow_fresh (B b n : Nat) (w : World) (hB : B ≤ b) (hbk : w.heap[b]? = some (.cells #[.pointer none, .slice none 0 0] 100 (0, 0))) (hBw : B ≤ w.heap.size) (hn : n ≤ 281474976710656) :
    Calls Tryd.prog 74 #[.pointer (some ⟨b, 0, none⟩), .int .i64 n] w fun e w' => e = .returned (.tuple #[]) ∧ (Lib.BuilderAt 100 5 B b (.pointer (some ⟨b, 0, none⟩)) [] w' ∧ Below B w w') := Any.Builder_Grow_fresh Tryd.lays165 Tryd.Builder_Extra_165 B b n w hB hbk hBw hn
def Tryd.lays156_ren : Go.Shelf.Ren := ⟨fun | 156 => 60 | 165 => 74 | 166 => 75 | 169 => 77 | 240 => 97 | 241 => 98 | 276 => 107 | 277 => 108 | n => n, fun | 31 => 37 | 9 => 9 | 3 => 3 | 4 => 4 | 0 => 0 | 20 => 20 | 72 => 100 | 76 => 104 | 70 => 97 | 37 => 98 | 75 => 103 | 127 => 127 | 164 => 135 | 5 => 5 | 80 => 71 | n => n, fun | n => n⟩
theorem Tryd.lays156 : Go.Proofs.Lays.n156 Tryd.prog Tryd.lays156_ren := {
  mixed := by kernel_rfl
  f156 := Tryd.func60.trans (congrArg some (by kernel_rfl))
  f165 := Tryd.func74.trans (congrArg some (by kernel_rfl))
  f166 := Tryd.func75.trans (congrArg some (by kernel_rfl))
  f169 := Tryd.func77.trans (congrArg some (by kernel_rfl))
  f240 := Tryd.func97.trans (congrArg some (by kernel_rfl))
  f241 := Tryd.func98.trans (congrArg some (by kernel_rfl))
  f276 := Tryd.func107.trans (congrArg some (by kernel_rfl))
  f277 := Tryd.func108.trans (congrArg some (by kernel_rfl))
  t0 := Tryd.underlying0
  a0 := Tryd.isAgg0
  z0 := Tryd.sizeOf0
  v0 := Tryd.zeroValue0
  t3 := Tryd.underlying3
  a3 := Tryd.isAgg3
  z3 := Tryd.sizeOf3
  v3 := Tryd.zeroValue3
  t4 := Tryd.underlying4
  a4 := Tryd.isAgg4
  z4 := Tryd.sizeOf4
  v4 := Tryd.zeroValue4
  t9 := Tryd.underlying9
  a9 := Tryd.isAgg9
  z9 := Tryd.sizeOf9
  v9 := Tryd.zeroValue9
  t20 := Tryd.underlying20
  a20 := Tryd.isAgg20
  z20 := Tryd.sizeOf20
  v20 := Tryd.zeroValue20
  t31 := Tryd.underlying37
  a31 := Tryd.isAgg37
  z31 := Tryd.sizeOf37
  v31 := Tryd.zeroValue37
  t37 := Tryd.underlying98
  a37 := Tryd.isAgg98
  z37 := Tryd.sizeOf98
  v37 := Tryd.zeroValue98
  t70 := Tryd.underlying97
  a70 := Tryd.isAgg97
  z70 := Tryd.sizeOf97
  v70 := Tryd.zeroValue97
  t72 := Tryd.underlying100
  a72 := Tryd.isAgg100
  z72 := Tryd.sizeOf100
  v72 := Tryd.zeroValue100
  t75 := Tryd.underlying103
  a75 := Tryd.isAgg103
  z75 := Tryd.sizeOf103
  v75 := Tryd.zeroValue103
  t76 := Tryd.underlying104
  a76 := Tryd.isAgg104
  z76 := Tryd.sizeOf104
  v76 := Tryd.zeroValue104
  t127 := Tryd.underlying127
  a127 := Tryd.isAgg127
  z127 := Tryd.sizeOf127
  v127 := Tryd.zeroValue127
  t164 := Tryd.underlying135
  a164 := Tryd.isAgg135
  z164 := Tryd.sizeOf135
  v164 := Tryd.zeroValue135 }
theorem Tryd.Builder_Extra_156 : Builder.Extra Tryd.prog Tryd.lays156_ren := {
  sizeBuilder := by kernel_rfl
  liesBuilder := by kernel_rfl
  t5 := Tryd.underlying5
  a5 := Tryd.isAgg5
  z5 := Tryd.sizeOf5
  v5 := Tryd.zeroValue5
  infoByte := by kernel_rfl
  cellsByte := by kernel_rfl
  sizeByte := by kernel_rfl
  neB5 := by decide }
open Go.RowKit in
/-- No element: the empty string; the world is as it was. (Whatever the slice's address and capacity: a nil slice too.) (LAID: no walk: one application.) -/
theorem Tryd.strings_Join_none (a : Option Addr) (c : Nat) (sep : ByteArray) (w : World) :
    Calls Tryd.prog 60 #[.slice a 0 c, .string sep] w fun e w' => e = .returned (.string ⟨#[]⟩) ∧ w' = w := Any.strings_Join_none Tryd.lays156 Tryd.Builder_Extra_156 a c sep w
open Go.RowKit in
/-- strings.Join: "Join concatenates the elements of its first argument to create a single string. The separator string sep is placed between elements in the resulting string.": HOWEVER MANY ELEMENTS. Below the heap's end the world is as it was. (LAID: no walk: one application.) -/
theorem Tryd.strings_Join (bk o c : Nat) (xs : List ByteArray) (sep : ByteArray) (w : World) (hcells : ∀ (j : Nat) x, xs[j]? = some x → w.cell? ⟨bk, o + j, none⟩ = some (.string x)) (hbk : bk < w.heap.size) (hN : xs.length ≤ 140737488355328) (hcap : xs.length ≤ c) (hlen : (Lib.join (xs.map (·.data.toList)) sep.data.toList).length ≤ 140737488355328) :
    Calls Tryd.prog 60 #[.slice (some ⟨bk, o, none⟩) xs.length c, .string sep] w fun e w' => e = .returned (.string ⟨(Lib.join (xs.map (·.data.toList)) sep.data.toList).toArray⟩) ∧ Below w.heap.size w w' := Any.strings_Join Tryd.lays156 Tryd.Builder_Extra_156 bk o c xs sep w hcells hbk hN hcap hlen
def Tryd.lays231_ren : Go.Shelf.Ren := ⟨fun | 231 => 63 | n => n, fun | 9 => 9 | 5 => 5 | 3 => 3 | 4 => 4 | n => n, fun | n => n⟩
theorem Tryd.lays231 : Go.Proofs.Lays.n231 Tryd.prog Tryd.lays231_ren := {
  mixed := by kernel_rfl
  f231 := Tryd.func63.trans (congrArg some (by kernel_rfl))
  t3 := Tryd.underlying3
  a3 := Tryd.isAgg3
  z3 := Tryd.sizeOf3
  v3 := Tryd.zeroValue3
  t4 := Tryd.underlying4
  a4 := Tryd.isAgg4
  z4 := Tryd.sizeOf4
  v4 := Tryd.zeroValue4
  t5 := Tryd.underlying5
  a5 := Tryd.isAgg5
  z5 := Tryd.sizeOf5
  v5 := Tryd.zeroValue5
  t9 := Tryd.underlying9
  a9 := Tryd.isAgg9
  z9 := Tryd.sizeOf9
  v9 := Tryd.zeroValue9 }
open Go.RowKit in
/-- strings.trimLeftByte (no doc; what TrimLeft and Trim call at a cutset of one ASCII byte): the leading bytes that are c are cut off. The world is as it was. (LAID: no walk: one application.) -/
theorem Tryd.strings_trimLeftByte (s : ByteArray) (c : UInt8) (w : World) :
    Calls Tryd.prog 63 #[.string s, .int .u8 c.toNat] w fun e w' => e = .returned (.string ⟨(Lib.trimLeftB s.data.toList c).toArray⟩) ∧ w' = w := Any.strings_trimLeftByte Tryd.lays231 s c w
def Tryd.lays232_ren : Go.Shelf.Ren := ⟨fun | 232 => 64 | n => n, fun | 9 => 9 | 5 => 5 | 3 => 3 | 4 => 4 | n => n, fun | n => n⟩
theorem Tryd.lays232 : Go.Proofs.Lays.n232 Tryd.prog Tryd.lays232_ren := {
  mixed := by kernel_rfl
  f232 := Tryd.func64.trans (congrArg some (by kernel_rfl))
  t3 := Tryd.underlying3
  a3 := Tryd.isAgg3
  z3 := Tryd.sizeOf3
  v3 := Tryd.zeroValue3
  t4 := Tryd.underlying4
  a4 := Tryd.isAgg4
  z4 := Tryd.sizeOf4
  v4 := Tryd.zeroValue4
  t5 := Tryd.underlying5
  a5 := Tryd.isAgg5
  z5 := Tryd.sizeOf5
  v5 := Tryd.zeroValue5
  t9 := Tryd.underlying9
  a9 := Tryd.isAgg9
  z9 := Tryd.sizeOf9
  v9 := Tryd.zeroValue9 }
open Go.RowKit in
/-- strings.trimRightByte (no doc; what TrimRight and Trim call at a cutset of one ASCII byte): the trailing bytes that are c are cut off. The world is as it was. ('hs': a string's length is a number that an int holds.) (LAID: no walk: one application.) -/
theorem Tryd.strings_trimRightByte (s : ByteArray) (c : UInt8) (w : World) (hs : s.size ≤ 9223372036854775807) :
    Calls Tryd.prog 64 #[.string s, .int .u8 c.toNat] w fun e w' => e = .returned (.string ⟨(Lib.trimRightB s.data.toList c).toArray⟩) ∧ w' = w := Any.strings_trimRightByte Tryd.lays232 s c w hs
def Tryd.lays160_ren : Go.Shelf.Ren := ⟨fun | 160 => 50 | 232 => 64 | 231 => 63 | 227 => 65 | 234 => 67 | 233 => 66 | 236 => 69 | 235 => 68 | 228 => 92 | 271 => 94 | 151 => 93 | 197 => 76 | 120 => 106 | 152 => 105 | 260 => 99 | 137 => 110 | 119 => 111 | 224 => 72 | 225 => 71 | 217 => 70 | 266 => 95 | n => n, fun | 9 => 9 | 4 => 4 | 3 => 3 | 5 => 5 | 117 => 91 | 116 => 90 | 0 => 0 | 124 => 94 | 21 => 21 | 105 => 106 | 46 => 79 | 119 => 138 | 139 => 141 | 138 => 140 | n => n, fun | 3 => 1 | 4 => 2 | n => n⟩
theorem Tryd.lays160 : Go.Proofs.Lays.n160 Tryd.prog Tryd.lays160_ren := {
  mixed := by kernel_rfl
  f119 := Tryd.func111.trans (congrArg some (by kernel_rfl))
  f120 := Tryd.func106.trans (congrArg some (by kernel_rfl))
  f137 := Tryd.func110.trans (congrArg some (by kernel_rfl))
  f151 := Tryd.func93.trans (congrArg some (by kernel_rfl))
  f152 := Tryd.func105.trans (congrArg some (by kernel_rfl))
  f160 := Tryd.func50.trans (congrArg some (by kernel_rfl))
  f197 := Tryd.func76.trans (congrArg some (by kernel_rfl))
  f217 := Tryd.func70.trans (congrArg some (by kernel_rfl))
  f224 := Tryd.func72.trans (congrArg some (by kernel_rfl))
  f225 := Tryd.func71.trans (congrArg some (by kernel_rfl))
  f227 := Tryd.func65.trans (congrArg some (by kernel_rfl))
  f228 := Tryd.func92.trans (congrArg some (by kernel_rfl))
  f231 := Tryd.func63.trans (congrArg some (by kernel_rfl))
  f232 := Tryd.func64.trans (congrArg some (by kernel_rfl))
  f233 := Tryd.func66.trans (congrArg some (by kernel_rfl))
  f234 := Tryd.func67.trans (congrArg some (by kernel_rfl))
  f235 := Tryd.func68.trans (congrArg some (by kernel_rfl))
  f236 := Tryd.func69.trans (congrArg some (by kernel_rfl))
  f260 := Tryd.func99.trans (congrArg some (by kernel_rfl))
  f266 := Tryd.func95.trans (congrArg some (by kernel_rfl))
  f271 := Tryd.func94.trans (congrArg some (by kernel_rfl))
  t0 := Tryd.underlying0
  a0 := Tryd.isAgg0
  z0 := Tryd.sizeOf0
  v0 := Tryd.zeroValue0
  t3 := Tryd.underlying3
  a3 := Tryd.isAgg3
  z3 := Tryd.sizeOf3
  v3 := Tryd.zeroValue3
  t4 := Tryd.underlying4
  a4 := Tryd.isAgg4
  z4 := Tryd.sizeOf4
  v4 := Tryd.zeroValue4
  t5 := Tryd.underlying5
  a5 := Tryd.isAgg5
  z5 := Tryd.sizeOf5
  v5 := Tryd.zeroValue5
  t9 := Tryd.underlying9
  a9 := Tryd.isAgg9
  z9 := Tryd.sizeOf9
  v9 := Tryd.zeroValue9
  t21 := Tryd.underlying21
  a21 := Tryd.isAgg21
  z21 := Tryd.sizeOf21
  v21 := Tryd.zeroValue21
  t46 := Tryd.underlying79
  a46 := Tryd.isAgg79
  z46 := Tryd.sizeOf79
  v46 := Tryd.zeroValue79
  t105 := Tryd.underlying106
  a105 := Tryd.isAgg106
  z105 := Tryd.sizeOf106
  v105 := Tryd.zeroValue106
  t116 := Tryd.underlying90
  a116 := Tryd.isAgg90
  z116 := Tryd.sizeOf90
  t117 := Tryd.underlying91
  a117 := Tryd.isAgg91
  z117 := Tryd.sizeOf91
  v117 := Tryd.zeroValue91
  t119 := Tryd.underlying138
  a119 := Tryd.isAgg138
  z119 := Tryd.sizeOf138
  t124 := Tryd.underlying94
  a124 := Tryd.isAgg94
  z124 := Tryd.sizeOf94
  v124 := Tryd.zeroValue94
  t138 := Tryd.underlying140
  a138 := Tryd.isAgg140
  z138 := Tryd.sizeOf140
  v138 := Tryd.zeroValue140
  t139 := Tryd.underlying141
  a139 := Tryd.isAgg141
  z139 := Tryd.sizeOf141
  v139 := Tryd.zeroValue141
  g3 := by kernel_rfl
  g4 := by kernel_rfl }
open Go.RowKit in
/-- strings.Trim: "Trim returns a slice of the string s with all leading and trailing Unicode code points contained in cutset removed.": AT A cutset OF ONE ASCII BYTE. THE WORLD BEHIND IT: as it was, or (where s is not empty) with ONE DRAW MORE off the tape: the statement 'return trimLeftByte(trimRightByte(s, c), c)' draws its order of evaluation. (LAID: no walk: one application.) -/
theorem Tryd.strings_Trim_one (s : ByteArray) (c : UInt8) (hc : c.toNat < 128) (w : World) (hs : s.size ≤ 9223372036854775807) :
    Calls Tryd.prog 50 #[.string s, .string ⟨#[c]⟩] w fun e w' => e = .returned (.string ⟨(Lib.trimB s.data.toList c).toArray⟩) ∧ (w' = w ∨ w' = w.drew) := Any.strings_Trim_one Tryd.lays160 s c hc w hs
def Tryd.lays119_ren : Go.Shelf.Ren := ⟨fun | 119 => 111 | n => n, fun | 21 => 21 | 4 => 4 | n => n, fun | n => n⟩
theorem Tryd.lays119 : Go.Proofs.Lays.n119 Tryd.prog Tryd.lays119_ren := {
  mixed := by kernel_rfl
  f119 := Tryd.func111.trans (congrArg some (by kernel_rfl))
  t4 := Tryd.underlying4
  a4 := Tryd.isAgg4
  z4 := Tryd.sizeOf4
  v4 := Tryd.zeroValue4
  t21 := Tryd.underlying21
  a21 := Tryd.isAgg21
  z21 := Tryd.sizeOf21
  v21 := Tryd.zeroValue21 }
/-- utf8.ValidRune: "ValidRune reports whether r can be legally encoded as UTF-8. Code points that are out of range or a surrogate half are illegal.": IT RETURNS 'Lib.validRune r'; the world is as it was. (LAID: no walk: one application.) -/
theorem Tryd.utf8_ValidRune (r : Int) (w : World) :
    Calls Tryd.prog 111 #[.int .i32 r] w fun e w' => e = .returned (.bool (Lib.validRune r)) ∧ w' = w := Any.utf8_ValidRune Tryd.lays119 r w
def Tryd.lays120_ren : Go.Shelf.Ren := ⟨fun | 120 => 106 | n => n, fun | 5 => 5 | 4 => 4 | n => n, fun | n => n⟩
theorem Tryd.lays120 : Go.Proofs.Lays.n120 Tryd.prog Tryd.lays120_ren := {
  mixed := by kernel_rfl
  f120 := Tryd.func106.trans (congrArg some (by kernel_rfl))
  t4 := Tryd.underlying4
  a4 := Tryd.isAgg4
  z4 := Tryd.sizeOf4
  v4 := Tryd.zeroValue4
  t5 := Tryd.underlying5
  a5 := Tryd.isAgg5
  z5 := Tryd.sizeOf5
  v5 := Tryd.zeroValue5 }
/-- utf8.RuneStart: "RuneStart reports whether the byte could be the first byte of an encoded, possibly invalid rune. Second and subsequent bytes always have the top two bits set to 10.": IT RETURNS 'Lib.runeStart b'; the world is as it was. ('h0', 'h1': b is a byte: a caller has it of every byte that it was handed.) (LAID: no walk: one application.) -/
theorem Tryd.utf8_RuneStart (b : Int) (w : World) (h0 : 0 ≤ b) (h1 : b < 256) :
    Calls Tryd.prog 106 #[.int .u8 b] w fun e w' => e = .returned (.bool (Lib.runeStart b)) ∧ w' = w := Any.utf8_RuneStart Tryd.lays120 b w h0 h1
def Tryd.lays128_ren : Go.Shelf.Ren := ⟨fun | 128 => 86 | n => n, fun | 51 => 117 | 3 => 3 | 4 => 4 | 46 => 79 | 5 => 5 | 9 => 9 | n => n, fun | n => n⟩
theorem Tryd.lays128 : Go.Proofs.Lays.n128 Tryd.prog Tryd.lays128_ren := {
  mixed := by kernel_rfl
  f128 := Tryd.func86.trans (congrArg some (by kernel_rfl))
  t3 := Tryd.underlying3
  a3 := Tryd.isAgg3
  z3 := Tryd.sizeOf3
  v3 := Tryd.zeroValue3
  t4 := Tryd.underlying4
  a4 := Tryd.isAgg4
  z4 := Tryd.sizeOf4
  v4 := Tryd.zeroValue4
  t5 := Tryd.underlying5
  a5 := Tryd.isAgg5
  z5 := Tryd.sizeOf5
  v5 := Tryd.zeroValue5
  t9 := Tryd.underlying9
  a9 := Tryd.isAgg9
  z9 := Tryd.sizeOf9
  v9 := Tryd.zeroValue9
  t46 := Tryd.underlying79
  a46 := Tryd.isAgg79
  z46 := Tryd.sizeOf79
  v46 := Tryd.zeroValue79
  t51 := Tryd.underlying117
  a51 := Tryd.isAgg117
  z51 := Tryd.sizeOf117
  v51 := Tryd.zeroValue117 }
/-- bits.Len32: "Len32 returns the minimum number of bits required to represent x; the result is 0 for x == 0.": IT RETURNS 'Lib.bitLen x'; the world is as it was. ('h0', 'h1': x is a uint32.) (LAID: no walk: one application.) -/
theorem Tryd.bits_Len32 (x : Int) (w : World) (h0 : 0 ≤ x) (h1 : x ≤ 4294967295) :
    Calls Tryd.prog 86 #[.int .u32 x] w fun e w' => e = .returned (.int .i64 (Lib.bitLen x.toNat)) ∧ w' = w := Any.bits_Len32 Tryd.lays128 x w h0 h1
def Tryd.lays125_ren : Go.Shelf.Ren := ⟨fun | 125 => 55 | 128 => 86 | 129 => 87 | n => n, fun | 46 => 79 | 3 => 3 | 51 => 117 | 53 => 119 | 4 => 4 | 5 => 5 | 9 => 9 | n => n, fun | n => n⟩
theorem Tryd.lays125 : Go.Proofs.Lays.n125 Tryd.prog Tryd.lays125_ren := {
  mixed := by kernel_rfl
  f125 := Tryd.func55.trans (congrArg some (by kernel_rfl))
  f128 := Tryd.func86.trans (congrArg some (by kernel_rfl))
  f129 := Tryd.func87.trans (congrArg some (by kernel_rfl))
  t3 := Tryd.underlying3
  a3 := Tryd.isAgg3
  z3 := Tryd.sizeOf3
  v3 := Tryd.zeroValue3
  t4 := Tryd.underlying4
  a4 := Tryd.isAgg4
  z4 := Tryd.sizeOf4
  v4 := Tryd.zeroValue4
  t5 := Tryd.underlying5
  a5 := Tryd.isAgg5
  z5 := Tryd.sizeOf5
  v5 := Tryd.zeroValue5
  t9 := Tryd.underlying9
  a9 := Tryd.isAgg9
  z9 := Tryd.sizeOf9
  v9 := Tryd.zeroValue9
  t46 := Tryd.underlying79
  a46 := Tryd.isAgg79
  z46 := Tryd.sizeOf79
  v46 := Tryd.zeroValue79
  t51 := Tryd.underlying117
  a51 := Tryd.isAgg117
  z51 := Tryd.sizeOf117
  v51 := Tryd.zeroValue117
  t53 := Tryd.underlying119
  a53 := Tryd.isAgg119
  z53 := Tryd.sizeOf119
  v53 := Tryd.zeroValue119 }
/-- bits.Len: "Len returns the minimum number of bits required to represent x; the result is 0 for x == 0.": IT RETURNS 'Lib.bitLen x'; the world is as it was. (A uint has 64 bits in the model.) ITS CALLEE bits.Len64 IS MET BY ITS OWN CONTRACT OFF THE SHELF (lay that first). (LAID: no walk: one application.) -/
theorem Tryd.bits_Len (x : Int) (w : World) (h0 : 0 ≤ x) (h1 : x ≤ 18446744073709551615) :
    Calls Tryd.prog 55 #[.int .u64 x] w fun e w' => e = .returned (.int .i64 (Lib.bitLen x.toNat)) ∧ w' = w := Any.bits_Len Tryd.lays125 x w h0 h1
def Tryd.lays137_ren : Go.Shelf.Ren := ⟨fun | 137 => 110 | 217 => 70 | 266 => 95 | n => n, fun | 9 => 9 | 5 => 5 | 3 => 3 | n => n, fun | n => n⟩
theorem Tryd.lays137 : Go.Proofs.Lays.n137 Tryd.prog Tryd.lays137_ren := {
  mixed := by kernel_rfl
  f137 := Tryd.func110.trans (congrArg some (by kernel_rfl))
  f217 := Tryd.func70.trans (congrArg some (by kernel_rfl))
  f266 := Tryd.func95.trans (congrArg some (by kernel_rfl))
  t3 := Tryd.underlying3
  a3 := Tryd.isAgg3
  z3 := Tryd.sizeOf3
  v3 := Tryd.zeroValue3
  t5 := Tryd.underlying5
  a5 := Tryd.isAgg5
  z5 := Tryd.sizeOf5
  v5 := Tryd.zeroValue5
  t9 := Tryd.underlying9
  a9 := Tryd.isAgg9
  z9 := Tryd.sizeOf9
  v9 := Tryd.zeroValue9 }
open Go.RowKit in
/-- strings.IndexByte: "IndexByte returns the index of the first instance of c in s, or -1 if c is not present in s.": IT RETURNS 'Lib.indexByte s c'; the world is as it was. (LAID: no walk: one application.) -/
theorem Tryd.strings_IndexByte (s : ByteArray) (c : Int) (w : World) :
    Calls Tryd.prog 110 #[.string s, .int .u8 c] w fun e w' => e = .returned (.int .i64 (Lib.indexByte s.data.toList c.toNat.toUInt8)) ∧ w' = w := Any.strings_IndexByte Tryd.lays137 s c w
def Tryd.lays215_ren : Go.Shelf.Ren := ⟨fun | 215 => 56 | n => n, fun | 3 => 3 | 4 => 4 | n => n, fun | n => n⟩
theorem Tryd.lays215 : Go.Proofs.Lays.n215 Tryd.prog Tryd.lays215_ren := {
  mixed := by kernel_rfl
  f215 := Tryd.func56.trans (congrArg some (by kernel_rfl))
  t3 := Tryd.underlying3
  a3 := Tryd.isAgg3
  z3 := Tryd.sizeOf3
  v3 := Tryd.zeroValue3
  t4 := Tryd.underlying4
  a4 := Tryd.isAgg4
  z4 := Tryd.sizeOf4
  v4 := Tryd.zeroValue4 }
open Go.RowKit in
/-- cmp.isNaN at int: 'x != x': false. (LAID: no walk: one application.) -/
theorem Tryd.cmp_isNaN_int (x : Int) (w : World) :
    Calls Tryd.prog 56 #[.int .i64 x] w fun e w' => e = .returned (.bool false) ∧ w' = w := Any.cmp_isNaN_int Tryd.lays215 x w
def Tryd.lays122_ren : Go.Shelf.Ren := ⟨fun | 122 => 41 | 215 => 56 | n => n, fun | 3 => 3 | 4 => 4 | n => n, fun | n => n⟩
theorem Tryd.lays122 : Go.Proofs.Lays.n122 Tryd.prog Tryd.lays122_ren := {
  mixed := by kernel_rfl
  f122 := Tryd.func41.trans (congrArg some (by kernel_rfl))
  f215 := Tryd.func56.trans (congrArg some (by kernel_rfl))
  t3 := Tryd.underlying3
  a3 := Tryd.isAgg3
  z3 := Tryd.sizeOf3
  v3 := Tryd.zeroValue3
  t4 := Tryd.underlying4
  a4 := Tryd.isAgg4
  z4 := Tryd.sizeOf4
  v4 := Tryd.zeroValue4 }
open Go.RowKit in
/-- cmp.Compare at int: "Compare returns -1 if x is less than y, 0 if x equals y, +1 if x is greater than y.": IT RETURNS 'Lib.compareInt x y'; the world is as it was. (LAID: no walk: one application.) -/
theorem Tryd.cmp_Compare_int (x y : Int) (w : World) :
    Calls Tryd.prog 41 #[.int .i64 x, .int .i64 y] w fun e w' => e = .returned (.int .i64 (Lib.compareInt x y)) ∧ w' = w := Any.cmp_Compare_int Tryd.lays122 x y w
def Tryd.lays129_ren : Go.Shelf.Ren := ⟨fun | 129 => 87 | n => n, fun | 53 => 119 | 3 => 3 | 4 => 4 | 46 => 79 | 5 => 5 | 9 => 9 | n => n, fun | n => n⟩
theorem Tryd.lays129 : Go.Proofs.Lays.n129 Tryd.prog Tryd.lays129_ren := {
  mixed := by kernel_rfl
  f129 := Tryd.func87.trans (congrArg some (by kernel_rfl))
  t3 := Tryd.underlying3
  a3 := Tryd.isAgg3
  z3 := Tryd.sizeOf3
  v3 := Tryd.zeroValue3
  t4 := Tryd.underlying4
  a4 := Tryd.isAgg4
  z4 := Tryd.sizeOf4
  v4 := Tryd.zeroValue4
  t5 := Tryd.underlying5
  a5 := Tryd.isAgg5
  z5 := Tryd.sizeOf5
  v5 := Tryd.zeroValue5
  t9 := Tryd.underlying9
  a9 := Tryd.isAgg9
  z9 := Tryd.sizeOf9
  v9 := Tryd.zeroValue9
  t46 := Tryd.underlying79
  a46 := Tryd.isAgg79
  z46 := Tryd.sizeOf79
  v46 := Tryd.zeroValue79
  t53 := Tryd.underlying119
  a53 := Tryd.isAgg119
  z53 := Tryd.sizeOf119
  v53 := Tryd.zeroValue119 }
/-- bits.Len64: "Len64 returns the minimum number of bits required to represent x; the result is 0 for x == 0.": IT RETURNS 'Lib.bitLen x'; the world is as it was. ('h0', 'h1': x is a uint64.) (LAID: no walk: one application.) -/
theorem Tryd.bits_Len64 (x : Int) (w : World) (h0 : 0 ≤ x) (h1 : x ≤ 18446744073709551615) :
    Calls Tryd.prog 87 #[.int .u64 x] w fun e w' => e = .returned (.int .i64 (Lib.bitLen x.toNat)) ∧ w' = w := Any.bits_Len64 Tryd.lays129 x w h0 h1
def Tryd.lays217_ren : Go.Shelf.Ren := ⟨fun | 217 => 70 | 266 => 95 | n => n, fun | 9 => 9 | 5 => 5 | 3 => 3 | n => n, fun | n => n⟩
theorem Tryd.lays217 : Go.Proofs.Lays.n217 Tryd.prog Tryd.lays217_ren := {
  mixed := by kernel_rfl
  f217 := Tryd.func70.trans (congrArg some (by kernel_rfl))
  f266 := Tryd.func95.trans (congrArg some (by kernel_rfl))
  t3 := Tryd.underlying3
  a3 := Tryd.isAgg3
  z3 := Tryd.sizeOf3
  v3 := Tryd.zeroValue3
  t5 := Tryd.underlying5
  a5 := Tryd.isAgg5
  z5 := Tryd.sizeOf5
  v5 := Tryd.zeroValue5
  t9 := Tryd.underlying9
  a9 := Tryd.isAgg9
  z9 := Tryd.sizeOf9
  v9 := Tryd.zeroValue9 }
open Go.RowKit Go.Lib in
/-- internal/stringslite.IndexByte (what strings.IndexByte calls): IT RETURNS 'Lib.indexByte s c'; the world is as it was. (LAID: no walk: one application.) -/
theorem Tryd.stringslite_IndexByte (s : ByteArray) (c : Int) (w : World) :
    Calls Tryd.prog 70 #[.string s, .int .u8 c] w fun e w' => e = .returned (.int .i64 (Lib.indexByte s.data.toList c.toNat.toUInt8)) ∧ w' = w := Any.stringslite_IndexByte Tryd.lays217 s c w
def Tryd.lays224_ren : Go.Shelf.Ren := ⟨fun | 224 => 72 | n => n, fun | 3 => 3 | n => n, fun | n => n⟩
theorem Tryd.lays224 : Go.Proofs.Lays.n224 Tryd.prog Tryd.lays224_ren := {
  mixed := by kernel_rfl
  f224 := Tryd.func72.trans (congrArg some (by kernel_rfl))
  t3 := Tryd.underlying3
  a3 := Tryd.isAgg3
  z3 := Tryd.sizeOf3
  v3 := Tryd.zeroValue3 }
open Go.RowKit Go.Lib in
/-- internal/bytealg.Cutover: "Cutover reports the number of failures of IndexByte we should tolerate before switching over to Index. n is the number of bytes processed so far.": on amd64: (n + 16) / 8. (LAID: no walk: one application.) -/
theorem Tryd.bytealg_Cutover (n : Int) (h0 : 0 ≤ n) (h1 : n < 4611686018427387904) (w : World) :
    Calls Tryd.prog 72 #[.int .i64 n] w fun e w' => e = .returned (.int .i64 ((n + 16) / 8)) ∧ w' = w := Any.bytealg_Cutover Tryd.lays224 n h0 h1 w
def Tryd.lays314_ren : Go.Shelf.Ren := ⟨fun | 314 => 96 | n => n, fun | 9 => 9 | 51 => 117 | 3 => 3 | 4 => 4 | 5 => 5 | 46 => 79 | n => n, fun | n => n⟩
theorem Tryd.lays314 : Go.Proofs.Lays.n314 Tryd.prog Tryd.lays314_ren := {
  mixed := by kernel_rfl
  f314 := Tryd.func96.trans (congrArg some (by kernel_rfl))
  t3 := Tryd.underlying3
  a3 := Tryd.isAgg3
  z3 := Tryd.sizeOf3
  v3 := Tryd.zeroValue3
  t4 := Tryd.underlying4
  a4 := Tryd.isAgg4
  z4 := Tryd.sizeOf4
  v4 := Tryd.zeroValue4
  t5 := Tryd.underlying5
  a5 := Tryd.isAgg5
  z5 := Tryd.sizeOf5
  v5 := Tryd.zeroValue5
  t9 := Tryd.underlying9
  a9 := Tryd.isAgg9
  z9 := Tryd.sizeOf9
  v9 := Tryd.zeroValue9
  t46 := Tryd.underlying79
  a46 := Tryd.isAgg79
  z46 := Tryd.sizeOf79
  v46 := Tryd.zeroValue79
  t51 := Tryd.underlying117
  a51 := Tryd.isAgg117
  z51 := Tryd.sizeOf117
  v51 := Tryd.zeroValue117 }
open Go.RowKit Go.Lib in
/-- hashStr: "returns the hash and the appropriate multiplicative factor for use in Rabin-Karp algorithm": THE HASH OF ALL OF sep, AND 16777619 ^ len(sep), both in uint32. (LAID: no walk: one application.) -/
theorem Tryd.bytealg_hashStr (sep : ByteArray) (hs : sep.size < 4294967281) (w : World) :
    Calls Tryd.prog 96 #[.string sep] w fun e w' => e = .returned (.tuple #[.int .u32 (RK.H sep.data.toList % 4294967296), .int .u32 (16777619 ^ sep.size % 4294967296)]) ∧ w' = w := Any.bytealg_hashStr Tryd.lays314 sep hs w
def Tryd.lays267_ren : Go.Shelf.Ren := ⟨fun | 267 => 73 | 314 => 96 | n => n, fun | 9 => 9 | 3 => 3 | 146 => 125 | 51 => 117 | 4 => 4 | 5 => 5 | 46 => 79 | n => n, fun | n => n⟩
theorem Tryd.lays267 : Go.Proofs.Lays.n267 Tryd.prog Tryd.lays267_ren := {
  mixed := by kernel_rfl
  f267 := Tryd.func73.trans (congrArg some (by kernel_rfl))
  f314 := Tryd.func96.trans (congrArg some (by kernel_rfl))
  t3 := Tryd.underlying3
  a3 := Tryd.isAgg3
  z3 := Tryd.sizeOf3
  v3 := Tryd.zeroValue3
  t4 := Tryd.underlying4
  a4 := Tryd.isAgg4
  z4 := Tryd.sizeOf4
  v4 := Tryd.zeroValue4
  t5 := Tryd.underlying5
  a5 := Tryd.isAgg5
  z5 := Tryd.sizeOf5
  v5 := Tryd.zeroValue5
  t9 := Tryd.underlying9
  a9 := Tryd.isAgg9
  z9 := Tryd.sizeOf9
  v9 := Tryd.zeroValue9
  t46 := Tryd.underlying79
  a46 := Tryd.isAgg79
  z46 := Tryd.sizeOf79
  v46 := Tryd.zeroValue79
  t51 := Tryd.underlying117
  a51 := Tryd.isAgg117
  z51 := Tryd.sizeOf117
  v51 := Tryd.zeroValue117
  t146 := Tryd.underlying125
  a146 := Tryd.isAgg125
  z146 := Tryd.sizeOf125
  v146 := Tryd.zeroValue125 }
open Go.RowKit Go.Lib in
theorem Tryd.bytealg_IndexRabinKarp (s sep : ByteArray) (h1 : 1 ≤ sep.size) (h2 : sep.size ≤ s.size) (hs : s.size < 4294967281) (w : World) :
    Calls Tryd.prog 73 #[.string s, .string sep] w fun e w' => e = .returned (.int .i64 (Lib.index s.data.toList sep.data.toList)) ∧ w' = w := Any.bytealg_IndexRabinKarp Tryd.lays267 s sep h1 h2 hs w
def Tryd.lays219_ren : Go.Shelf.Ren := ⟨fun | 219 => 51 | 217 => 70 | 225 => 71 | 224 => 72 | 267 => 73 | 266 => 95 | 314 => 96 | n => n, fun | 9 => 9 | 3 => 3 | 4 => 4 | 5 => 5 | 46 => 79 | 146 => 125 | 51 => 117 | n => n, fun | 1 => 0 | n => n⟩
theorem Tryd.lays219 : Go.Proofs.Lays.n219 Tryd.prog Tryd.lays219_ren := {
  mixed := by kernel_rfl
  f217 := Tryd.func70.trans (congrArg some (by kernel_rfl))
  f219 := Tryd.func51.trans (congrArg some (by kernel_rfl))
  f224 := Tryd.func72.trans (congrArg some (by kernel_rfl))
  f225 := Tryd.func71.trans (congrArg some (by kernel_rfl))
  f266 := Tryd.func95.trans (congrArg some (by kernel_rfl))
  f267 := Tryd.func73.trans (congrArg some (by kernel_rfl))
  f314 := Tryd.func96.trans (congrArg some (by kernel_rfl))
  t3 := Tryd.underlying3
  a3 := Tryd.isAgg3
  z3 := Tryd.sizeOf3
  v3 := Tryd.zeroValue3
  t4 := Tryd.underlying4
  a4 := Tryd.isAgg4
  z4 := Tryd.sizeOf4
  v4 := Tryd.zeroValue4
  t5 := Tryd.underlying5
  a5 := Tryd.isAgg5
  z5 := Tryd.sizeOf5
  v5 := Tryd.zeroValue5
  t9 := Tryd.underlying9
  a9 := Tryd.isAgg9
  z9 := Tryd.sizeOf9
  v9 := Tryd.zeroValue9
  t46 := Tryd.underlying79
  a46 := Tryd.isAgg79
  z46 := Tryd.sizeOf79
  v46 := Tryd.zeroValue79
  t51 := Tryd.underlying117
  a51 := Tryd.isAgg117
  z51 := Tryd.sizeOf117
  v51 := Tryd.zeroValue117
  t146 := Tryd.underlying125
  a146 := Tryd.isAgg125
  z146 := Tryd.sizeOf125
  v146 := Tryd.zeroValue125
  g1 := by kernel_rfl }
open Go.RowKit Go.Lib in
/-- internal/stringslite.Index (what strings.Index calls) AT A substr OF ONE BYTE c: IT RETURNS 'Lib.indexByte s c'; the world is as it was. (LAID: no walk: one application.) -/
theorem Tryd.stringslite_Index_one (s : ByteArray) (c : UInt8) (w : World) :
    Calls Tryd.prog 51 #[.string s, .string ⟨#[c]⟩] w fun e w' => e = .returned (.int .i64 (Lib.indexByte s.data.toList c)) ∧ w' = w := Any.stringslite_Index_one Tryd.lays219 s c w
open Go.RowKit Go.Lib in
/-- internal/stringslite.Index (what strings.Index calls) AT A substr OF WHATEVER LENGTH: IT RETURNS 'Lib.index s substr'; the world is as it was. 'm': what internal/bytealg.MaxLen holds: whatever. (LAID: no walk: one application.) -/
theorem Tryd.stringslite_Index (s sub : ByteArray) (m : Int) (w : World) (hs : s.size < 4294967281) (hm : w.cell? ⟨0, 0, none⟩ = some (.int .i64 m)) :
    Calls Tryd.prog 51 #[.string s, .string sub] w fun e w' => e = .returned (.int .i64 (Lib.index s.data.toList sub.data.toList)) ∧ w' = w := Any.stringslite_Index Tryd.lays219 s sub m w hs hm
def Tryd.lays143_ren : Go.Shelf.Ren := ⟨fun | 143 => 33 | 219 => 51 | 217 => 70 | 225 => 71 | 224 => 72 | 267 => 73 | 266 => 95 | 314 => 96 | n => n, fun | 9 => 9 | 3 => 3 | 4 => 4 | 5 => 5 | 46 => 79 | 146 => 125 | 51 => 117 | n => n, fun | 1 => 0 | n => n⟩
theorem Tryd.lays143 : Go.Proofs.Lays.n143 Tryd.prog Tryd.lays143_ren := {
  mixed := by kernel_rfl
  f143 := Tryd.func33.trans (congrArg some (by kernel_rfl))
  f217 := Tryd.func70.trans (congrArg some (by kernel_rfl))
  f219 := Tryd.func51.trans (congrArg some (by kernel_rfl))
  f224 := Tryd.func72.trans (congrArg some (by kernel_rfl))
  f225 := Tryd.func71.trans (congrArg some (by kernel_rfl))
  f266 := Tryd.func95.trans (congrArg some (by kernel_rfl))
  f267 := Tryd.func73.trans (congrArg some (by kernel_rfl))
  f314 := Tryd.func96.trans (congrArg some (by kernel_rfl))
  t3 := Tryd.underlying3
  a3 := Tryd.isAgg3
  z3 := Tryd.sizeOf3
  v3 := Tryd.zeroValue3
  t4 := Tryd.underlying4
  a4 := Tryd.isAgg4
  z4 := Tryd.sizeOf4
  v4 := Tryd.zeroValue4
  t5 := Tryd.underlying5
  a5 := Tryd.isAgg5
  z5 := Tryd.sizeOf5
  v5 := Tryd.zeroValue5
  t9 := Tryd.underlying9
  a9 := Tryd.isAgg9
  z9 := Tryd.sizeOf9
  v9 := Tryd.zeroValue9
  t46 := Tryd.underlying79
  a46 := Tryd.isAgg79
  z46 := Tryd.sizeOf79
  v46 := Tryd.zeroValue79
  t51 := Tryd.underlying117
  a51 := Tryd.isAgg117
  z51 := Tryd.sizeOf117
  v51 := Tryd.zeroValue117
  t146 := Tryd.underlying125
  a146 := Tryd.isAgg125
  z146 := Tryd.sizeOf125
  v146 := Tryd.zeroValue125
  g1 := by kernel_rfl }
open Go.RowKit Go.Lib in
/-- strings.Index: "Index returns the index of the first instance of substr in s, or -1 if substr is not present in s.": AT A substr OF ONE BYTE c: IT RETURNS 'Lib.indexByte s c'; the world is as it was. (LAID: no walk: one application.) -/
theorem Tryd.strings_Index_one (s : ByteArray) (c : UInt8) (w : World) :
    Calls Tryd.prog 33 #[.string s, .string ⟨#[c]⟩] w fun e w' => e = .returned (.int .i64 (Lib.indexByte s.data.toList c)) ∧ w' = w := Any.strings_Index_one Tryd.lays143 s c w
open Go.RowKit Go.Lib in
/-- strings.Index: "Index returns the index of the first instance of substr in s, or -1 if substr is not present in s.": IT RETURNS 'Lib.index s substr'; the world is as it was. (LAID: no walk: one application.) -/
theorem Tryd.strings_Index (s sub : ByteArray) (m : Int) (w : World) (hs : s.size < 4294967281) (hm : w.cell? ⟨0, 0, none⟩ = some (.int .i64 m)) :
    Calls Tryd.prog 33 #[.string s, .string sub] w fun e w' => e = .returned (.int .i64 (Lib.index s.data.toList sub.data.toList)) ∧ w' = w := Any.strings_Index Tryd.lays143 s sub m w hs hm
def Tryd.lays138_ren : Go.Shelf.Ren := ⟨fun | 138 => 62 | 195 => 90 | 218 => 91 | 143 => 33 | 219 => 51 | 217 => 70 | 225 => 71 | 224 => 72 | 267 => 73 | 266 => 95 | 314 => 96 | n => n, fun | 9 => 9 | 3 => 3 | 4 => 4 | 5 => 5 | 0 => 0 | 46 => 79 | 146 => 125 | 51 => 117 | n => n, fun | 1 => 0 | n => n⟩
theorem Tryd.lays138 : Go.Proofs.Lays.n138 Tryd.prog Tryd.lays138_ren := {
  mixed := by kernel_rfl
  f138 := Tryd.func62.trans (congrArg some (by kernel_rfl))
  f143 := Tryd.func33.trans (congrArg some (by kernel_rfl))
  f195 := Tryd.func90.trans (congrArg some (by kernel_rfl))
  f217 := Tryd.func70.trans (congrArg some (by kernel_rfl))
  f218 := Tryd.func91.trans (congrArg some (by kernel_rfl))
  f219 := Tryd.func51.trans (congrArg some (by kernel_rfl))
  f224 := Tryd.func72.trans (congrArg some (by kernel_rfl))
  f225 := Tryd.func71.trans (congrArg some (by kernel_rfl))
  f266 := Tryd.func95.trans (congrArg some (by kernel_rfl))
  f267 := Tryd.func73.trans (congrArg some (by kernel_rfl))
  f314 := Tryd.func96.trans (congrArg some (by kernel_rfl))
  t0 := Tryd.underlying0
  a0 := Tryd.isAgg0
  z0 := Tryd.sizeOf0
  v0 := Tryd.zeroValue0
  t3 := Tryd.underlying3
  a3 := Tryd.isAgg3
  z3 := Tryd.sizeOf3
  v3 := Tryd.zeroValue3
  t4 := Tryd.underlying4
  a4 := Tryd.isAgg4
  z4 := Tryd.sizeOf4
  v4 := Tryd.zeroValue4
  t5 := Tryd.underlying5
  a5 := Tryd.isAgg5
  z5 := Tryd.sizeOf5
  v5 := Tryd.zeroValue5
  t9 := Tryd.underlying9
  a9 := Tryd.isAgg9
  z9 := Tryd.sizeOf9
  v9 := Tryd.zeroValue9
  t46 := Tryd.underlying79
  a46 := Tryd.isAgg79
  z46 := Tryd.sizeOf79
  v46 := Tryd.zeroValue79
  t51 := Tryd.underlying117
  a51 := Tryd.isAgg117
  z51 := Tryd.sizeOf117
  v51 := Tryd.zeroValue117
  t146 := Tryd.underlying125
  a146 := Tryd.isAgg125
  z146 := Tryd.sizeOf125
  v146 := Tryd.zeroValue125
  g1 := by kernel_rfl }
open Go.RowKit Go.Lib in
/-- strings.Count AT A substr OF ONE BYTE ('hp'): "Count counts the number of non-overlapping instances of substr in s.": IT RETURNS 'Lib.countByte s (that byte)'; the world is as it was. ✋ NO CONTRACT HERE YET at an empty substr (utf8.RuneCountInString) or at a longer one (a loop over strings.Index). (LAID: no walk: one application.) -/
theorem Tryd.strings_Count_one (s : ByteArray) (c : UInt8) (w : World) :
    Calls Tryd.prog 62 #[.string s, .string ⟨#[c]⟩] w fun e w' => e = .returned (.int .i64 (Lib.countByte s.data.toList c)) ∧ w' = w := Any.strings_Count_one Tryd.lays138 s c w
open Go.RowKit Go.Lib in
/-- strings.Count AT A substr OF TWO BYTES OR MORE: "Count counts the number of non-overlapping instances of substr in s.": IT RETURNS 'Lib.count s substr'; the world is as it was. (LAID: no walk: one application.) -/
theorem Tryd.strings_Count (s sub : ByteArray) (m : Int) (w : World) (hs : s.size < 4294967281) (hm : w.cell? ⟨0, 0, none⟩ = some (.int .i64 m)) (h2 : 2 ≤ sub.size) :
    Calls Tryd.prog 62 #[.string s, .string sub] w fun e w' => e = .returned (.int .i64 (Lib.countB s sub)) ∧ w' = w := Any.strings_Count Tryd.lays138 s sub m w hs hm h2
def Tryd.laysM219_ren : Go.Shelf.Ren := ⟨fun | 219 => 51 | 217 => 70 | 225 => 71 | 224 => 72 | 267 => 73 | 266 => 95 | 314 => 96 | n => n, fun | 9 => 9 | 3 => 3 | 4 => 4 | 5 => 5 | 46 => 79 | 146 => 125 | 51 => 117 | n => n, fun | 1 => 0 | n => n⟩
theorem Tryd.laysM219 : Go.Proofs.LaysM.n219 Tryd.prog Tryd.laysM219_ren := {
  mixed := by kernel_rfl
  f217 := Tryd.func70.trans (congrArg some (by kernel_rfl))
  f219 := Tryd.func51.trans (congrArg some (by kernel_rfl))
  f224 := Tryd.func72.trans (congrArg some (by kernel_rfl))
  f225 := Tryd.func71.trans (congrArg some (by kernel_rfl))
  f266 := Tryd.func95.trans (congrArg some (by kernel_rfl))
  f267 := Tryd.func73.trans (congrArg some (by kernel_rfl))
  f314 := Tryd.func96.trans (congrArg some (by kernel_rfl))
  t3 := Tryd.underlying3
  a3 := Tryd.isAgg3
  z3 := Tryd.sizeOf3
  v3 := Tryd.zeroValue3
  t4 := Tryd.underlying4
  a4 := Tryd.isAgg4
  z4 := Tryd.sizeOf4
  v4 := Tryd.zeroValue4
  t5 := Tryd.underlying5
  a5 := Tryd.isAgg5
  z5 := Tryd.sizeOf5
  v5 := Tryd.zeroValue5
  t9 := Tryd.underlying9
  a9 := Tryd.isAgg9
  z9 := Tryd.sizeOf9
  v9 := Tryd.zeroValue9
  t46 := Tryd.underlying79
  a46 := Tryd.isAgg79
  z46 := Tryd.sizeOf79
  v46 := Tryd.zeroValue79
  t51 := Tryd.underlying117
  a51 := Tryd.isAgg117
  z51 := Tryd.sizeOf117
  v51 := Tryd.zeroValue117
  t146 := Tryd.underlying125
  a146 := Tryd.isAgg125
  z146 := Tryd.sizeOf125
  v146 := Tryd.zeroValue125
  g1 := by kernel_rfl
  i3 := by kernel_rfl
  i4 := by kernel_rfl
  i5 := by kernel_rfl
  i9 := by kernel_rfl
  i46 := by kernel_rfl
  i51 := by kernel_rfl
  i146 := by kernel_rfl
  m1 := by kernel_rfl
  s1_3 := fun w h => Go.Proofs.cell_of_shapedOpen_int (zero := #[.int .i64 0]) (t := 3) h (of_decide_eq_true (by kernel_rfl)) (by kernel_rfl) rfl (by kernel_rfl) (by kernel_rfl) Tryd.underlying3 }
open Go.RowKit Go.Lib in
theorem Tryd.stringslite_Index_shaped (s sub : ByteArray) (w : World) (h : w.ShapedOpen Tryd.prog) (hs : s.size < 4294967281) :
    Calls Tryd.prog 51 #[.string s, .string sub] w fun e w' => e = .returned (.int .i64 (Lib.index s.data.toList sub.data.toList)) ∧ w' = w := Any.stringslite_Index_shaped Tryd.laysM219 s sub w h hs
def Tryd.laysM143_ren : Go.Shelf.Ren := ⟨fun | 143 => 33 | 219 => 51 | 217 => 70 | 225 => 71 | 224 => 72 | 267 => 73 | 266 => 95 | 314 => 96 | n => n, fun | 9 => 9 | 3 => 3 | 4 => 4 | 5 => 5 | 46 => 79 | 146 => 125 | 51 => 117 | n => n, fun | 1 => 0 | n => n⟩
theorem Tryd.laysM143 : Go.Proofs.LaysM.n143 Tryd.prog Tryd.laysM143_ren := {
  mixed := by kernel_rfl
  f143 := Tryd.func33.trans (congrArg some (by kernel_rfl))
  f217 := Tryd.func70.trans (congrArg some (by kernel_rfl))
  f219 := Tryd.func51.trans (congrArg some (by kernel_rfl))
  f224 := Tryd.func72.trans (congrArg some (by kernel_rfl))
  f225 := Tryd.func71.trans (congrArg some (by kernel_rfl))
  f266 := Tryd.func95.trans (congrArg some (by kernel_rfl))
  f267 := Tryd.func73.trans (congrArg some (by kernel_rfl))
  f314 := Tryd.func96.trans (congrArg some (by kernel_rfl))
  t3 := Tryd.underlying3
  a3 := Tryd.isAgg3
  z3 := Tryd.sizeOf3
  v3 := Tryd.zeroValue3
  t4 := Tryd.underlying4
  a4 := Tryd.isAgg4
  z4 := Tryd.sizeOf4
  v4 := Tryd.zeroValue4
  t5 := Tryd.underlying5
  a5 := Tryd.isAgg5
  z5 := Tryd.sizeOf5
  v5 := Tryd.zeroValue5
  t9 := Tryd.underlying9
  a9 := Tryd.isAgg9
  z9 := Tryd.sizeOf9
  v9 := Tryd.zeroValue9
  t46 := Tryd.underlying79
  a46 := Tryd.isAgg79
  z46 := Tryd.sizeOf79
  v46 := Tryd.zeroValue79
  t51 := Tryd.underlying117
  a51 := Tryd.isAgg117
  z51 := Tryd.sizeOf117
  v51 := Tryd.zeroValue117
  t146 := Tryd.underlying125
  a146 := Tryd.isAgg125
  z146 := Tryd.sizeOf125
  v146 := Tryd.zeroValue125
  g1 := by kernel_rfl
  i3 := by kernel_rfl
  i4 := by kernel_rfl
  i5 := by kernel_rfl
  i9 := by kernel_rfl
  i46 := by kernel_rfl
  i51 := by kernel_rfl
  i146 := by kernel_rfl
  m1 := by kernel_rfl
  s1_3 := fun w h => Go.Proofs.cell_of_shapedOpen_int (zero := #[.int .i64 0]) (t := 3) h (of_decide_eq_true (by kernel_rfl)) (by kernel_rfl) rfl (by kernel_rfl) (by kernel_rfl) Tryd.underlying3 }
open Go.RowKit Go.Lib in
theorem Tryd.strings_Index_shaped (s sub : ByteArray) (w : World) (h : w.ShapedOpen Tryd.prog) (hs : s.size < 4294967281) :
    Calls Tryd.prog 33 #[.string s, .string sub] w fun e w' => e = .returned (.int .i64 (Lib.index s.data.toList sub.data.toList)) ∧ w' = w := Any.strings_Index_shaped Tryd.laysM143 s sub w h hs
def Tryd.laysM138_ren : Go.Shelf.Ren := ⟨fun | 138 => 62 | 195 => 90 | 218 => 91 | 143 => 33 | 219 => 51 | 217 => 70 | 225 => 71 | 224 => 72 | 267 => 73 | 266 => 95 | 314 => 96 | n => n, fun | 9 => 9 | 3 => 3 | 4 => 4 | 5 => 5 | 0 => 0 | 46 => 79 | 146 => 125 | 51 => 117 | n => n, fun | 1 => 0 | n => n⟩
theorem Tryd.laysM138 : Go.Proofs.LaysM.n138 Tryd.prog Tryd.laysM138_ren := {
  mixed := by kernel_rfl
  f138 := Tryd.func62.trans (congrArg some (by kernel_rfl))
  f143 := Tryd.func33.trans (congrArg some (by kernel_rfl))
  f195 := Tryd.func90.trans (congrArg some (by kernel_rfl))
  f217 := Tryd.func70.trans (congrArg some (by kernel_rfl))
  f218 := Tryd.func91.trans (congrArg some (by kernel_rfl))
  f219 := Tryd.func51.trans (congrArg some (by kernel_rfl))
  f224 := Tryd.func72.trans (congrArg some (by kernel_rfl))
  f225 := Tryd.func71.trans (congrArg some (by kernel_rfl))
  f266 := Tryd.func95.trans (congrArg some (by kernel_rfl))
  f267 := Tryd.func73.trans (congrArg some (by kernel_rfl))
  f314 := Tryd.func96.trans (congrArg some (by kernel_rfl))
  t0 := Tryd.underlying0
  a0 := Tryd.isAgg0
  z0 := Tryd.sizeOf0
  v0 := Tryd.zeroValue0
  t3 := Tryd.underlying3
  a3 := Tryd.isAgg3
  z3 := Tryd.sizeOf3
  v3 := Tryd.zeroValue3
  t4 := Tryd.underlying4
  a4 := Tryd.isAgg4
  z4 := Tryd.sizeOf4
  v4 := Tryd.zeroValue4
  t5 := Tryd.underlying5
  a5 := Tryd.isAgg5
  z5 := Tryd.sizeOf5
  v5 := Tryd.zeroValue5
  t9 := Tryd.underlying9
  a9 := Tryd.isAgg9
  z9 := Tryd.sizeOf9
  v9 := Tryd.zeroValue9
  t46 := Tryd.underlying79
  a46 := Tryd.isAgg79
  z46 := Tryd.sizeOf79
  v46 := Tryd.zeroValue79
  t51 := Tryd.underlying117
  a51 := Tryd.isAgg117
  z51 := Tryd.sizeOf117
  v51 := Tryd.zeroValue117
  t146 := Tryd.underlying125
  a146 := Tryd.isAgg125
  z146 := Tryd.sizeOf125
  v146 := Tryd.zeroValue125
  g1 := by kernel_rfl
  i0 := by kernel_rfl
  i3 := by kernel_rfl
  i4 := by kernel_rfl
  i5 := by kernel_rfl
  i9 := by kernel_rfl
  i46 := by kernel_rfl
  i51 := by kernel_rfl
  i146 := by kernel_rfl
  m1 := by kernel_rfl
  s1_3 := fun w h => Go.Proofs.cell_of_shapedOpen_int (zero := #[.int .i64 0]) (t := 3) h (of_decide_eq_true (by kernel_rfl)) (by kernel_rfl) rfl (by kernel_rfl) (by kernel_rfl) Tryd.underlying3 }
open Go.RowKit Go.Lib in
theorem Tryd.strings_Count_shaped (s sub : ByteArray) (w : World) (h : w.ShapedOpen Tryd.prog) (hs : s.size < 4294967281) (h2 : 2 ≤ sub.size) :
    Calls Tryd.prog 62 #[.string s, .string sub] w fun e w' => e = .returned (.int .i64 (Lib.countB s sub)) ∧ w' = w := Any.strings_Count_shaped Tryd.laysM138 s sub w h hs h2
open Go.RowKit Go.Lib in
/-- strings.Count at whatever sep that is not empty: the two roads under one statement. (LAID: no walk: one application.) -/
theorem Tryd.strings_Count_any (s sep : ByteArray) (m : Int) (w : World) (hs : s.size < 4294967281) (hm : w.cell? ⟨0, 0, none⟩ = some (.int .i64 m)) (h1 : 1 ≤ sep.size) :
    Calls Tryd.prog 62 #[.string s, .string sep] w fun e w' => e = .returned (.int .i64 (Lib.countB s sep)) ∧ w' = w := Any.strings_Count_any Tryd.lays138 s sep m w hs hm h1
def Tryd.lays221_ren : Go.Shelf.Ren := ⟨fun | 221 => 47 | 268 => 61 | 138 => 62 | 143 => 33 | 195 => 90 | 197 => 76 | 218 => 91 | 219 => 51 | 260 => 99 | 217 => 70 | 225 => 71 | 224 => 72 | 267 => 73 | 266 => 95 | 314 => 96 | n => n, fun | 9 => 9 | 3 => 3 | 31 => 37 | 4 => 4 | 0 => 0 | 105 => 106 | 21 => 21 | 5 => 5 | 46 => 79 | 119 => 138 | 139 => 141 | 138 => 140 | 146 => 125 | 51 => 117 | n => n, fun | 1 => 0 | 3 => 1 | 4 => 2 | n => n⟩
theorem Tryd.lays221 : Go.Proofs.Lays.n221 Tryd.prog Tryd.lays221_ren := {
  mixed := by kernel_rfl
  f138 := Tryd.func62.trans (congrArg some (by kernel_rfl))
  f143 := Tryd.func33.trans (congrArg some (by kernel_rfl))
  f195 := Tryd.func90.trans (congrArg some (by kernel_rfl))
  f197 := Tryd.func76.trans (congrArg some (by kernel_rfl))
  f217 := Tryd.func70.trans (congrArg some (by kernel_rfl))
  f218 := Tryd.func91.trans (congrArg some (by kernel_rfl))
  f219 := Tryd.func51.trans (congrArg some (by kernel_rfl))
  f221 := Tryd.func47.trans (congrArg some (by kernel_rfl))
  f224 := Tryd.func72.trans (congrArg some (by kernel_rfl))
  f225 := Tryd.func71.trans (congrArg some (by kernel_rfl))
  f260 := Tryd.func99.trans (congrArg some (by kernel_rfl))
  f266 := Tryd.func95.trans (congrArg some (by kernel_rfl))
  f267 := Tryd.func73.trans (congrArg some (by kernel_rfl))
  f268 := Tryd.func61.trans (congrArg some (by kernel_rfl))
  f314 := Tryd.func96.trans (congrArg some (by kernel_rfl))
  t0 := Tryd.underlying0
  a0 := Tryd.isAgg0
  z0 := Tryd.sizeOf0
  v0 := Tryd.zeroValue0
  t3 := Tryd.underlying3
  a3 := Tryd.isAgg3
  z3 := Tryd.sizeOf3
  v3 := Tryd.zeroValue3
  t4 := Tryd.underlying4
  a4 := Tryd.isAgg4
  z4 := Tryd.sizeOf4
  v4 := Tryd.zeroValue4
  t5 := Tryd.underlying5
  a5 := Tryd.isAgg5
  z5 := Tryd.sizeOf5
  v5 := Tryd.zeroValue5
  t9 := Tryd.underlying9
  a9 := Tryd.isAgg9
  z9 := Tryd.sizeOf9
  v9 := Tryd.zeroValue9
  t21 := Tryd.underlying21
  a21 := Tryd.isAgg21
  z21 := Tryd.sizeOf21
  v21 := Tryd.zeroValue21
  t31 := Tryd.underlying37
  a31 := Tryd.isAgg37
  z31 := Tryd.sizeOf37
  v31 := Tryd.zeroValue37
  t46 := Tryd.underlying79
  a46 := Tryd.isAgg79
  z46 := Tryd.sizeOf79
  v46 := Tryd.zeroValue79
  t51 := Tryd.underlying117
  a51 := Tryd.isAgg117
  z51 := Tryd.sizeOf117
  v51 := Tryd.zeroValue117
  t105 := Tryd.underlying106
  a105 := Tryd.isAgg106
  z105 := Tryd.sizeOf106
  v105 := Tryd.zeroValue106
  t119 := Tryd.underlying138
  a119 := Tryd.isAgg138
  z119 := Tryd.sizeOf138
  t138 := Tryd.underlying140
  a138 := Tryd.isAgg140
  z138 := Tryd.sizeOf140
  v138 := Tryd.zeroValue140
  t139 := Tryd.underlying141
  a139 := Tryd.isAgg141
  z139 := Tryd.sizeOf141
  v139 := Tryd.zeroValue141
  t146 := Tryd.underlying125
  a146 := Tryd.isAgg125
  z146 := Tryd.sizeOf125
  v146 := Tryd.zeroValue125
  g1 := by kernel_rfl
  g3 := by kernel_rfl
  g4 := by kernel_rfl }
open Go.RowKit Go.Lib in
theorem Tryd.strings_genSplit (s sep : ByteArray) (sv : Nat) (n : Int) (N : Nat) (m : Int) (w : World) (hs : s.size < 4294967281) (hm : w.cell? ⟨0, 0, none⟩ = some (.int .i64 m)) (h1 : 1 ≤ sep.size) (hsv : sv ≤ sep.size) (hn0 : n ≠ 0) (hn63 : n ≤ 9223372036854775807) (hN : (N : Int) = min (if n < 0 then (Lib.countB s sep : Int) + 1 else n) ((s.size : Int) + 1)) :
    Calls Tryd.prog 47 #[.string s, .string sep, .int .i64 sv, .int .i64 n] w fun e w' =>
      e = .returned (.slice (some ⟨w.heap.size, 0, none⟩) (Lib.splitB sep sv (N - 1) s).length N) ∧ w' = w.alloc (.cells (Lib.cellsOf (Lib.splitB sep sv (N - 1) s) N) 9) := Any.strings_genSplit Tryd.lays221 (by kernel_rfl) s sep sv n N m w hs hm h1 hsv hn0 hn63 hN
def Tryd.lays146_ren : Go.Shelf.Ren := ⟨fun | 146 => 29 | 221 => 47 | 268 => 61 | 138 => 62 | 143 => 33 | 195 => 90 | 197 => 76 | 218 => 91 | 219 => 51 | 260 => 99 | 217 => 70 | 225 => 71 | 224 => 72 | 267 => 73 | 266 => 95 | 314 => 96 | n => n, fun | 9 => 9 | 31 => 37 | 3 => 3 | 4 => 4 | 0 => 0 | 105 => 106 | 21 => 21 | 5 => 5 | 46 => 79 | 119 => 138 | 139 => 141 | 138 => 140 | 146 => 125 | 51 => 117 | n => n, fun | 1 => 0 | 3 => 1 | 4 => 2 | n => n⟩
theorem Tryd.lays146 : Go.Proofs.Lays.n146 Tryd.prog Tryd.lays146_ren := {
  mixed := by kernel_rfl
  f138 := Tryd.func62.trans (congrArg some (by kernel_rfl))
  f143 := Tryd.func33.trans (congrArg some (by kernel_rfl))
  f146 := Tryd.func29.trans (congrArg some (by kernel_rfl))
  f195 := Tryd.func90.trans (congrArg some (by kernel_rfl))
  f197 := Tryd.func76.trans (congrArg some (by kernel_rfl))
  f217 := Tryd.func70.trans (congrArg some (by kernel_rfl))
  f218 := Tryd.func91.trans (congrArg some (by kernel_rfl))
  f219 := Tryd.func51.trans (congrArg some (by kernel_rfl))
  f221 := Tryd.func47.trans (congrArg some (by kernel_rfl))
  f224 := Tryd.func72.trans (congrArg some (by kernel_rfl))
  f225 := Tryd.func71.trans (congrArg some (by kernel_rfl))
  f260 := Tryd.func99.trans (congrArg some (by kernel_rfl))
  f266 := Tryd.func95.trans (congrArg some (by kernel_rfl))
  f267 := Tryd.func73.trans (congrArg some (by kernel_rfl))
  f268 := Tryd.func61.trans (congrArg some (by kernel_rfl))
  f314 := Tryd.func96.trans (congrArg some (by kernel_rfl))
  t0 := Tryd.underlying0
  a0 := Tryd.isAgg0
  z0 := Tryd.sizeOf0
  v0 := Tryd.zeroValue0
  t3 := Tryd.underlying3
  a3 := Tryd.isAgg3
  z3 := Tryd.sizeOf3
  v3 := Tryd.zeroValue3
  t4 := Tryd.underlying4
  a4 := Tryd.isAgg4
  z4 := Tryd.sizeOf4
  v4 := Tryd.zeroValue4
  t5 := Tryd.underlying5
  a5 := Tryd.isAgg5
  z5 := Tryd.sizeOf5
  v5 := Tryd.zeroValue5
  t9 := Tryd.underlying9
  a9 := Tryd.isAgg9
  z9 := Tryd.sizeOf9
  v9 := Tryd.zeroValue9
  t21 := Tryd.underlying21
  a21 := Tryd.isAgg21
  z21 := Tryd.sizeOf21
  v21 := Tryd.zeroValue21
  t31 := Tryd.underlying37
  a31 := Tryd.isAgg37
  z31 := Tryd.sizeOf37
  v31 := Tryd.zeroValue37
  t46 := Tryd.underlying79
  a46 := Tryd.isAgg79
  z46 := Tryd.sizeOf79
  v46 := Tryd.zeroValue79
  t51 := Tryd.underlying117
  a51 := Tryd.isAgg117
  z51 := Tryd.sizeOf117
  v51 := Tryd.zeroValue117
  t105 := Tryd.underlying106
  a105 := Tryd.isAgg106
  z105 := Tryd.sizeOf106
  v105 := Tryd.zeroValue106
  t119 := Tryd.underlying138
  a119 := Tryd.isAgg138
  z119 := Tryd.sizeOf138
  t138 := Tryd.underlying140
  a138 := Tryd.isAgg140
  z138 := Tryd.sizeOf140
  v138 := Tryd.zeroValue140
  t139 := Tryd.underlying141
  a139 := Tryd.isAgg141
  z139 := Tryd.sizeOf141
  v139 := Tryd.zeroValue141
  t146 := Tryd.underlying125
  a146 := Tryd.isAgg125
  z146 := Tryd.sizeOf125
  v146 := Tryd.zeroValue125
  g1 := by kernel_rfl
  g3 := by kernel_rfl
  g4 := by kernel_rfl }
open Go.RowKit Go.Lib in
/-- strings.Split. (LAID: no walk: one application.) -/
theorem Tryd.strings_Split (s sep : ByteArray) (m : Int) (w : World) (hs : s.size < 4294967281) (hm : w.cell? ⟨0, 0, none⟩ = some (.int .i64 m)) (h1 : 1 ≤ sep.size) :
    Calls Tryd.prog 29 #[.string s, .string sep] w fun e w' =>
      e = .returned (.slice (some ⟨w.heap.size, 0, none⟩) (Lib.countB s sep + 1) (Lib.countB s sep + 1)) ∧ w' = w.alloc (.cells ((Lib.splitB sep 0 (Lib.countB s sep) s).map Value.string).toArray 9) := Any.strings_Split Tryd.lays146 (by kernel_rfl) s sep m w hs hm h1
def Tryd.lays154_ren : Go.Shelf.Ren := ⟨fun | 154 => 52 | 138 => 62 | 165 => 74 | 143 => 33 | 166 => 75 | 197 => 76 | 169 => 77 | 195 => 90 | 218 => 91 | 240 => 97 | 241 => 98 | 219 => 51 | 260 => 99 | 276 => 107 | 277 => 108 | 217 => 70 | 225 => 71 | 224 => 72 | 267 => 73 | 266 => 95 | 314 => 96 | n => n, fun | 9 => 9 | 3 => 3 | 4 => 4 | 72 => 100 | 0 => 0 | 76 => 104 | 105 => 106 | 21 => 21 | 5 => 5 | 70 => 97 | 20 => 20 | 37 => 98 | 75 => 103 | 127 => 127 | 164 => 135 | 46 => 79 | 119 => 138 | 139 => 141 | 138 => 140 | 146 => 125 | 51 => 117 | 80 => 71 | n => n, fun | 1 => 0 | 3 => 1 | 4 => 2 | n => n⟩
theorem Tryd.lays154 : Go.Proofs.Lays.n154 Tryd.prog Tryd.lays154_ren := {
  mixed := by kernel_rfl
  f138 := Tryd.func62.trans (congrArg some (by kernel_rfl))
  f143 := Tryd.func33.trans (congrArg some (by kernel_rfl))
  f154 := Tryd.func52.trans (congrArg some (by kernel_rfl))
  f165 := Tryd.func74.trans (congrArg some (by kernel_rfl))
  f166 := Tryd.func75.trans (congrArg some (by kernel_rfl))
  f169 := Tryd.func77.trans (congrArg some (by kernel_rfl))
  f195 := Tryd.func90.trans (congrArg some (by kernel_rfl))
  f197 := Tryd.func76.trans (congrArg some (by kernel_rfl))
  f217 := Tryd.func70.trans (congrArg some (by kernel_rfl))
  f218 := Tryd.func91.trans (congrArg some (by kernel_rfl))
  f219 := Tryd.func51.trans (congrArg some (by kernel_rfl))
  f224 := Tryd.func72.trans (congrArg some (by kernel_rfl))
  f225 := Tryd.func71.trans (congrArg some (by kernel_rfl))
  f240 := Tryd.func97.trans (congrArg some (by kernel_rfl))
  f241 := Tryd.func98.trans (congrArg some (by kernel_rfl))
  f260 := Tryd.func99.trans (congrArg some (by kernel_rfl))
  f266 := Tryd.func95.trans (congrArg some (by kernel_rfl))
  f267 := Tryd.func73.trans (congrArg some (by kernel_rfl))
  f276 := Tryd.func107.trans (congrArg some (by kernel_rfl))
  f277 := Tryd.func108.trans (congrArg some (by kernel_rfl))
  f314 := Tryd.func96.trans (congrArg some (by kernel_rfl))
  t0 := Tryd.underlying0
  a0 := Tryd.isAgg0
  z0 := Tryd.sizeOf0
  v0 := Tryd.zeroValue0
  t3 := Tryd.underlying3
  a3 := Tryd.isAgg3
  z3 := Tryd.sizeOf3
  v3 := Tryd.zeroValue3
  t4 := Tryd.underlying4
  a4 := Tryd.isAgg4
  z4 := Tryd.sizeOf4
  v4 := Tryd.zeroValue4
  t5 := Tryd.underlying5
  a5 := Tryd.isAgg5
  z5 := Tryd.sizeOf5
  v5 := Tryd.zeroValue5
  t9 := Tryd.underlying9
  a9 := Tryd.isAgg9
  z9 := Tryd.sizeOf9
  v9 := Tryd.zeroValue9
  t20 := Tryd.underlying20
  a20 := Tryd.isAgg20
  z20 := Tryd.sizeOf20
  v20 := Tryd.zeroValue20
  t21 := Tryd.underlying21
  a21 := Tryd.isAgg21
  z21 := Tryd.sizeOf21
  v21 := Tryd.zeroValue21
  t37 := Tryd.underlying98
  a37 := Tryd.isAgg98
  z37 := Tryd.sizeOf98
  v37 := Tryd.zeroValue98
  t46 := Tryd.underlying79
  a46 := Tryd.isAgg79
  z46 := Tryd.sizeOf79
  v46 := Tryd.zeroValue79
  t51 := Tryd.underlying117
  a51 := Tryd.isAgg117
  z51 := Tryd.sizeOf117
  v51 := Tryd.zeroValue117
  t70 := Tryd.underlying97
  a70 := Tryd.isAgg97
  z70 := Tryd.sizeOf97
  v70 := Tryd.zeroValue97
  t72 := Tryd.underlying100
  a72 := Tryd.isAgg100
  z72 := Tryd.sizeOf100
  v72 := Tryd.zeroValue100
  t75 := Tryd.underlying103
  a75 := Tryd.isAgg103
  z75 := Tryd.sizeOf103
  v75 := Tryd.zeroValue103
  t76 := Tryd.underlying104
  a76 := Tryd.isAgg104
  z76 := Tryd.sizeOf104
  v76 := Tryd.zeroValue104
  t105 := Tryd.underlying106
  a105 := Tryd.isAgg106
  z105 := Tryd.sizeOf106
  v105 := Tryd.zeroValue106
  t119 := Tryd.underlying138
  a119 := Tryd.isAgg138
  z119 := Tryd.sizeOf138
  t127 := Tryd.underlying127
  a127 := Tryd.isAgg127
  z127 := Tryd.sizeOf127
  v127 := Tryd.zeroValue127
  t138 := Tryd.underlying140
  a138 := Tryd.isAgg140
  z138 := Tryd.sizeOf140
  v138 := Tryd.zeroValue140
  t139 := Tryd.underlying141
  a139 := Tryd.isAgg141
  z139 := Tryd.sizeOf141
  v139 := Tryd.zeroValue141
  t146 := Tryd.underlying125
  a146 := Tryd.isAgg125
  z146 := Tryd.sizeOf125
  v146 := Tryd.zeroValue125
  t164 := Tryd.underlying135
  a164 := Tryd.isAgg135
  z164 := Tryd.sizeOf135
  v164 := Tryd.zeroValue135
  g1 := by kernel_rfl
  g3 := by kernel_rfl
  g4 := by kernel_rfl }
theorem Tryd.Builder_Extra_154 : Builder.Extra Tryd.prog Tryd.lays154_ren := {
  sizeBuilder := by kernel_rfl
  liesBuilder := by kernel_rfl
  t5 := Tryd.underlying5
  a5 := Tryd.isAgg5
  z5 := Tryd.sizeOf5
  v5 := Tryd.zeroValue5
  infoByte := by kernel_rfl
  cellsByte := by kernel_rfl
  sizeByte := by kernel_rfl
  neB5 := by decide }
open Go.RowKit Go.Lib in
/-- WHERE SOMETHING IS REPLACED: old is not new, n is not 0, there is an instance. (LAID: no walk: one application.) -/
theorem Tryd.strings_Replace_some (s old new : ByteArray) (n : Int) (m : Int) (w : World) (hs : s.size < 4294967281) (hm : w.cell? ⟨0, 0, none⟩ = some (.int .i64 m)) (h1 : 1 ≤ old.size) (hne : old ≠ new) (hn0 : n ≠ 0) (hc0 : Lib.countB s old ≠ 0) (hlen : s.size + Lib.countB s old * new.size ≤ 140737488355328) :
    Calls Tryd.prog 52 #[.string s, .string old, .string new, .int .i64 n] w fun e w' =>
      e = .returned (.string ⟨(Lib.replaceK old.data.toList new.data.toList (Lib.replaceNum s.data.toList old.data.toList n) s.data.toList).toArray⟩) ∧ Below w.heap.size w w' := Any.strings_Replace_some Tryd.lays154 Tryd.Builder_Extra_154 s old new n m w hs hm h1 hne hn0 hc0 hlen
open Go.RowKit Go.Lib in
/-- 'if old == new || n == 0 { return s }'. (LAID: no walk: one application.) -/
theorem Tryd.strings_Replace_none (s old new : ByteArray) (n : Int) (w : World) (h : old = new ∨ n = 0) :
    Calls Tryd.prog 52 #[.string s, .string old, .string new, .int .i64 n] w fun e w' => e = .returned (.string s) ∧ w' = w := Any.strings_Replace_none Tryd.lays154 s old new n w h
open Go.RowKit Go.Lib in
/-- 'if m := Count(s, old); m == 0 { return s }'. (LAID: no walk: one application.) -/
theorem Tryd.strings_Replace_absent (s old new : ByteArray) (n : Int) (m : Int) (w : World) (hs : s.size < 4294967281) (hm : w.cell? ⟨0, 0, none⟩ = some (.int .i64 m)) (h1 : 1 ≤ old.size) (hne : old ≠ new) (hn0 : n ≠ 0) (hc0 : Lib.countB s old = 0) :
    Calls Tryd.prog 52 #[.string s, .string old, .string new, .int .i64 n] w fun e w' => e = .returned (.string s) ∧ w' = w := Any.strings_Replace_absent Tryd.lays154 s old new n m w hs hm h1 hne hn0 hc0
open Go.RowKit Go.Lib in
/-- strings.Replace: "Replace returns a copy of the string s with the first n non-overlapping instances of old replaced by new. .. If n < 0, there is no limit on the number of replacements.": AT AN old THAT IS NOT EMPTY: IT RETURNS 'Lib.replace s old new n'. Below the heap's end the world is as it was. IT ASKS, as strings.Index's contract: 'len(s) < 4294967281', 'hm'; and that what comes out has room: 'len(s) + Count(s, old) * len(new) ≤ 2^47'. (LAID: no walk: one application.) -/
theorem Tryd.strings_Replace (s old new : ByteArray) (n : Int) (m : Int) (w : World) (hs : s.size < 4294967281) (hm : w.cell? ⟨0, 0, none⟩ = some (.int .i64 m)) (h1 : 1 ≤ old.size) (hlen : s.size + Lib.countB s old * new.size ≤ 140737488355328) :
    Calls Tryd.prog 52 #[.string s, .string old, .string new, .int .i64 n] w fun e w' =>
      e = .returned (.string ⟨(Lib.replace s.data.toList old.data.toList new.data.toList n).toArray⟩) ∧ Below w.heap.size w w' := Any.strings_Replace Tryd.lays154 Tryd.Builder_Extra_154 s old new n m w hs hm h1 hlen
def Tryd.lays155_ren : Go.Shelf.Ren := ⟨fun | 155 => 34 | 154 => 52 | 138 => 62 | 165 => 74 | 143 => 33 | 166 => 75 | 197 => 76 | 169 => 77 | 195 => 90 | 218 => 91 | 240 => 97 | 241 => 98 | 219 => 51 | 260 => 99 | 276 => 107 | 277 => 108 | 217 => 70 | 225 => 71 | 224 => 72 | 267 => 73 | 266 => 95 | 314 => 96 | n => n, fun | 9 => 9 | 3 => 3 | 4 => 4 | 72 => 100 | 0 => 0 | 76 => 104 | 105 => 106 | 21 => 21 | 5 => 5 | 70 => 97 | 20 => 20 | 37 => 98 | 75 => 103 | 127 => 127 | 164 => 135 | 46 => 79 | 119 => 138 | 139 => 141 | 138 => 140 | 146 => 125 | 51 => 117 | 80 => 71 | n => n, fun | 1 => 0 | 3 => 1 | 4 => 2 | n => n⟩
theorem Tryd.lays155 : Go.Proofs.Lays.n155 Tryd.prog Tryd.lays155_ren := {
  mixed := by kernel_rfl
  f138 := Tryd.func62.trans (congrArg some (by kernel_rfl))
  f143 := Tryd.func33.trans (congrArg some (by kernel_rfl))
  f154 := Tryd.func52.trans (congrArg some (by kernel_rfl))
  f155 := Tryd.func34.trans (congrArg some (by kernel_rfl))
  f165 := Tryd.func74.trans (congrArg some (by kernel_rfl))
  f166 := Tryd.func75.trans (congrArg some (by kernel_rfl))
  f169 := Tryd.func77.trans (congrArg some (by kernel_rfl))
  f195 := Tryd.func90.trans (congrArg some (by kernel_rfl))
  f197 := Tryd.func76.trans (congrArg some (by kernel_rfl))
  f217 := Tryd.func70.trans (congrArg some (by kernel_rfl))
  f218 := Tryd.func91.trans (congrArg some (by kernel_rfl))
  f219 := Tryd.func51.trans (congrArg some (by kernel_rfl))
  f224 := Tryd.func72.trans (congrArg some (by kernel_rfl))
  f225 := Tryd.func71.trans (congrArg some (by kernel_rfl))
  f240 := Tryd.func97.trans (congrArg some (by kernel_rfl))
  f241 := Tryd.func98.trans (congrArg some (by kernel_rfl))
  f260 := Tryd.func99.trans (congrArg some (by kernel_rfl))
  f266 := Tryd.func95.trans (congrArg some (by kernel_rfl))
  f267 := Tryd.func73.trans (congrArg some (by kernel_rfl))
  f276 := Tryd.func107.trans (congrArg some (by kernel_rfl))
  f277 := Tryd.func108.trans (congrArg some (by kernel_rfl))
  f314 := Tryd.func96.trans (congrArg some (by kernel_rfl))
  t0 := Tryd.underlying0
  a0 := Tryd.isAgg0
  z0 := Tryd.sizeOf0
  v0 := Tryd.zeroValue0
  t3 := Tryd.underlying3
  a3 := Tryd.isAgg3
  z3 := Tryd.sizeOf3
  v3 := Tryd.zeroValue3
  t4 := Tryd.underlying4
  a4 := Tryd.isAgg4
  z4 := Tryd.sizeOf4
  v4 := Tryd.zeroValue4
  t5 := Tryd.underlying5
  a5 := Tryd.isAgg5
  z5 := Tryd.sizeOf5
  v5 := Tryd.zeroValue5
  t9 := Tryd.underlying9
  a9 := Tryd.isAgg9
  z9 := Tryd.sizeOf9
  v9 := Tryd.zeroValue9
  t20 := Tryd.underlying20
  a20 := Tryd.isAgg20
  z20 := Tryd.sizeOf20
  v20 := Tryd.zeroValue20
  t21 := Tryd.underlying21
  a21 := Tryd.isAgg21
  z21 := Tryd.sizeOf21
  v21 := Tryd.zeroValue21
  t37 := Tryd.underlying98
  a37 := Tryd.isAgg98
  z37 := Tryd.sizeOf98
  v37 := Tryd.zeroValue98
  t46 := Tryd.underlying79
  a46 := Tryd.isAgg79
  z46 := Tryd.sizeOf79
  v46 := Tryd.zeroValue79
  t51 := Tryd.underlying117
  a51 := Tryd.isAgg117
  z51 := Tryd.sizeOf117
  v51 := Tryd.zeroValue117
  t70 := Tryd.underlying97
  a70 := Tryd.isAgg97
  z70 := Tryd.sizeOf97
  v70 := Tryd.zeroValue97
  t72 := Tryd.underlying100
  a72 := Tryd.isAgg100
  z72 := Tryd.sizeOf100
  v72 := Tryd.zeroValue100
  t75 := Tryd.underlying103
  a75 := Tryd.isAgg103
  z75 := Tryd.sizeOf103
  v75 := Tryd.zeroValue103
  t76 := Tryd.underlying104
  a76 := Tryd.isAgg104
  z76 := Tryd.sizeOf104
  v76 := Tryd.zeroValue104
  t105 := Tryd.underlying106
  a105 := Tryd.isAgg106
  z105 := Tryd.sizeOf106
  v105 := Tryd.zeroValue106
  t119 := Tryd.underlying138
  a119 := Tryd.isAgg138
  z119 := Tryd.sizeOf138
  t127 := Tryd.underlying127
  a127 := Tryd.isAgg127
  z127 := Tryd.sizeOf127
  v127 := Tryd.zeroValue127
  t138 := Tryd.underlying140
  a138 := Tryd.isAgg140
  z138 := Tryd.sizeOf140
  v138 := Tryd.zeroValue140
  t139 := Tryd.underlying141
  a139 := Tryd.isAgg141
  z139 := Tryd.sizeOf141
  v139 := Tryd.zeroValue141
  t146 := Tryd.underlying125
  a146 := Tryd.isAgg125
  z146 := Tryd.sizeOf125
  v146 := Tryd.zeroValue125
  t164 := Tryd.underlying135
  a164 := Tryd.isAgg135
  z164 := Tryd.sizeOf135
  v164 := Tryd.zeroValue135
  g1 := by kernel_rfl
  g3 := by kernel_rfl
  g4 := by kernel_rfl }
theorem Tryd.Builder_Extra_155 : Builder.Extra Tryd.prog Tryd.lays155_ren := {
  sizeBuilder := by kernel_rfl
  liesBuilder := by kernel_rfl
  t5 := Tryd.underlying5
  a5 := Tryd.isAgg5
  z5 := Tryd.sizeOf5
  v5 := Tryd.zeroValue5
  infoByte := by kernel_rfl
  cellsByte := by kernel_rfl
  sizeByte := by kernel_rfl
  neB5 := by decide }
open Go.RowKit Go.Lib in
/-- strings.ReplaceAll: "ReplaceAll returns a copy of the string s with all non-overlapping instances of old replaced by new.": AT AN old THAT IS NOT EMPTY: 'Lib.replaceAll s old new'. (LAID: no walk: one application.) -/
theorem Tryd.strings_ReplaceAll (s old new : ByteArray) (m : Int) (w : World) (hs : s.size < 4294967281) (hm : w.cell? ⟨0, 0, none⟩ = some (.int .i64 m)) (h1 : 1 ≤ old.size) (hlen : s.size + Lib.countB s old * new.size ≤ 140737488355328) :
    Calls Tryd.prog 34 #[.string s, .string old, .string new] w fun e w' =>
      e = .returned (.string ⟨(Lib.replaceAll s.data.toList old.data.toList new.data.toList).toArray⟩) ∧ Below w.heap.size w w' := Any.strings_ReplaceAll Tryd.lays155 Tryd.Builder_Extra_155 s old new m w hs hm h1 hlen
def Tryd.lays152_ren : Go.Shelf.Ren := ⟨fun | 152 => 105 | 137 => 110 | 119 => 111 | 224 => 72 | 225 => 71 | 217 => 70 | 266 => 95 | n => n, fun | 9 => 9 | 21 => 21 | 3 => 3 | 4 => 4 | 5 => 5 | 0 => 0 | 46 => 79 | n => n, fun | n => n⟩
theorem Tryd.lays152 : Go.Proofs.Lays.n152 Tryd.prog Tryd.lays152_ren := {
  mixed := by kernel_rfl
  f119 := Tryd.func111.trans (congrArg some (by kernel_rfl))
  f137 := Tryd.func110.trans (congrArg some (by kernel_rfl))
  f152 := Tryd.func105.trans (congrArg some (by kernel_rfl))
  f217 := Tryd.func70.trans (congrArg some (by kernel_rfl))
  f224 := Tryd.func72.trans (congrArg some (by kernel_rfl))
  f225 := Tryd.func71.trans (congrArg some (by kernel_rfl))
  f266 := Tryd.func95.trans (congrArg some (by kernel_rfl))
  t0 := Tryd.underlying0
  a0 := Tryd.isAgg0
  z0 := Tryd.sizeOf0
  v0 := Tryd.zeroValue0
  t3 := Tryd.underlying3
  a3 := Tryd.isAgg3
  z3 := Tryd.sizeOf3
  v3 := Tryd.zeroValue3
  t4 := Tryd.underlying4
  a4 := Tryd.isAgg4
  z4 := Tryd.sizeOf4
  v4 := Tryd.zeroValue4
  t5 := Tryd.underlying5
  a5 := Tryd.isAgg5
  z5 := Tryd.sizeOf5
  v5 := Tryd.zeroValue5
  t9 := Tryd.underlying9
  a9 := Tryd.isAgg9
  z9 := Tryd.sizeOf9
  v9 := Tryd.zeroValue9
  t21 := Tryd.underlying21
  a21 := Tryd.isAgg21
  z21 := Tryd.sizeOf21
  v21 := Tryd.zeroValue21
  t46 := Tryd.underlying79
  a46 := Tryd.isAgg79
  z46 := Tryd.sizeOf79
  v46 := Tryd.zeroValue79 }
open Go.RowKit Go.Lib in
theorem Tryd.strings_IndexRune_ascii (s : ByteArray) (r : Int) (w : World) (h0 : 0 ≤ r) (h1 : r < 128) :
    Calls Tryd.prog 105 #[.string s, .int .i32 r] w fun e w' => e = .returned (.int .i64 (Lib.indexByte s.data.toList r.toNat.toUInt8)) ∧ w' = w := Any.strings_IndexRune_ascii Tryd.lays152 s r w h0 h1
def Tryd.lays151_ren : Go.Shelf.Ren := ⟨fun | 151 => 93 | 152 => 105 | 137 => 110 | 119 => 111 | 224 => 72 | 225 => 71 | 217 => 70 | 266 => 95 | n => n, fun | 9 => 9 | 21 => 21 | 4 => 4 | 3 => 3 | 5 => 5 | 0 => 0 | 46 => 79 | n => n, fun | n => n⟩
theorem Tryd.lays151 : Go.Proofs.Lays.n151 Tryd.prog Tryd.lays151_ren := {
  mixed := by kernel_rfl
  f119 := Tryd.func111.trans (congrArg some (by kernel_rfl))
  f137 := Tryd.func110.trans (congrArg some (by kernel_rfl))
  f151 := Tryd.func93.trans (congrArg some (by kernel_rfl))
  f152 := Tryd.func105.trans (congrArg some (by kernel_rfl))
  f217 := Tryd.func70.trans (congrArg some (by kernel_rfl))
  f224 := Tryd.func72.trans (congrArg some (by kernel_rfl))
  f225 := Tryd.func71.trans (congrArg some (by kernel_rfl))
  f266 := Tryd.func95.trans (congrArg some (by kernel_rfl))
  t0 := Tryd.underlying0
  a0 := Tryd.isAgg0
  z0 := Tryd.sizeOf0
  v0 := Tryd.zeroValue0
  t3 := Tryd.underlying3
  a3 := Tryd.isAgg3
  z3 := Tryd.sizeOf3
  v3 := Tryd.zeroValue3
  t4 := Tryd.underlying4
  a4 := Tryd.isAgg4
  z4 := Tryd.sizeOf4
  v4 := Tryd.zeroValue4
  t5 := Tryd.underlying5
  a5 := Tryd.isAgg5
  z5 := Tryd.sizeOf5
  v5 := Tryd.zeroValue5
  t9 := Tryd.underlying9
  a9 := Tryd.isAgg9
  z9 := Tryd.sizeOf9
  v9 := Tryd.zeroValue9
  t21 := Tryd.underlying21
  a21 := Tryd.isAgg21
  z21 := Tryd.sizeOf21
  v21 := Tryd.zeroValue21
  t46 := Tryd.underlying79
  a46 := Tryd.isAgg79
  z46 := Tryd.sizeOf79
  v46 := Tryd.zeroValue79 }
open Go.RowKit Go.Lib in
theorem Tryd.strings_ContainsRune_ascii (s : ByteArray) (r : Int) (w : World) (h0 : 0 ≤ r) (h1 : r < 128) :
    Calls Tryd.prog 93 #[.string s, .int .i32 r] w fun e w' => e = .returned (.bool (decide (0 ≤ Lib.indexByte s.data.toList r.toNat.toUInt8))) ∧ w' = w := Any.strings_ContainsRune_ascii Tryd.lays151 s r w h0 h1
def Tryd.lays227_ren : Go.Shelf.Ren := ⟨fun | 227 => 65 | n => n, fun | 9 => 9 | 116 => 90 | 4 => 4 | 0 => 0 | 3 => 3 | 5 => 5 | n => n, fun | n => n⟩
theorem Tryd.lays227 : Go.Proofs.Lays.n227 Tryd.prog Tryd.lays227_ren := {
  mixed := by kernel_rfl
  f227 := Tryd.func65.trans (congrArg some (by kernel_rfl))
  t0 := Tryd.underlying0
  a0 := Tryd.isAgg0
  z0 := Tryd.sizeOf0
  v0 := Tryd.zeroValue0
  t3 := Tryd.underlying3
  a3 := Tryd.isAgg3
  z3 := Tryd.sizeOf3
  v3 := Tryd.zeroValue3
  t4 := Tryd.underlying4
  a4 := Tryd.isAgg4
  z4 := Tryd.sizeOf4
  v4 := Tryd.zeroValue4
  t5 := Tryd.underlying5
  a5 := Tryd.isAgg5
  z5 := Tryd.sizeOf5
  v5 := Tryd.zeroValue5
  t9 := Tryd.underlying9
  a9 := Tryd.isAgg9
  z9 := Tryd.sizeOf9
  v9 := Tryd.zeroValue9
  t116 := Tryd.underlying90
  a116 := Tryd.isAgg90
  z116 := Tryd.sizeOf90 }
open Go.RowKit Go.Lib in
theorem Tryd.strings_makeASCIISet (hv116 : ∀ w, (zeroValue 90).run Tryd.prog w = .ok (.agg (Array.replicate 256 (.bool false))) w) (chars : ByteArray) (w : World) (hs : chars.size < 4294967281) (hascii : ∀ (j : Nat) b, chars.data.toList[j]? = some b → b.toNat < 128) :
    Calls Tryd.prog 65 #[.string chars] w fun e w' => e = .returned (.tuple #[.agg (Lib.setCells chars.data.toList), .bool true]) ∧ w' = w.alloc (.cells (Lib.setCells chars.data.toList) 90) := Any.strings_makeASCIISet Tryd.lays227 hv116 (by kernel_rfl) chars w hs hascii
def Tryd.lays228_ren : Go.Shelf.Ren := ⟨fun | 228 => 92 | n => n, fun | 124 => 94 | 5 => 5 | 4 => 4 | 0 => 0 | 116 => 90 | n => n, fun | n => n⟩
theorem Tryd.lays228 : Go.Proofs.Lays.n228 Tryd.prog Tryd.lays228_ren := {
  mixed := by kernel_rfl
  f228 := Tryd.func92.trans (congrArg some (by kernel_rfl))
  t0 := Tryd.underlying0
  a0 := Tryd.isAgg0
  z0 := Tryd.sizeOf0
  v0 := Tryd.zeroValue0
  t4 := Tryd.underlying4
  a4 := Tryd.isAgg4
  z4 := Tryd.sizeOf4
  v4 := Tryd.zeroValue4
  t5 := Tryd.underlying5
  a5 := Tryd.isAgg5
  z5 := Tryd.sizeOf5
  v5 := Tryd.zeroValue5
  t116 := Tryd.underlying90
  a116 := Tryd.isAgg90
  z116 := Tryd.sizeOf90
  t124 := Tryd.underlying94
  a124 := Tryd.isAgg94
  z124 := Tryd.sizeOf94
  v124 := Tryd.zeroValue94 }
open Go.RowKit Go.Lib in
/-- '(as *asciiSet) contains(c)': 'as[c]': the set lies at block b, whole. (LAID: no walk: one application.) -/
theorem Tryd.asciiSet_contains (b : Nat) (x : UInt8) (v : Bool) (w : World) (hc : w.cell? ⟨b, x.toNat, none⟩ = some (.bool v)) :
    Calls Tryd.prog 92 #[.pointer (some ⟨b, 0, none⟩), .int .u8 x.toNat] w fun e w' => e = .returned (.bool v) ∧ w' = w := Any.asciiSet_contains Tryd.lays228 b x v w hc
def Tryd.lays260_ren : Go.Shelf.Ren := ⟨fun | 260 => 99 | n => n, fun | 9 => 9 | 21 => 21 | 3 => 3 | 4 => 4 | 5 => 5 | 119 => 138 | 0 => 0 | 46 => 79 | 139 => 141 | 138 => 140 | n => n, fun | 3 => 1 | 4 => 2 | n => n⟩
theorem Tryd.lays260 : Go.Proofs.Lays.n260 Tryd.prog Tryd.lays260_ren := {
  mixed := by kernel_rfl
  f260 := Tryd.func99.trans (congrArg some (by kernel_rfl))
  t0 := Tryd.underlying0
  a0 := Tryd.isAgg0
  z0 := Tryd.sizeOf0
  v0 := Tryd.zeroValue0
  t3 := Tryd.underlying3
  a3 := Tryd.isAgg3
  z3 := Tryd.sizeOf3
  v3 := Tryd.zeroValue3
  t4 := Tryd.underlying4
  a4 := Tryd.isAgg4
  z4 := Tryd.sizeOf4
  v4 := Tryd.zeroValue4
  t5 := Tryd.underlying5
  a5 := Tryd.isAgg5
  z5 := Tryd.sizeOf5
  v5 := Tryd.zeroValue5
  t9 := Tryd.underlying9
  a9 := Tryd.isAgg9
  z9 := Tryd.sizeOf9
  v9 := Tryd.zeroValue9
  t21 := Tryd.underlying21
  a21 := Tryd.isAgg21
  z21 := Tryd.sizeOf21
  v21 := Tryd.zeroValue21
  t46 := Tryd.underlying79
  a46 := Tryd.isAgg79
  z46 := Tryd.sizeOf79
  v46 := Tryd.zeroValue79
  t119 := Tryd.underlying138
  a119 := Tryd.isAgg138
  z119 := Tryd.sizeOf138
  t138 := Tryd.underlying140
  a138 := Tryd.isAgg140
  z138 := Tryd.sizeOf140
  v138 := Tryd.zeroValue140
  t139 := Tryd.underlying141
  a139 := Tryd.isAgg141
  z139 := Tryd.sizeOf141
  v139 := Tryd.zeroValue141
  g3 := by kernel_rfl
  g4 := by kernel_rfl }
open Go.RowKit Go.Lib in
theorem Tryd.utf8_decodeRuneInStringSlow (s : ByteArray) (w : World) (hT : Lib.Utf8Tabs 1 2 w) :
    Calls Tryd.prog 99 #[.string s] w fun e w' => e = .returned (.tuple #[.int .i32 (Lib.decodeGo s).1, .int .i64 (Lib.decodeGo s).2]) ∧ Below w.heap.size w w' := Any.utf8_decodeRuneInStringSlow Tryd.lays260 s w hT
def Tryd.laysSortM_ren : Go.Shelf.Ren := ⟨fun | 6 => 38 | 15 => 55 | 14 => 54 | 28 => 86 | 29 => 87 | 20 => 78 | 21 => 79 | 22 => 80 | 23 => 81 | 24 => 82 | 25 => 83 | 26 => 84 | 27 => 85 | 46 => 100 | 47 => 101 | 48 => 102 | 49 => 103 | 50 => 104 | 57 => 109 | n => n, fun | 22 => 25 | 24 => 34 | 25 => 65 | 3 => 3 | 39 => 79 | 0 => 0 | 53 => 117 | 55 => 119 | 4 => 4 | 46 => 110 | 45 => 109 | 50 => 114 | 5 => 5 | 9 => 9 | 66 => 128 | 70 => 132 | 76 => 142 | 77 => 143 | n => n, fun | n => n⟩
theorem Tryd.laysSortM : Go.Proofs.SlLaysF0.n6 Tryd.prog Tryd.laysSortM_ren := {
  mixed := by kernel_rfl
  f6 := ⟨Tryd.f38.name, by decide, Tryd.func38.trans (congrArg some (by kernel_rfl))⟩
  f14 := ⟨Tryd.f54.name, by decide, Tryd.func54.trans (congrArg some (by kernel_rfl))⟩
  f15 := Tryd.func55.trans (congrArg some (by kernel_rfl))
  f20 := ⟨Tryd.f78.name, by decide, Tryd.func78.trans (congrArg some (by kernel_rfl))⟩
  f21 := ⟨Tryd.f79.name, by decide, Tryd.func79.trans (congrArg some (by kernel_rfl))⟩
  f22 := ⟨Tryd.f80.name, by decide, Tryd.func80.trans (congrArg some (by kernel_rfl))⟩
  f23 := ⟨Tryd.f81.name, by decide, Tryd.func81.trans (congrArg some (by kernel_rfl))⟩
  f24 := ⟨Tryd.f82.name, by decide, Tryd.func82.trans (congrArg some (by kernel_rfl))⟩
  f25 := ⟨Tryd.f83.name, by decide, Tryd.func83.trans (congrArg some (by kernel_rfl))⟩
  f26 := ⟨Tryd.f84.name, by decide, Tryd.func84.trans (congrArg some (by kernel_rfl))⟩
  f27 := ⟨Tryd.f85.name, by decide, Tryd.func85.trans (congrArg some (by kernel_rfl))⟩
  f28 := Tryd.func86.trans (congrArg some (by kernel_rfl))
  f29 := Tryd.func87.trans (congrArg some (by kernel_rfl))
  f46 := ⟨Tryd.f100.name, by decide, Tryd.func100.trans (congrArg some (by kernel_rfl))⟩
  f47 := Tryd.func101.trans (congrArg some (by kernel_rfl))
  f48 := Tryd.func102.trans (congrArg some (by kernel_rfl))
  f49 := ⟨Tryd.f103.name, by decide, Tryd.func103.trans (congrArg some (by kernel_rfl))⟩
  f50 := ⟨Tryd.f104.name, by decide, Tryd.func104.trans (congrArg some (by kernel_rfl))⟩
  f57 := ⟨Tryd.f109.name, by decide, Tryd.func109.trans (congrArg some (by kernel_rfl))⟩
  t0 := Tryd.underlying0
  a0 := Tryd.isAgg0
  z0 := Tryd.sizeOf0
  v0 := Tryd.zeroValue0
  t3 := Tryd.underlying3
  a3 := Tryd.isAgg3
  z3 := Tryd.sizeOf3
  v3 := Tryd.zeroValue3
  t4 := Tryd.underlying4
  a4 := Tryd.isAgg4
  z4 := Tryd.sizeOf4
  v4 := Tryd.zeroValue4
  t5 := Tryd.underlying5
  a5 := Tryd.isAgg5
  z5 := Tryd.sizeOf5
  v5 := Tryd.zeroValue5
  t9 := Tryd.underlying9
  a9 := Tryd.isAgg9
  z9 := Tryd.sizeOf9
  v9 := Tryd.zeroValue9
  t22 := Tryd.underlying25
  a22 := Tryd.isAgg25
  z22 := Tryd.sizeOf25
  v22 := Tryd.zeroValue25
  t25 := Tryd.underlying65
  a25 := Tryd.isAgg65
  z25 := Tryd.sizeOf65
  v25 := Tryd.zeroValue65
  t39 := Tryd.underlying79
  a39 := Tryd.isAgg79
  z39 := Tryd.sizeOf79
  v39 := Tryd.zeroValue79
  t45 := Tryd.underlying109
  a45 := Tryd.isAgg109
  z45 := Tryd.sizeOf109
  v45 := Tryd.zeroValue109
  t46 := Tryd.underlying110
  a46 := Tryd.isAgg110
  z46 := Tryd.sizeOf110
  v46 := Tryd.zeroValue110
  t50 := Tryd.underlying114
  a50 := Tryd.isAgg114
  z50 := Tryd.sizeOf114
  v50 := Tryd.zeroValue114
  t53 := Tryd.underlying117
  a53 := Tryd.isAgg117
  z53 := Tryd.sizeOf117
  v53 := Tryd.zeroValue117
  t55 := Tryd.underlying119
  a55 := Tryd.isAgg119
  z55 := Tryd.sizeOf119
  v55 := Tryd.zeroValue119
  t66 := Tryd.underlying128
  a66 := Tryd.isAgg128
  z66 := Tryd.sizeOf128
  v66 := Tryd.zeroValue128
  t70 := Tryd.underlying132
  a70 := Tryd.isAgg132
  z70 := Tryd.sizeOf132
  v70 := Tryd.zeroValue132
  t76 := Tryd.underlying142
  a76 := Tryd.isAgg142
  z76 := Tryd.sizeOf142
  v76 := Tryd.zeroValue142
  t77 := Tryd.underlying143
  a77 := Tryd.isAgg143
  z77 := Tryd.sizeOf143
  v77 := Tryd.zeroValue143 }
end Go.Proofs

/- THE SEAT's contracts of strings.Split and strings.ReplaceAll at a sign of one byte, by walks over the library's own text with the searches at one byte. -/
namespace Go.Proofs.YtgdlaopjabjkbaaDoor.Ab
open Go Go.RowKit Go.Shelf

theorem idx_miss {c : UInt8} : ∀ {s : List UInt8}, s.count c = 0 → Go.Lib.indexByte s c = -1
  | [], _ => rfl
  | b :: s, h => by
    by_cases e : b = c
    · subst e; rw [List.count_cons_self] at h; omega
    · rw [List.count_cons_of_ne e] at h
      have hb : (b == c) = false := by simpa using e
      unfold Go.Lib.indexByte
      rw [idx_miss h, hb]
      rfl
theorem idx_hit {c : UInt8} : ∀ {s : List UInt8}, 0 < s.count c → ∃ j : Nat, Go.Lib.indexByte s c = j ∧ j < s.length ∧ (s.take j).count c = 0 ∧ s = s.take j ++ c :: s.drop (j + 1)
  | [], h => by simp at h
  | b :: s, h => by
    by_cases e : b = c
    · subst e
      refine ⟨0, ?_, by simp, by simp, by simp⟩
      unfold Go.Lib.indexByte
      simp
    · rw [List.count_cons_of_ne e] at h
      obtain ⟨j, h1, h2, h3, h4⟩ := idx_hit h
      have hb : (b == c) = false := by simpa using e
      refine ⟨j + 1, ?_, by simp; omega, ?_, ?_⟩
      · unfold Go.Lib.indexByte
        rw [hb, h1]
        have : ((j : Int) == -1) = false := by
          rw [beq_eq_false_iff_ne]; omega
        rw [this]
        simp
      · rw [List.take_succ_cons, List.count_cons_of_ne e, h3]
      · rw [List.take_succ_cons, List.drop_succ_cons, List.cons_append, ← h4]
theorem noB_none {c : UInt8} : ∀ {s : List UInt8}, s.count c = 0 → noB c s = s
  | [], _ => rfl
  | b :: s, h => by
    by_cases e : b = c
    · subst e; rw [List.count_cons_self] at h; omega
    · rw [List.count_cons_of_ne e] at h
      have hb : (b == c) = false := by simpa using e
      have := noB_none h
      unfold noB at this ⊢
      rw [List.filter_cons, hb, this]
      rfl

theorem noB_step {c : UInt8} {p q : List UInt8} (h : p.count c = 0) : noB c (p ++ c :: q) = p ++ noB c q := by
  have h1 := noB_none h
  unfold noB at h1 ⊢
  rw [List.filter_append, List.filter_cons, beq_self_eq_true, h1]
  rfl
section
variable {P : Program} {ρ : Ren}
/-- strings.Replace of a sign of one byte by nothing, where there is one. -/
theorem repl_some (L : Lays.n154 P ρ) (X : Builder.Extra P ρ) (s old new : ByteArray) (c : UInt8) (n : Int) (hneg : n < 0) (w : World) (hs : s.size < 4294967281) (ho1 : old.size = 1) (hn0 : new.size = 0) (hne : old ≠ new)
    (hI : ∀ (x : ByteArray) (w : World), Calls P (ρ.f 143) #[.string x, .string old] w fun e w' => e = .returned (.int .i64 (Go.Lib.indexByte x.data.toList c)) ∧ w' = w)
    (K : Nat) (hC : Calls P (ρ.f 138) #[.string s, .string old] w fun e w' => e = .returned (.int .i64 K) ∧ w' = w) (hK : s.data.toList.count c = K) (hK1 : 1 ≤ K) :
    Calls P (ρ.f 154) #[.string s, .string old, .string new, .int .i64 n] w fun e w' => e = .returned (.string ⟨(noB c s.data.toList).toArray⟩) ∧ Below w.heap.size w w' := by
  have hlenL : s.data.toList.length = s.size := (Go.Lib.size_eq s).symm
  have hKs : K ≤ s.size := by rw [← hK, ← hlenL]; exact List.count_le_length
  have hbeq : (old.toList == new.toList) = false := (Go.Lib.bytes_beq_false_iff old new).2 hne
  have hnz : (n == 0) = false := beq_eq_false_iff_ne.2 (by omega)
  have hcz : ((K : Int) == 0) = false := beq_eq_false_iff_ne.2 (by omega)
  have ho0 : (0 : Int) < (old.size : Int) := by omega
  have hod : decide (0 < old.size) = true := decide_eq_true (by omega)
  have hga := Go.Lib.grow_arg s.size K new.size old.size hK1 (by rw [ho1]; omega) (by rw [hn0]; omega)
  have hKo : K * old.size ≤ s.size := by rw [ho1]; omega
  have hKn : s.size + K * new.size ≤ 140737488355328 := by rw [hn0]; omega
  have hcase : n < 0 ∨ (K : Int) < n := .inl hneg
  have hnewL : new.data.toList = [] := List.eq_nil_of_length_eq_zero (by rw [← Go.Lib.size_eq]; exact hn0)
  have Ho1 := Any.hidR ho1
  have HnewL := Any.hidR hnewL
  have Hn0 := Any.hidR hn0
  clear ho1 hnewL hn0
  have mixed := L.mixed
  have t72 := L.t72; have a72 := L.a72; have z72 := L.z72; have v72 := L.v72; have u72 := run_underlying L.t72
  have t70 := L.t70; have a70 := L.a70; have z70 := L.z70; have v70 := L.v70; have u70 := run_underlying L.t70
  have t37 := L.t37; have a37 := L.a37; have z37 := L.z37; have v37 := L.v37; have u37 := run_underlying L.t37
  have t3 := L.t3; have a3 := L.a3; have z3 := L.z3; have v3 := L.v3; have u3 := run_underlying L.t3
  have t9 := L.t9; have a9 := L.a9; have z9 := L.z9; have v9 := L.v9; have u9 := run_underlying L.t9
  have t4 := L.t4; have a4 := L.a4; have z4 := L.z4; have v4 := L.v4; have u4 := run_underlying L.t4
  have e138 : ∀ args w, (callFunc (ρ.f 138) args).run P w = .ok (.enter (ρ.f 138) args) w := enters_of L.f138 (by kernel_rfl) rfl
  have e143 : ∀ args w, (callFunc (ρ.f 143) args).run P w = .ok (.enter (ρ.f 143) args) w := enters_of L.f143 (by kernel_rfl) rfl
  have e165 : ∀ args w, (callFunc (ρ.f 165) args).run P w = .ok (.enter (ρ.f 165) args) w := enters_of L.f165 (by kernel_rfl) rfl
  have e166 : ∀ args w, (callFunc (ρ.f 166) args).run P w = .ok (.enter (ρ.f 166) args) w := enters_of L.f166 (by kernel_rfl) rfl
  have e169 : ∀ args w, (callFunc (ρ.f 169) args).run P w = .ok (.enter (ρ.f 169) args) w := enters_of L.f169 (by kernel_rfl) rfl
  go_enter L.f154, Body.n154_ntmps ρ
  go_wp2_with (first | (go_at_fn (ρ.f 138); refine hC.mono ?_; rintro e w' ⟨rfl, hw⟩; rw [hw]))
  clear hC
  try rw [hga]
  refine (Any.Builder_Grow_fresh { L with } X w.heap.size w.heap.size _ _ (Nat.le_refl _) (heap_alloc_new w _) (by simp) (by omega)).mono ?_
  rintro e w1 ⟨rfl, hb0, hb1⟩
  have H1 := Any.hidR (Or.inr hb0 : Go.Lib.IsBuilder (ρ.t 72) (ρ.t 5) w.heap.size w.heap.size (Go.Lib.byteCells []) w1)
  have Hb1 := Any.hidR (((Below.refl w.heap.size w).alloc (Nat.le_refl _) _).trans hb1)
  clear hb0 hb1 hga
  go_wp2_with fail
  go_loopg [11, 53] K (fun g s11 s53 wx => ∃ (i start : Nat) (acc : List UInt8), s53 = .int .i64 i ∧ s11 = .int .i64 start ∧ i + g = K ∧ start ≤ s.size ∧
    Hid (Go.Lib.IsBuilder (ρ.t 72) (ρ.t 5) w.heap.size w.heap.size (Go.Lib.byteCells acc) wx) ∧ Hid (Below w.heap.size w wx) ∧ Hid (acc ++ noB c (s.data.toList.drop start) = noB c s.data.toList) ∧
    (s.data.toList.drop start).count c = g ∧ acc.length ≤ start)
  case atStart => exact ⟨0, 0, [], rfl, rfl, by omega, Nat.zero_le _, H1, Hb1, Any.hidR (by simp), by rw [List.drop_zero]; exact hK, by simp⟩
  case round =>
    obtain ⟨i, start, acc, rfl, rfl, hig, hst, HB, HW, HR, hgc, hbd⟩ := hrel
    have hBw : w.heap.size ≤ wr.heap.size := HW.out.size
    have c1 : (0 : Int) ≤ (start : Int) := by omega
    have c2 : (start : Int) ≤ (s.size : Int) := by omega
    cases gk with
    | zero =>
      have hiK : ¬ ((i : Int) < (K : Int)) := by omega
      go_wp2_with fail
      refine (Any.Builder_WriteString { L with } X w.heap.size w.heap.size _ _ wr HB.out (by rw [Go.Lib.byteCells_length, ByteArray.size_extract]; omega) hBw).mono ?_
      rintro e w3 ⟨rfl, h3, hb3⟩
      rw [Go.Lib.strCells_eq, Go.Lib.extract_to_end, ← Go.Lib.byteCells_append] at h3
      have hfin : acc ++ s.data.toList.drop start = noB c s.data.toList := by rw [← HR.out, noB_none hgc]
      rw [hfin] at h3
      have H3 := Any.hidR (Or.inr h3 : Go.Lib.IsBuilder (ρ.t 72) (ρ.t 5) w.heap.size w.heap.size _ w3)
      have Hb3 := Any.hidR (HW.out.trans hb3)
      have hBw3 : w.heap.size ≤ w3.heap.size := Hb3.out.size
      clear h3 hb3 hfin
      go_wp2_with fail
      refine (Any.Builder_String_any { L with } X w.heap.size w.heap.size _ w3 H3.out hBw3).mono ?_
      rintro e w5 ⟨rfl, hb5⟩
      have Hb5 := Any.hidR (Hb3.out.trans hb5)
      clear hb5
      go_wp2
      go_ret
      exact ⟨rfl, Hb5.out⟩
    | succ g =>
      have hiK : (i : Int) < (K : Int) := by omega
      obtain ⟨j, hj, hjl, hj0, hjs⟩ := idx_hit (c := c) (s := s.data.toList.drop start) (by omega)
      rw [List.length_drop, hlenL] at hjl
      have hroom : j + old.size ≤ s.size - start := by rw [Ho1.out]; omega
      have c3 : (start : Int) ≤ (start : Int) + (j : Int) := by omega
      have c4 : (start : Int) + (j : Int) ≤ (s.size : Int) := by omega
      have hnext : Go.Lib.byteCells acc ++ Go.Lib.strCells (s.extract start (start + j)) ++ Go.Lib.strCells new = Go.Lib.byteCells (acc ++ (s.data.toList.drop start).take j) := by
        rw [Go.Lib.strCells_eq, Go.Lib.strCells_eq, Go.Lib.extract_data, Nat.add_sub_cancel_left, ← Go.Lib.byteCells_append, ← Go.Lib.byteCells_append, HnewL.out, List.append_nil]
      have hdd : (s.data.toList.drop start).drop (j + 1) = s.data.toList.drop (start + j + old.size) := by rw [List.drop_drop, Ho1.out]; congr 1
      have hrep : (acc ++ (s.data.toList.drop start).take j) ++ noB c (s.data.toList.drop (start + j + old.size)) = noB c s.data.toList := by
        have h9 : noB c (s.data.toList.drop start) = (s.data.toList.drop start).take j ++ noB c ((s.data.toList.drop start).drop (j + 1)) := by
          have h8 := noB_step (p := (s.data.toList.drop start).take j) (q := (s.data.toList.drop start).drop (j + 1)) hj0
          rw [← hjs] at h8
          exact h8
        rw [← HR.out, ← hdd, h9, List.append_assoc]
      have hcnt : (s.data.toList.drop (start + j + old.size)).count c = g := by
        rw [← hdd]
        rw [hjs, List.count_append, hj0, List.count_cons_self] at hgc
        omega
      have htl : ((s.data.toList.drop start).take j).length = j := by rw [List.length_take, List.length_drop, hlenL]; omega
      have Hn := Any.hidR hnext
      have Hrep := Any.hidR hrep
      have Hcnt := Any.hidR hcnt
      clear hnext hrep HR hdd hjs hj0 hcnt
      go_wp2_with (first | (go_at_fn (ρ.f 143); refine (hI _ _).mono ?_; rintro e w' ⟨rfl, hw⟩; rw [hw, Go.Lib.extract_to_end, hj]))
      refine (Any.Builder_WriteString { L with } X w.heap.size w.heap.size _ (s.extract start (start + j)) wr HB.out (by rw [Go.Lib.byteCells_length, ByteArray.size_extract]; omega) hBw).mono ?_
      rintro e w3 ⟨rfl, h3, hb3⟩
      have hBw3 : w.heap.size ≤ w3.heap.size := Nat.le_trans hBw hb3.size
      have H3 := Any.hidR h3
      have Hb3 := Any.hidR hb3
      clear h3 hb3
      go_wp2_with fail
      refine (Any.Builder_WriteString { L with } X w.heap.size w.heap.size _ new w3 (Or.inr H3.out) (by have h90 := Hn0.out; rw [List.length_append, Go.Lib.byteCells_length, Go.Lib.strCells_length, ByteArray.size_extract]; omega) hBw3).mono ?_
      rintro e w4 ⟨rfl, h4, hb4⟩
      rw [Hn.out] at h4
      have H4 := Any.hidR (Or.inr h4 : Go.Lib.IsBuilder (ρ.t 72) (ρ.t 5) w.heap.size w.heap.size _ w4)
      have Hb4 := Any.hidR ((HW.out.trans Hb3.out).trans hb4)
      clear h4 hb4
      go_wp2
      go_roundg g
      case measure => omega
      case rel => exact ⟨i + 1, start + j + old.size, _, by first | rfl | (simp; unfold wrap64; omega), by first | rfl | simp | (simp; unfold wrap64; omega), by omega, by rw [Ho1.out]; omega, H4, Hb4, Hrep, Hcnt.out, by simp only [List.length_append, htl, Ho1.out]; omega⟩
end

/-! ### strings.Split -/
theorem splA_none {c : UInt8} : ∀ {s cur : List UInt8}, s.count c = 0 → splA c cur s = [cur ++ s]
  | [], cur, _ => by simp [splA]
  | b :: s, cur, h => by
    by_cases e : b = c
    · subst e; rw [List.count_cons_self] at h; omega
    · rw [List.count_cons_of_ne e] at h
      unfold splA
      rw [if_neg e, splA_none h]
      simp
theorem splA_step {c : UInt8} : ∀ {p q cur : List UInt8}, p.count c = 0 → splA c cur (p ++ c :: q) = (cur ++ p) :: splA c [] q
  | [], q, cur, _ => by simp [splA]
  | b :: p, q, cur, h => by
    by_cases e : b = c
    · subst e; rw [List.count_cons_self] at h; omega
    · rw [List.count_cons_of_ne e] at h
      rw [List.cons_append, splA_cons, if_neg e, splA_step h]
      simp
theorem splK_eq (c : UInt8) : ∀ (k : Nat) (s : List UInt8), s.count c = k → Go.Lib.splitK [c] 0 k s = splA c [] s
  | 0, s, h => by rw [splA_none h]; rfl
  | k + 1, s, h => by
    obtain ⟨j, h1, h2, h3, h4⟩ := idx_hit (c := c) (s := s) (by omega)
    have hi : Go.Lib.index s [c] = j := by rw [Go.Lib.index_one, h1]
    have hm : ¬ (Go.Lib.index s [c] == -1) = true := fun e => by have := beq_iff_eq.1 e; omega
    unfold Go.Lib.splitK
    rw [if_neg hm, hi]
    simp only [Int.toNat_natCast, Nat.add_zero, List.length_cons, List.length_nil, Nat.zero_add]
    have hc : (s.drop (j + 1)).count c = k := by
      rw [h4, List.count_append, h3, List.count_cons_self] at h
      omega
    have h9 := splA_step (q := s.drop (j + 1)) (cur := []) h3
    rw [← h4] at h9
    rw [splK_eq c k _ hc, h9]
    rfl
section
variable {P : Program} {ρ : Ren}
set_option maxHeartbeats 1000000 in
/-- strings.Split at a sign of one byte. -/
theorem split_one (L : Lays.n146 P ρ) (hi9 : (P.info? (ρ.t 9)).map (fun i => (i.zero, i.size, i.bytes)) = some (some (.string ByteArray.empty), 1, 16)) (s : ByteArray) (c : UInt8) (w : World) (hs : s.size < 4294967281) :
    Calls P (ρ.f 146) #[.string s, .string ⟨#[c]⟩] w fun e w' => e = .returned (.slice (some ⟨w.heap.size, 0, none⟩) (Go.Lib.countB s ⟨#[c]⟩ + 1) (Go.Lib.countB s ⟨#[c]⟩ + 1)) ∧ w' = w.alloc (.cells ((Go.Lib.splitB ⟨#[c]⟩ 0 (Go.Lib.countB s ⟨#[c]⟩) s).map Value.string).toArray (ρ.t 9)) := by
  obtain ⟨sep, hsep⟩ : ∃ sep : ByteArray, sep = ⟨#[c]⟩ := ⟨_, rfl⟩
  have h1 : 1 ≤ sep.size := by rw [hsep]; exact Nat.le_refl _
  have hle := Go.Lib.countB_le sep h1 s.size s (Nat.le_refl _)
  have hlen := Go.Lib.splitB_all sep h1 0 _ s rfl
  have hI : ∀ (x : ByteArray) (cc : Array Value), x.size ≤ s.size → Calls P (ρ.f 143) #[.string x, .string sep] (w.alloc (.cells cc (ρ.t 9))) fun e w' => e = .returned (.int .i64 (Go.Lib.indexB x sep)) ∧ w' = w.alloc (.cells cc (ρ.t 9)) := by
    intro x cc _
    have := Any.strings_Index_one { L with } x c (w.alloc (.cells cc (ρ.t 9)))
    rw [hsep]
    refine this.mono ?_
    rintro e w' ⟨rfl, rfl⟩
    refine ⟨?_, rfl⟩
    have : Go.Lib.indexB x ⟨#[c]⟩ = Go.Lib.indexByte x.data.toList c := Go.Lib.index_one _ _
    rw [this]
  have hC : Calls P (ρ.f 138) #[.string s, .string sep] w fun e w' => e = .returned (.int .i64 (Go.Lib.countB s sep)) ∧ w' = w := by
    rw [hsep]
    refine (Any.strings_Count_one { L with } s c w).mono ?_
    rintro e w' ⟨rfl, rfl⟩
    refine ⟨?_, rfl⟩
    have : Go.Lib.countB s ⟨#[c]⟩ = s.data.toList.count c := Go.Lib.count_one c _
    rw [this]
    rfl
  have cc := Any.strings_genSplit_core { L with } hi9 s sep 0 (-1) (Go.Lib.countB s sep + 1) w hs h1 (Nat.zero_le _) hI hC (by decide) (by decide) (by rw [if_pos (by decide)]; omega)
  rw [Nat.add_sub_cancel, hlen] at cc
  have e2 : Go.Lib.cellsOf (Go.Lib.splitB sep 0 (Go.Lib.countB s sep) s) (Go.Lib.countB s sep + 1) = ((Go.Lib.splitB sep 0 (Go.Lib.countB s sep) s).map Value.string).toArray := by rw [← hlen]; exact Go.Lib.cellsOf_full _
  rw [e2] at cc
  rw [← hsep]
  clear hI hC hsep hle hlen e2
  have t3 := L.t3; have t9 := L.t9; have t31 := L.t31
  have a3 := L.a3; have a9 := L.a9; have a31 := L.a31
  have z3 := L.z3; have v3 := L.v3; have z9 := L.z9; have v9 := L.v9; have z31 := L.z31; have v31 := L.v31
  have e221 : ∀ args w, (callFunc (ρ.f 221) args).run P w = .ok (.enter (ρ.f 221) args) w := enters_of L.f221 (by kernel_rfl) rfl
  go_enter L.f146, Body.n146_ntmps ρ
  go_wp2_with (go_at_fn (ρ.f 221); refine cc.mono ?_; rintro e w' ⟨rfl, hw⟩; rw [hw])
  go_ret
  exact ⟨rfl, rfl⟩
set_option maxHeartbeats 1000000 in
theorem repl_none (L : Lays.n154 P ρ) (s old new : ByteArray) (w : World) (hne : old ≠ new) (hC : Calls P (ρ.f 138) #[.string s, .string old] w fun e w' => e = .returned (.int .i64 0) ∧ w' = w) :
    Calls P (ρ.f 154) #[.string s, .string old, .string new, .int .i64 (-1)] w fun e w' => e = .returned (.string s) ∧ w' = w := by
  have hbeq : (old.toList == new.toList) = false := (Go.Lib.bytes_beq_false_iff old new).2 hne
  have t3 := L.t3; have a3 := L.a3; have z3 := L.z3; have v3 := L.v3
  have t9 := L.t9; have a9 := L.a9; have z9 := L.z9; have v9 := L.v9
  have t4 := L.t4; have a4 := L.a4; have z4 := L.z4; have v4 := L.v4
  have e138 : ∀ args w, (callFunc (ρ.f 138) args).run P w = .ok (.enter (ρ.f 138) args) w := enters_of L.f138 (by kernel_rfl) rfl
  go_enter L.f154, Body.n154_ntmps ρ
  go_wp2_with (first | (go_at_fn (ρ.f 138); refine hC.mono ?_; rintro e w' ⟨rfl, hw⟩; rw [hw]))
  go_ret
  exact ⟨rfl, rfl⟩
set_option maxHeartbeats 1000000 in
/-- strings.ReplaceAll of a sign of one byte by nothing. -/
theorem repl_all (L : Lays.n155 P ρ) (X : Builder.Extra P ρ) (s : ByteArray) (c : UInt8) (w : World) (hs : s.size < 4294967281) :
    Calls P (ρ.f 155) #[.string s, .string ⟨#[c]⟩, .string ⟨#[]⟩] w fun e w' => e = .returned (.string ⟨(noB c s.data.toList).toArray⟩) ∧ Below w.heap.size w w' := by
  obtain ⟨old, hold⟩ : ∃ old : ByteArray, old = ⟨#[c]⟩ := ⟨_, rfl⟩
  obtain ⟨new, hnew⟩ : ∃ new : ByteArray, new = ⟨#[]⟩ := ⟨_, rfl⟩
  have ho1 : old.size = 1 := by rw [hold]; rfl
  have hn0 : new.size = 0 := by rw [hnew]; rfl
  have hne : old ≠ new := fun e => by rw [e, hn0] at ho1; omega
  have hI : ∀ (x : ByteArray) (w : World), Calls P (ρ.f 143) #[.string x, .string old] w fun e w' => e = .returned (.int .i64 (Go.Lib.indexByte x.data.toList c)) ∧ w' = w := by
    intro x w
    rw [hold]
    exact Any.strings_Index_one { L with } x c w
  have hC : Calls P (ρ.f 138) #[.string s, .string old] w fun e w' => e = .returned (.int .i64 (s.data.toList.count c : Nat)) ∧ w' = w := by
    rw [hold]
    exact Any.strings_Count_one { L with } s c w
  have key : Calls P (ρ.f 154) #[.string s, .string old, .string new, .int .i64 (-1)] w fun e w' => e = .returned (.string ⟨(noB c s.data.toList).toArray⟩) ∧ Below w.heap.size w w' := by
    by_cases h0 : s.data.toList.count c = 0
    · rw [h0] at hC
      rw [noB_none h0]
      refine (repl_none { L with } s old new w hne hC).mono ?_
      rintro e w' ⟨rfl, rfl⟩
      exact ⟨rfl, Below.refl _ _⟩
    · exact repl_some { L with } X s old new c (-1) (by omega) w hs ho1 hn0 hne hI _ hC rfl (by omega)
  rw [← hold, ← hnew]
  clear hI hC hold hnew ho1 hn0 hne
  have t3 := L.t3; have a3 := L.a3; have z3 := L.z3; have v3 := L.v3
  have t9 := L.t9; have a9 := L.a9; have z9 := L.z9; have v9 := L.v9
  have e154 : ∀ args w, (callFunc (ρ.f 154) args).run P w = .ok (.enter (ρ.f 154) args) w := enters_of L.f154 (by kernel_rfl) rfl
  go_enter L.f155, Body.n155_ntmps ρ
  go_wp2_with (go_at_fn (ρ.f 154); refine key.mono ?_; rintro e w' ⟨rfl, hw⟩)
  go_ret
  exact ⟨rfl, hw⟩
end
theorem x_ReplaceAll : ExtAt Go.Proofs.Tryd.prog F 341 xReplaceAll := by
  intro xs r hr
  unfold xReplaceAll at hr
  split at hr
  · rename_i s c
    split at hr
    · rename_i hl
      cases hr
      refine ⟨by decide +kernel, fun m w args hx => ?_⟩
      simp only [RelL] at hx
      obtain ⟨u, l, e1, h1, v, l2, rfl, h2, t, l3, rfl, h3, rfl⟩ := hx
      obtain rfl : args = #[u, v, t] := by rw [← Array.toArray_toList (xs := args), e1]
      rw [rel_str h1, rel_str h2, rel_str h3]
      refine (repl_all Tryd.lays155 Tryd.Builder_Extra_155 ⟨s.toArray⟩ c w (by show s.toArray.size < _; simp; omega)).mono ?_
      rintro e w' ⟨rfl, hb⟩
      exact ⟨_, rfl, by simp only [RelV], hb⟩
    · cases hr
  · cases hr
theorem strs_map2 : ∀ (L : List (List UInt8)) (m : Emb), RelL F m (L.map AV.str) (L.map fun s => Value.string ⟨s.toArray⟩)
  | [], _ => by simp [RelL]
  | s :: L, m => by
    simp only [List.map_cons, RelL]
    exact ⟨_, _, rfl, by simp only [RelV], strs_map2 L m⟩
theorem x_Split : ExtAtW Go.Proofs.Tryd.prog F 338 xSplit := by
  intro xs h r h' hr
  unfold xSplit at hr
  split at hr
  · rename_i hh s c
    split at hr
    · rename_i hl
      cases hr
      refine ⟨by decide +kernel, fun base m w args hrel hx => ?_⟩
      obtain ⟨u, v, rfl, h1, h2⟩ : ∃ u v, args = #[u, v] ∧ RelV F m (.str s) u ∧ RelV F m (.str [c]) v := by
        simp only [RelL] at hx
        obtain ⟨u, l, e1, h1, v, l2, rfl, h2, rfl⟩ := hx
        exact ⟨u, v, by rw [← Array.toArray_toList (xs := args), e1], h1, h2⟩
      rw [rel_str h1, rel_str h2]
      refine (split_one Tryd.lays146 (by kernel_rfl) ⟨s.toArray⟩ c w (by show s.toArray.size < _; simp; omega)).mono ?_
      rintro e w' ⟨rfl, rfl⟩
      have hcnt : Go.Lib.countB ⟨s.toArray⟩ ⟨#[c]⟩ = s.count c := Go.Lib.count_one c _
      have hd := Go.Lib.splitB_data ⟨#[c]⟩ 0 (Go.Lib.countB ⟨s.toArray⟩ ⟨#[c]⟩) ⟨s.toArray⟩
      have hd2 : (Go.Lib.splitB ⟨#[c]⟩ 0 (Go.Lib.countB ⟨s.toArray⟩ ⟨#[c]⟩) ⟨s.toArray⟩).map Value.string = (splA c [] s).map fun s => Value.string ⟨s.toArray⟩ := by
        have h3 : (Go.Lib.splitB ⟨#[c]⟩ 0 (Go.Lib.countB ⟨s.toArray⟩ ⟨#[c]⟩) ⟨s.toArray⟩).map (·.data.toList) = splA c [] s := by
          rw [hd]
          show Go.Lib.splitK [c] 0 _ s = _
          exact splK_eq c _ s hcnt.symm
        rw [← h3, List.map_map]
        rfl
      have hlen : (splA c [] s).length = Go.Lib.countB ⟨s.toArray⟩ ⟨#[c]⟩ + 1 := by
        have h4 := congrArg List.length hd2
        rw [List.length_map, List.length_map, Go.Lib.splitB_all ⟨#[c]⟩ (Nat.le_refl _) 0 _ ⟨s.toArray⟩ rfl] at h4
        exact h4.symm
      rw [hd2]
      have hsc : ((splA c [] s).map AV.str).all AV.sc = true := by simp [AV.sc]
      have hn : newRow h ((splA c [] s).map AV.str) = some (h.length, h ++ [.row ((splA c [] s).map AV.str) 0 0 false]) := by simp only [newRow, hsc, if_true]
      obtain ⟨_, st⟩ := newRow_step (w' := w.alloc (.cells ((splA c [] s).map fun s => Value.string ⟨s.toArray⟩).toArray _)) hrel hn (strs_map2 (splA c [] s) m) (rest := []) (t := _) (fr := (0, 0)) (.inr (Nat.le_refl _)) (by rw [List.append_nil]; rfl) rfl rfl rfl
      refine ⟨_, _, rfl, ?_, st⟩
      simp only [RelV]
      refine ⟨_, 0, _, Emb.addRow_at _ _ _ _, by rw [hlen], Nat.le_of_eq hlen, .inr ⟨Nat.le_refl _, rfl, ?_, ?_⟩⟩
      · simp; try omega
      · simp; try omega
    · cases hr
  · cases hr

/-! ### slices.SortFunc at moves -/
abbrev encMv (x : Mo) : List Value := [.int .i64 x.1, .int .i64 x.2]
abbrev cmpMo (x y : Mo) : Int := if Go.Lib.compareInt x.1 y.1 ≠ 0 then Go.Lib.compareInt x.1 y.1 else Go.Lib.compareInt x.2 y.2
theorem cmpMo_lt (x y : Mo) : ltOf cmpMo x y = decide (ltMo x y) := by
  unfold ltOf
  congr 1
  unfold cmpMo Go.Lib.compareInt ltMo
  apply propext
  repeat' split
  all_goals omega
theorem put_any {α : Type} [Inhabited α] (en : α → Value) {w : World} {blk off : Nat} {d : Array α} (hH : Go.Sort.Holds en w blk off d) {xs : List α} (hl : xs.length = d.size) : Go.Sort.putRow en w blk off xs.toArray = w.setCells blk off (xs.map en) := by
  have h1 := Go.Lib.putRow_setCells en w blk off xs d 0 (by omega)
  rw [Go.Sort.putRow_self en w blk off d hH, Nat.add_zero] at h1
  rw [h1]
  congr 1
  apply Array.ext_getElem?
  intro j
  rw [Go.Lib.lay_get? xs d 0 j (by omega)]
  by_cases hj : j < xs.length
  · rw [if_pos ⟨Nat.zero_le _, by omega⟩, Nat.sub_zero]; simp
  · rw [if_neg (by omega), Array.getElem?_eq_none (by simp; omega), Array.getElem?_eq_none (by omega)]
end Go.Proofs.YtgdlaopjabjkbaaDoor.Ab

/- THE SEAT's contract of slices.SortFunc at moves: the comparing closure by a walk, the sort by the shelf's contract. -/
namespace Go.Proofs.YtgdlaopjabjkbaaDoor.Ab
open Go Go.RowKit Go.Shelf Go.Sort

set_option maxHeartbeats 2000000 in
/-- cmp.Or of two numbers. -/
theorem or_two (b : Nat) (x y : Int) (w : World) (h0 : w.cell? ⟨b, 0, none⟩ = some (.int .i64 x)) (h1 : w.cell? ⟨b, 1, none⟩ = some (.int .i64 y)) :
    Calls Go.Proofs.Tryd.prog 40 #[.slice (some ⟨b, 0, none⟩) 2 2] w fun e w' => e = .returned (.int .i64 (if x ≠ 0 then x else y)) ∧ w' = w := by
  by_cases hx : x = 0
  · by_cases hy : y = 0
    · subst hx hy
      go_enter Go.Proofs.Tryd.func40, Go.Proofs.Tryd.ntmps40
      go_wp2
      refine wp_loop_rounds 3 ?_
      rw [rounds_succ]
      go_wp2
      rw [rounds_succ]
      go_wp2
      rw [rounds_succ]
      go_wp2
      go_ret
      exact ⟨rfl, rfl⟩
    · subst hx
      have hyb : (y == 0) = false := beq_eq_false_iff_ne.2 hy
      have hyn : (y != 0) = true := by rw [bne, hyb]; rfl
      go_enter Go.Proofs.Tryd.func40, Go.Proofs.Tryd.ntmps40
      go_wp2
      refine wp_loop_rounds 3 ?_
      rw [rounds_succ]
      go_wp2
      rw [rounds_succ]
      go_wp2
      go_ret
      exact ⟨rfl, rfl⟩
  · have hxb : (x == 0) = false := beq_eq_false_iff_ne.2 hx
    have hxn : (x != 0) = true := by rw [bne, hxb]; rfl
    have hif : (if x ≠ 0 then x else y) = x := if_pos hx
    rw [hif]
    clear hif
    go_enter Go.Proofs.Tryd.func40, Go.Proofs.Tryd.ntmps40
    go_wp2
    refine wp_loop_rounds 3 ?_
    rw [rounds_succ]
    go_wp2
    go_ret
    exact ⟨rfl, rfl⟩

theorem grown_three (W : World) (A B C : Obj) : ∃ q os', (((W.alloc A).alloc B).alloc C).drew = grow (W.drewN q) os' := ⟨1, #[A] ++ #[B] ++ #[C], by rw [alloc_eq_grow, alloc_eq_grow, alloc_eq_grow, grow_grow, grow_grow]; rfl⟩
theorem cell_third (W : World) (A B : Obj) (a b : Value) (t : TypeId) : (((W.alloc A).alloc B).alloc (.cells #[a, b] t)).drew.cell? ⟨W.heap.size + 1 + 1, 0, none⟩ = some a ∧ (((W.alloc A).alloc B).alloc (.cells #[a, b] t)).drew.cell? ⟨W.heap.size + 1 + 1, 1, none⟩ = some b := by
  have h : (((W.alloc A).alloc B).alloc (.cells #[a, b] t)).drew.heap[W.heap.size + 1 + 1]? = some (.cells #[a, b] t (0, 0)) := by
    have h0 := heap_alloc_new ((W.alloc A).alloc B) (.cells #[a, b] t)
    rw [World.size_alloc, World.size_alloc] at h0
    exact h0
  exact ⟨cell_at h, cell_at h⟩
set_option maxHeartbeats 16000000 in
set_option maxRecDepth 1000000 in
/-- The closure that compares two moves. -/
theorem mv_cmp (x y : Mo) (W : World) : Calls Go.Proofs.Tryd.prog 39 #[.agg #[.int .i64 x.1, .int .i64 x.2], .agg #[.int .i64 y.1, .int .i64 y.2]] W fun e w' => e = .returned (.int .i64 (cmpMo x y)) ∧ ∃ q os', w' = grow (W.drewN q) os' := by
  obtain ⟨x1, x2⟩ := x
  obtain ⟨y1, y2⟩ := y
  obtain ⟨cf, hcf⟩ : ∃ cf : Int → Int → Int, cf = Go.Lib.compareInt := ⟨_, rfl⟩
  have c1 : ∀ a b W', Calls Go.Proofs.Tryd.prog 41 #[.int .i64 a, .int .i64 b] W' fun e w' => e = .returned (.int .i64 (cf a b)) ∧ w' = W' := fun a b W' => by
    rw [hcf]; exact Tryd.cmp_Compare_int a b W'
  unfold cmpMo
  simp only
  rw [← hcf]
  clear hcf
  have c3 : ∀ W' : World, W'.cell? ⟨W.heap.size + 1 + 1, 0, none⟩ = some (.int .i64 (cf x1 y1)) → W'.cell? ⟨W.heap.size + 1 + 1, 1, none⟩ = some (.int .i64 (cf x2 y2)) →
      Calls Go.Proofs.Tryd.prog 40 #[.slice (some ⟨W.heap.size + 1 + 1, 0, none⟩) 2 2] W' fun e w' => e = .returned (.int .i64 (if cf x1 y1 ≠ 0 then cf x1 y1 else cf x2 y2)) ∧ w' = W' := fun W' h0 h1 => or_two _ _ _ W' h0 h1
  generalize (if cf x1 y1 ≠ 0 then cf x1 y1 else cf x2 y2) = r at c3 ⊢
  go_enter Go.Proofs.Tryd.func39, Go.Proofs.Tryd.ntmps39
  go_wp2
  go_region_held (fun w' => w'.cell? ⟨W.heap.size, 0, none⟩ = some (.int .i64 x1) ∧ w'.cell? ⟨W.heap.size, 1, none⟩ = some (.int .i64 x2) ∧ w'.cell? ⟨W.heap.size + 1, 0, none⟩ = some (.int .i64 y1) ∧ w'.cell? ⟨W.heap.size + 1, 1, none⟩ = some (.int .i64 y2)) (go_keep) (first
    | (go_at_call 41; refine (c1 _ _ _).mono ?_; rintro e w' ⟨rfl, rfl⟩)
    | (go_at_call 40; refine (c3 _ (cell_third W _ _ _ _ _).1 (cell_third W _ _ _ _ _).2).mono ?_; rintro e w' ⟨rfl, rfl⟩))
  go_wp2
  go_ret
  exact ⟨rfl, grown_three W _ _ _⟩

theorem ltMo_swo : SWO (ltOf cmpMo) where
  irrefl x := by rw [cmpMo_lt]; unfold ltMo; simp
  trans x y z h1 h2 := by rw [cmpMo_lt, decide_eq_true_iff] at *; unfold ltMo at *; omega
  ntrans x y z h1 h2 := by rw [cmpMo_lt, decide_eq_false_iff_not] at *; unfold ltMo at *; omega
theorem ltMo_one (x y : Mo) (h1 : ltOf cmpMo x y = false) (h2 : ltOf cmpMo y x = false) : x = y := by
  rw [cmpMo_lt, decide_eq_false_iff_not] at h1 h2
  unfold ltMo at h1 h2
  exact Prod.ext (by omega) (by omega)
theorem mos_rel {m : Emb} : ∀ {cs : List AV} {ms : List Mo} {vs : List Value}, mosOf cs = some ms → RelL F m cs vs → vs = ms.flatMap encMv
  | [], ms, vs, h, hr => by
    simp only [mosOf, Option.some.injEq] at h
    subst h
    simpa only [RelL, List.flatMap_nil] using hr
  | [x], ms, vs, h, hr => by cases x <;> simp [mosOf] at h
  | x :: y :: cs, ms, vs, h, hr => by
    unfold mosOf at h
    split at h
    · rename_i heq; cases heq
    · rename_i a b l heq
      simp only [List.cons.injEq] at heq
      obtain ⟨rfl, rfl, rfl⟩ := heq
      rw [Option.map_eq_some_iff] at h
      obtain ⟨ns, hn, rfl⟩ := h
      simp only [RelL] at hr
      obtain ⟨v, l1, rfl, h1, u, l2, rfl, h2, h3⟩ := hr
      rw [mos_rel hn h3]
      simp only [RelV] at h1 h2
      subst h1 h2
      rfl
    · cases h
theorem mos_map : ∀ (L : List Mo) (m : Emb), RelL F m (moC L) (L.flatMap encMv)
  | [], _ => by simp [RelL]
  | x :: L, m => by
    simp only [moC, List.flatMap_cons, List.cons_append, List.nil_append, RelL]
    exact ⟨_, _, rfl, by simp only [RelV], _, _, rfl, by simp only [RelV], mos_map L m⟩
theorem mos_get : ∀ (L : List Mo) (t : Nat), t < L.length * 2 → (L.flatMap encMv)[t]? = some ((encMv L[t / 2]!)[t % 2]!)
  | [], t, h => by simp at h
  | x :: L, 0, h => by simp
  | x :: L, 1, h => by simp
  | x :: L, t + 2, h => by
    have ih := mos_get L t (by simp at h; omega)
    rw [List.flatMap_cons]
    show (_ :: _ :: L.flatMap encMv)[t + 2]? = _
    rw [List.getElem?_cons_succ, List.getElem?_cons_succ, ih]
    have e1 : (t + 2) / 2 = t / 2 + 1 := by omega
    have e2 : (t + 2) % 2 = t % 2 := by omega
    rw [e1, e2]
    simp
theorem mos_flen (L : List Mo) : (L.flatMap encMv).length = L.length * 2 := by
  induction L with
  | nil => rfl
  | cons a L ih => rw [List.flatMap_cons, List.length_append, ih]; show 2 + L.length * 2 = (L.length + 1) * 2; omega
theorem flatK_list (L : List Mo) : flatK encMv 2 L.toArray = (L.flatMap encMv).toArray := by
  refine ext_get! (by rw [size_flatK, List.size_toArray, List.size_toArray, mos_flen]) fun t ht => ?_
  have ht' : t < L.toArray.size * 2 := by rw [size_flatK] at ht; exact ht
  have h2 : t < L.length * 2 := by simpa using ht'
  rw [get_flatK _ _ _ _ ht']
  have h3 := mos_get L t h2
  have hlt : t < (L.flatMap encMv).toArray.size := by rw [List.size_toArray, mos_flen]; exact h2
  rw [getElem!_pos (L.flatMap encMv).toArray t hlt]
  have hlt' : t < (L.flatMap encMv).length := by rw [mos_flen]; exact h2
  rw [List.getElem?_eq_getElem hlt'] at h3
  have h4 : (L.toArray)[t / 2]! = L[t / 2]! := by simp
  rw [h4]
  simp only [Option.some.injEq] at h3
  rw [List.getElem_toArray]
  exact h3.symm
set_option maxRecDepth 1000000 in
set_option maxHeartbeats 2000000 in
theorem x_SortM : ExtAtW Go.Proofs.Tryd.prog F 343 (xSortM 344) := by
  intro xs h r h' hr
  have hF : F 344 = 39 := by decide +kernel
  have two : ∀ {x y : AV} {args : Array Value} {m : Emb}, RelL F m [x, y] args.toList → ∃ u v, args = #[u, v] ∧ RelV F m x u ∧ RelV F m y v := by
    intro x y args m h
    simp only [RelL] at h
    obtain ⟨u, l, e1, h1, v, l2, rfl, h2, rfl⟩ := h
    exact ⟨u, v, by rw [← Array.toArray_toList (xs := args), e1], h1, h2⟩
  have unit : ∀ {m : Emb}, RelV F m (.tup []) (.tuple #[]) := by simp [RelV, RelL]
  have fnv : ∀ {m : Emb} {v : Value}, RelV F m (.fn 344 []) v → v = .func (.func 39) #[] #[] := by
    intro m v h
    simp only [RelV, RelL] at h
    obtain ⟨vs, h1, h2⟩ := h
    rw [hF] at h1
    obtain rfl : vs = #[] := by cases vs; simp_all
    exact h1
  have empt : ∀ (base : Nat) (m : Emb) (w : World) (p : Option Addr) (cap : Nat) (v : Value), RelH F base m h w → Calls Go.Proofs.Tryd.prog (F 343) #[.slice p 0 cap, v] w fun e w' => ∃ v m', e = .returned v ∧ RelV F m' (.tup []) v ∧ StepR F base m h w m' h w' := by
    intro base m w p cap v hrel
    refine (AnyF.slices_SortFunc_none Tryd.laysSortM p cap v w).mono ?_
    rintro e w' ⟨rfl, rfl⟩
    exact ⟨_, m, rfl, unit, StepR.refl hrel⟩
  have same : (fun x y : Mo => !ltOf cmpMo y x) = fun x y => !decide (ltMo y x) := by funext x y; rw [cmpMo_lt]
  unfold xSortM at hr
  split at hr
  · rename_i hh g
    split at hr
    · rename_i hg
      cases hr
      refine ⟨by decide +kernel, fun base m w args hrel hx => ?_⟩
      obtain ⟨u, v, rfl, h1, h2⟩ := two hx
      simp only [RelV] at h1
      subst h1
      exact empt base m w _ _ _ hrel
    · cases hr
  · rename_i hh g
    split at hr
    · rename_i hg
      cases hr
      refine ⟨by decide +kernel, fun base m w args hrel hx => ?_⟩
      obtain ⟨u, v, rfl, h1, h2⟩ := two hx
      simp only [RelV] at h1
      obtain ⟨a, rfl⟩ := h1
      exact empt base m w _ _ _ hrel
    · cases hr
  · rename_i hh c k off n e g
    split at hr
    · rename_i hg
      obtain ⟨rfl, rfl⟩ := hg
      cases hr
      refine ⟨by decide +kernel, fun base m w args hrel hx => ?_⟩
      obtain ⟨u, v, rfl, h1, h2⟩ := two hx
      simp only [RelV] at h1
      obtain ⟨p, o, cap, hp, rfl, hcap, hpl⟩ := h1
      exact empt base m w _ _ _ hrel
    · rename_i hg0
      split at hr
      · rename_i hcond
        obtain ⟨rfl, rfl, hnm⟩ := hcond
        have hn1 : n ≠ 0 := fun e => hg0 ⟨rfl, e⟩
        split at hr
        · rename_i cs hcs
          split at hr
          · rename_i ms hms
            rw [Option.map_eq_some_iff] at hr
            obtain ⟨h2, hw, hr⟩ := hr
            cases hr
            refine ⟨by decide +kernel, fun base m w args hrel hx => ?_⟩
            obtain ⟨u, v, rfl, h1, hf⟩ := two hx
            obtain rfl := fnv hf
            simp only [RelV] at h1
            obtain ⟨p, o, cap, hp, rfl, hcap, hpl⟩ := h1
            obtain ⟨q1, rfl, q3, q4⟩ := hpl.resolve_left (by omega)
            obtain ⟨vs, n1, n2, n3⟩ := hrel.row_at hcs hp (by omega) (by omega)
            have hvs := mos_rel hms n1
            subst hvs
            have hmsl : ms.length = n := by rw [mos_flen] at n2; omega
            subst hmsl
            have hsrt : (srtMo ms).length = ms.length := List.length_mergeSort _
            have hmoc : (moC (srtMo ms)).length = ms.length * 2 := by
              have : ∀ L : List Mo, (moC L).length = L.length * 2 := by
                intro L
                induction L with
                | nil => rfl
                | cons a L ih => simp only [moC] at ih ⊢; rw [List.flatMap_cons, List.length_append, ih]; show 2 + L.length * 2 = (L.length + 1) * 2; omega
              rw [this, hsrt]
            have hwc := wr_cells hrel hw hp (by omega) (by rw [hmoc]; omega)
            rw [hmoc] at hwc
            have hH : Go.Sort.Holds id w p.blk (p.base + (off - p.lo)) (ms.flatMap encMv).toArray := by
              intro j hj
              have hj' : j < (ms.flatMap encMv).length := by simpa using hj
              refine ⟨?_, (hwc j (by rw [mos_flen] at hj'; exact hj')).2⟩
              apply n3
              rw [List.getElem?_eq_getElem hj', getElem!_pos _ j hj]
              simp
            have hHK : HoldsK encMv 2 w p.blk (p.base + (off - p.lo)) ms.toArray := by
              unfold HoldsK
              rw [flatK_list]
              exact hH
            have hblk := hrel.ltr c k p hp
            have eg : ∀ args w, (callFunc 39 args).run Go.Proofs.Tryd.prog w = .ok (.enter 39 args) w := enters_of Go.Proofs.Tryd.func39 (by kernel_rfl) rfl
            have := AnyQ.slices_SortFunc_total Tryd.laysSortM 2 Tryd.isAgg34 Tryd.sizeOf34 encMv (fun _ => rfl) (fun x v hv => by simp at hv; rcases hv with rfl | rfl <;> rfl) cmpMo ltMo_swo 39 #[] p.blk (p.base + (off - p.lo)) cap ms.toArray w eg (fun _ _ _ _ x y => mv_cmp x y _) hHK hblk (by simp; omega) ltMo_one
            rw [same] at this
            have this2 : Calls Go.Proofs.Tryd.prog (F 343) #[.slice (some ⟨p.blk, p.base + (off - p.lo), none⟩) ms.length cap, .func (.func 39) #[] #[]] w fun e w' => e = .returned (.tuple #[]) ∧ ∃ n os, w' = sortWorldK encMv 2 w p.blk (p.base + (off - p.lo)) n (srtMo ms).toArray os := this
            refine this2.mono ?_
            rintro e w' ⟨rfl, q, os, rfl⟩
            refine ⟨_, m, rfl, unit, ?_⟩
            have st0 : StepR F base m h w m h (Go.Sort.ahead w q) := StepR.draw hrel rfl rfl rfl rfl
            have hH2 : Go.Sort.Holds id (Go.Sort.ahead w q) p.blk (p.base + (off - p.lo)) (ms.flatMap encMv).toArray := hH
            have e2 := put_any id hH2 (xs := (srtMo ms).flatMap encMv) (by rw [mos_flen, List.size_toArray, mos_flen, hsrt])
            have e3 : sortWorldK encMv 2 w p.blk (p.base + (off - p.lo)) q (srtMo ms).toArray os = grow ((Go.Sort.ahead w q).setCells p.blk (p.base + (off - p.lo)) ((srtMo ms).flatMap encMv)) os := by
              unfold sortWorldK putRowK
              rw [flatK_list, e2, List.map_id]
            have e4 : StepR F base m h w m h' (sortWorldK encMv 2 w p.blk (p.base + (off - p.lo)) q (srtMo ms).toArray os) := by
              rw [e3]
              have st1 := wr_set (P := Go.Proofs.Tryd.prog) st0.rel hw hp (by omega) (by rw [hmoc]; omega) (mos_map _ m) (by
                intro v hv
                obtain ⟨x, _, hx⟩ := List.mem_flatMap.1 hv
                simp at hx
                rcases hx with rfl | rfl <;> rfl)
              refine st0.trans (st1.trans ?_)
              refine StepR.grown st1.rel (fun b hb => ?_) (by simp [Go.Sort.grow]) rfl rfl rfl
              simp only [Go.Sort.grow]
              rw [Array.getElem?_append_left hb]
            exact e4
          · cases hr
        · cases hr
      · cases hr
  · cases hr
end Go.Proofs.YtgdlaopjabjkbaaDoor.Ab

/- THE SEAT's contracts of strings, out of the shelf. -/
namespace Go.Proofs.YtgdlaopjabjkbaaDoor.Ab
open Go Go.RowKit Go.Shelf

section
variable {m : Emb} {args : Array Value}
theorem rel_two {x y : AV} (h : RelL F m [x, y] args.toList) : ∃ u v, args = #[u, v] ∧ RelV F m x u ∧ RelV F m y v := by
  simp only [RelL] at h
  obtain ⟨u, l, e1, h1, v, l2, rfl, h2, rfl⟩ := h
  exact ⟨u, v, by rw [← Array.toArray_toList (xs := args), e1], h1, h2⟩
end

theorem x_Count : ExtAt Go.Proofs.Tryd.prog F 131 xCount := by
  intro xs r hr
  unfold xCount at hr
  split at hr
  · rename_i s c
    cases hr
    refine ⟨by decide +kernel, fun m w args hx => ?_⟩
    obtain ⟨u, v, rfl, h1, h2⟩ := rel_two hx
    rw [rel_str h1, rel_str h2]
    refine (Tryd.strings_Count_one ⟨s.toArray⟩ c w).mono ?_
    rintro e w' ⟨rfl, rfl⟩
    exact ⟨_, rfl, by simp only [RelV], Below.refl _ _⟩
  · cases hr
theorem x_Index : ExtAt Go.Proofs.Tryd.prog F 194 xIndex := by
  intro xs r hr
  unfold xIndex at hr
  split at hr
  · rename_i s c
    cases hr
    refine ⟨by decide +kernel, fun m w args hx => ?_⟩
    obtain ⟨u, v, rfl, h1, h2⟩ := rel_two hx
    rw [rel_str h1, rel_str h2]
    refine (Tryd.strings_Index_one ⟨s.toArray⟩ c w).mono ?_
    rintro e w' ⟨rfl, rfl⟩
    exact ⟨_, rfl, by simp only [RelV], Below.refl _ _⟩
  · cases hr
theorem x_IndexByte : ExtAt Go.Proofs.Tryd.prog F 190 xIndexByte := by
  intro xs r hr
  unfold xIndexByte at hr
  split at hr
  · rename_i s c
    cases hr
    refine ⟨by decide +kernel, fun m w args hx => ?_⟩
    obtain ⟨u, v, rfl, h1, h2⟩ := rel_two hx
    rw [rel_str h1, rel_int h2]
    refine (Tryd.strings_IndexByte ⟨s.toArray⟩ c w).mono ?_
    rintro e w' ⟨rfl, rfl⟩
    exact ⟨_, rfl, by simp only [RelV], Below.refl _ _⟩
  · cases hr
theorem x_Trim : ExtAt Go.Proofs.Tryd.prog F 111 xTrim := by
  intro xs r hr
  unfold xTrim at hr
  split at hr
  · rename_i s c
    split at hr
    · rename_i hc
      obtain ⟨h1, h2, h3⟩ := hc
      cases hr
      refine ⟨by decide +kernel, fun m w args hx => ?_⟩
      obtain ⟨u, v, rfl, g1, g2⟩ := rel_two hx
      rw [rel_str g1, rel_str g2]
      have hsz : ∀ l : List UInt8, (⟨l.toArray⟩ : ByteArray).size = l.length := fun _ => rfl
      refine (Any.strings_Trim_laid Tryd.lays160 (by kernel_rfl) ⟨s.toArray⟩ ⟨c.toArray⟩ w (by rw [hsz]; omega) (by rw [hsz]; omega) ?_).mono ?_
      · intro j b hb
        have := List.all_eq_true.1 h3 b (List.mem_of_getElem? hb)
        simpa using this
      · rintro e w' ⟨rfl, hb⟩
        exact ⟨_, rfl, by simp only [RelV], hb⟩
    · cases hr
  · cases hr

theorem strs_rel {m : Emb} : ∀ {cs : List AV} {xs : List (List UInt8)} {vs : List Value}, strsOf cs = some xs → RelL F m cs vs → vs = xs.map fun s => Value.string ⟨s.toArray⟩
  | [], xs, vs, h, hr => by
    simp only [strsOf, Option.some.injEq] at h
    subst h
    simpa only [RelL, List.map_nil] using hr
  | .str s :: cs, xs, vs, h, hr => by
    simp only [strsOf, Option.map_eq_some_iff] at h
    obtain ⟨ys, hy, rfl⟩ := h
    simp only [RelL] at hr
    obtain ⟨v, vs', rfl, h1, h2⟩ := hr
    rw [rel_str h1, strs_rel hy h2]
    rfl
  | .int .. :: _, _, _, h, _ | .bool _ :: _, _, _, h, _ | .nilS :: _, _, _, h, _ | .empS :: _, _, _, h, _ | .slice .. :: _, _, _, h, _ | .nilP :: _, _, _, h, _ | .ptr .. :: _, _, _, h, _ | .nilM :: _, _, _, h, _ | .map _ :: _, _, _, h, _
  | .iter _ :: _, _, _, h, _ | .fn .. :: _, _, _, h, _ | .nilF :: _, _, _, h, _ | .agg _ :: _, _, _, h, _ | .tup _ :: _, _, _, h, _ | .nilI :: _, _, _, h, _ | .ifc :: _, _, _, h, _ | .undef :: _, _, _, h, _ => by simp [strsOf] at h
theorem x_Join : ExtAtH Go.Proofs.Tryd.prog F 255 xJoin := by
  intro xs h r hr
  unfold xJoin at hr
  split at hr
  · rename_i hh c k off len e sep
    split at hr
    · rename_i he
      subst he
      split at hr
      · rename_i cs hcs
        split at hr
        · rename_i ys hys
          split at hr
          · rename_i hb
            cases hr
            refine ⟨by decide +kernel, fun base m w args hrel hx => ?_⟩
            obtain ⟨u, v, rfl, g1, g2⟩ := rel_two hx
            rw [rel_str g2]
            simp only [RelV] at g1
            obtain ⟨p, o, cap, hp, rfl, hcap, hpl⟩ := g1
            have hlt := hrel.ltr c k p hp
            have hlenS : (ys.map fun s => (⟨s.toArray⟩ : ByteArray)).map (·.data.toList) = ys := by rw [List.map_map]; exact (List.map_congr_left (g := id) fun s _ => rfl).trans (List.map_id ys)
            have key : ys.length = len ∧ ∀ (j : Nat) x, (ys.map fun s => (⟨s.toArray⟩ : ByteArray))[j]? = some x → w.cell? ⟨p.blk, o + j, none⟩ = some (.string x) := by
              rcases hpl with rfl | ⟨h1, h2, h3, h4⟩
              · obtain rfl : len = 0 := by omega
                have : cs = [] := by
                  unfold rdRow at hcs
                  split at hcs
                  · split at hcs
                    · cases hcs; simp
                    · cases hcs
                  · cases hcs
                subst this
                simp only [strsOf, Option.some.injEq] at hys
                subst hys
                simp
              · obtain ⟨vs, k1, k2, k3⟩ := hrel.row_at hcs hp h1 (by omega)
                have k4 := strs_rel hys k1
                subst k4
                refine ⟨by simpa using k2, fun j x hx => ?_⟩
                rw [h2]
                apply k3
                rw [List.getElem?_map] at hx ⊢
                cases hj : ys[j]? with
                | none => rw [hj] at hx; cases hx
                | some s => rw [hj] at hx; cases hx; rfl
            obtain ⟨key1, key2⟩ := key
            have hl2 : (ys.map fun s => (⟨s.toArray⟩ : ByteArray)).length = len := by simpa using key1
            have := Tryd.strings_Join p.blk o cap (ys.map fun s => ⟨s.toArray⟩) ⟨sep.toArray⟩ w key2 hlt (by rw [hl2]; exact hb.2) (by rw [hl2]; exact hcap) (by rw [hlenS]; exact hb.1)
            rw [hl2, hlenS] at this
            refine this.mono ?_
            rintro e w' ⟨rfl, hb⟩
            exact ⟨_, rfl, by simp only [RelV], hb⟩
          · cases hr
        · cases hr
      · cases hr
    · cases hr
  · cases hr

theorem xok : ExtOk Go.Proofs.Tryd.prog F E := by
  refine ext_ok ?_ ?_ ?_
  · intro x hx
    simp only [xtab, List.mem_cons, List.not_mem_nil, or_false] at hx
    rcases hx with rfl | rfl | rfl | rfl | rfl | rfl
    · exact x_Trim.h
    · exact x_IndexByte.h
    · exact x_Index.h
    · exact x_Count.h
    · exact x_Join
    · exact x_ReplaceAll.h
  · intro x hx
    simp only [ytab, List.mem_cons, List.not_mem_nil, or_false] at hx
    rcases hx with rfl | rfl
    · exact x_Split
    · exact x_SortM
  · intro x hx
    simp only [ztab, List.mem_cons, List.not_mem_nil, or_false] at hx
    all_goals cases hx
/-- ALL OF IT: what the machine says, the program does. -/
theorem all_sound : ∀ n, Sound Go.Proofs.Tryd.prog F (evF T E n) := sound hT xok
end Go.Proofs.YtgdlaopjabjkbaaDoor.Ab

/- RULES for the simplifier: reckoning through a body. What is still to come is hidden from it behind a tag. -/
namespace Go.Proofs.YtgdlaopjabjkbaaDoor.Ab
open Go

inductive Tag {α : Sort _} (a : α) : Type
  | k

/-- A function's answer. -/
def S (f : Nat) (xs : List AV) (h : AH) (post : AV → AH → Prop) (_ : Tag post) : Prop := Spec T E f xs h post
def Cx (c : C) (e : Env) (h : AH) (R : X → Env → AH → Prop) (_ : Tag c) (_ : Tag R) : Prop := WC T E c e h R
def Rx (is : List I) (e : Env) (h : AH) (Q : Env → AH → Prop) (_ : Tag is) (_ : Tag Q) : Prop := WR T E is e h Q
def Ox (o : Option (AV × AH)) (K : AV → AH → Prop) (_ : Tag K) : Prop := WO o K
/-- A branch: not gone into before it is known. -/
def WB (v : AV) (K : Bool → Prop) (_ : Tag K) : Prop := match v with
  | .bool t => K t
  | _ => False
def WF (v : AV) (K : Nat → List AV → Prop) (_ : Tag K) : Prop := match v with
  | .fn f cap => K f cap
  | _ => False
def WI (t : Bool) (A B : Prop) (_ : Tag A) (_ : Tag B) : Prop := if t = true then A else B
abbrev k {α : Sort _} {a : α} : Tag a := Tag.k

theorem WB_true {K : Bool → Prop} : WB (.bool true) K k = K true := rfl
theorem WB_false {K : Bool → Prop} : WB (.bool false) K k = K false := rfl
theorem WI_true {A B : Prop} : WI true A B k k = A := by simp [WI]
theorem WI_false {A B : Prop} : WI false A B k k = B := by simp [WI]
theorem WF_fn {f : Nat} {cap : List AV} {K : Nat → List AV → Prop} : WF (.fn f cap) K k = K f cap := rfl
theorem beq_tt : (true == true) = true := rfl
theorem beq_ff : (false == false) = true := rfl
theorem beq_tf : (true == false) = false := rfl
theorem beq_ft : (false == true) = false := rfl
theorem WB_dec {p : Prop} [Decidable p] {K : Bool → Prop} (h1 : p → K true) (h2 : ¬ p → K false) : WB (.bool (decide p)) K k := by
  by_cases h : p
  · simp [h, WB]; exact h1 h
  · simp [h, WB]; exact h2 h
theorem WB_cases {b : Bool} {K : Bool → Prop} (h1 : b = true → K true) (h2 : b = false → K false) : WB (.bool b) K k := by
  cases b
  · exact h2 rfl
  · exact h1 rfl

section
variable {e : Env} {h : AH} {Q : Env → AH → Prop} {R : X → Env → AH → Prop}

theorem w_skip : Cx .skip e h R k k = R .normal e h := propext WC_skip
theorem w_ret : Cx .ret e h R k k = R .ret e h := propext WC_ret
theorem w_exit {i : Nat} : Cx (.exit i) e h R k k = R (.exit i) e h := propext WC_exit
theorem w_reg {is : List I} : Cx (.reg is) e h R k k = Rx is e h (R .normal) k k := propext WC_reg
theorem w_drw0 {is : List I} : Cx (.drw is []) e h R k k = Rx is e h (R .normal) k k := by
  have key : ∀ cf, evDraw cf is [] e h = evR cf is e h := fun cf => by
    unfold evDraw; rw [if_pos]; intro p hp; cases hp
  apply propext
  unfold Cx Rx WC WR
  simp only [evC, key]
  constructor
  · rintro ⟨n, x, e', h', hev, hq⟩
    simp only [Option.map_eq_some_iff, Prod.mk.injEq] at hev
    obtain ⟨⟨e1, h1⟩, hev, rfl, rfl, rfl⟩ := hev
    exact ⟨n, e1, h1, hev, hq⟩
  · rintro ⟨n, e', h', hev, hq⟩
    exact ⟨n, .normal, e', h', by rw [hev]; rfl, hq⟩
theorem w_kl {ts : List Nat} {c : C} : Cx (.kl ts c) e h R k k = Cx c (e.dels ts) h R k k := propext WC_kl
theorem w_seq {a b : C} : Cx (.seq a b) e h R k k = Cx a e h (then' (fun e' h' => Cx b e' h' R k k) R) k k := propext (WC_seq hE)
theorem w_blk {i : Nat} {c : C} : Cx (.blk i c) e h R k k = Cx c e h (inBlk i R) k k := propext WC_blk
theorem w_cond {x : Opd} {a b : C} : Cx (.cond x a b) e h R k k = WB (env e x) (fun t => WI t (Cx a e h R k k) (Cx b e h R k k) k k) k := by
  apply propext
  unfold Cx
  cases hx : env e x with
  | bool t => rw [WC_cond hx]; simp only [WB, WI]
  | _ =>
    simp only [WB, iff_false]
    rintro ⟨n, y, e', h', hev, _⟩
    simp [evC, hx] at hev
theorem w_loop {c : C} : Cx (.loop c) e h R k k = Cx c e h (then' (fun e' h' => Cx (.loop c) e' h' R k k) R) k k := propext (WC_loop hE)
theorem w_loopb {c d : C} (hd : d = c) : Cx (.loop c) e h R k k = Cx d e h (then' (fun e' h' => Cx (.loop c) e' h' R k k) R) k k := by subst hd; exact w_loop
theorem del_eq (e : Env) (t : Nat) : e.del t = e.filter fun x => x.1 != t := by
  induction e with
  | nil => rfl
  | cons x e ih =>
    obtain ⟨u, v⟩ := x
    simp only [Env.del, List.filter_cons, ih]
    by_cases h : u = t <;> simp [h]
theorem dels_eq : ∀ (ts : List Nat) (e : Env), e.dels ts = e.filter fun x => !ts.contains x.1
  | [], e => by
    simp only [Env.dels, List.contains_nil, Bool.not_false]
    exact (List.filter_eq_self.2 (fun _ _ => rfl)).symm
  | t :: ts, e => by
    rw [Env.dels, dels_eq ts, del_eq, List.filter_filter]
    congr 1
    funext x
    by_cases h : x.1 = t <;> simp [h]
theorem dels_dels (e : Env) (ts : List Nat) : (e.dels ts).dels ts = e.dels ts := by
  rw [dels_eq, dels_eq, List.filter_filter]; simp
/-- At a loop's head the dead slots go. -/
theorem w_loopn {c c' : C} {ts : List Nat} (hc : c = .kl ts c') : Cx (.loop c) e h R k k = Cx (.loop c) (e.dels ts) h R k k := by
  subst hc
  rw [w_loop, w_loop (e := e.dels ts), w_kl, w_kl, dels_dels]
theorem then_n {K : Env → AH → Prop} : then' K R .normal e h = K e h := rfl
theorem then_e {K : Env → AH → Prop} {i : Nat} : then' K R (.exit i) e h = R (.exit i) e h := rfl
theorem then_r {K : Env → AH → Prop} : then' K R .ret e h = R .ret e h := rfl
theorem blk_n {i : Nat} : inBlk i R .normal e h = R .normal e h := rfl
theorem blk_r {i : Nat} : inBlk i R .ret e h = R .ret e h := rfl
theorem blk_e {i j : Nat} : inBlk i R (.exit j) e h = WI (j == i) (R .normal e h) (R (.exit j) e h) k k := by simp [inBlk, WI]

theorem w_nil : Rx [] e h Q k k = Q e h := propext WR_nil
def WOp (d : Option Nat) (op : AOp) (is : List I) (e : Env) (h : AH) (Q : Env → AH → Prop) (_ : Tag is) (_ : Tag Q) : Prop := match op with
  | .call f xs => S f (xs.map (env e)) h (fun v h' => Rx is (put e d v) h' Q k k) k
  | .callv x xs => WF (env e x) (fun f cap => S f (xs.map (env e) ++ cap) h (fun v h' => Rx is (put e d v) h' Q k k) k) k
  | op => Ox (evOp noCall (env e) h op) (fun v h' => Rx is (put e d v) h' Q k k) k
theorem w_op {d : Option Nat} {op : AOp} {is : List I} : Rx (⟨d, op, none⟩ :: is) e h Q k k = WOp d op is e h Q k k := by
  apply propext
  unfold Rx
  cases op <;> first
    | exact WR_op rfl
    | exact WR_call hE
    | (rename_i x xs
       simp only [WOp]
       cases hx : env e x with
       | fn f cap => rw [WR_callv hE hx]; rfl
       | _ =>
         simp only [WF, iff_false]
         rintro ⟨n, e', h', hev, _⟩
         simp [evR, evI, evOp, hx] at hev)
/-- A guard: heard, not heard, or on what was not done. -/
def WG (v : AV) (K : Bool → Prop) (A : Prop) (_ : Tag K) (_ : Tag A) : Prop := match v with
  | .bool t => K t
  | .tup [] => A
  | _ => False
theorem WG_bool {b : Bool} {K : Bool → Prop} {A : Prop} : WG (.bool b) K A k k = WB (.bool b) K k := rfl
theorem WG_skp {K : Bool → Prop} {A : Prop} : WG (.tup []) K A k k = A := rfl
theorem w_grd {d : Option Nat} {op : AOp} {is : List I} {t : Nat} {want : Bool} : Rx (⟨d, op, some (t, want)⟩ :: is) e h Q k k = WG (e.get t) (fun b => WI (b == want) (Rx (⟨d, op, none⟩ :: is) e h Q k k) (Rx is (put e d (.tup [])) h Q k k) k k) (Rx is (put e d (.tup [])) h Q k k) k k := by
  apply propext
  unfold Rx
  have bad : (∀ b, e.get t ≠ .bool b) → e.get t ≠ .tup [] → ¬ WR T E (⟨d, op, some (t, want)⟩ :: is) e h Q := by
    rintro h1 h2 ⟨n, e', h', hev, _⟩
    simp only [evR, evI] at hev
    cases hev
  cases hx : e.get t with
  | bool b => rw [WR_grd hx]; simp only [WG, WI, beq_iff_eq]
  | tup l =>
    cases l with
    | nil => rw [WR_grd0 hx]; rfl
    | cons a l =>
      simp only [WG, iff_false]
      exact bad (by rw [hx]; intro b; simp) (by rw [hx]; simp)
  | _ =>
    simp only [WG, iff_false]
    exact bad (by rw [hx]; intro b; simp) (by rw [hx]; simp)

theorem O_some {v : AV} {h : AH} {K : AV → AH → Prop} : Ox (some (v, h)) K k = K v h := rfl
theorem O_map {β : Type} {f : β → AV × AH} {b : β} {K : AV → AH → Prop} : Ox ((some b).map f) K k = K (f b).1 (f b).2 := rfl
theorem O_if {c : Prop} [Decidable c] {x : Option (AV × AH)} {K : AV → AH → Prop} : Ox (if c then x else none) K k = (c ∧ Ox x K k) := by
  unfold Ox; split <;> simp [*, WO]
theorem O_mapif {β : Type} {c : Prop} [Decidable c] {f : β → AV × AH} {x : Option β} {K : AV → AH → Prop} : Ox ((if c then x else none).map f) K k = (c ∧ Ox (x.map f) K k) := by
  unfold Ox; split <;> simp [*, WO]
theorem O_ite {c : Prop} [Decidable c] {x y : Option (AV × AH)} {K : AV → AH → Prop} : Ox (if c then x else y) K k = if c then Ox x K k else Ox y K k := by
  split <;> rfl

/-- Into a function of the table. -/
theorem S_of {f : Nat} {xs : List AV} {post : AV → AH → Prop} {fi : FI} (hEf : E f = none) (hT : T f = some fi)
    (hw : Cx fi.body (Env.init 0 xs) h (fun x e' h' => (x = .normal ∨ x = .ret) ∧ ∃ r, resV e' h' fi.res = some r ∧ post r h') k k) : S f xs h post k := Spec_of hEf hT hw
theorem S_ext {f : Nat} {xs : List AV} {post : AV → AH → Prop} {G : List AV → AH → Option AV} {r : AV} (hEf : E f = some (pureX G)) (hG : G xs h = some r) (hp : post r h) : S f xs h post k := Spec_ext hEf 0 (by simp [pureX, hG]) hp
theorem S_mono {f : Nat} {xs : List AV} {post post' : AV → AH → Prop} (hs : S f xs h post k) (hp : ∀ r h', post r h' → post' r h') : S f xs h post' k := Spec.mono hs hp
theorem Cx_mono {c : C} {R' : X → Env → AH → Prop} (hs : Cx c e h R k k) (hp : ∀ x e' h', R x e' h' → R' x e' h') : Cx c e h R' k k := WC.mono hs hp
end

/- The rules above, in bundles. -/
theorem zP : type_of% @w_kl ∧ type_of% @w_seq ∧ type_of% @w_reg ∧ type_of% @w_drw0 ∧ type_of% @w_blk ∧ type_of% @then_n ∧ type_of% @then_e ∧ type_of% @then_r ∧ type_of% @blk_n ∧
   type_of% @blk_e ∧ type_of% @blk_r ∧ type_of% @List.map_cons.{0,0} ∧ type_of% @List.map_nil.{0,0} := ⟨@w_kl, @w_seq, @w_reg, @w_drw0, @w_blk, @then_n, @then_e, @then_r, @blk_n,
   @blk_e, @blk_r, @List.map_cons.{0,0}, @List.map_nil.{0,0}⟩
theorem zW : type_of% @w_op ∧ type_of% @w_nil ∧ type_of% @w_cond ∧ type_of% @w_skip ∧ type_of% @w_exit ∧ type_of% @w_ret ∧ type_of% @w_grd ∧ type_of% @WG_bool ∧ type_of% @WG_skp ∧
   type_of% @WB_true ∧ type_of% @WB_false ∧ type_of% @WI_true ∧ type_of% @WI_false ∧ type_of% @WF_fn ∧ type_of% @beq_tt ∧ type_of% @beq_ff ∧ type_of% @beq_tf ∧ type_of% @beq_ft ∧
   type_of% @O_some ∧ type_of% @O_if ∧ type_of% @O_mapif ∧ type_of% @O_map ∧ type_of% @List.nil_append.{0} ∧ type_of% @List.cons_append.{0} ∧ type_of% @List.append_nil.{0} ∧
   type_of% @if_true.{1} ∧ type_of% @if_false.{1} ∧ type_of% @Option.map_some.{0,0} ∧ type_of% @Option.map_none.{0,0} ∧ type_of% @Option.bind_some.{0,0} ∧ type_of%
   @Option.some.injEq.{0} ∧ type_of% @Bool.not_true ∧ type_of% @Bool.not_false ∧ type_of% @Bool.false_eq_true ∧ type_of% @Bool.true_eq_false ∧ type_of% @decide_true ∧ type_of%
   @decide_false ∧ type_of% @true_and ∧ type_of% @and_true ∧ type_of% @false_and ∧ type_of% @and_false ∧ type_of% @true_or ∧ type_of% @or_true ∧ type_of% @false_or ∧ type_of%
   @or_false ∧ type_of% @Int.lt_irrefl ∧ type_of% @List.getElem?_cons_zero.{0} ∧ type_of% @List.getElem?_cons_succ.{0} ∧ type_of% @exists_eq_left'.{1} ∧ type_of%
   @List.length_cons.{0} ∧ type_of% @List.length_nil.{0} ∧ type_of% @List.all_cons.{0} ∧ type_of% @List.all_nil.{0} ∧ type_of% @List.take_succ_cons.{0} ∧ type_of%
   @List.take_zero.{0} ∧ type_of% @List.take_nil.{0} ∧ type_of% @List.drop_succ_cons.{0} ∧ type_of% @List.drop_zero.{0} ∧ type_of% @List.drop_nil.{0} ∧ type_of% @Bool.and_true ∧
   type_of% @Bool.true_and ∧ type_of% @Bool.false_and ∧ type_of% @Bool.and_false ∧ type_of% @Bool.and_self ∧ type_of% @Nat.le_refl ∧ type_of% @and_self ∧ type_of% @Nat.zero_add ∧
   type_of% @Int.toNat_natCast ∧ type_of% @Int.natCast_nonneg := ⟨@w_op, @w_nil, @w_cond, @w_skip, @w_exit, @w_ret, @w_grd, @WG_bool, @WG_skp, @WB_true, @WB_false, @WI_true,
   @WI_false, @WF_fn, @beq_tt, @beq_ff, @beq_tf, @beq_ft, @O_some, @O_if, @O_mapif, @O_map, @List.nil_append.{0}, @List.cons_append.{0}, @List.append_nil.{0}, @if_true.{1},
   @if_false.{1}, @Option.map_some.{0,0}, @Option.map_none.{0,0}, @Option.bind_some.{0,0}, @Option.some.injEq.{0}, @Bool.not_true, @Bool.not_false, @Bool.false_eq_true,
   @Bool.true_eq_false, @decide_true, @decide_false, @true_and, @and_true, @false_and, @and_false, @true_or, @or_true, @false_or, @or_false, @Int.lt_irrefl,
   @List.getElem?_cons_zero.{0}, @List.getElem?_cons_succ.{0}, @exists_eq_left'.{1}, @List.length_cons.{0}, @List.length_nil.{0}, @List.all_cons.{0}, @List.all_nil.{0},
   @List.take_succ_cons.{0}, @List.take_zero.{0}, @List.take_nil.{0}, @List.drop_succ_cons.{0}, @List.drop_zero.{0}, @List.drop_nil.{0}, @Bool.and_true, @Bool.true_and,
   @Bool.false_and, @Bool.and_false, @Bool.and_self, @Nat.le_refl, @and_self, @Nat.zero_add, @Int.toNat_natCast, @Int.natCast_nonneg⟩
theorem zL : type_of% @true_and ∧ type_of% @Nat.le_refl ∧ type_of% @List.length_append.{0} ∧ type_of% @List.length_cons.{0} ∧ type_of% @List.length_nil.{0} ∧ type_of%
   @List.length_map.{0,0} ∧ type_of% @List.length_set.{0} ∧ type_of% @List.length_take.{0} ∧ type_of% @List.length_drop.{0} := ⟨@true_and, @Nat.le_refl, @List.length_append.{0},
   @List.length_cons.{0}, @List.length_nil.{0}, @List.length_map.{0,0}, @List.length_set.{0}, @List.length_take.{0}, @List.length_drop.{0}⟩
end Go.Proofs.YtgdlaopjabjkbaaDoor.Ab

/- FROM a function's answer in the abstract machine to what a row wants. -/
namespace Go.Proofs.YtgdlaopjabjkbaaDoor.Ab
open Go Go.RowKit Go.ChangeShapes

theorem keptBut_below {W W' : World} (hb : Go.RowKit.Below W.heap.size W W') (may : MemPlace → Prop) : W.keptBut W' may := by
  refine ⟨hb.os, hb.output, fun i hi => ?_⟩
  rw [hb.block i hi]
  cases W.heap[i]? with
  | none => trivial
  | some o =>
    cases o <;> first
      | exact ⟨rfl, rfl, rfl, fun _ _ => rfl⟩
      | exact .inr ⟨rfl, rfl⟩
      | rfl

theorem frozen_below {W W' : World} (hb : Go.RowKit.Below W.heap.size W W') (a : Addr) (ha : a.block < W.heap.size) : W'.frozen? a = W.frozen? a := by
  simp only [World.frozen?, hb.block a.block ha]

section
variable {H : Type} {enc : TypeId × Value → H} {P : Program}
/-- What a call leaves that turns nothing old. -/
theorem post_below {f : Func} {s : ChangeSpec} {apart fresh handsOn again : Bool} {W W' : World} {args : Array Value} {v : Value} {ds gs : List (DataW H)} {before pa pv : List MemPlace}
    (hW : DataW.Whole enc P f.params.toList s.vars apart W args.toList ds gs before)
    (hres : ∀ (b : Nat) (sp : Nat → Bool) (hd : Bool), DataW.TrodAll enc P W' b sp hd f.resultTypes.toList (v.resultList f.resultTypes.size) (s.fn H (ds ++ gs)).results [])
    (hargs : ∀ sp : Nat → Bool, (∀ p ∈ before, sp p.block = true) → DataW.TrodAll enc P W' 0 sp true f.params.toList args.toList (s.fn H (ds ++ gs)).args pa)
    (hvars : ∀ sp : Nat → Bool, (∀ p ∈ before, sp p.block = true) → DataW.TrodVars enc P W' sp s.vars (s.fn H (ds ++ gs)).vars pv)
    (hps : before = pa ++ pv) (hb : Go.RowKit.Below W.heap.size W W')
    (hok : ∀ (j : Nat) (t : TypeId) (r : Value), f.resultTypes[j]? = some t → (v.resultList f.resultTypes.size)[j]? = some r → Value.okWide P W' .any 0 t r) :
    s.post enc P f apart fresh handsOn again W args v W' := by
  have hold : ∀ p ∈ before, (fun b => decide (b < W.heap.size)) p.block = true := fun p hp => by simpa using hW.lt p hp
  have hlt := hW.lt
  refine ⟨ds, gs, before, [], pa, pv, hW, hres _ _ _, hargs _ hold, hvars _ hold, World.keptBut_mono (fun p hp => ⟨hp, ?_⟩) (keptBut_below hb (· ∈ before)), fun _ => ?_⟩
  · rw [hps, List.mem_append] at hp
    exact Or.inr hp
  · obtain ⟨_, _, _, _, _, hz, hn⟩ := hW
    refine ⟨hok, _, _, ([] ++ pa) ++ pv, ⟨[] ++ pa, pv, trodAll_append (hargs _ (fun _ _ => rfl)) (hres _ _ _), hvars _ (fun _ _ => rfl), rfl, ?_, ?_⟩, ?_⟩
    · intro b off hp
      have hin : MemPlace.cell b off ∈ before := by rw [hps]; simpa using hp
      rw [frozen_below hb _ (show b < W.heap.size from hlt _ hin)]
      exact hz b off (by rw [hps]; simpa using hp)
    · intro ha
      have := hn ha
      rw [hps] at this
      simpa using this
    · intro p hp _
      rw [hps]
      simpa using hp
end

/-- A law that answers true. -/
theorem law_calls {P : Program} {F : Nat → Nat} (hs : ∀ n, Sound P F (evF T E n)) {f : Nat} {xs : List AV} {h : AH} (hS : S f xs h (fun r _ => r = .bool true) k) {m : Emb} {W : World} {args : Array Value} (hr : RelH F W.heap.size m h W) (hx : RelL F m xs args.toList) :
    Calls P (F f) args W fun e w' => e = .returned (.bool true) ∧ Go.RowKit.Below W.heap.size W w' := by
  obtain ⟨n, r, h', hev, rfl⟩ := hS
  obtain ⟨_, hc⟩ := hs n f xs h _ h' hev
  refine (hc W.heap.size m W args hr hx).mono ?_
  rintro e w' ⟨v, m', rfl, hv, hst⟩
  exact ⟨by rw [rel_bool hv], hst.below (Nat.le_refl _)⟩

/-- Nothing is known of the heap. -/
theorem rel_nothing (F : Nat → Nat) (W : World) : RelH F W.heap.size ⟨fun _ _ => none, fun _ => none⟩ [] W where
  rowc := by intro c k p h; cases h
  objc := by intro c b h; cases h
  ob := by intro c o h; simp at h
  inj := by intro c k p c' k' p' h; cases h
  injo := by intro c c' b h; cases h
  injr := by intro c k p c' b h; cases h
  ltr := by intro c k p h; cases h
  lto := by intro c b h; cases h
  vers := by intro c cs ver fl ro k p h; simp at h
  le := Nat.le_refl _
end Go.Proofs.YtgdlaopjabjkbaaDoor.Ab

/- ARGUMENTS of a law: how they stand in the abstract machine's first state, and that they read as before behind the call. -/
namespace Go.Proofs.YtgdlaopjabjkbaaDoor.Ab
open Go Go.RowKit Go.ChangeShapes Go.WideShapes Go.Deep

/-- One row that is read alone. -/
def emb1 (p : Place) : Emb := ⟨fun c k => if c = 0 ∧ k = 0 then some p else none, fun _ => none⟩
theorem rel_row {F : Nat → Nat} {W : World} {p : Place} {cs : List AV} {C : Array Value} {e : TypeId} {fr : Nat × Nat} (hb : W.heap[p.blk]? = some (.cells C e fr)) (hs : C.size = p.siz) (hlo : p.lo = 0) (hext : p.ext = cs.length) (hle : p.base + p.ext ≤ p.siz)
    (hv : ∀ j x, cs[j]? = some x → ∃ v, C[p.base + j]? = some v ∧ RelV F (emb1 p) x v) : RelH F W.heap.size (emb1 p) [.row cs 0 0 true] W := by
  have hlt : p.blk < W.heap.size := (Array.getElem?_eq_some_iff.1 hb).1
  have key : ∀ c k q, (emb1 p).row c k = some q → c = 0 ∧ k = 0 ∧ q = p := by
    intro c k q h
    simp only [emb1] at h
    split at h
    · rename_i hh; cases h; exact ⟨hh.1, hh.2, rfl⟩
    · cases h
  refine ⟨?_, ?_, ?_, ?_, ?_, ?_, ?_, ?_, ?_, Nat.le_refl _⟩
  · intro c k q h; obtain ⟨rfl, rfl, rfl⟩ := key c k q h; exact ⟨_, rfl, rfl⟩
  · intro c b h; cases h
  · intro c o ho
    cases c with
    | succ c => simp at ho
    | zero =>
      simp at ho
      subst ho
      intro k q hq hk
      obtain ⟨_, rfl, rfl⟩ := key 0 k q hq
      refine ⟨Nat.le_refl _, by omega, fun _ => hext, (fun h => by cases h), C, e, fr, hb, hs, by omega, (fun h => by cases h), ?_⟩
      intro j h1 h2
      have hj : j < cs.length := by omega
      obtain ⟨v, h3, h4⟩ := hv j cs[j] (by simp)
      exact ⟨cs[j], v, by simp, by rw [hlo]; simpa using h3, h4⟩
  · intro c k q c' k' q' h1 h2 h3 _
    obtain ⟨rfl, rfl, rfl⟩ := key c k q h1
    exact absurd hlt (by omega)
  · intro c c' b h; cases h
  · intro c k q c' b _ h; cases h
  · intro c k q h; obtain ⟨rfl, rfl, rfl⟩ := key c k q h; exact hlt
  · intro c b h; cases h
  · intro c cs' ver fl ro k q h1 h2
    obtain ⟨rfl, rfl, rfl⟩ := key c k q h2
    exact Nat.zero_le _

section
variable {H : Type} {enc : TypeId × Value → H} {P : Program}
/-- All arguments read behind the call as before. -/
theorem trodAll_stays (hl : laidOutB P = true) {W W' : World} (hb : Go.RowKit.Below W.heap.size W W') {sp : Nat → Bool} : ∀ {ts : List TypeId} {vs : List Value} {ds : List (DataW H)} {ps : List MemPlace},
    (∀ t ∈ ts, P.readableRec t = true ∧ t < P.types.size) → DataW.TrodAll enc P W 0 (fun _ => true) true ts vs ds ps → (∀ p ∈ ps, p.block < W.heap.size) → (∀ p ∈ ps, sp p.block = true) → DataW.TrodAll enc P W' 0 sp true ts vs ds ps
  | [], [], [], ps, _, h, _, _ => h
  | t :: ts, v :: vs, d :: ds, ps, ht, h, hlt, hsp => by
    obtain ⟨p, q, h1, h2, rfl⟩ := h
    obtain ⟨ht1, ht2⟩ := ht t (by simp)
    exact ⟨p, q, WideElems.Trod_stays hl ht1 ht2 h1 (fun x hx => hb.same (hlt x (by simp [hx]))) (fun x hx => hsp x (by simp [hx])), trodAll_stays hl hb (fun t' ht' => ht t' (by simp [ht'])) h2 (fun x hx => hlt x (by simp [hx])) (fun x hx => hsp x (by simp [hx])), rfl⟩
  | [], _ :: _, _, _, _, h, _, _ => by cases h
  | [], [], _ :: _, _, _, h, _, _ => by cases h
  | _ :: _, [], _, _, _, h, _, _ => by cases h
  | _ :: _, _ :: _, [], _, _, h, _, _ => by cases h
end
end Go.Proofs.YtgdlaopjabjkbaaDoor.Ab
