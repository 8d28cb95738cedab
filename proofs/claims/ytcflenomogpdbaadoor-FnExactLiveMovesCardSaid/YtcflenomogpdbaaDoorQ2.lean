/- Part 3 of the proof of a law of the given program: the rules that it leans on, and what the functions that it reaches answer; the conditions stand with each theorem. -/
import Derived.Orders
import Derived.LoopN
import Derived.Test.YtcflenomogpdbaaDoorProg
import Derived.Laws.IdiomCopy
import Derived.WalkKit
import Derived.Deep.RegionLaw
import Derived.Lib.SliceRun
import Derived.Maps.RangeRun
import Derived.Shelf.Strings.Builder1
import Derived.Shelf.Strings.Builder2
import Derived.Shelf.Strings.Trim
import Derived.Shelf.Small.Utf8
import Derived.Shelf.Small.Bits
import Derived.Shelf.Small.Strs
import Derived.Shelf.Small.Wraps
import Derived.Shelf.Strings.BuilderF
import Derived.Shelf.Strings.BuilderK
import Derived.Shelf.Utf8.RuneCount
import Derived.Shelf.Strings.Builder2Cap
import Derived.Shelf.Strconv.Itoa0
import Derived.Shelf.Strings.Search1
import Derived.Shelf.Strings.Search2
import Derived.Shelf.Strings.Search3
import Derived.Shelf.Strings.Count
import Derived.Shelf.LaysM
import Derived.Shelf.Strings.Shaped
import Derived.Shelf.Sort.Plain
import Derived.Shelf.Strings.Prefix
import Derived.Shelf.Strings.Split
import Derived.Shelf.Unicode.Decode
import Derived.Shelf.Strings.Runes
import Derived.Shelf.Strings.RuneCount
import Derived.Shelf.Strings.AsciiSet
import Derived.Shelf.Bits.Mul64
import Derived.Shelf.Strings.Repeat
import Derived.Shelf.Unicode.DecodeSlow
import Derived.Shelf.Unicode.DecodeAny
import Derived.Shelf.Unicode.DecodeLast
import Derived.Ground.Names2Prog
import Derived.Shelf.Slices.SearchI
import Derived.Shelf.Slices.In.SortNone
import Derived.Lib.SlicesDelete
import Derived.Sort.EncStr
import Derived.Sort.Grow
import Derived.Shelf.Strings.SlTrimAscii
import Derived.Test.YtcflenomogpdbaaDoorQ1
set_option linter.unusedSimpArgs false
set_option linter.unusedVariables false
/- DRAWN ORDERS, first part: what an operation reads and brings; what readers leave. -/
namespace Go.Proofs.YtcflenomogpdbaaDoor.Ab
open Go Go.RowKit

/-! ### Classes of operations -/
inductive K | q | l | a | m
  deriving DecidableEq
def AOp.kind : AOp → K
  | .load .. | .ofB .. | .look .. | .mlen .. | .subA .. => .l
  | .new .. | .box .. | .lit .. | .toB .. | .make .. | .mkmap | .rng .. => .a
  | .call .. | .callv .. | .store .. | .app .. | .appS .. | .mset .. | .nxt .. | .rngM .. | .ent .. | .copy .. | .clr .. => .m
  | _ => .q

def Opd.ts : Opd → List Nat
  | .t n => [n]
  | .c _ => []
def oOpd : Option Opd → List Opd
  | none => []
  | some x => [x]
def AOp.ods : AOp → List Opd
  | .mov x => [x]
  | .pick c a b => [c, a, b]
  | .bin _ x y | .beq _ x y | .aeq _ _ x y => [x, y]
  | .niq _ _ x | .un _ x | .conv _ x | .toB x | .ofB x | .ofR x => [x]
  | .new _ | .lit0 | .mkmap => []
  | .box x => [x]
  | .build _ ps | .lit _ _ _ ps => ps.map (·.2.2)
  | .load _ _ a => [a]
  | .store _ a x => [a, x]
  | .nck x => [x]
  | .faddr _ _ a => [a]
  | .fld _ _ _ x => [x]
  | .iaddr _ x i | .iaddrA _ _ x i | .idx _ _ _ x i | .idxS x i => [x, i]
  | .sub _ x lo hi | .subS x lo hi | .subA _ _ x lo hi => x :: (oOpd lo ++ oOpd hi)
  | .sub0 x hi mx => [x, hi, mx]
  | .make _ _ l c => [l, c]
  | .mkfn _ cs => cs
  | .look _ _ _ x k => [x, k]
  | .mset _ x k v => [x, k, v]
  | .mlen x | .rng x | .rngM x | .ent x | .nxt x => [x]
  | .prj _ x => [x]
  | .call _ xs => xs
  | .callv x xs => x :: xs
  | .lenS x | .lenV x => [x]
  | .app _ s x | .appS s x | .copy _ s x => [s, x]
  | .clr _ x => [x]
  | .mmx _ x y => [x, y]

theorem optv_congr {ρ ρ' : Opd → AV} {x : Option Opd} (h : ∀ y ∈ oOpd x, ρ y = ρ' y) : optv ρ x = optv ρ' x := by
  cases x with
  | none => rfl
  | some y => simp only [optv]; rw [h y (by simp [oOpd])]

/-- An operation sees its operands alone. -/
theorem evOp_congr {cf : CF} {ρ ρ' : Opd → AV} {h : AH} {op : AOp} (hx : ∀ x ∈ op.ods, ρ x = ρ' x) : evOp cf ρ h op = evOp cf ρ' h op := by
  cases op <;> simp only [AOp.ods] at hx <;> first
    | (simp only [evOp]; done)
    | (rename_i x; have h1 := hx x (by simp); simp only [evOp, h1]; done)
    | (rename_i x; have h1 : List.map ρ x = List.map ρ' x := List.map_congr_left hx; simp only [evOp, h1]; done)
    | (rename_i x y; have h1 := hx x (by simp); have h2 := hx y (by simp); simp only [evOp, h1, h2]; done)
    | (rename_i x y; have h1 := hx y (by simp); simp only [evOp, h1]; done)
    | (rename_i x y; have h1 := hx x (by simp); have h2 : List.map ρ y = List.map ρ' y := List.map_congr_left (fun z hz => hx z (by simp [hz])); simp only [evOp, h1, h2]; done)
    | (rename_i x y z; have h1 := hx x (by simp); have h2 := hx y (by simp); have h3 := hx z (by simp); simp only [evOp, h1, h2, h3]; done)
    | (rename_i x y z; have h2 := hx y (by simp); have h3 := hx z (by simp); simp only [evOp, h2, h3]; done)
    | (rename_i x y z; have h3 := hx z (by simp); simp only [evOp, h3]; done)
    | (rename_i x lo hi; have h1 := hx x (by simp); have h2 : optv ρ lo = optv ρ' lo := optv_congr (fun z hz => hx z (by simp [hz])); have h3 : optv ρ hi = optv ρ' hi := optv_congr (fun z hz => hx z (by simp [hz])); simp only [evOp, h1, h2, h3]; done)
    | (rename_i x y z u; have h1 := hx z (by simp); have h2 := hx u (by simp); simp only [evOp, h1, h2]; done)
    | (rename_i x y z u; have h1 := hx u (by simp); simp only [evOp, h1]; done)
    | (rename_i q x y z; have h1 := hx x (by simp); have h2 := hx y (by simp); have h3 := hx z (by simp); simp only [evOp, h1, h2, h3]; done)
    | (rename_i q x lo hi; have h1 := hx x (by simp); have h2 : optv ρ lo = optv ρ' lo := optv_congr (fun z hz => hx z (by simp [hz])); have h3 : optv ρ hi = optv ρ' hi := optv_congr (fun z hz => hx z (by simp [hz])); simp only [evOp, h1, h2, h3]; done)
    | (rename_i q p x lo hi; have h1 := hx x (by simp); have h2 : optv ρ lo = optv ρ' lo := optv_congr (fun z hz => hx z (by simp [hz])); have h3 : optv ρ hi = optv ρ' hi := optv_congr (fun z hz => hx z (by simp [hz])); simp only [evOp, h1, h2, h3]; done)
    | (rename_i q p s x y; have h1 := hx x (by simp); have h2 := hx y (by simp); simp only [evOp, h1, h2]; done)
    | (rename_i x ps; have h1 : List.map (fun (o, n, x) => (o, n, ρ x)) ps = List.map (fun (o, n, x) => (o, n, ρ' x)) ps := List.map_congr_left (fun z hz => by obtain ⟨o, n, y⟩ := z; simp only; rw [hx y (by simp only [List.mem_map]; exact ⟨_, hz, rfl⟩)]); simp only [evOp, h1]; done)
    | (rename_i q p x ps; have h1 : List.map (fun (o, n, x) => (o, n, ρ x)) ps = List.map (fun (o, n, x) => (o, n, ρ' x)) ps := List.map_congr_left (fun z hz => by obtain ⟨o, n, y⟩ := z; simp only; rw [hx y (by simp only [List.mem_map]; exact ⟨_, hz, rfl⟩)]); simp only [evOp, h1]; done)

/-- Pure ones hear nothing of the heap. -/
theorem evOp_q {cf : CF} {ρ : Opd → AV} {h : AH} {op : AOp} (hk : op.kind = .q) {v : AV} {h' : AH} (hev : evOp cf ρ h op = some (v, h')) (V : AH) : evOp cf ρ V op = some (v, V) := by
  cases op <;> simp only [AOp.kind] at hk <;> first
    | (cases hk; done)
    | (simp only [evOp] at hev ⊢
       first
         | (simp only [Option.some.injEq, Prod.mk.injEq] at hev; obtain ⟨rfl, rfl⟩ := hev; rfl)
         | (simp only [Option.map_eq_some_iff, Prod.mk.injEq] at hev ⊢; obtain ⟨u, hu, rfl, rfl⟩ := hev; exact ⟨u, hu, rfl, rfl⟩)
         | (repeat' split at hev
            all_goals first
              | (cases hev; done)
              | (simp only [Option.some.injEq, Prod.mk.injEq] at hev; obtain ⟨rfl, rfl⟩ := hev; simp [*]; done)
              | (simp only [Option.map_eq_some_iff, Prod.mk.injEq] at hev; obtain ⟨u, hu, rfl, rfl⟩ := hev; simp [*]; done)))

/-- Readers leave the heap as it is. -/
theorem evOp_l_same {cf : CF} {ρ : Opd → AV} {h h' : AH} {op : AOp} (hk : op.kind = .l) {v : AV} (hev : evOp cf ρ h op = some (v, h')) : h' = h := by
  cases op <;> simp only [AOp.kind] at hk <;> first
    | (cases hk; done)
    | (simp only [evOp] at hev
       repeat' split at hev
       all_goals first
         | (cases hev; done)
         | (cases hev; rfl)
         | (simp only [Option.map_eq_some_iff, Prod.mk.injEq] at hev; obtain ⟨u, hu, rfl, rfl⟩ := hev; rfl))
end Go.Proofs.YtcflenomogpdbaaDoor.Ab

/- REGIONS whose order is drawn: all that turns or reads the heap stands in one order. -/
namespace Go.Proofs.YtcflenomogpdbaaDoor.Ab
open Go Go.RowKit

/-! ### The checker -/
def mkMask (o : Oper) (acc : List Nat) : Nat := o.after.toList.foldl (fun s e => if Region.binds .any e then s ||| 2 ^ e.on ||| acc.getD e.on 0 else s) 0
def masks : List Oper → List Nat → List Nat
  | [], acc => acc
  | o :: os, acc => masks os (acc ++ [mkMask o acc])
def I.reads (x : I) : List Nat := x.op.ods.flatMap Opd.ts ++ (match x.grd with | some (t, _) => [t] | none => [])
def clashK : K → K → Bool
  | .q, _ | _, .q => false
  | .l, .l => false
  | _, _ => true
def pairOk (ps : List (Nat × Nat)) (i j : Nat) (x y : I) (bit : Bool) : Bool :=
  bit || ((match x.dst, y.dst with
    | some t, some u => decide (t ≠ u)
    | _, _ => true) && (match x.dst with
    | some t => decide (t ∉ y.reads)
    | none => true) && (match y.dst with
    | some t => decide (t ∉ x.reads)
    | none => true) && (!(clashK x.op.kind y.op.kind) || (decide (x.op.kind = .l) && clashK y.op.kind .l && ps.contains (i, j)) || (decide (y.op.kind = .l) && clashK x.op.kind .l && ps.contains (j, i))))
def dstsOk (x y : I) : Bool := match x.dst, y.dst with
  | some t, some u => decide (t ≠ u)
  | _, _ => true
def pairsOk (ps : List (Nat × Nat)) (B : List Nat) (is : List I) (y : I) (j : Nat) : Bool := (List.range j).all fun i => match is[i]? with
  | some x => dstsOk x y && pairOk ps i j x y ((B.getD j 0).testBit i)
  | none => false
def edgesOk : List Oper → Nat → Bool
  | [], _ => true
  | o :: os, i => o.after.toList.all (fun e => !Region.binds .any e || decide (e.on < i)) && edgesOk os (i + 1)
def drwOk (ops : Array Oper) (is : List I) (ps : List (Nat × Nat)) : Bool :=
  let B := masks ops.toList []
  edgesOk ops.toList 0 && (List.range is.length).all fun j => match is[j]? with
    | some y => pairsOk ps B is y j
    | none => false

theorem mask_bit {o : Oper} {acc : List Nat} {i : Nat} (h : (mkMask o acc).testBit i = true) : ∃ e ∈ o.after.toList, Region.binds .any e = true ∧ (i = e.on ∨ (acc.getD e.on 0).testBit i = true) := by
  have gen : ∀ (l : List Edge) (s : Nat), (l.foldl (fun s e => if Region.binds .any e then s ||| 2 ^ e.on ||| acc.getD e.on 0 else s) s).testBit i = true → s.testBit i = true ∨ ∃ e ∈ l, Region.binds .any e = true ∧ (i = e.on ∨ (acc.getD e.on 0).testBit i = true) := by
    intro l
    induction l with
    | nil => intro s h; exact .inl h
    | cons e l ih =>
      intro s h
      simp only [List.foldl_cons] at h
      rcases ih _ h with h1 | ⟨e', he', h2⟩
      · split at h1
        · rename_i hb
          simp only [Nat.testBit_or, Bool.or_eq_true] at h1
          rcases h1 with (h1 | h1) | h1
          · exact .inl h1
          · refine .inr ⟨e, by simp, hb, .inl ?_⟩
            rw [Nat.testBit_two_pow] at h1
            exact (of_decide_eq_true h1).symm
          · exact .inr ⟨e, by simp, hb, .inr h1⟩
        · exact .inl h1
      · exact .inr ⟨e', by simp [he'], h2⟩
  rcases gen _ _ h with h1 | h1
  · simp at h1
  · exact h1

theorem masks_closed {S : Nat → Prop} : ∀ (os : List Oper) (acc : List Nat), (∀ k, k < acc.length → S k → ∀ i, (acc.getD k 0).testBit i = true → S i) →
    (∀ (k : Nat) (o : Oper), os[k]? = some o → S (acc.length + k) → ∀ e ∈ o.after.toList, Region.binds .any e = true → S e.on) → ∀ j, S j → ∀ i, ((masks os acc).getD j 0).testBit i = true → S i
  | [], acc, ha, _, j, hj, i, hb => by
    simp only [masks] at hb
    by_cases hlt : j < acc.length
    · exact ha j hlt hj i hb
    · rw [List.getD_eq_getElem?_getD, List.getElem?_eq_none (by omega)] at hb; simp at hb
  | o :: os, acc, ha, ho, j, hj, i, hb => by
    simp only [masks] at hb
    refine masks_closed os _ ?_ ?_ j hj i hb
    · intro k hk hSk i hb
      simp only [List.length_append, List.length_singleton] at hk
      by_cases hlt : k < acc.length
      · rw [List.getD_eq_getElem?_getD, List.getElem?_append_left hlt, ← List.getD_eq_getElem?_getD] at hb
        exact ha k hlt hSk i hb
      · have hke : k = acc.length := by omega
        subst hke
        rw [List.getD_eq_getElem?_getD, List.getElem?_append_right (Nat.le_refl _)] at hb
        simp only [Nat.sub_self, List.getElem?_cons_zero, Option.getD_some] at hb
        obtain ⟨e, he, hbd, h1⟩ := mask_bit hb
        have hSe := ho 0 o rfl hSk e he hbd
        rcases h1 with rfl | h1
        · exact hSe
        · by_cases hlt2 : e.on < acc.length
          · exact ha _ hlt2 hSe i h1
          · rw [List.getD_eq_getElem?_getD, List.getElem?_eq_none (by omega)] at h1; simp at h1
    · intro k o' hk hS
      refine ho (k + 1) o' (by simpa using hk) ?_
      simp only [List.length_append, List.length_singleton] at hS
      rwa [show acc.length + (k + 1) = acc.length + 1 + k by omega]

theorem edges_get : ∀ (os : List Oper) (b k : Nat) (o : Oper), edgesOk os b = true → os[k]? = some o → ∀ e ∈ o.after.toList, Region.binds .any e = true → e.on < b + k
  | [], _, _, _, _, h => by simp at h
  | o :: os, b, k, o', hc, h => by
    simp only [edgesOk, Bool.and_eq_true] at hc
    intro e he hb
    cases k with
    | zero =>
      simp at h; subst h
      have := List.all_eq_true.1 hc.1 e he
      simpa [hb] using this
    | succ k =>
      have := edges_get os (b + 1) k o' hc.2 (by simpa using h) e he hb
      omega

/-! ### The states between -/
theorem states {cf : CF} : ∀ (is : List I) (e : Env) (h : AH) (e' : Env) (h' : AH), evR cf is e h = some (e', h') → ∃ st : Nat → Env × AH, st 0 = (e, h) ∧ st is.length = (e', h') ∧ ∀ i x, is[i]? = some x → evI cf x (st i).1 (st i).2 = some (st (i + 1))
  | [], e, h, e', h', hev => by
    simp only [evR, Option.some.injEq, Prod.mk.injEq] at hev
    obtain ⟨rfl, rfl⟩ := hev
    exact ⟨fun _ => (e, h), rfl, rfl, fun i x hx => by simp at hx⟩
  | x :: is, e, h, e', h', hev => by
    simp only [evR] at hev
    split at hev
    · rename_i e1 h1 h2
      obtain ⟨st, s0, sn, ss⟩ := states is e1 h1 e' h' hev
      refine ⟨fun i => match i with | 0 => (e, h) | i + 1 => st i, rfl, sn, ?_⟩
      intro i y hy
      cases i with
      | zero => simp at hy; subst hy; simp only [h2, s0]
      | succ i => exact ss i y (by simpa using hy)
    · cases hev

theorem evI_env {cf : CF} {x : I} {e e' : Env} {h h' : AH} (hev : evI cf x e h = some (e', h')) {t : Nat} (ht : x.dst ≠ some t) : e'.get t = e.get t := by
  have key : ∀ v, (put e x.dst v).get t = e.get t := by
    intro v
    cases hd : x.dst with
    | none => rfl
    | some u =>
      simp only [put, Env.get_set]
      rw [if_neg]
      intro hu; subst hu; exact ht hd
  unfold evI at hev
  split at hev
  · simp only [Option.map_eq_some_iff, Prod.mk.injEq] at hev
    obtain ⟨⟨v, h2⟩, _, rfl, _⟩ := hev
    exact key v
  · split at hev
    · split at hev
      · simp only [Option.map_eq_some_iff, Prod.mk.injEq] at hev
        obtain ⟨⟨v, h2⟩, _, rfl, _⟩ := hev
        exact key v
      · simp only [Option.some.injEq, Prod.mk.injEq] at hev
        obtain ⟨rfl, _⟩ := hev
        exact key _
    · simp only [Option.some.injEq, Prod.mk.injEq] at hev
      obtain ⟨rfl, _⟩ := hev
      exact key _
    · cases hev

theorem evI_heap {cf : CF} {x : I} {e e' : Env} {h h' : AH} (hev : evI cf x e h = some (e', h')) (hk : clashK x.op.kind .l = false ∨ x.op.kind = .l) : h' = h := by
  have key : ∀ v h2, evOp cf (env e) h x.op = some (v, h2) → h2 = h := by
    intro v h2 ho
    rcases hk with hk | hk
    · cases hkk : x.op.kind <;> rw [hkk] at hk <;> simp [clashK] at hk
      · have := evOp_q hkk ho h
        rw [ho] at this; cases this; rfl
      · exact evOp_l_same hkk ho
    · exact evOp_l_same hk ho
  unfold evI at hev
  split at hev
  · simp only [Option.map_eq_some_iff, Prod.mk.injEq] at hev
    obtain ⟨⟨v, h2⟩, ho, _, rfl⟩ := hev
    exact key v _ ho
  · split at hev
    · split at hev
      · simp only [Option.map_eq_some_iff, Prod.mk.injEq] at hev
        obtain ⟨⟨v, h2⟩, ho, _, rfl⟩ := hev
        exact key v _ ho
      · simp only [Option.some.injEq, Prod.mk.injEq] at hev
        exact hev.2.symm
    · simp only [Option.some.injEq, Prod.mk.injEq] at hev
      exact hev.2.symm
    · cases hev

/-- Some slots of an environment alone. -/
def Env.only (l : List Nat) (e : Env) : Env := l.map fun t => (t, e.get t)
theorem only_get (l : List Nat) (e : Env) (t : Nat) : (Env.only l e).get t = if t ∈ l then e.get t else .undef := by
  induction l with
  | nil => simp [Env.only, Env.get]
  | cons u l ih =>
    simp only [Env.only, List.map_cons, Env.get, List.mem_cons]
    by_cases h : u = t
    · subst h; simp
    · rw [if_neg h]
      have := ih
      simp only [Env.only] at this
      rw [this]
      have h' : ¬ t = u := fun hh => h hh.symm
      simp only [h', false_or]


/-! ### What the checker gives -/
structure Fit (ps : List (Nat × Nat)) (B : List Nat) (is : List I) : Prop where
  dst : ∀ (i j : Nat) (x y : I) (t : Nat), i < j → is[i]? = some x → is[j]? = some y → x.dst = some t → y.dst = some t → False
  rd : ∀ (i j : Nat) (x y : I) (t : Nat), i < j → is[i]? = some x → is[j]? = some y → x.dst = some t → t ∈ y.reads → (B.getD j 0).testBit i = true
  wr : ∀ (i j : Nat) (x y : I) (t : Nat), i < j → is[i]? = some x → is[j]? = some y → y.dst = some t → t ∈ x.reads → (B.getD j 0).testBit i = true
  hp : ∀ (i j : Nat) (x y : I), i < j → is[i]? = some x → is[j]? = some y → clashK x.op.kind y.op.kind = true → (B.getD j 0).testBit i = true ∨ (x.op.kind = .l ∧ clashK y.op.kind .l = true ∧ (i, j) ∈ ps) ∨ (y.op.kind = .l ∧ clashK x.op.kind .l = true ∧ (j, i) ∈ ps)

theorem fit_of {ops : Array Oper} {is : List I} {ps : List (Nat × Nat)} (h : drwOk ops is ps = true) : Fit ps (masks ops.toList []) is ∧ edgesOk ops.toList 0 = true := by
  simp only [drwOk, Bool.and_eq_true] at h
  obtain ⟨he, h⟩ := h
  have pair : ∀ (i j : Nat) (x y : I), i < j → is[i]? = some x → is[j]? = some y → dstsOk x y = true ∧ pairOk ps i j x y (((masks ops.toList []).getD j 0).testBit i) = true := by
    intro i j x y hij hx hy
    have hj := (List.getElem?_eq_some_iff.1 hy).1
    have h1 := List.all_eq_true.1 h j (List.mem_range.2 hj)
    rw [hy] at h1
    have h2 := List.all_eq_true.1 h1 i (List.mem_range.2 hij)
    rw [hx] at h2
    simpa using h2
  refine ⟨⟨?_, ?_, ?_, ?_⟩, he⟩
  · intro i j x y t hij hx hy h1 h2
    have := (pair i j x y hij hx hy).1
    simp [dstsOk, h1, h2] at this
  · intro i j x y t hij hx hy h1 h2
    have := (pair i j x y hij hx hy).2
    simp only [pairOk, Bool.or_eq_true, Bool.and_eq_true] at this
    rcases this with h3 | h3
    · exact h3
    · have := h3.1.1.2
      simp [h1, h2] at this
  · intro i j x y t hij hx hy h1 h2
    have := (pair i j x y hij hx hy).2
    simp only [pairOk, Bool.or_eq_true, Bool.and_eq_true] at this
    rcases this with h3 | h3
    · exact h3
    · have := h3.1.2
      simp [h1, h2] at this
  · intro i j x y hij hx hy h1
    have := (pair i j x y hij hx hy).2
    simp only [pairOk, Bool.or_eq_true, Bool.and_eq_true] at this
    rcases this with h3 | h3
    · exact .inl h3
    · rcases h3.2 with (h4 | h4) | h4
      · simp [h1] at h4
      · exact .inr (.inl ⟨of_decide_eq_true h4.1.1, h4.1.2, List.contains_iff_mem.1 h4.2⟩)
      · exact .inr (.inr ⟨of_decide_eq_true h4.1.1, h4.1.2, List.contains_iff_mem.1 h4.2⟩)

def cnt (S : Nat → Bool) : Nat → Nat
  | 0 => 0
  | n + 1 => cnt S n + if S n then 0 else 1
theorem cnt_mono {S S' : Nat → Bool} (h : ∀ i, S i = true → S' i = true) : ∀ n, cnt S' n ≤ cnt S n
  | 0 => Nat.le_refl _
  | n + 1 => by
    have := cnt_mono h n
    simp only [cnt]
    cases h1 : S n
    · cases h2 : S' n <;> simp <;> omega
    · rw [h n h1]; simpa using this
theorem cnt_lt {S S' : Nat → Bool} (h : ∀ i, S i = true → S' i = true) {i : Nat} (h1 : S i = false) (h2 : S' i = true) : ∀ n, i < n → cnt S' n < cnt S n
  | 0, hn => by omega
  | n + 1, hn => by
    have hm := cnt_mono h n
    simp only [cnt]
    by_cases he : i = n
    · subst he; simp only [h1, h2, if_true, Bool.false_eq_true, if_false]; omega
    · have := cnt_lt h h1 h2 n (by omega)
      cases h3 : S n
      · cases h4 : S' n <;> simp <;> omega
      · rw [h n h3]; simpa using this
theorem cnt_zero {S : Nat → Bool} : ∀ n, cnt S n = 0 → ∀ i, i < n → S i = true
  | 0, _, i, hi => by omega
  | n + 1, h, i, hi => by
    simp only [cnt] at h
    by_cases he : i = n
    · subst he
      cases h1 : S i
      · simp [h1] at h
      · rfl
    · exact cnt_zero n (by omega) i (by omega)

section
variable {P : Program} {F : Nat → Nat} {base : Nat} {m m0 : Emb} {h h' : AH} {w w0 : World} {e e' : Env} {cf : CF} {nt : Nat} {ops : Array Oper} {Q : Exit → Act → World → Prop} {is : List I} {st : Nat → Env × AH}

theorem chk_get : ∀ {os : List Oper} {is : List I}, chkIs P F nt ops os is = true → os.length = is.length ∧ ∀ (i : Nat) (o : Oper) (x : I), os[i]? = some o → is[i]? = some x → chkI P F nt ops o x = true
  | [], [], _ => ⟨rfl, fun i o x h _ => by simp at h⟩
  | [], _ :: _, h => by simp [chkIs] at h
  | _ :: _, [], h => by simp [chkIs] at h
  | o :: os, x :: is, h => by
    simp only [chkIs, Bool.and_eq_true] at h
    obtain ⟨g1, g2⟩ := chk_get h.2
    refine ⟨by simp [g1], ?_⟩
    intro i o' x' h1 h2
    cases i with
    | zero => simp at h1 h2; subst h1; subst h2; exact h.1
    | succ i => exact g2 i o' x' (by simpa using h1) (by simpa using h2)

/-- No one writes a slot between: it is as it was. -/
theorem env_same (hst : ∀ (i : Nat) (x : I), is[i]? = some x → evI cf x (st i).1 (st i).2 = some (st (i + 1))) {t : Nat} : ∀ (d i : Nat), i + d ≤ is.length → (∀ (k : Nat) (x : I), i ≤ k → k < i + d → is[k]? = some x → x.dst ≠ some t) → (st (i + d)).1.get t = (st i).1.get t
  | 0, i, _, _ => rfl
  | d + 1, i, hl, hk => by
    have ih := env_same hst d i (by omega) (fun k x h1 h2 => hk k x h1 (by omega))
    obtain ⟨x, hx⟩ : ∃ x, is[i + d]? = some x := ⟨is[i + d]'(by omega), by simp⟩
    have := evI_env (hst (i + d) x hx) (hk (i + d) x (by omega) (by omega) hx)
    rw [← ih]; exact this
theorem heap_same (hst : ∀ (i : Nat) (x : I), is[i]? = some x → evI cf x (st i).1 (st i).2 = some (st (i + 1))) : ∀ (d i : Nat), i + d ≤ is.length → (∀ (k : Nat) (x : I), i ≤ k → k < i + d → is[k]? = some x → clashK x.op.kind .l = false ∨ x.op.kind = .l) → (st (i + d)).2 = (st i).2
  | 0, i, _, _ => rfl
  | d + 1, i, hl, hk => by
    have ih := heap_same hst d i (by omega) (fun k x h1 h2 => hk k x h1 (by omega))
    obtain ⟨x, hx⟩ : ∃ x, is[i + d]? = some x := ⟨is[i + d]'(by omega), by simp⟩
    have := evI_heap (hst (i + d) x hx) (hk (i + d) x (by omega) (by omega) hx)
    rw [← ih]; exact this

def AOp.heapy (op : AOp) : Bool := clashK op.kind .l
theorem heapy_not {op : AOp} (h : op.heapy = false) : clashK op.kind .l = false ∨ op.kind = .l := .inl h

/-- What holds when some operations have been carried out. -/
structure Inv (F : Nat → Nat) (base nt : Nat) (m0 : Emb) (w0 : World) (ds : List Deferred) (is : List I) (st : Nat → Env × AH) (ops : Array Oper) (S : Nat → Bool) (m : Emb) (a : Act) (w : World) : Prop where
  defs : a.defers = ds
  size : nt ≤ a.tmps.size
  done : ∀ (t k : Nat) (x : I), is[k]? = some x → x.dst = some t → S k = true → RelV F m ((st is.length).1.get t) (a.tmps.getD t undef)
  todo : ∀ t, (∀ (k : Nat) (x : I), is[k]? = some x → x.dst = some t → S k = false) → RelV F m ((st 0).1.get t) (a.tmps.getD t undef)
  closed : ∀ (k : Nat) (o : Oper), ops[k]? = some o → S k = true → ∀ e ∈ o.after.toList, Region.binds .any e = true → S e.on = true
  step : ∃ p, p ≤ is.length ∧ (∀ (k : Nat) (x : I), k < p → is[k]? = some x → x.op.heapy = true → S k = true) ∧ (∀ (k : Nat) (x : I), p ≤ k → is[k]? = some x → x.op.heapy = true → S k = false) ∧
    StepR F base m0 (st 0).2 w0 m (st p).2 w

theorem inv_end {ds : List Deferred} {S : Nat → Bool} {a : Act} (hst : ∀ (i : Nat) (x : I), is[i]? = some x → evI cf x (st i).1 (st i).2 = some (st (i + 1))) (hi : Inv F base nt m0 w0 ds is st ops S m a w) (hall : ∀ k, k < is.length → S k = true) :
    RelEnv F m (st is.length).1 a.tmps ∧ StepR F base m0 (st 0).2 w0 m (st is.length).2 w := by
  constructor
  · intro t
    by_cases hw : ∃ (k : Nat) (x : I), is[k]? = some x ∧ x.dst = some t
    · obtain ⟨k, x, hx, ht⟩ := hw
      exact hi.done t k x hx ht (hall k (List.getElem?_eq_some_iff.1 hx).1)
    · have hn : ∀ (k : Nat) (x : I), is[k]? = some x → x.dst ≠ some t := fun k x h1 h2 => hw ⟨k, x, h1, h2⟩
      have := env_same hst is.length 0 (by omega) (t := t) (fun k x _ _ h1 => hn k x h1)
      rw [Nat.zero_add] at this
      rw [this]
      exact hi.todo t fun k x h1 h2 => absurd h2 (hn k x h1)
  · obtain ⟨p, hp, h1, h2, h3⟩ := hi.step
    have := heap_same hst (is.length - p) p (by omega) (fun k x hk hk2 hx => by
      refine heapy_not ?_
      cases hh : x.op.heapy
      · rfl
      · have g := h2 k x hk hx hh
        rw [hall k (by omega)] at g; cases g)
    rw [show p + (is.length - p) = is.length by omega] at this
    rw [this]; exact h3

theorem reads_od {x : I} {y : Opd} (hy : y ∈ x.op.ods) {t : Nat} (ht : t ∈ y.ts) : t ∈ x.reads := by
  simp only [I.reads, List.mem_append, List.mem_flatMap]
  exact .inl ⟨y, hy, ht⟩
theorem env_only {x : I} {e : Env} : ∀ y ∈ x.op.ods, env e y = env (Env.only x.reads e) y := by
  intro y hy
  cases y with
  | c v => rfl
  | t n =>
    simp only [env, only_get]
    rw [if_pos (reads_od hy (by simp [Opd.ts]))]

theorem read_same (hst : ∀ (i : Nat) (x : I), is[i]? = some x → evI cf x (st i).1 (st i).2 = some (st (i + 1))) {op : AOp} {ρ : Opd → AV} : ∀ (d i : Nat), i + d ≤ is.length →
    (∀ (k : Nat) (x : I), i ≤ k → k < i + d → is[k]? = some x → x.op.heapy = false ∨ (evOp noCall ρ (st k).2 op).map (·.1) = (evOp noCall ρ (st (k + 1)).2 op).map (·.1)) →
    (evOp noCall ρ (st (i + d)).2 op).map (·.1) = (evOp noCall ρ (st i).2 op).map (·.1)
  | 0, i, _, _ => rfl
  | d + 1, i, hl, hk => by
    have ih := read_same hst d i (by omega) (fun k x h1 h2 => hk k x h1 (by omega))
    obtain ⟨x, hx⟩ : ∃ x, is[i + d]? = some x := ⟨is[i + d]'(by omega), by simp⟩
    rcases hk (i + d) x (by omega) (by omega) hx with h1 | h1
    · have := evI_heap (hst (i + d) x hx) (heapy_not h1)
      rw [show i + (d + 1) = i + d + 1 by omega, this]; exact ih
    · rw [show i + (d + 1) = i + d + 1 by omega, ← h1]; exact ih

theorem inv_step (hs : Sound P F cf) (hst : ∀ (i : Nat) (x : I), is[i]? = some x → evI cf x (st i).1 (st i).2 = some (st (i + 1))) {ps : List (Nat × Nat)} (hf : Fit ps (masks ops.toList []) is) (hstb : ∀ q ∈ ps, ∀ o : I, is[q.1]? = some o → q.2 < is.length → (evOp noCall (env (st q.1).1) (st q.2).2 o.op).map (·.1) = (evOp noCall (env (st q.1).1) (st (q.2 + 1)).2 o.op).map (·.1)) {ds : List Deferred} {S S' : Nat → Bool} {a : Act} (hinv : Inv F base nt m0 w0 ds is st ops S m a w)
    {i : Nat} {o : Oper} {x : I} (ho : ops[i]? = some o) (hx : is[i]? = some x) (hc : chkI P F nt ops o x = true) (hSi : S i = false) (hS' : ∀ k, S' k = true ↔ k = i ∨ S k = true) (hready : ∀ e ∈ o.after.toList, Region.binds .any e = true → S e.on = true)
    {K : Act → World → Prop} (hK : ∀ a' w' m', Inv F base nt m0 w0 ds is st ops S' m' a' w' → K a' w') : wpOp P ops Q i K a w := by
  have hlt : i < is.length := (List.getElem?_eq_some_iff.1 hx).1
  simp only [chkI, Bool.and_eq_true] at hc
  obtain ⟨⟨hd, hg⟩, hop⟩ := hc
  obtain ⟨hdd, hdlt⟩ := chkD_lt hd
  have hcl' : ∀ (k : Nat) (o' : Oper), ops.toList[k]? = some o' → S' (([] : List Nat).length + k) = true → ∀ e ∈ o'.after.toList, Region.binds .any e = true → S' e.on = true := by
    intro k o' hk hSk e he hb
    simp only [List.length_nil, Nat.zero_add] at hSk
    rw [Array.getElem?_toList] at hk
    rcases (hS' k).1 hSk with rfl | h1
    · rw [ho] at hk; cases hk
      exact (hS' _).2 (.inr (hready e he hb))
    · exact (hS' _).2 (.inr (hinv.closed k o' hk h1 e he hb))
  have fact1 : ∀ q, q < i → ((masks ops.toList []).getD i 0).testBit q = true → S q = true := by
    intro q hq hb
    have := masks_closed (S := fun k => S' k = true) ops.toList [] (fun k hk => by simp at hk) hcl' i ((hS' i).2 (.inl rfl)) q hb
    rcases (hS' q).1 this with h1 | h1
    · omega
    · exact h1
  have fact2 : ∀ q, i < q → ((masks ops.toList []).getD q 0).testBit i = true → S q = false := by
    intro q hq hb
    cases hSq : S q
    · rfl
    · have := masks_closed (S := fun k => S k = true) ops.toList [] (fun k hk => by simp at hk) (fun k o' hk hSk => by
        simp only [List.length_nil, Nat.zero_add] at hSk
        rw [Array.getElem?_toList] at hk
        exact hinv.closed k o' hk hSk) q hSq i hb
      rw [hSi] at this; cases this
  obtain ⟨p, hp, hp1, hp2, hstep⟩ := hinv.step
  have hlow : ∀ (k : Nat) (y : I), k < i → is[k]? = some y → y.op.heapy = true → x.op.kind ≠ .q → S k = true ∨ (x.op.kind = .l ∧ (i, k) ∈ ps) := by
    intro k y hk hy hh hq
    have hcl : clashK y.op.kind x.op.kind = true := by
      unfold AOp.heapy at hh
      cases h1 : y.op.kind <;> rw [h1] at hh <;> simp [clashK] at hh <;> cases h2 : x.op.kind <;> simp [clashK] <;> exact absurd h2 hq
    rcases hf.hp k i y x hk hy hx hcl with h1 | ⟨h1, _⟩ | ⟨h1, _, h2⟩
    · exact .inl (fact1 k hk h1)
    · rw [AOp.heapy, h1] at hh; simp [clashK] at hh
    · exact .inr ⟨h1, h2⟩
  have hupp : ∀ (k : Nat) (y : I), i < k → is[k]? = some y → y.op.heapy = true → x.op.kind ≠ .q → S k = false ∨ (x.op.kind = .l ∧ (i, k) ∈ ps) := by
    intro k y hk hy hh hq
    have hcl : clashK x.op.kind y.op.kind = true := by
      unfold AOp.heapy at hh
      cases h1 : y.op.kind <;> rw [h1] at hh <;> simp [clashK] at hh <;> cases h2 : x.op.kind <;> simp [clashK] <;> exact absurd h2 hq
    rcases hf.hp i k x y hk hx hy hcl with h1 | ⟨h1, _, h2⟩ | ⟨h1, _⟩
    · exact .inl (fact2 k hk h1)
    · exact .inr ⟨h1, h2⟩
    · rw [AOp.heapy, h1] at hh; simp [clashK] at hh
  have hV : x.op.kind = .q ∨ (x.op.heapy = true ∧ (st p).2 = (st i).2) ∨ (x.op.kind = .l ∧ ∀ ρ, ρ = env (st i).1 → (evOp noCall ρ (st p).2 x.op).map (·.1) = (evOp noCall ρ (st i).2 x.op).map (·.1)) := by
    by_cases hq : x.op.kind = .q
    · exact .inl hq
    by_cases hl : x.op.kind = .l
    · refine .inr (.inr ⟨hl, ?_⟩)
      rintro ρ rfl
      by_cases hpi : p ≤ i
      · have := read_same hst (op := x.op) (ρ := env (st i).1) (i - p) p (by omega) (fun k y hk hk2 hy => by
          cases hh : y.op.heapy
          · exact .inl rfl
          · refine .inr ?_
            rcases hlow k y (by omega) hy hh hq with g1 | ⟨_, g1⟩
            · rw [hp2 k y hk hy hh] at g1; cases g1
            · exact hstb _ g1 x hx (by simp only; omega))
        rw [show p + (i - p) = i by omega] at this
        exact this.symm
      · have := read_same hst (op := x.op) (ρ := env (st i).1) (p - i) i (by omega) (fun k y hk hk2 hy => by
          cases hh : y.op.heapy
          · exact .inl rfl
          · refine .inr ?_
            by_cases hki : k = i
            · subst hki; rw [hx] at hy; cases hy; rw [AOp.heapy, hl] at hh; simp [clashK] at hh
            · rcases hupp k y (by omega) hy hh hq with g1 | ⟨_, g1⟩
              · rw [hp1 k y (by omega) hy hh] at g1; cases g1
              · exact hstb _ g1 x hx (by simp only; omega))
        rw [show i + (p - i) = p by omega] at this
        exact this
    · have hhx : x.op.heapy = true := by
        unfold AOp.heapy
        cases h2 : x.op.kind <;> simp [clashK] <;> first | exact absurd h2 hq | exact absurd h2 hl
      refine .inr (.inl ⟨hhx, ?_⟩)
      by_cases hpi : p ≤ i
      · have := heap_same hst (i - p) p (by omega) (fun k y hk hk2 hy => heapy_not (by
          cases hh : y.op.heapy
          · rfl
          · rcases hlow k y (by omega) hy hh hq with g1 | ⟨g1, _⟩
            · rw [hp2 k y hk hy hh] at g1; cases g1
            · exact absurd g1 hl))
        rw [show p + (i - p) = i by omega] at this
        exact this.symm
      · have := hp1 i x (by omega) hx hhx
        rw [hSi] at this; cases this
  have hhi : x.op.heapy = true → p ≤ i ∧ (∀ (k : Nat) (y : I), k < i + 1 → is[k]? = some y → y.op.heapy = true → S' k = true) ∧ (∀ (k : Nat) (y : I), i + 1 ≤ k → is[k]? = some y → y.op.heapy = true → S' k = false) := by
    intro hh
    have hnq : x.op.kind ≠ .q := by intro h1; rw [AOp.heapy, h1] at hh; simp [clashK] at hh
    have hnl : x.op.kind ≠ .l := by intro h1; rw [AOp.heapy, h1] at hh; simp [clashK] at hh
    refine ⟨?_, ?_, ?_⟩
    · by_cases hpi : p ≤ i
      · exact hpi
      · have := hp1 i x (by omega) hx hh
        rw [hSi] at this; cases this
    · intro k y hk hy hyh
      by_cases hki : k = i
      · exact (hS' k).2 (.inl hki)
      · rcases hlow k y (by omega) hy hyh hnq with g | ⟨g, _⟩
        · exact (hS' k).2 (.inr g)
        · exact absurd g hnl
    · intro k y hk hy hyh
      rcases hupp k y (by omega) hy hyh hnq with g | ⟨g, _⟩
      · cases hSk : S' k
        · rfl
        · rcases (hS' k).1 hSk with h1 | h1
          · omega
          · rw [g] at h1; cases h1
      · exact absurd g hnl
  have hrel : RelEnv F m (Env.only x.reads (st i).1) a.tmps := by
    intro t
    rw [only_get]
    split
    case isFalse => simp only [RelV]
    rename_i ht
    by_cases hw : ∃ (k : Nat) (y : I), is[k]? = some y ∧ y.dst = some t
    · obtain ⟨k, y, hy, hyt⟩ := hw
      have uniq : ∀ (q : Nat) (z : I), is[q]? = some z → z.dst = some t → q = k := by
        intro q z hz hzt
        rcases Nat.lt_trichotomy q k with h1 | h1 | h1
        · exact absurd (hf.dst q k z y t h1 hz hy hzt hyt) id
        · exact h1
        · exact absurd (hf.dst k q y z t h1 hy hz hyt hzt) id
      have pre : ¬ k < i → S k = false → RelV F m ((st i).1.get t) (a.tmps.getD t undef) := by
        intro hki hSk
        have := env_same hst i 0 (by omega) (t := t) (fun q z h1 h2 hz hzt => by have := uniq q z hz hzt; omega)
        rw [Nat.zero_add] at this
        rw [this]
        exact hinv.todo t fun q z hz hzt => by rw [uniq q z hz hzt]; exact hSk
      rcases Nat.lt_trichotomy k i with h1 | h1 | h1
      · have hSk := fact1 k h1 (hf.rd k i y x t h1 hy hx hyt ht)
        have := env_same hst (is.length - i) i (by omega) (t := t) (fun q z g1 g2 hz hzt => by have := uniq q z hz hzt; omega)
        rw [show i + (is.length - i) = is.length by omega] at this
        rw [← this]
        exact hinv.done t k y hy hyt hSk
      · exact pre (by omega) (by rw [h1]; exact hSi)
      · exact pre (by omega) (fact2 k h1 (hf.wr i k x y t h1 hx hy hyt ht))
    · have hn : ∀ (k : Nat) (y : I), is[k]? = some y → y.dst ≠ some t := fun k y h1 h2 => hw ⟨k, y, h1, h2⟩
      have := env_same hst i 0 (by omega) (t := t) (fun q z _ _ hz => hn q z hz)
      rw [Nat.zero_add] at this
      rw [this]
      exact hinv.todo t fun q z hz hzt => absurd hzt (hn q z hz)
  have after : ∀ (v : AV) (v' : Value) (m' : Emb) (w' : World) (V' : AH), RelV F m' v v' → (st (i + 1)).1 = put (st i).1 x.dst v → StepR F base m (st p).2 w m' V' w' → (x.op.heapy = true → V' = (st (i + 1)).2) → (x.op.heapy = false → V' = (st p).2) → Inv F base nt m0 w0 ds is st ops S' m' (a.put o.dst v') w' := by
    intro v v' m' w' V' hv hput hst' h1 h2
    refine ⟨by rw [Act.put_defs]; exact hinv.defs, by rw [Act.put_size]; exact hinv.size, ?_, ?_, ?_, ?_⟩
    · intro t k y hy hyt hSk
      by_cases hki : k = i
      · subst hki
        rw [hx] at hy; cases hy
        have uniq : ∀ (q : Nat) (z : I), is[q]? = some z → z.dst = some t → q = k := by
          intro q z hz hzt
          rcases Nat.lt_trichotomy q k with h1 | h1 | h1
          · exact absurd (hf.dst q k z x t h1 hz hx hzt hyt) id
          · exact h1
          · exact absurd (hf.dst k q x z t h1 hx hz hyt hzt) id
        have := env_same hst (is.length - (k + 1)) (k + 1) (by omega) (t := t) (fun q z g1 g2 hz hzt => by have := uniq q z hz hzt; omega)
        rw [show k + 1 + (is.length - (k + 1)) = is.length by omega] at this
        rw [this, hput, hyt]
        have hod : o.dst = some t := hdd.trans hyt
        have hlt2 := hdlt t hod
        simp only [put, Env.get_set, if_true, hod, Act.put]
        rw [getD_set]
        rw [if_pos ⟨rfl, Nat.lt_of_lt_of_le hlt2 hinv.size⟩]
        exact hv
      · have hSk' := ((hS' k).1 hSk).resolve_left hki
        have hne : o.dst ≠ some t := by
          intro hod
          have hxt : x.dst = some t := hdd ▸ hod
          rcases Nat.lt_trichotomy k i with h1 | h1 | h1
          · exact hf.dst k i y x t h1 hy hx hyt hxt
          · exact hki h1
          · exact hf.dst i k x y t h1 hx hy hxt hyt
        have hsame : (a.put o.dst v').tmps.getD t undef = a.tmps.getD t undef := by
          cases hod : o.dst with
          | none => rfl
          | some u =>
            simp only [Act.put]
            rw [getD_set, if_neg]
            rintro ⟨rfl, _⟩
            exact hne hod
        rw [hsame]
        exact RelV.mono hst'.le _ _ (hinv.done t k y hy hyt hSk')
    · intro t hall
      have hne : o.dst ≠ some t := by
        intro hod
        have hxt : x.dst = some t := hdd ▸ hod
        have := hall i x hx hxt
        rw [(hS' i).2 (.inl rfl)] at this; cases this
      have hsame : (a.put o.dst v').tmps.getD t undef = a.tmps.getD t undef := by
        cases hod : o.dst with
        | none => rfl
        | some u =>
          simp only [Act.put]
          rw [getD_set, if_neg]
          rintro ⟨rfl, _⟩
          exact hne hod
      rw [hsame]
      refine RelV.mono hst'.le _ _ (hinv.todo t fun k y hy hyt => ?_)
      have := hall k y hy hyt
      cases hSk : S k
      · rfl
      · rw [(hS' k).2 (.inr hSk)] at this; cases this
    · intro k o' hk hSk e he hb
      exact hcl' k o' (by rw [Array.getElem?_toList]; exact hk) (by simpa using hSk) e he hb
    · cases hh : x.op.heapy
      · rw [h2 hh] at hst'
        refine ⟨p, hp, ?_, ?_, hstep.trans hst'⟩
        · intro k y hk hy hyh; exact (hS' k).2 (.inr (hp1 k y hk hy hyh))
        · intro k y hk hy hyh
          cases hSk : S' k
          · rfl
          · rcases (hS' k).1 hSk with g | g
            · subst g; rw [hx] at hy; cases hy; rw [hh] at hyh; cases hyh
            · rw [hp2 k y hk hy hyh] at g; cases g
      · obtain ⟨g1, g2, g3⟩ := hhi hh
        rw [h1 hh] at hst'
        exact ⟨i + 1, by omega, g2, g3, hstep.trans hst'⟩
  have hevi := hst i x hx
  have run : (evOp cf (env (st i).1) (st i).2 x.op).map (fun (v, h') => (put (st i).1 x.dst v, h')) = some (st (i + 1)) → Region.wanted o (yielded ops a.tmps) = true → wpOp P ops Q i K a w := by
    intro hev hw
    simp only [Option.map_eq_some_iff] at hev
    obtain ⟨⟨v, h2⟩, hv, hst2⟩ := hev
    have hput : (st (i + 1)).1 = put (st i).1 x.dst v := by rw [← hst2]
    have hh2 : (st (i + 1)).2 = h2 := by rw [← hst2]
    have hev' : ∃ V', evOp cf (env (Env.only x.reads (st i).1)) (st p).2 x.op = some (v, V') ∧ (x.op.heapy = true → V' = (st (i + 1)).2) ∧ (x.op.heapy = false → V' = (st p).2) := by
      rw [evOp_congr (env_only (x := x))] at hv
      rcases hV with hq | ⟨hhx, hV⟩ | ⟨hl, hV⟩
      · refine ⟨(st p).2, evOp_q hq hv _, ?_, fun _ => rfl⟩
        intro hh; simp [AOp.heapy, hq, clashK] at hh
      · rw [hV]
        refine ⟨h2, hv, fun _ => hh2.symm, ?_⟩
        intro hh; rw [hhx] at hh; cases hh
      · have hcall : x.op.isCall = false := by
          cases hxo : x.op <;> rw [hxo] at hl <;> simp [AOp.kind] at hl <;> rfl
        have h3 := hV (env (st i).1) rfl
        rw [evOp_congr (env_only (x := x)), evOp_congr (ρ := env (st i).1) (env_only (x := x)), evOp_any hcall noCall cf, evOp_any hcall noCall cf, hv] at h3
        simp only [Option.map_some, Option.map_eq_some_iff] at h3
        obtain ⟨⟨u, V'⟩, hu, rfl⟩ := h3
        have := evOp_l_same hl hu
        subst this
        refine ⟨_, hu, ?_, fun _ => rfl⟩
        intro hh; rw [AOp.heapy, hl] at hh; simp [clashK] at hh
    obtain ⟨V', hev2, k1, k2⟩ := hev'
    unfold wpOp
    simp only [ho, hw, if_true]
    refine .inl (Oper.wp_mono ?_ (op_sound hs hstep.rel hrel hop hev2 Q))
    rintro a2 w2 ⟨v2, m2, rfl, hv2, hst3⟩
    exact hK _ w2 m2 (after v v2 m2 w2 V' hv2 hput hst3 k1 k2)
  unfold evI at hevi
  split at hevi
  · rename_i hgn
    exact run hevi (i_free hg hgn)
  · rename_i t want hgs
    split at hevi
    · rename_i b hb
      have hb' : (Env.only x.reads (st i).1).get t = .bool b := by
        rw [only_get, if_pos (by simp [I.reads, hgs])]; exact hb
      have hw := i_wanted hg hrel hgs hb'
      split at hevi
      · rename_i hbw
        exact run hevi (by rw [hw]; simpa using hbw)
      · rename_i hbw
        simp only [Option.some.injEq] at hevi
        have hw' : Region.wanted o (yielded ops a.tmps) = false := by rw [hw]; simpa using hbw
        unfold wpOp
        simp only [ho, hw', Bool.false_eq_true, if_false]
        have hheap : (st (i + 1)).2 = (st i).2 := by rw [← hevi]
        refine hK _ w m (after (.tup []) undef m w (st p).2 rel_skp (by rw [← hevi]) (StepR.refl hstep.rel) ?_ (fun _ => rfl))
        intro hh
        rcases hV with hq | ⟨_, hV⟩ | ⟨hl, _⟩
        · simp [AOp.heapy, hq, clashK] at hh
        · rw [hV, hheap]
        · rw [AOp.heapy, hl] at hh; simp [clashK] at hh
    · rename_i hb
      have hb' : (Env.only x.reads (st i).1).get t = .tup [] := by
        rw [only_get, if_pos (by simp [I.reads, hgs])]; exact hb
      simp only [Option.some.injEq] at hevi
      have hw' : Region.wanted o (yielded ops a.tmps) = false := i_skp hg hrel hgs hb'
      unfold wpOp
      simp only [ho, hw', Bool.false_eq_true, if_false]
      have hheap : (st (i + 1)).2 = (st i).2 := by rw [← hevi]
      refine hK _ w m (after (.tup []) undef m w (st p).2 rel_skp (by rw [← hevi]) (StepR.refl hstep.rel) ?_ (fun _ => rfl))
      intro hh
      rcases hV with hq | ⟨_, hV⟩ | ⟨hl, _⟩
      · simp [AOp.heapy, hq, clashK] at hh
      · rw [hV, hheap]
      · rw [AOp.heapy, hl] at hh; simp [clashK] at hh
    · cases hevi

theorem drw_sound (hs : Sound P F cf) (hm : P.follows .mixedOrders = true) {ps : List (Nat × Nat)} {id : Nat} {a : Act} (hc : chkIs P F nt ops ops.toList is = true) (hd : drwOk ops is ps = true) (hev : evDraw cf is ps e h = some (e', h'))
    (hr : RelH F base m h w) (he : RelEnv F m e a.tmps) (hn : nt ≤ a.tmps.size)
    (hQ : ∀ a' w' m', a'.defers = a.defers → nt ≤ a'.tmps.size → RelEnv F m' e' a'.tmps → StepR F base m h w m' h' w' → Q .normal a' w') : (Code.region id ops true).wp P Q a w := by
  have hev : evR cf is e h = some (e', h') ∧ ∀ q ∈ ps, Stable cf is e h q.1 q.2 := by
    unfold evDraw at hev
    split at hev
    · rename_i hh; exact ⟨hev, hh⟩
    · cases hev
  obtain ⟨hev, hstable⟩ := hev
  obtain ⟨hf, hed⟩ := fit_of hd
  obtain ⟨hlen, hchk⟩ := chk_get hc
  obtain ⟨st, s0, sn, hst⟩ := states is e h e' h' hev
  have hstate : ∀ i, i ≤ is.length → stateAt cf is i e h = some (st i) := by
    intro i
    induction i with
    | zero => intro _; simp [stateAt, evR, s0]
    | succ i ih =>
      intro hi
      have h1 := ih (by omega)
      obtain ⟨x, hx⟩ : ∃ x, is[i]? = some x := ⟨is[i]'(by omega), by simp⟩
      have app : ∀ (l : List I) (e : Env) (h : AH) (s : Env × AH), evR cf l e h = some s → evR cf (l ++ [x]) e h = evI cf x s.1 s.2 := by
        intro l
        induction l with
        | nil =>
          intro e h s hs
          simp only [evR, Option.some.injEq] at hs
          subst hs
          simp only [List.nil_append, evR]
          cases evI cf x e h with
          | none => rfl
          | some y => rfl
        | cons y l ih =>
          intro e h s hs
          simp only [List.cons_append, evR] at hs ⊢
          split at hs
          · rename_i e1 h1 h2; exact ih _ _ _ hs
          · cases hs
      unfold stateAt at h1 ⊢
      rw [List.take_add_one, hx]
      simp only [Option.toList_some]
      rw [app _ _ _ _ h1, hst i x hx]
  have hstb : ∀ q ∈ ps, ∀ o : I, is[q.1]? = some o → q.2 < is.length → (evOp noCall (env (st q.1).1) (st q.2).2 o.op).map (·.1) = (evOp noCall (env (st q.1).1) (st (q.2 + 1)).2 o.op).map (·.1) := by
    intro q hq o ho hlt
    have hlt1 := (List.getElem?_eq_some_iff.1 ho).1
    exact hstable q hq o _ _ _ _ _ _ ho (hstate q.1 (by omega)) (hstate q.2 (by omega)) (hstate (q.2 + 1) (by omega))
  refine wp_region_any hm ?_
  have hdraw : StepR F base m h w m h { w with drawn := w.drawn + 1 } := StepR.draw hr rfl rfl rfl rfl
  have main : ∀ (fuel : Nat) (listed : Array Bool) (a1 : Act) (m1 : Emb) (w1 : World), listed.size = ops.size → cnt (fun k => listed.getD k false) ops.size ≤ fuel → Inv F base nt m w a.defers is st ops (fun k => listed.getD k false) m1 a1 w1 → wpAny P .any ops Q fuel listed a1 w1 := by
    have fin : ∀ (listed : Array Bool) (a1 : Act) (m1 : Emb) (w1 : World), Inv F base nt m w a.defers is st ops (fun k => listed.getD k false) m1 a1 w1 → (∀ k, k < is.length → listed.getD k false = true) → Q .normal a1 w1 := by
      intro listed a1 m1 w1 hinv hall
      obtain ⟨g1, g2⟩ := inv_end hst hinv hall
      rw [sn] at g1 g2
      rw [s0] at g2
      exact hQ a1 w1 m1 hinv.defs hinv.size g1 g2
    have allOf : ∀ listed : Array Bool, listed.size = ops.size → Region.ready .any ops listed = [] → ∀ k, k < ops.size → listed.getD k false = true := by
      intro listed hsz hrd k
      induction k using Nat.strongRecOn with
      | ind k ih =>
        intro hk
        cases hl : listed.getD k false with
        | true => rfl
        | false =>
          have : k ∈ Region.ready .any ops listed := by
            rw [mem_ready]
            refine ⟨?_, ops[k], by simp, ?_⟩
            · rw [Array.getD_eq_getD_getElem?] at hl ⊢
              rw [Array.getElem?_eq_getElem (by omega)] at hl ⊢
              simpa using hl
            · intro ed hed' hb
              have := edges_get ops.toList 0 k ops[k] hed (by simp) ed (by simpa using hed') hb
              exact ih ed.on (by omega) (by omega)
          rw [hrd] at this
          cases this
    intro fuel
    induction fuel with
    | zero =>
      intro listed a1 m1 w1 hsz hcnt hinv
      have hall := cnt_zero (S := fun k => listed.getD k false) ops.size (by omega)
      refine ⟨?_, fin listed a1 m1 w1 hinv (fun k hk => hall k (by simp at hlen; omega))⟩
      cases hrd : Region.ready .any ops listed with
      | nil => rfl
      | cons k l =>
        have hk : k ∈ Region.ready .any ops listed := by rw [hrd]; simp
        rw [mem_ready] at hk
        obtain ⟨h1, o, ho, _⟩ := hk
        have hlt := (Array.getElem?_eq_some_iff.1 ho).1
        have h2 := hall k hlt
        rw [Array.getD_eq_getD_getElem?, Array.getElem?_eq_getElem (by omega)] at h1 h2
        simp at h1 h2
        rw [h1] at h2; cases h2
    | succ fuel ih =>
      intro listed a1 m1 w1 hsz hcnt hinv
      refine ⟨fun hrd => fin listed a1 m1 w1 hinv (fun k hk => allOf listed hsz hrd k (by simp at hlen; omega)), ?_⟩
      intro i hi
      rw [mem_ready] at hi
      obtain ⟨h1, o, ho, hedge⟩ := hi
      have hlt := (Array.getElem?_eq_some_iff.1 ho).1
      have hlt2 : i < is.length := by simp at hlen; omega
      have hSi : listed.getD i false = false := by
        rw [Array.getD_eq_getD_getElem?, Array.getElem?_eq_getElem (by omega)] at h1 ⊢
        simpa using h1
      have hS' : ∀ k, (listed.setIfInBounds i true).getD k false = true ↔ k = i ∨ listed.getD k false = true := by
        intro k
        simp only [Array.getD_eq_getD_getElem?, Array.getElem?_setIfInBounds]
        by_cases hik : i = k
        · subst hik
          simp [show i < listed.size by omega]
        · rw [if_neg hik]
          constructor
          · intro hh; exact .inr hh
          · rintro (hh | hh)
            · exact absurd hh.symm hik
            · exact hh
      refine inv_step hs hst hf hstb hinv (S' := fun k => (listed.setIfInBounds i true).getD k false) ho (x := is[i]) (by simp) (hchk i o is[i] (by rw [Array.getElem?_toList]; exact ho) (by simp)) hSi hS' (fun ed hed' hb => hedge ed (by simpa using hed') hb) ?_
      intro a' w' m' hinv'
      refine ih _ a' m' w' (by simp [hsz]) ?_ hinv'
      have := cnt_lt (S := fun k => listed.getD k false) (S' := fun k => (listed.setIfInBounds i true).getD k false) (fun k hk => (hS' k).2 (.inr hk)) hSi ((hS' i).2 (.inl rfl)) ops.size hlt
      omega
  refine main ops.size _ a m _ (by simp) ?_ ?_
  · have : ∀ (S : Nat → Bool) n, cnt S n ≤ n := by
      intro S n
      induction n with
      | zero => exact Nat.le_refl _
      | succ n ih => simp only [cnt]; split <;> omega
    exact this _ _
  · have hno : ∀ k, (Array.replicate ops.size false).getD k false = false := by
      intro k
      rw [Array.getD_eq_getD_getElem?, Array.getElem?_replicate]
      split <;> rfl
    refine ⟨rfl, hn, ?_, ?_, ?_, ?_⟩
    · intro t k x hx hxt hS; rw [hno] at hS; cases hS
    · intro t _; rw [s0]; exact he t
    · intro k o ho hS; rw [hno] at hS; cases hS
    · refine ⟨0, Nat.zero_le _, fun k x hk => by omega, fun k x _ _ _ => hno k, ?_⟩
      rw [s0]; exact hdraw
end
end Go.Proofs.YtcflenomogpdbaaDoor.Ab

/- CODE AND CALLS: what the evaluator says, the program does. -/
namespace Go.Proofs.YtcflenomogpdbaaDoor.Ab
open Go Go.RowKit

section
variable (P : Program) (F : Nat → Nat)

def chkC (nt : Nat) : C → Code → Bool
  | .kl _ c, d => chkC nt c d
  | .skip, .skip => true
  | .reg is, .region _ ops false => chkIs P F nt ops ops.toList is
  | .drw is ps, .region _ ops true => P.follows .mixedOrders && chkIs P F nt ops ops.toList is && drwOk ops is ps
  | .seq a b, .seq x y => chkC nt a x && chkC nt b y
  | .cond c a b, .cond y x z => chkO F y c && chkC nt a x && chkC nt b z
  | .blk i c, .block j d => decide (i = j) && chkC nt c d
  | .loop c, .loop d => chkC nt c d
  | .exit i, .exit j => decide (i = j)
  | .ret, .ret => true
  | .bad, _ => true
  | _, _ => false

def chkRes : List ResultVar → List Res → Bool
  | [], [] => true
  | .tmp t :: rs, .tmp t' :: qs => decide (t = t') && chkRes rs qs
  | .cell a t :: rs, .cell agg n a' :: qs => decide (a = a') && shp P t agg n && chkRes rs qs
  | _, _ => false

def chkF (f : Nat) (fi : FI) : Bool := match P.funcs[F f]? with
  | some fn => match fn.body with
    | some c => !(fn.name == "runtime.NumGoroutine") && chkC P F fn.ntmps fi.body c && chkRes P fn.results.toList fi.res
    | none => false
  | none => false
end

def X.exit' : X → Exit
  | .normal => .normal
  | .exit i => .exit i
  | .ret => .ret

section
variable {P : Program} {F : Nat → Nat} {base : Nat} {cf : CF} {nt : Nat}

/-- What a piece of code leaves behind. -/
def Post (P : Program) (F : Nat → Nat) (base nt : Nat) (m : Emb) (h : AH) (w : World) (ds : List Deferred) (x : X) (e' : Env) (h' : AH) : Exit → Act → World → Prop :=
  fun ee a' w' => ee = x.exit' ∧ a'.defers = ds ∧ nt ≤ a'.tmps.size ∧ ∃ m', RelEnv F m' e' a'.tmps ∧ StepR F base m h w m' h' w'

theorem Post.trans {m m1 : Emb} {h h1 h' : AH} {w w1 : World} {ds : List Deferred} {x : X} {e' : Env} {ee : Exit} {a' : Act} {w' : World} (hs : StepR F base m h w m1 h1 w1) (hp : Post P F base nt m1 h1 w1 ds x e' h' ee a' w') : Post P F base nt m h w ds x e' h' ee a' w' := by
  obtain ⟨h1, h2, h3, m', h4, h5⟩ := hp
  exact ⟨h1, h2, h3, m', h4, hs.trans h5⟩

theorem code_sound (hs : Sound P F cf) (n : Nat) : ∀ (c : C) (d : Code) (a : Act) (m : Emb) (e : Env) (h : AH) (w : World) (x : X) (e' : Env) (h' : AH), chkC P F nt c d = true → evC cf n c e h = some (x, e', h') →
    RelH F base m h w → RelEnv F m e a.tmps → nt ≤ a.tmps.size → d.wp P (Post P F base nt m h w a.defers x e' h') a w := by
  intro c
  induction c with
  | skip =>
    intro d a m e h w x e' h' hc hev hr he hn
    cases d <;> simp [chkC] at hc
    simp only [evC, Option.some.injEq, Prod.mk.injEq] at hev
    obtain ⟨rfl, rfl, rfl⟩ := hev
    exact wp_skip ⟨rfl, rfl, hn, m, he, StepR.refl hr⟩
  | reg is =>
    intro d a m e h w x e' h' hc hev hr he hn
    cases d <;> try (simp [chkC] at hc; done)
    rename_i id ops draw
    cases draw <;> try (simp [chkC] at hc; done)
    simp only [chkC] at hc
    simp only [evC, Option.map_eq_some_iff, Prod.mk.injEq] at hev
    obtain ⟨⟨e1, h1⟩, hev, rfl, rfl, rfl⟩ := hev
    exact reg_sound hs hc hev hr he hn fun a' w' m' k1 k2 k3 k4 => ⟨rfl, k1, k2, m', k3, k4⟩
  | drw is ps =>
    intro d a m e h w x e' h' hc hev hr he hn
    cases d <;> try (simp [chkC] at hc; done)
    rename_i id ops draw
    cases draw <;> try (simp [chkC] at hc; done)
    simp only [chkC] at hc
    simp only [Bool.and_eq_true] at hc
    simp only [evC, Option.map_eq_some_iff, Prod.mk.injEq] at hev
    obtain ⟨⟨e1, h1⟩, hev, rfl, rfl, rfl⟩ := hev
    exact drw_sound hs hc.1.1 hc.1.2 hc.2 hev hr he hn fun a' w' m' k1 k2 k3 k4 => ⟨rfl, k1, k2, m', k3, k4⟩
  | kl ts c ih =>
    intro d a m e h w x e' h' hc hev hr he hn
    simp only [chkC] at hc
    simp only [evC] at hev
    exact ih d a m _ h w x e' h' hc hev hr (he.dels ts) hn
  | seq c1 c2 ih1 ih2 =>
    intro d a m e h w x e' h' hc hev hr he hn
    cases d <;> simp only [chkC] at hc <;> try (cases hc; done)
    simp only [Bool.and_eq_true] at hc
    simp only [evC] at hev
    refine wp_seq ?_
    split at hev
    · rename_i e1 h1 hev1
      refine wp_mono (ih1 _ a m e h w _ e1 h1 hc.1 hev1 hr he hn) ?_
      rintro ee a1 w1 ⟨rfl, k1, k2, m1, k3, k4⟩
      have := ih2 _ a1 m1 e1 h1 w1 x e' h' hc.2 hev k4.rel k3 k2
      rw [k1] at this
      exact wp_mono this fun ee a2 w2 hp => Post.trans k4 hp
    · rename_i hne
      refine wp_mono (ih1 _ a m e h w _ e' h' hc.1 hev hr he hn) ?_
      rintro ee a1 w1 ⟨rfl, k1, k2, m1, k3, k4⟩
      cases x with
      | normal => exact absurd hev (hne _ _)
      | exit i => exact ⟨rfl, k1, k2, m1, k3, k4⟩
      | ret => exact ⟨rfl, k1, k2, m1, k3, k4⟩
  | cond y c1 c2 ih1 ih2 =>
    intro d a m e h w x e' h' hc hev hr he hn
    cases d <;> simp only [chkC] at hc <;> try (cases hc; done)
    simp only [Bool.and_eq_true] at hc
    simp only [evC] at hev
    split at hev
    · rename_i t ht
      have hv := chkO_rel he hc.1.1
      rw [ht] at hv
      refine wp_cond (rel_bool hv) ?_
      cases t
      · exact ih2 _ a m e h w x e' h' hc.2 hev hr he hn
      · exact ih1 _ a m e h w x e' h' hc.1.2 hev hr he hn
    · cases hev
  | blk id c ih =>
    intro d a m e h w x e' h' hc hev hr he hn
    cases d <;> simp only [chkC] at hc <;> try (cases hc; done)
    rename_i id2 d2
    simp only [Bool.and_eq_true, decide_eq_true_eq] at hc
    obtain ⟨rfl, hc⟩ := hc
    simp only [evC] at hev
    refine wp_block ?_
    split at hev
    · rename_i id' e1 h1 hev1
      refine wp_mono (ih _ a m e h w _ e1 h1 hc hev1 hr he hn) ?_
      rintro ee a1 w1 ⟨rfl, k1, k2, m1, k3, k4⟩
      simp only [X.exit', Exit.inBlock]
      split at hev
      · rename_i hid
        rw [if_pos hid]
        simp only [Option.some.injEq, Prod.mk.injEq] at hev
        obtain ⟨rfl, rfl, rfl⟩ := hev
        exact ⟨rfl, k1, k2, m1, k3, k4⟩
      · rename_i hid
        rw [if_neg hid]
        simp only [Option.some.injEq, Prod.mk.injEq] at hev
        obtain ⟨rfl, rfl, rfl⟩ := hev
        exact ⟨rfl, k1, k2, m1, k3, k4⟩
    · rename_i hne
      refine wp_mono (ih _ a m e h w _ e' h' hc hev hr he hn) ?_
      rintro ee a1 w1 ⟨rfl, k1, k2, m1, k3, k4⟩
      cases x with
      | normal => exact ⟨rfl, k1, k2, m1, k3, k4⟩
      | exit i => exact absurd hev (hne _ _ _)
      | ret => exact ⟨rfl, k1, k2, m1, k3, k4⟩
  | loop c ih =>
    intro d a m e h w x e' h' hc hev hr he hn
    cases d <;> simp only [chkC] at hc <;> try (cases hc; done)
    rename_i d2
    simp only [evC] at hev
    have key : ∀ (k : Nat) (a : Act) (m : Emb) (e : Env) (h : AH) (w : World), evLoop (evC cf n c) k e h = some (x, e', h') → RelH F base m h w → RelEnv F m e a.tmps → nt ≤ a.tmps.size →
        Code.rounds P d2 (Post P F base nt m h w a.defers x e' h') k a w := by
      intro k
      induction k with
      | zero => intro a m e h w hev; simp [evLoop] at hev
      | succ k ihk =>
        intro a m e h w hev hr he hn
        rw [rounds_succ]
        simp only [evLoop] at hev
        split at hev
        · rename_i e1 h1 hev1
          refine wp_mono (ih _ a m e h w _ e1 h1 hc hev1 hr he hn) ?_
          rintro ee a1 w1 ⟨rfl, k1, k2, m1, k3, k4⟩
          have := ihk a1 m1 e1 h1 w1 hev k4.rel k3 k2
          rw [k1] at this
          simp only [X.exit', Exit.then]
          have mono : ∀ (k : Nat) (Q Q' : Exit → Act → World → Prop), (∀ ee a w, Q ee a w → Q' ee a w) → ∀ a w, Code.rounds P d2 Q k a w → Code.rounds P d2 Q' k a w := by
            intro k Q Q' hq
            induction k with
            | zero => intro a w hh; exact hh
            | succ k ih =>
              intro a w hh
              rw [rounds_succ] at hh ⊢
              refine wp_mono hh ?_
              intro ee a w hx
              cases ee <;> first | exact ih _ _ hx | exact hq _ _ _ hx
          exact mono _ _ _ (fun ee a2 w2 hp => Post.trans k4 hp) _ _ this
        · rename_i hne
          refine wp_mono (ih _ a m e h w _ e' h' hc hev hr he hn) ?_
          rintro ee a1 w1 ⟨rfl, k1, k2, m1, k3, k4⟩
          cases x with
          | normal => exact absurd hev (hne _ _)
          | exit i => exact ⟨rfl, k1, k2, m1, k3, k4⟩
          | ret => exact ⟨rfl, k1, k2, m1, k3, k4⟩
    exact wp_loop_rounds n (key n a m e h w hev hr he hn)
  | exit i =>
    intro d a m e h w x e' h' hc hev hr he hn
    cases d <;> simp [chkC] at hc
    subst hc
    simp only [evC, Option.some.injEq, Prod.mk.injEq] at hev
    obtain ⟨rfl, rfl, rfl⟩ := hev
    exact wp_exit ⟨rfl, rfl, hn, m, he, StepR.refl hr⟩
  | ret =>
    intro d a m e h w x e' h' hc hev hr he hn
    cases d <;> simp [chkC] at hc
    simp only [evC, Option.some.injEq, Prod.mk.injEq] at hev
    obtain ⟨rfl, rfl, rfl⟩ := hev
    exact wp_ret ⟨rfl, rfl, hn, m, he, StepR.refl hr⟩
  | bad =>
    intro d a m e h w x e' h' hc hev hr he hn
    simp [evC] at hev

def oneRes (tmps : Array Value) : ResultVar → Sem Value
  | .tmp t => pure (tmps.getD t undef)
  | .cell a t => do loadVar t (← asAddr (tmps.getD a undef))
theorem results_eq (fn : Func) (tmps : Array Value) : results fn tmps = (do
    let vs ← fn.results.mapM (oneRes tmps)
    pure (if h : vs.size = 1 then vs[0] else .tuple vs)) := rfl

theorem res_run : ∀ (rs : List ResultVar) (qs : List Res) {e : Env} {h : AH} {w : World} {m : Emb} {tmps : Array Value} {vs : List AV}, chkRes P rs qs = true → RelH F base m h w → RelEnv F m e tmps → resL e h qs = some vs →
    ∃ us : List Value, (rs.mapM (oneRes tmps)).run P w = .ok us w ∧ RelL F m vs us
  | [], [], e, h, w, m, tmps, vs, hc, hr, he, hv => by
    simp only [resL, Option.some.injEq] at hv
    subst hv
    exact ⟨[], by simp, by simp [RelL]⟩
  | [], _ :: _, e, h, w, m, tmps, vs, hc, hr, he, hv => by simp [chkRes] at hc
  | .tmp _ :: _, [], e, h, w, m, tmps, vs, hc, hr, he, hv => by simp [chkRes] at hc
  | .cell _ _ :: _, [], e, h, w, m, tmps, vs, hc, hr, he, hv => by simp [chkRes] at hc
  | .tmp _ :: _, .cell .. :: _, e, h, w, m, tmps, vs, hc, hr, he, hv => by simp [chkRes] at hc
  | .cell _ _ :: _, .tmp _ :: _, e, h, w, m, tmps, vs, hc, hr, he, hv => by simp [chkRes] at hc
  | .tmp t :: rs, .tmp t' :: qs, e, h, w, m, tmps, vs, hc, hr, he, hv => by
    simp only [chkRes, Bool.and_eq_true, decide_eq_true_eq] at hc
    obtain ⟨rfl, hc⟩ := hc
    simp only [resL, res1] at hv
    split at hv
    · rename_i v vs' h1 h2
      cases hv
      cases h1
      obtain ⟨us, hu, hrel⟩ := res_run rs qs hc hr he h2
      refine ⟨tmps.getD t undef :: us, ?_, ?_⟩
      · simp only [List.mapM_cons, oneRes, Sem.run_bind, Sem.run_pure, Result.andThen, hu]
      · simp only [RelL]; exact ⟨_, _, rfl, he t, hrel⟩
    · cases hv
  | .cell t ty :: rs, .cell agg n t' :: qs, e, h, w, m, tmps, vs, hc, hr, he, hv => by
    simp only [chkRes, Bool.and_eq_true, decide_eq_true_eq] at hc
    obtain ⟨⟨rfl, hsh⟩, hc⟩ := hc
    simp only [resL] at hv
    split at hv
    · rename_i v vs' h1 h2
      cases hv
      obtain ⟨us, hu, hrel⟩ := res_run rs qs hc hr he h2
      simp only [res1] at h1
      split at h1
      case h_2 => cases h1
      rename_i c k off mm hk
      have hx := he t
      rw [hk] at hx
      obtain ⟨p, hp, hv2, hlo, hext⟩ := rel_ptr hx
      split at h1
      case isFalse => cases h1
      rename_i hle
      split at h1
      case h_2 => cases h1
      rename_i cs hcs
      obtain ⟨ls, hls, hlen, hrun⟩ := hr.loads (P := P) hcs hp hlo (by omega)
      have hsh' := hsh
      simp only [shp, Bool.and_eq_true, Bool.or_eq_true] at hsh'
      obtain ⟨⟨g1, g2⟩, g3⟩ := hsh'
      have hlv : ∃ u, (loadVar ty ⟨p.blk, p.base + (off - p.lo), none⟩).run P w = .ok u w ∧ RelV F m v u := by
        rcases mkv_rel h1 hls with ⟨rfl, hrv⟩ | ⟨rfl, u, rfl, hrv⟩
        · exact ⟨_, by simp [loadVar, run_isAg g1, run_sz g2, hrun], hrv⟩
        · have hn : n = 1 := by simpa using g3
          subst hn
          have hrun' := hrun
          have hcell : w.cell? ⟨p.blk, p.base + (off - p.lo), none⟩ = some u := by
            obtain ⟨us', hus', hlen', hc'⟩ := hr.row_at hcs hp hlo (by omega)
            simp only [loadCells, loadCellsFrom, Sem.run_bind, addr_add, Nat.add_zero, run_load] at hrun'
            cases hcc : w.cell? ⟨p.blk, p.base + (off - p.lo), none⟩ with
            | some q => rw [hcc] at hrun'; simp at hrun'; rw [hrun']
            | none =>
              obtain ⟨q, hq⟩ : ∃ q, us'[0]? = some q := ⟨us'[0], by simp⟩
              have := hc' 0 q hq
              rw [Nat.add_zero, hcc] at this; cases this
          exact ⟨u, by simp [loadVar, run_isAg g1, hcell], hrv⟩
      obtain ⟨u, hlu, hru⟩ := hlv
      refine ⟨u :: us, ?_, ?_⟩
      · simp only [List.mapM_cons, oneRes, Sem.run_bind, hv2, asAddr, Sem.run_pure, Result.andThen, hlu, hu]
      · simp only [RelL]; exact ⟨_, _, rfl, hru, hrel⟩
    · cases hv

theorem results_run {fn : Func} {qs : List Res} {e : Env} {h : AH} {w : World} {m : Emb} {tmps : Array Value} {r : AV} (hc : chkRes P fn.results.toList qs = true) (hr : RelH F base m h w) (he : RelEnv F m e tmps) (hv : resV e h qs = some r) :
    ∃ v, (results fn tmps).run P w = .ok v w ∧ RelV F m r v := by
  unfold resV at hv
  have key : ∀ vs, resL e h qs = some vs → ∃ us : List Value, RelL F m vs us ∧ (results fn tmps).run P w = .ok (if h : us.toArray.size = 1 then us.toArray[0] else .tuple us.toArray) w := by
    intro vs hvs
    obtain ⟨us, h1, h2⟩ := res_run fn.results.toList qs hc hr he hvs
    refine ⟨us, h2, ?_⟩
    rw [results_eq, Array.mapM_eq_mapM_toList]
    simp only [Sem.run_bind, Sem.run_map, h1, Result.andThen, Sem.run_pure]
  split at hv
  · rename_i v hvs
    cases hv
    obtain ⟨us, h1, h2⟩ := key _ hvs
    simp only [RelL] at h1
    obtain ⟨u, l, rfl, hu, rfl⟩ := h1
    exact ⟨u, by rw [h2]; simp, hu⟩
  · rename_i vs hne hvs
    cases hv
    obtain ⟨us, h1, h2⟩ := key _ hvs
    refine ⟨.tuple us.toArray, ?_, by simp only [RelV]; exact ⟨_, rfl, by simpa using h1⟩⟩
    have hl := h1.length
    have hne1 : us.length ≠ 1 := by
      intro h0
      rw [h0] at hl
      match vs, hl with
      | [v], _ => exact hne v rfl
    rw [h2]
    simp [hne1]
  · cases hv

/-- What a contract of a function outside the table owes. -/
def ExtOk (P : Program) (F : Nat → Nat) (E : Ext) : Prop := ∀ f G, E f = some G → ∀ cf, Sound P F cf → ∀ xs h r h', G cf xs h = some (r, h') → fnOk P (F f) = true ∧ ∀ base m w args, RelH F base m h w → RelL F m xs args.toList →
    Calls P (F f) args w fun e w' => ∃ v m', e = .returned v ∧ RelV F m' r v ∧ StepR F base m h w m' h' w'

theorem sound {T : Nat → Option FI} {E : Ext} (hT : ∀ f fi, E f = none → T f = some fi → chkF P F f fi = true) (hE : ExtOk P F E) : ∀ n, Sound P F (evF T E n)
  | 0 => by intro f xs h r h' hev; simp [evF] at hev
  | n + 1 => by
    intro f xs h r h' hev
    simp only [evF] at hev
    split at hev
    · rename_i G hG
      exact hE f G hG _ (sound hT hE n) xs h r h' hev
    · rename_i hG
      split at hev
      case h_2 => cases hev
      rename_i fi hfi
      have hc := hT f fi hG hfi
      unfold chkF at hc
      split at hc
      case h_2 => cases hc
      rename_i fn hfn
      split at hc
      case h_2 => cases hc
      rename_i c hbody
      simp only [Bool.and_eq_true, Bool.not_eq_true'] at hc
      obtain ⟨⟨h1, h2⟩, h3⟩ := hc
      refine ⟨by simp [fnOk, hfn, hbody]; simpa using h1, ?_⟩
      intro base m w args hr hx
      refine calls_of_wp hfn hbody ?_
      have hlen := hx.length
      have he : RelEnv F m (Env.init 0 xs) (args ++ Array.replicate (fn.ntmps - args.size) undef) := by
        intro t
        rw [init_get]
        split
        · rename_i ht
          have hlt : t < xs.length := by omega
          obtain ⟨v, hv, hxv⟩ := hx.get t xs[t] (by simp)
          have h0 : xs.getD (t - 0) .undef = xs[t] := by simp [List.getD_eq_getElem?_getD, hlt]
          rw [h0]
          rw [Array.getElem?_toList] at hv
          have : (args ++ Array.replicate (fn.ntmps - args.size) undef).getD t undef = v := by
            rw [Array.getD_eq_getD_getElem?, Array.getElem?_append_left (by simp at hlen; omega), hv]; rfl
          rw [this]; exact hxv
        · simp only [RelV]
      have hn : fn.ntmps ≤ (args ++ Array.replicate (fn.ntmps - args.size) undef).size := by simp; omega
      have main : ∀ x e' h1', evC (evF T E n) n fi.body (Env.init 0 xs) h = some (x, e', h1') → (x = .normal ∨ x = .ret) → (resV e' h1' fi.res).map (·, h1') = some (r, h') →
          c.wp P (bodyPost P fn fun ee w' => ∃ v m', ee = .returned v ∧ RelV F m' r v ∧ StepR F base m h w m' h' w') { tmps := args ++ Array.replicate (fn.ntmps - args.size) undef, defers := [] } w := by
        intro x e' h1' hev hx' hres
        refine wp_mono (code_sound (sound hT hE n) n fi.body c _ m _ h w x e' h1' h2 hev hr he hn) ?_
        rintro ee a' w' ⟨rfl, k1, k2, m', k3, k4⟩
        simp only [Option.map_eq_some_iff, Prod.mk.injEq] at hres
        obtain ⟨r', hres, rfl, rfl⟩ := hres
        obtain ⟨v, hv, hrv⟩ := results_run h3 k4.rel k3 hres
        rcases hx' with rfl | rfl
        · exact ⟨k1, v, hv, v, m', rfl, hrv, k4⟩
        · exact ⟨k1, v, hv, v, m', rfl, hrv, k4⟩
      split at hev
      · rename_i e' h1' hc'
        exact main _ e' h1' hc' (.inl rfl) hev
      · rename_i e' h1' hc'
        exact main _ e' h1' hc' (.inr rfl) hev
      · cases hev

end
end Go.Proofs.YtcflenomogpdbaaDoor.Ab

/- THE SEAT's numbers of functions, and that the bodies are the program's. -/
namespace Go.Proofs.YtcflenomogpdbaaDoor.Ab
open Go

def F : Nat → Nat := fun n => [0, 0, 0, 0, 0, 0, 0, 0, 0, 0, 0, 0, 0, 0, 0, 0, 0, 0, 0, 0, 0, 0, 0, 0, 0, 0, 0, 0, 0, 0, 0, 0, 0, 0, 0, 0, 0, 0, 0, 0, 0, 0, 0, 0, 0, 0, 0, 0, 0, 0, 0, 0, 0, 0, 0, 0, 23, 0, 20, 0, 0, 46, 0, 0, 0, 0, 37, 0, 0, 0, 0, 0, 0, 0, 60, 0, 0, 55, 0, 0, 0, 0, 38, 0, 0, 0, 0, 0, 0, 0, 0, 0, 0, 0, 0, 0, 0, 0, 0, 0, 56, 0, 0, 88, 31, 43, 0, 0, 59, 90, 0, 61, 0, 0, 0, 0, 33, 0, 47, 35, 0, 0, 0, 64, 68, 89, 67, 66, 0, 48, 58, 63, 0, 0, 0, 0, 0, 0, 0, 0, 0, 0, 0, 0, 0, 0, 0, 0, 0, 0, 0, 0, 0, 0, 0, 0, 0, 0, 0, 0, 0, 0, 0, 0, 0, 0, 0, 0, 0, 0, 0, 0, 0, 0, 0, 0, 0, 0, 0, 0, 0, 0, 0, 0, 0, 0, 0, 0, 0, 40, 128, 0, 0, 0, 81, 0, 0, 0, 0, 0, 0, 0, 0, 0, 0, 65, 0, 0, 0, 0, 0, 0, 0, 0, 0, 0, 0, 0, 0, 0, 0, 0, 0, 0, 3, 5, 6, 7, 8, 9, 0, 0, 0, 12, 13, 14, 15, 17, 16, 18, 19, 0, 32, 34, 36, 39, 41, 44, 42, 0, 57, 49, 45, 62, 0, 0, 0, 0, 0, 0, 0, 0, 0, 0, 0, 0, 0, 0, 21, 0, 0, 0, 0, 27, 0, 52, 71, 70, 91, 92, 93, 94, 95, 96, 97, 98, 99, 112, 113, 114, 115, 116, 117, 127, 4, 10, 11, 22, 26, 25, 24, 28, 50, 51, 53, 30, 29, 54, 69].getD n 0
theorem chk224 : chkF Go.Proofs.Tryd.prog F 224 fi224 = true := by decide +kernel
theorem chk294 : chkF Go.Proofs.Tryd.prog F 294 fi294 = true := by decide +kernel
theorem chk225 : chkF Go.Proofs.Tryd.prog F 225 fi225 = true := by decide +kernel
theorem chk226 : chkF Go.Proofs.Tryd.prog F 226 fi226 = true := by decide +kernel
theorem chk227 : chkF Go.Proofs.Tryd.prog F 227 fi227 = true := by decide +kernel
theorem chk228 : chkF Go.Proofs.Tryd.prog F 228 fi228 = true := by decide +kernel
theorem chk229 : chkF Go.Proofs.Tryd.prog F 229 fi229 = true := by decide +kernel
theorem chk295 : chkF Go.Proofs.Tryd.prog F 295 fi295 = true := by decide +kernel
theorem chk296 : chkF Go.Proofs.Tryd.prog F 296 fi296 = true := by decide +kernel
theorem chk233 : chkF Go.Proofs.Tryd.prog F 233 fi233 = true := by decide +kernel
theorem chk234 : chkF Go.Proofs.Tryd.prog F 234 fi234 = true := by decide +kernel
theorem chk235 : chkF Go.Proofs.Tryd.prog F 235 fi235 = true := by decide +kernel
theorem chk236 : chkF Go.Proofs.Tryd.prog F 236 fi236 = true := by decide +kernel
theorem chk238 : chkF Go.Proofs.Tryd.prog F 238 fi238 = true := by decide +kernel
theorem chk237 : chkF Go.Proofs.Tryd.prog F 237 fi237 = true := by decide +kernel
theorem chk239 : chkF Go.Proofs.Tryd.prog F 239 fi239 = true := by decide +kernel
theorem chk240 : chkF Go.Proofs.Tryd.prog F 240 fi240 = true := by decide +kernel
theorem chk58 : chkF Go.Proofs.Tryd.prog F 58 fi58 = true := by decide +kernel
theorem chk268 : chkF Go.Proofs.Tryd.prog F 268 fi268 = true := by decide +kernel
theorem chk297 : chkF Go.Proofs.Tryd.prog F 297 fi297 = true := by decide +kernel
theorem chk56 : chkF Go.Proofs.Tryd.prog F 56 fi56 = true := by decide +kernel
theorem chk300 : chkF Go.Proofs.Tryd.prog F 300 fi300 = true := by decide +kernel
theorem chk299 : chkF Go.Proofs.Tryd.prog F 299 fi299 = true := by decide +kernel
theorem chk298 : chkF Go.Proofs.Tryd.prog F 298 fi298 = true := by decide +kernel
theorem chk273 : chkF Go.Proofs.Tryd.prog F 273 fi273 = true := by decide +kernel
theorem chk301 : chkF Go.Proofs.Tryd.prog F 301 fi301 = true := by decide +kernel
theorem chk306 : chkF Go.Proofs.Tryd.prog F 306 fi306 = true := by decide +kernel
theorem chk305 : chkF Go.Proofs.Tryd.prog F 305 fi305 = true := by decide +kernel
theorem chk104 : chkF Go.Proofs.Tryd.prog F 104 fi104 = true := by decide +kernel
theorem chk242 : chkF Go.Proofs.Tryd.prog F 242 fi242 = true := by decide +kernel
theorem chk116 : chkF Go.Proofs.Tryd.prog F 116 fi116 = true := by decide +kernel
theorem chk243 : chkF Go.Proofs.Tryd.prog F 243 fi243 = true := by decide +kernel
theorem chk119 : chkF Go.Proofs.Tryd.prog F 119 fi119 = true := by decide +kernel
theorem chk244 : chkF Go.Proofs.Tryd.prog F 244 fi244 = true := by decide +kernel
theorem chk66 : chkF Go.Proofs.Tryd.prog F 66 fi66 = true := by decide +kernel
theorem chk82 : chkF Go.Proofs.Tryd.prog F 82 fi82 = true := by decide +kernel
theorem chk245 : chkF Go.Proofs.Tryd.prog F 245 fi245 = true := by decide +kernel
theorem chk189 : chkF Go.Proofs.Tryd.prog F 189 fi189 = true := by decide +kernel
theorem chk246 : chkF Go.Proofs.Tryd.prog F 246 fi246 = true := by decide +kernel
theorem chk248 : chkF Go.Proofs.Tryd.prog F 248 fi248 = true := by decide +kernel
theorem chk105 : chkF Go.Proofs.Tryd.prog F 105 fi105 = true := by decide +kernel
theorem chk247 : chkF Go.Proofs.Tryd.prog F 247 fi247 = true := by decide +kernel
theorem chk252 : chkF Go.Proofs.Tryd.prog F 252 fi252 = true := by decide +kernel
theorem chk61 : chkF Go.Proofs.Tryd.prog F 61 fi61 = true := by decide +kernel
theorem chk118 : chkF Go.Proofs.Tryd.prog F 118 fi118 = true := by decide +kernel
theorem chk129 : chkF Go.Proofs.Tryd.prog F 129 fi129 = true := by decide +kernel
theorem chk251 : chkF Go.Proofs.Tryd.prog F 251 fi251 = true := by decide +kernel
theorem chk302 : chkF Go.Proofs.Tryd.prog F 302 fi302 = true := by decide +kernel
theorem chk303 : chkF Go.Proofs.Tryd.prog F 303 fi303 = true := by decide +kernel
theorem chk304 : chkF Go.Proofs.Tryd.prog F 304 fi304 = true := by decide +kernel
theorem chk307 : chkF Go.Proofs.Tryd.prog F 307 fi307 = true := by decide +kernel
theorem chk77 : chkF Go.Proofs.Tryd.prog F 77 fi77 = true := by decide +kernel
theorem chk100 : chkF Go.Proofs.Tryd.prog F 100 fi100 = true := by decide +kernel
theorem chk250 : chkF Go.Proofs.Tryd.prog F 250 fi250 = true := by decide +kernel
theorem chk130 : chkF Go.Proofs.Tryd.prog F 130 fi130 = true := by decide +kernel
theorem chk108 : chkF Go.Proofs.Tryd.prog F 108 fi108 = true := by decide +kernel
theorem chk74 : chkF Go.Proofs.Tryd.prog F 74 fi74 = true := by decide +kernel
theorem chk253 : chkF Go.Proofs.Tryd.prog F 253 fi253 = true := by decide +kernel
theorem chk205 : chkF Go.Proofs.Tryd.prog F 205 fi205 = true := by decide +kernel
theorem chk127 : chkF Go.Proofs.Tryd.prog F 127 fi127 = true := by decide +kernel
theorem chk124 : chkF Go.Proofs.Tryd.prog F 124 fi124 = true := by decide +kernel
theorem chk308 : chkF Go.Proofs.Tryd.prog F 308 fi308 = true := by decide +kernel
theorem chk277 : chkF Go.Proofs.Tryd.prog F 277 fi277 = true := by decide +kernel
theorem chk103 : chkF Go.Proofs.Tryd.prog F 103 fi103 = true := by decide +kernel
theorem chk125 : chkF Go.Proofs.Tryd.prog F 125 fi125 = true := by decide +kernel
theorem chk109 : chkF Go.Proofs.Tryd.prog F 109 fi109 = true := by decide +kernel
theorem chk278 : chkF Go.Proofs.Tryd.prog F 278 fi278 = true := by decide +kernel
theorem chk279 : chkF Go.Proofs.Tryd.prog F 279 fi279 = true := by decide +kernel
theorem chk280 : chkF Go.Proofs.Tryd.prog F 280 fi280 = true := by decide +kernel
theorem chk281 : chkF Go.Proofs.Tryd.prog F 281 fi281 = true := by decide +kernel
theorem chk282 : chkF Go.Proofs.Tryd.prog F 282 fi282 = true := by decide +kernel
theorem chk283 : chkF Go.Proofs.Tryd.prog F 283 fi283 = true := by decide +kernel
theorem chk284 : chkF Go.Proofs.Tryd.prog F 284 fi284 = true := by decide +kernel
theorem chk285 : chkF Go.Proofs.Tryd.prog F 285 fi285 = true := by decide +kernel
theorem chk286 : chkF Go.Proofs.Tryd.prog F 286 fi286 = true := by decide +kernel
theorem chk287 : chkF Go.Proofs.Tryd.prog F 287 fi287 = true := by decide +kernel
theorem chk288 : chkF Go.Proofs.Tryd.prog F 288 fi288 = true := by decide +kernel
theorem chk290 : chkF Go.Proofs.Tryd.prog F 290 fi290 = true := by decide +kernel
theorem chk291 : chkF Go.Proofs.Tryd.prog F 291 fi291 = true := by decide +kernel
theorem chk292 : chkF Go.Proofs.Tryd.prog F 292 fi292 = true := by decide +kernel
theorem chk293 : chkF Go.Proofs.Tryd.prog F 293 fi293 = true := by decide +kernel
theorem hT : ∀ f fi, E f = none → T f = some fi → chkF Go.Proofs.Tryd.prog F f fi = true := by
  have all : ∀ x ∈ tab, chkF Go.Proofs.Tryd.prog F x.1 x.2 = true := by
    intro x hx
    simp only [tab, List.mem_cons, List.not_mem_nil, or_false] at hx
    rcases hx with rfl | rfl | rfl | rfl | rfl | rfl | rfl | rfl | rfl | rfl | rfl | rfl | rfl | rfl | rfl | rfl | rfl | rfl | rfl | rfl | rfl | rfl | rfl | rfl | rfl | rfl | rfl | rfl | rfl | rfl | rfl | rfl | rfl | rfl | rfl | rfl | rfl | rfl | rfl | rfl | rfl | rfl | rfl | rfl | rfl | rfl | rfl | rfl | rfl | rfl | rfl | rfl | rfl | rfl | rfl | rfl | rfl | rfl | rfl | rfl | rfl | rfl | rfl | rfl | rfl | rfl | rfl | rfl | rfl | rfl | rfl | rfl | rfl | rfl | rfl | rfl | rfl | rfl | rfl | rfl | rfl
    · exact chk224
    · exact chk294
    · exact chk225
    · exact chk226
    · exact chk227
    · exact chk228
    · exact chk229
    · exact chk295
    · exact chk296
    · exact chk233
    · exact chk234
    · exact chk235
    · exact chk236
    · exact chk238
    · exact chk237
    · exact chk239
    · exact chk240
    · exact chk58
    · exact chk268
    · exact chk297
    · exact chk56
    · exact chk300
    · exact chk299
    · exact chk298
    · exact chk273
    · exact chk301
    · exact chk306
    · exact chk305
    · exact chk104
    · exact chk242
    · exact chk116
    · exact chk243
    · exact chk119
    · exact chk244
    · exact chk66
    · exact chk82
    · exact chk245
    · exact chk189
    · exact chk246
    · exact chk248
    · exact chk105
    · exact chk247
    · exact chk252
    · exact chk61
    · exact chk118
    · exact chk129
    · exact chk251
    · exact chk302
    · exact chk303
    · exact chk304
    · exact chk307
    · exact chk77
    · exact chk100
    · exact chk250
    · exact chk130
    · exact chk108
    · exact chk74
    · exact chk253
    · exact chk205
    · exact chk127
    · exact chk124
    · exact chk308
    · exact chk277
    · exact chk103
    · exact chk125
    · exact chk109
    · exact chk278
    · exact chk279
    · exact chk280
    · exact chk281
    · exact chk282
    · exact chk283
    · exact chk284
    · exact chk285
    · exact chk286
    · exact chk287
    · exact chk288
    · exact chk290
    · exact chk291
    · exact chk292
    · exact chk293
  intro f fi _ h
  simp only [T, Option.map_eq_some_iff] at h
  obtain ⟨x, hx, rfl⟩ := h
  have h1 := List.find?_some hx
  have h2 := List.mem_of_find?_eq_some hx
  have h3 : x.1 = f := by simpa using h1
  rw [← h3]; exact all x h2
end Go.Proofs.YtcflenomogpdbaaDoor.Ab

/- FOR CONTRACTS outside the table: calls that turn nothing old. -/
namespace Go.Proofs.YtcflenomogpdbaaDoor.Ab
open Go Go.RowKit

theorem StepR.grown {F : Nat → Nat} {base : Nat} {m : Emb} {h : AH} {w w' : World} (hr : RelH F base m h w) (hold : ∀ b : Nat, b < w.heap.size → w'.heap[b]? = w.heap[b]?) (hsz : w.heap.size ≤ w'.heap.size) (ho : w'.os = w.os) (ht : w'.tape = w.tape) (hu : w'.output = w.output) : StepR F base m h w m h w' := by
  refine ⟨Emb.le_refl m, ⟨hr.rowc, hr.objc, ?_, hr.inj, hr.injo, hr.injr, ?_, ?_, hr.vers, Nat.le_trans hr.le hsz⟩, ho, ht, hu, hsz, fun b hb _ => hold b hb, fun _ _ _ h => .inl h, fun _ _ h => .inl h, fun _ _ _ => rfl, Nat.le_refl _⟩
  · intro c ob hc
    exact ObjRel.keep (hr.ob c ob hc) (Emb.le_refl m) (fun _ _ h => h) (fun _ h => h) (fun k p hp => hold _ (hr.ltr c k p hp)) (fun b hb => hold _ (hr.lto c b hb))
  · intro c k p hp; exact Nat.lt_of_lt_of_le (hr.ltr c k p hp) hsz
  · intro c b hb; exact Nat.lt_of_lt_of_le (hr.lto c b hb) hsz
theorem StepR.below' {F : Nat → Nat} {base : Nat} {m : Emb} {h : AH} {w w' : World} (hr : RelH F base m h w) (hb : Below w.heap.size w w') : StepR F base m h w m h w' :=
  StepR.grown hr hb.block hb.size hb.os hb.tape hb.output

/-- A contract of one function. -/
def ExtAt (P : Program) (F : Nat → Nat) (f : Nat) (G : List AV → Option AV) : Prop :=
  ∀ xs r, G xs = some r → fnOk P (F f) = true ∧ ∀ (m : Emb) (w : World) (args : Array Value), RelL F m xs args.toList →
    Calls P (F f) args w fun e w' => ∃ v, e = .returned v ∧ RelV F m r v ∧ Below w.heap.size w w'
/-- .. that reads the heap. -/
def ExtAtH (P : Program) (F : Nat → Nat) (f : Nat) (G : List AV → AH → Option AV) : Prop :=
  ∀ xs h r, G xs h = some r → fnOk P (F f) = true ∧ ∀ (base : Nat) (m : Emb) (w : World) (args : Array Value), RelH F base m h w → RelL F m xs args.toList →
    Calls P (F f) args w fun e w' => ∃ v, e = .returned v ∧ RelV F m r v ∧ Below w.heap.size w w'
theorem ExtAt.h {P : Program} {F : Nat → Nat} {f : Nat} {G : List AV → Option AV} (hG : ExtAt P F f G) : ExtAtH P F f fun xs _ => G xs := fun xs _ r hr => by
  obtain ⟨h1, h2⟩ := hG xs r hr
  exact ⟨h1, fun _ m w args _ hx => h2 m w args hx⟩
theorem ext_pure {P : Program} {F : Nat → Nat} {f : Nat} {G : List AV → AH → Option AV} (hG : ExtAtH P F f G) (cf : CF) (xs : List AV) (h : AH) (r : AV) (h' : AH) (hev : pureX G cf xs h = some (r, h')) : fnOk P (F f) = true ∧ ∀ base m w args, RelH F base m h w → RelL F m xs args.toList →
    Calls P (F f) args w fun e w' => ∃ v m', e = .returned v ∧ RelV F m' r v ∧ StepR F base m h w m' h' w' := by
  simp only [pureX, Option.map_eq_some_iff, Prod.mk.injEq] at hev
  obtain ⟨r', hr', rfl, rfl⟩ := hev
  obtain ⟨h1, h2⟩ := hG xs h r' hr'
  refine ⟨h1, fun base m w args hr hx => (h2 base m w args hr hx).mono ?_⟩
  rintro e w' ⟨v, rfl, hv, hb⟩
  exact ⟨v, m, rfl, hv, StepR.below' hr hb⟩
/-- .. that turns the heap. -/
def ExtAtW (P : Program) (F : Nat → Nat) (f : Nat) (G : List AV → AH → Option (AV × AH)) : Prop :=
  ∀ xs h r h', G xs h = some (r, h') → fnOk P (F f) = true ∧ ∀ (base : Nat) (m : Emb) (w : World) (args : Array Value), RelH F base m h w → RelL F m xs args.toList →
    Calls P (F f) args w fun e w' => ∃ v m', e = .returned v ∧ RelV F m' r v ∧ StepR F base m h w m' h' w'
/-- .. that leans on calls. -/
def ExtAtZ (P : Program) (F : Nat → Nat) (f : Nat) (G : CF → List AV → AH → Option (AV × AH)) : Prop := ∀ cf, Sound P F cf → ExtAtW P F f (G cf)
theorem ext_ok {P : Program} {F : Nat → Nat} (h : ∀ x ∈ xtab, ExtAtH P F x.1 x.2) (h2 : ∀ x ∈ ytab, ExtAtW P F x.1 x.2) (h4 : ∀ x ∈ ztab, ExtAtZ P F x.1 x.2) : ExtOk P F E := by
  intro f G hf cf hcf xs hh r h' hev
  unfold E at hf
  split at hf
  · rename_i x hx
    cases hf
    have h1 := List.find?_some hx
    have h3 : x.1 = f := by simpa using h1
    have := ext_pure (h x (List.mem_of_find?_eq_some hx)) cf xs hh r h' hev
    rwa [h3] at this
  · split at hf
    · rename_i x hx
      cases hf
      have h1 := List.find?_some hx
      have h3 : x.1 = f := by simpa using h1
      have := h2 x (List.mem_of_find?_eq_some hx) xs hh r h' hev
      rwa [h3] at this
    · simp only [Option.map_eq_some_iff] at hf
      obtain ⟨x, hx, rfl⟩ := hf
      have h1 := List.find?_some hx
      have h3 : x.1 = f := by simpa using h1
      have := h4 x (List.mem_of_find?_eq_some hx) cf hcf xs hh r h' hev
      rwa [h3] at this

/-! ### Writes, by the model's own words -/
theorem wr_cells {F : Nat → Nat} {base : Nat} {m : Emb} {h : AH} {w : World} (hr : RelH F base m h w) {c k off : Nat} {xs : List AV} {h' : AH} (hw : wrRow h c k off xs = some h') {p : Place} (hp : m.row c k = some p) (hlo : p.lo ≤ off) (hext : off + xs.length ≤ p.ext) :
    ∀ j, j < xs.length → (w.cell? ⟨p.blk, p.base + (off - p.lo) + j, none⟩).isSome = true ∧ w.frozen? ⟨p.blk, p.base + (off - p.lo) + j, none⟩ = false := by
  unfold wrRow at hw
  split at hw
  · rename_i cs ver fl hc
    split at hw
    · rename_i hcond
      obtain ⟨rfl, hfl, hl, hsc⟩ := hcond
      obtain ⟨_, h2, h3, h4, C, e, fr, hg, hs, hb, hf, hcell⟩ := hr.ob c _ hc k p hp hfl
      intro j hj
      have hlt : p.base + (off - p.lo) + j < C.size := by omega
      have hf' := hf rfl
      constructor
      · simp only [World.cell?, hg, Option.isSome_none, Bool.false_eq_true, if_false]
        rw [Array.getElem?_eq_getElem hlt]; rfl
      · simp only [World.frozen?, hg]
        rcases hf' with h | h
        · simp; omega
        · simp; omega
    · cases hw
  · cases hw
theorem wr_set {P : Program} {F : Nat → Nat} {base : Nat} {m : Emb} {h : AH} {w : World} (hr : RelH F base m h w) {c k off : Nat} {xs : List AV} {h' : AH} (hw : wrRow h c k off xs = some h') {p : Place} (hp : m.row c k = some p) (hlo : p.lo ≤ off) (hext : off + xs.length ≤ p.ext) {vs : List Value} (hvs : RelL F m xs vs) (hone : ∀ v ∈ vs, v.oneCell' = true) :
    StepR F base m h w m h' (w.setCells p.blk (p.base + (off - p.lo)) vs) := by
  obtain ⟨w', h1, h2⟩ := wr_step (P := P) hr hw hp hlo hext hvs
  have hl := hvs.length
  have hc := wr_cells hr hw hp hlo hext
  have h3 := run_storeCells_cells (P := P) p.blk (p.base + (off - p.lo)) vs 0 w (fun j hj => by simpa using (hc j (by omega)).1) (fun j hj => by simpa using (hc j (by omega)).2) hone
  rw [h1] at h3
  cases h3
  exact h2
/-- 'clear(s)' at elements of three numbers. -/
theorem run_clear3 {P : Program} (w : World) (t e ty : TypeId) (z : Value) (ht : P.underlying t = some (.slice e)) (hv : ∀ w, (zeroValue e).run P w = .ok z w) (hz : z.cells = #[.int .i64 0, .int .i64 0, .int .i64 0]) (b o n c : Nat) (hn : 0 < n)
    (hc : ∀ j, j < n * 3 → (w.cell? ⟨b, o + j, none⟩).isSome = true) (hf : ∀ j, j < n * 3 → w.frozen? ⟨b, o + j, none⟩ = false) :
    (Builtin.clear_ #[t] ty #[.slice (some ⟨b, o, none⟩) n c]).run P w = .ok (.tuple #[]) (w.setCells b o (List.replicate (n * 3) (.int .i64 0))) := by
  have hzc : (Builtin.zeroCells z.cells n).toList = List.replicate (n * 3) (.int .i64 0) := by
    rw [hz]
    simp only [Builtin.zeroCells]
    apply List.ext_getElem
    · simp
    · intro i h1 h2
      have : i % 3 = 0 ∨ i % 3 = 1 ∨ i % 3 = 2 := by omega
      rcases this with h | h | h <;> simp [h]
  have hst := run_storeCells_cells (P := P) b o (List.replicate (n * 3) (.int .i64 0)) 0 w (by simpa using hc) (by simpa using hf) (by intro v hv'; rw [List.eq_of_mem_replicate hv']; rfl)
  simp only [Nat.add_zero] at hst
  obtain ⟨m, rfl⟩ : ∃ m, n = m + 1 := ⟨n - 1, by omega⟩
  simp [Builtin.clear_, run_underlying ht, hv, hzc, hst]
end Go.Proofs.YtcflenomogpdbaaDoor.Ab

/- THE SEAT's contract of slices.Delete at clues, by a walk over the library's own text. -/
namespace Go.Proofs.YtcflenomogpdbaaDoor.Ab
open Go Go.RowKit Go.Lib

theorem rel_three {m : Emb} {args : Array Value} {x y z : AV} (h : RelL F m [x, y, z] args.toList) : ∃ u v t, args = #[u, v, t] ∧ RelV F m x u ∧ RelV F m y v ∧ RelV F m z t := by
  simp only [RelL] at h
  obtain ⟨u, l, e1, h1, v, l2, rfl, h2, t, l3, rfl, h3, rfl⟩ := h
  exact ⟨u, v, t, by rw [← Array.toArray_toList (xs := args), e1], h1, h2, h3⟩
end Go.Proofs.YtcflenomogpdbaaDoor.Ab

/- DEMONIC RUNS are sound: what holds whichever way the iterator goes, the program does. -/
namespace Go.Proofs.YtcflenomogpdbaaDoor.Ab
open Go Go.RowKit

/-- The iterator's step. -/
theorem next_law {P : Program} {F : Nat → Nat} {base : Nat} {m : Emb} {h : AH} {w : World} (hr : RelH F base m h w) {c cm : Nat} {seen : List Nat} {es : List (AV × AV)} (hc : h[c]? = some (.mit cm es.length seen)) (hcm : h[cm]? = some (.map es)) {b : Nat} (hb : m.obj c = some b) (ty : TypeId) :
    (∃ i k v kv vv w', es[i]? = some (k, v) ∧ i ∉ seen ∧ RelV F m k kv ∧ RelV F m v vv ∧ (Instr.next (.pointer (some ⟨b, 0, none⟩)) false ty).run P w = .ok (.tuple #[.bool true, kv, vv]) w' ∧ StepR F base m h w m (h.set c (.mit cm es.length (seen ++ [i]))) w') ∨
    ((∀ i, i < es.length → i ∈ seen) ∧ (Instr.next (.pointer (some ⟨b, 0, none⟩)) false ty).run P w = .ok (.tuple #[.bool false]) w) := by
  obtain ⟨hbase, bm, sn, hbm, hg, hsn⟩ := hr.ob c _ hc b hb
  obtain ⟨_, E, hgm, hE, hst⟩ := obj_mapS hr hcm hbm
  have hl : E.size = es.length := by have := RelE.length hE; simpa using this
  have hlt := hr.lto c b hb
  have hold : ∀ x ∈ E.toList, x.born < es.length := by
    intro x hx
    obtain ⟨i, hi⟩ := List.mem_iff_getElem?.1 hx
    have h1 : E[i]? = some x := by simpa using hi
    rw [hst i x h1]
    have := (Array.getElem?_eq_some_iff.1 h1).1
    omega
  rcases run_next_at (P := P) w ty b bm es.length es.length sn E E.size hg hgm hold (Nat.le_refl _) with ⟨h0, hrun⟩ | ⟨x, hx, w1, hw1, hrun⟩
  · right
    refine ⟨fun i hi => ?_, hrun⟩
    have hx : E[i]? = some E[i] := Array.getElem?_eq_getElem (by omega)
    have hb' := hst i _ hx
    apply Classical.byContradiction
    intro hn
    have : E[i] ∈ leftOf E sn := by
      unfold leftOf
      rw [Array.mem_filter]
      refine ⟨by simp, ?_⟩
      rw [hb', ← hsn] at *
      simpa using hn
    have := Array.size_pos_iff.2 (Array.ne_empty_of_mem this)
    omega
  · left
    have hx' : x ∈ leftOf E sn := by simpa using hx
    unfold leftOf at hx'
    rw [Array.mem_filter] at hx'
    obtain ⟨hxE, hxs⟩ := hx'
    obtain ⟨i, hi⟩ := Array.mem_iff_getElem?.1 hxE
    have hbi := hst i x hi
    have hilt : i < es.length := by have := (Array.getElem?_eq_some_iff.1 hi).1; omega
    obtain ⟨e', he', h1, h2⟩ := RelE.at hE i es[i] (List.getElem?_eq_getElem hilt)
    have : e' = x := by
      rw [Array.getElem?_toList, hi] at he'
      cases he'; rfl
    subst this
    have hns : i ∉ seen := by
      rw [← hsn]
      rw [hbi] at hxs
      simpa using hxs
    have st1 : StepR F base m h w m h w1 := by
      rcases hw1 with rfl | rfl
      · exact StepR.refl hr
      · exact StepR.draw hr rfl rfl rfl rfl
    refine ⟨i, es[i].1, es[i].2, e'.key, e'.val, _, List.getElem?_eq_getElem hilt, hns, h1, h2, hrun, ?_⟩
    refine st1.trans ?_
    refine setObj_step (o' := .mit cm es.length (seen ++ [i])) (ob := .mapIter (some bm) es.length (sn.push e'.born) E.size) st1.rel hc rfl rfl hb hbase ?_
    intro b2 hb2
    rw [hb] at hb2; cases hb2
    have hlt1 := st1.rel.lto c b hb
    refine ⟨hbase, bm, sn.push e'.born, hbm, ?_, ?_⟩
    · rw [Array.getElem?_setIfInBounds_self_of_lt hlt1, hl]
    · simp [hsn, hbi]

section
variable {P : Program} {F : Nat → Nat} {base : Nat} {cf : CF} {nt : Nat}
def chkDm (P : Program) (F : Nat → Nat) (nt : Nat) : D → Code → Bool
  | .c c, d => chkC P F nt c d
  | .nxt it dst ok, .region _ ops false => match ops.toList with
    | [o1, o2] => o1.guard.isNone && o2.guard.isNone && decide (o1.dst = some dst) && decide (o2.dst = some ok) && decide (dst < nt) && decide (ok < nt) &&
        (match o1.op with | .next (.tmp t) false => decide (t = it) | _ => false) && chkOp P F o2.op (.prj 0 (.t dst))
    | _ => false
  | .kl _ d, c => chkDm P F nt d c
  | .seq a b, .seq c1 c2 => chkDm P F nt a c1 && chkDm P F nt b c2
  | .blk id d, .block id2 c => decide (id = id2) && chkDm P F nt d c
  | .loop d, .loop c => chkDm P F nt d c
  | _, _ => false

/-- What is left behind, whichever way it went. -/
def PostD (P : Program) (F : Nat → Nat) (base nt : Nat) (m : Emb) (h : AH) (w : World) (ds : List Deferred) (R : RP) : Exit → Act → World → Prop :=
  fun ee a' w' => ∃ x e' h', R x e' h' ∧ Post P F base nt m h w ds x e' h' ee a' w'
theorem PostD.trans {m m1 : Emb} {h h1 : AH} {w w1 : World} {ds : List Deferred} {R : RP} {ee : Exit} {a' : Act} {w' : World} (hs : StepR F base m h w m1 h1 w1) (hp : PostD P F base nt m1 h1 w1 ds R ee a' w') : PostD P F base nt m h w ds R ee a' w' := by
  obtain ⟨x, e', h', h1, h2⟩ := hp
  exact ⟨x, e', h', h1, Post.trans hs h2⟩
theorem nxt_sound (hs : Sound P F cf) {it dst ok id : Nat} {ops : Array Oper} {a : Act} {m : Emb} {e : Env} {h : AH} {w : World} {R : RP} (hc : chkDm P F nt (.nxt it dst ok) (.region id ops false) = true) (hw : dW (Wcf cf) (.nxt it dst ok) e h R) (hr : RelH F base m h w) (he : RelEnv F m e a.tmps) (hn : nt ≤ a.tmps.size) :
    (Code.region id ops false).wp P (PostD P F base nt m h w a.defers R) a w := by
  unfold chkDm at hc
  split at hc
  case h_2 => cases hc
  rename_i o1 o2 hops
  simp only [Bool.and_eq_true, decide_eq_true_eq, Option.isNone_iff_eq_none] at hc
  obtain ⟨⟨⟨⟨⟨⟨⟨g1, g2⟩, d1⟩, d2⟩, l1⟩, l2⟩, n1⟩, p2⟩ := hc
  split at n1
  case h_2 => cases n1
  rename_i t hop
  have ht := of_decide_eq_true n1
  subst ht
  obtain ⟨c, cm, seen, es, k1, k2, k3, k4, k5⟩ := hw
  have hit := he t
  rw [k1] at hit
  obtain ⟨b, hb, hv⟩ := rel_iter hit
  have ho : ops = #[o1, o2] := by rw [← Array.toArray_toList (xs := ops), hops]
  subst ho
  have w1 : ∀ ys, Region.wanted o1 ys = true := fun ys => by simp [Region.wanted, g1]
  have w2 : ∀ ys, Region.wanted o2 ys = true := fun ys => by simp [Region.wanted, g2]
  have tail : ∀ (r : AV) (v : Value) (m2 : Emb) (h2 : AH) (w2' : World) (bb : Bool), RelV F m2 r v → StepR F base m h w m2 h2 w2' → (∃ rest, r = .tup (.bool bb :: rest)) → R .normal ((e.set dst r).set ok (.bool bb)) h2 →
      wpOps P #[o1, o2] (PostD P F base nt m h w a.defers R) [1] (a.put o1.dst v) w2' := by
    intro r v m2 h2 w2' bb hrv hst ⟨rest, hre⟩ hR
    have he2 : RelEnv F m2 (e.set dst r) (a.put o1.dst v).tmps := by
      have := (he.mono hst.le).put hrv o1.dst (fun t ht => by rw [d1] at ht; cases ht; omega)
      rwa [d1] at this ⊢
    have hn2 : nt ≤ (a.put o1.dst v).tmps.size := by rw [Act.put_size]; exact hn
    have hev : evOp cf (env (e.set dst r)) h2 (.prj 0 (.t dst)) = some (.bool bb, h2) := by
      simp only [evOp, env, Env.get_set, if_true, hre]
      rfl
    have hg := op_sound hs hst.rel he2 p2 hev (PostD P F base nt m h w a.defers R)
    simp only [wpOps]
    rw [show (#[o1, o2] : Array Oper)[1]? = some o2 from rfl]
    simp only [w2, if_true]
    refine .inl (Oper.wp_mono ?_ hg)
    rintro a3 w3 ⟨v3, m3, rfl, hv3, hst3⟩
    show PostD P F base nt m h w a.defers R .normal _ _
    refine ⟨.normal, _, h2, hR, rfl, ?_, by rw [Act.put_size]; exact hn2, m3, ?_, hst.trans hst3⟩
    · rw [Act.put_defs, Act.put_defs]
    · have := (he2.mono hst3.le).put hv3 o2.dst (fun t ht => by rw [d2] at ht; cases ht; omega)
      rw [d2] at this
      rwa [d2]
  refine wp_region ?_
  show wpOps P #[o1, o2] _ [0, 1] a w
  simp only [wpOps]
  rw [show (#[o1, o2] : Array Oper)[0]? = some o1 from rfl]
  simp only [w1, if_true]
  left
  have hev : a.eval (.tmp t) = .pointer (some ⟨b, 0, none⟩) := hv
  rcases next_law (P := P) hr k2 k3 hb o1.type with ⟨i, k, v, kv, vv, w', q1, q2, q3, q4, q5, q6⟩ | ⟨q1, q2⟩
  · have hg : Good P F base o1 a m h w (.tup [.bool true, k, v]) (h.set c (.mit cm es.length (seen ++ [i]))) := by
      refine good_value (v := .tuple #[.bool true, kv, vv]) (m' := m) ?_ ?_ q6
      · simp only [execOp, hop, hev]
        simp [q5]
      · simp only [RelV]
        exact ⟨_, rfl, by simp only [RelL]; exact ⟨_, _, rfl, by simp only [RelV], _, _, rfl, q3, _, _, rfl, q4, rfl⟩⟩
    refine Oper.wp_mono ?_ (hg _)
    rintro a2 w2' ⟨v2, m2, rfl, hv2, hst2⟩
    exact tail _ v2 m2 _ w2' true hv2 hst2 ⟨_, rfl⟩ (k4 i k v q1 q2)
  · have hg : Good P F base o1 a m h w (.tup [.bool false]) h := by
      refine good_value (v := .tuple #[.bool false]) (m' := m) ?_ ?_ (StepR.refl hr)
      · simp only [execOp, hop, hev]
        simp [q2]
      · simp only [RelV]
        exact ⟨_, rfl, by simp only [RelL]; exact ⟨_, _, rfl, by simp only [RelV], rfl⟩⟩
    refine Oper.wp_mono ?_ (hg _)
    rintro a2 w2' ⟨v2, m2, rfl, hv2, hst2⟩
    exact tail _ v2 m2 _ w2' false hv2 hst2 ⟨_, rfl⟩ (k5 q1)
theorem rounds_mono {d2 : Code} : ∀ (k : Nat) (Q Q' : Exit → Act → World → Prop), (∀ ee a w, Q ee a w → Q' ee a w) → ∀ a w, Code.rounds P d2 Q k a w → Code.rounds P d2 Q' k a w := by
  intro k Q Q' hq
  induction k with
  | zero => intro a w hh; exact hh
  | succ k ih =>
    intro a w hh
    rw [rounds_succ] at hh ⊢
    refine wp_mono hh ?_
    intro ee a w hx
    cases ee <;> first | exact ih _ _ hx | exact hq _ _ _ hx
theorem dW_sound (hs : Sound P F cf) : ∀ (d : D) (code : Code) (a : Act) (m : Emb) (e : Env) (h : AH) (w : World) (R : RP), chkDm P F nt d code = true → dW (Wcf cf) d e h R → RelH F base m h w → RelEnv F m e a.tmps → nt ≤ a.tmps.size →
    code.wp P (PostD P F base nt m h w a.defers R) a w := by
  intro d
  induction d with
  | c c =>
    rintro code a m e h w R hc ⟨n, x, e', h', h1, h2⟩ hr he hn
    refine wp_mono (code_sound hs n c code a m e h w x e' h' (by simpa only [chkDm] using hc) h1 hr he hn) ?_
    intro ee a' w' hp
    exact ⟨x, e', h', h2, hp⟩
  | nxt it dst ok =>
    intro code a m e h w R hc hw hr he hn
    cases code <;> try (simp [chkDm] at hc; done)
    rename_i id ops draw
    cases draw <;> try (simp [chkDm] at hc; done)
    exact nxt_sound hs hc hw hr he hn
  | kl ts d ih =>
    intro code a m e h w R hc hw hr he hn
    simp only [chkDm] at hc
    exact ih code a m _ h w R hc hw hr (he.dels ts) hn
  | seq x y ihx ihy =>
    intro code a m e h w R hc hw hr he hn
    cases code <;> simp only [chkDm] at hc <;> try (cases hc; done)
    simp only [Bool.and_eq_true] at hc
    refine wp_seq (wp_mono (ihx _ a m e h w _ hc.1 hw hr he hn) ?_)
    rintro ee a1 w1 ⟨z, e1, h1, hz, rfl, k1, k2, m1, k3, k4⟩
    cases z with
    | normal =>
      have := ihy _ a1 m1 e1 h1 w1 R hc.2 hz k4.rel k3 k2
      rw [k1] at this
      exact wp_mono this fun ee a2 w2 hp => PostD.trans k4 hp
    | exit i => exact ⟨_, e1, h1, hz, rfl, k1, k2, m1, k3, k4⟩
    | ret => exact ⟨_, e1, h1, hz, rfl, k1, k2, m1, k3, k4⟩
  | blk id d ih =>
    intro code a m e h w R hc hw hr he hn
    cases code <;> simp only [chkDm] at hc <;> try (cases hc; done)
    rename_i id2 d2
    simp only [Bool.and_eq_true, decide_eq_true_eq] at hc
    obtain ⟨rfl, hc⟩ := hc
    refine wp_block (wp_mono (ih _ a m e h w _ hc hw hr he hn) ?_)
    rintro ee a1 w1 ⟨z, e1, h1, hz, rfl, k1, k2, m1, k3, k4⟩
    cases z with
    | normal => exact ⟨.normal, e1, h1, hz, rfl, k1, k2, m1, k3, k4⟩
    | ret => exact ⟨.ret, e1, h1, hz, rfl, k1, k2, m1, k3, k4⟩
    | exit i =>
      simp only [inBlk] at hz
      simp only [X.exit', Exit.inBlock]
      split at hz
      · rename_i hid
        rw [if_pos hid]
        exact ⟨.normal, e1, h1, hz, rfl, k1, k2, m1, k3, k4⟩
      · rename_i hid
        rw [if_neg hid]
        exact ⟨.exit i, e1, h1, hz, rfl, k1, k2, m1, k3, k4⟩
  | loop d ih =>
    rintro code a m e h w R hc ⟨n, hw⟩ hr he hn
    cases code <;> simp only [chkDm] at hc <;> try (cases hc; done)
    rename_i d2
    have key : ∀ (k : Nat) (a : Act) (m : Emb) (e : Env) (h : AH) (w : World), dRounds (dW (Wcf cf) d) R k e h → RelH F base m h w → RelEnv F m e a.tmps → nt ≤ a.tmps.size → Code.rounds P d2 (PostD P F base nt m h w a.defers R) k a w := by
      intro k
      induction k with
      | zero => intro a m e h w hw; exact hw.elim
      | succ k ihk =>
        intro a m e h w hw hr he hn
        rw [rounds_succ]
        refine wp_mono (ih _ a m e h w _ hc hw hr he hn) ?_
        rintro ee a1 w1 ⟨z, e1, h1, hz, rfl, k1, k2, m1, k3, k4⟩
        cases z with
        | normal =>
          have := ihk a1 m1 e1 h1 w1 hz k4.rel k3 k2
          rw [k1] at this
          simp only [X.exit', Exit.then]
          exact rounds_mono _ _ _ (fun ee a2 w2 hp => PostD.trans k4 hp) _ _ this
        | exit i => exact ⟨_, e1, h1, hz, rfl, k1, k2, m1, k3, k4⟩
        | ret => exact ⟨_, e1, h1, hz, rfl, k1, k2, m1, k3, k4⟩
    exact wp_loop_rounds n (key n a m e h w hw hr he hn)
end
end Go.Proofs.YtcflenomogpdbaaDoor.Ab

/- FORGETTING: of what a run has laid, a row of strings alone is kept. -/
namespace Go.Proofs.YtcflenomogpdbaaDoor.Ab
open Go Go.RowKit

section
variable {F : Nat → Nat} {m m' : Emb}
mutual
theorem RelV.back (hm : m.le m') : ∀ (x : AV) (v0 v : Value), RelV F m x v0 → RelV F m' x v → RelV F m x v
  | .int .., _, _, _, h | .bool _, _, _, _, h | .str _, _, _, _, h | .nilS, _, _, _, h | .empS, _, _, _, h | .nilP, _, _, _, h | .nilM, _, _, _, h | .nilF, _, _, _, h | .nilI, _, _, _, h | .ifc, _, _, _, h | .undef, _, _, _, h => by simp only [RelV] at h ⊢ <;> exact h
  | .slice .., _, _, h0, h => by
    simp only [RelV] at h0 h ⊢
    obtain ⟨p, o, cap, h1, h2⟩ := h
    obtain ⟨p0, _, _, k1, _⟩ := h0
    have := hm.1 _ _ _ k1
    rw [h1] at this; cases this
    exact ⟨p, o, cap, k1, h2⟩
  | .ptr .., _, _, h0, h => by
    simp only [RelV] at h0 h ⊢
    obtain ⟨p, h1, h2⟩ := h
    obtain ⟨p0, k1, _⟩ := h0
    have := hm.1 _ _ _ k1
    rw [h1] at this; cases this
    exact ⟨p, k1, h2⟩
  | .map _, _, _, h0, h => by
    simp only [RelV] at h0 h ⊢
    obtain ⟨b, h1, h2⟩ := h
    obtain ⟨b0, k1, _⟩ := h0
    have := hm.2 _ _ k1
    rw [h1] at this; cases this
    exact ⟨b, k1, h2⟩
  | .iter _, _, _, h0, h => by
    simp only [RelV] at h0 h ⊢
    obtain ⟨b, h1, h2⟩ := h
    obtain ⟨b0, k1, _⟩ := h0
    have := hm.2 _ _ k1
    rw [h1] at this; cases this
    exact ⟨b, k1, h2⟩
  | .fn _ cap, _, _, h0, h => by
    simp only [RelV] at h0 h ⊢
    obtain ⟨vs, h1, h2⟩ := h
    obtain ⟨vs0, _, k2⟩ := h0
    exact ⟨vs, h1, RelL.back hm cap _ _ k2 h2⟩
  | .agg xs, _, _, h0, h => by
    simp only [RelV] at h0 h ⊢
    obtain ⟨vs, h1, h2⟩ := h
    obtain ⟨vs0, _, k2⟩ := h0
    exact ⟨vs, h1, RelL.back hm xs _ _ k2 h2⟩
  | .tup xs, _, _, h0, h => by
    simp only [RelV] at h0 h ⊢
    obtain ⟨vs, h1, h2⟩ := h
    obtain ⟨vs0, _, k2⟩ := h0
    exact ⟨vs, h1, RelL.back hm xs _ _ k2 h2⟩
theorem RelL.back (hm : m.le m') : ∀ (xs : List AV) (l0 l : List Value), RelL F m xs l0 → RelL F m' xs l → RelL F m xs l
  | [], _, _, _, h => by simpa only [RelL] using h
  | x :: xs, _, _, h0, h => by
    simp only [RelL] at h0 h ⊢
    obtain ⟨v, vs, h1, h2, h3⟩ := h
    obtain ⟨v0, vs0, _, k2, k3⟩ := h0
    exact ⟨v, vs, h1, RelV.back hm x _ _ k2 h2, RelL.back hm xs _ _ k3 h3⟩
end
theorem RelE.back (hm : m.le m') : ∀ (es : List (AV × AV)) (l0 l : List MapEntry), RelE F m es l0 → RelE F m' es l → RelE F m es l
  | [], _, _, _, h => h
  | (k, v) :: es, l0, l, h0, h => by
    obtain ⟨e, l', h1, h2, h3, h4⟩ := h
    obtain ⟨e0, l0', _, k2, k3, k4⟩ := h0
    exact ⟨e, l', h1, RelV.back hm _ _ _ k2 h2, RelV.back hm _ _ _ k3 h3, RelE.back hm es _ _ k4 h4⟩
variable {base : Nat} {h h' : AH} {w w' : World}
theorem ObjRel.back {c : Nat} {o : AO} (h0 : ObjRel F base m w c o) (h1 : ObjRel F base m' w' c o) (hm : m.le m') : ObjRel F base m w' c o := by
  cases o with
  | row cs ver fl ro =>
    intro k p hp hk
    obtain ⟨_, _, _, _, C0, e0, fr0, _, _, _, _, hc0⟩ := h0 k p hp hk
    obtain ⟨a1, a2, a3, a4, C, e, fr, hg, hs, hb, hf, hc⟩ := h1 k p (hm.1 _ _ _ hp) hk
    refine ⟨a1, a2, a3, a4, C, e, fr, hg, hs, hb, hf, fun j hj1 hj2 => ?_⟩
    obtain ⟨x, v, hx, hv, hxv⟩ := hc j hj1 hj2
    obtain ⟨x0, v0, hx0, _, hxv0⟩ := hc0 j hj1 hj2
    rw [hx] at hx0; cases hx0
    exact ⟨x, v, hx, hv, RelV.back hm x v0 v hxv0 hxv⟩
  | map es =>
    intro b hb
    obtain ⟨_, E0, _, _, hE0, _⟩ := h0 b hb
    obtain ⟨a1, E, clk, hg, hE, hst⟩ := h1 b (hm.2 _ _ hb)
    exact ⟨a1, E, clk, hg, RelE.back hm _ _ _ hE0 hE, hst⟩
  | iter s pos =>
    intro b hb
    exact h1 b (hm.2 _ _ hb)
  | mit cm since seen =>
    intro b hb
    obtain ⟨_, bm0, _, hm0, _⟩ := h0 b hb
    obtain ⟨a1, bm, sn, h2, h3⟩ := h1 b (hm.2 _ _ hb)
    have := hm.2 _ _ hm0
    rw [h2] at this; cases this
    exact ⟨a1, _, sn, hm0, h3⟩
/-- All that was laid is forgotten. -/
theorem StepR.forget (hr : RelH F base m h w) (st : StepR F base m h w m' h' w') (hp : ∀ i, i < h.length → h'[i]? = h[i]?) : StepR F base m h w m h w' := by
  refine ⟨Emb.le_refl m, ⟨hr.rowc, hr.objc, fun c o hc => ?_, hr.inj, hr.injo, hr.injr, fun c k p h => Nat.lt_of_lt_of_le (hr.ltr c k p h) st.size, fun c b h => Nat.lt_of_lt_of_le (hr.lto c b h) st.size, hr.vers, Nat.le_trans hr.le st.size⟩, st.os, st.tape, st.out, st.size, st.frame, fun _ _ _ h => .inl h, fun _ _ h => .inl h, fun _ _ _ => rfl, Nat.le_refl _⟩
  have hlt := (List.getElem?_eq_some_iff.1 hc).1
  exact (hr.ob c o hc).back (st.rel.ob c o (by rw [hp c hlt]; exact hc)) st.le
/-- .. but for a row of strings. -/
theorem StepR.keepRow (hr : RelH F base m h w) (st : StepR F base m h w m' h' w') (hp : ∀ i, i < h.length → h'[i]? = h[i]?) {r k off n : Nat} {cells : List AV} {fl : Nat} {L : List (List UInt8)} (hrl : h.length ≤ r) (hrow : h'[r]? = some (.row cells k fl false)) (hfl : fl ≤ k) (hn : n = L.length) (hn1 : 1 ≤ n) (hoff : off + n * 1 = cells.length) (hcs : cells.drop off = L.map AV.str)
    {v : Value} (hv : RelV F m' (.slice r k off n 1) v) : ∃ m2, StepR F base m h w m2 (h ++ [.row (L.map AV.str) 0 0 false]) w' ∧ RelV F m2 (.slice h.length 0 0 n 1) v := by
  simp only [RelV] at hv
  obtain ⟨p, o, cap, hpr, hve, hcap, hpl⟩ := hv
  have hpl' := hpl.resolve_left (by omega)
  obtain ⟨q1, q2, q3, q4⟩ := hpl'
  have hlen : ∀ c k p, m.row c k = some p → c < h.length := fun c k p hp => by
    obtain ⟨o, ho, _⟩ := hr.rowc c k p hp
    exact (List.getElem?_eq_some_iff.1 ho).1
  have hleno : ∀ c b, m.obj c = some b → c < h.length := fun c b hb => by
    obtain ⟨o, ho, _⟩ := hr.objc c b hb
    exact (List.getElem?_eq_some_iff.1 ho).1
  obtain ⟨pl, hplE⟩ : ∃ pl : Place, pl = ⟨p.blk, p.base + (off - p.lo), 0, n, p.siz⟩ := ⟨_, rfl⟩
  have f0 := hr.rowc
  obtain ⟨m2, hm2⟩ : ∃ m2 : Emb, m2 = ⟨fun c k => if c = h.length ∧ k = 0 then some pl else m.row c k, m.obj⟩ := ⟨_, rfl⟩
  have row2 : ∀ c k p', m2.row c k = some p' → (c = h.length ∧ k = 0 ∧ p' = pl) ∨ m.row c k = some p' := by
    intro c k p' hh
    rw [hm2] at hh
    simp only at hh
    split at hh
    · rename_i hck; cases hh; exact .inl ⟨hck.1, hck.2, rfl⟩
    · exact .inr hh
  have row2' : ∀ c k p', m.row c k = some p' → m2.row c k = some p' := by
    intro c k p' hh
    rw [hm2]
    simp only
    rw [if_neg (by have := hlen c k p' hh; omega)]
    exact hh
  have obj2 : ∀ c, m2.obj c = m.obj c := fun c => by rw [hm2]
  have hle2 : m.le m2 := ⟨row2', fun c b hb => by rw [obj2]; exact hb⟩
  obtain ⟨_, b2, b3, b4, C, e, fr, hg, hs, hb, hf, hcell⟩ := st.rel.ob r _ hrow k p hpr hfl
  have hpb := b4 rfl
  have hfresh : w.heap.size ≤ p.blk := by
    rcases st.newr r k p hpr with h1 | ⟨_, h1 | ⟨k0, p0, h1, _⟩⟩
    · have := hlen r k p h1; omega
    · exact h1
    · have := hlen r k0 p0 h1; omega
  have hget : ∀ c, c < h.length → (h ++ [AO.row (L.map AV.str) 0 0 false])[c]? = h[c]? := fun c hc => List.getElem?_append_left hc
  have hlast : (h ++ [AO.row (L.map AV.str) 0 0 false])[h.length]? = some (.row (L.map AV.str) 0 0 false) := by simp
  have sameP : p.ext = cells.length := b3 rfl
  refine ⟨m2, ⟨hle2, ⟨?_, ?_, ?_, ?_, ?_, ?_, ?_, ?_, ?_, Nat.le_trans hr.le st.size⟩, st.os, st.tape, st.out, st.size, st.frame, ?_, ?_, ?_, by simp⟩, ?_⟩
  · intro c k' p' hh
    rcases row2 c k' p' hh with ⟨rfl, _, _⟩ | hh
    · exact ⟨_, hlast, rfl⟩
    · obtain ⟨u, hu, hi⟩ := hr.rowc c k' p' hh
      exact ⟨u, by rw [hget c (hlen c k' p' hh)]; exact hu, hi⟩
  · intro c b hb'
    rw [obj2] at hb'
    obtain ⟨u, hu, hi⟩ := hr.objc c b hb'
    exact ⟨u, by rw [hget c (hleno c b hb')]; exact hu, hi⟩
  · intro c u hu
    by_cases hc : c < h.length
    · rw [hget c hc] at hu
      have := (hr.ob c u hu).back (st.rel.ob c u (by rw [hp c hc]; exact hu)) st.le
      refine this.keep hle2 (fun k' p' hh => ?_) (fun b hb' => by rw [obj2] at hb'; exact hb') (fun _ _ _ => rfl) fun _ _ => rfl
      rcases row2 c k' p' hh with ⟨e1, _, _⟩ | hh
      · omega
      · exact hh
    · have hcl : c = h.length := by
        have := (List.getElem?_eq_some_iff.1 hu).1
        simp at this; omega
      subst hcl
      rw [hlast] at hu; cases hu
      intro k' p' hh _
      rcases row2 _ k' p' hh with ⟨_, e2, e3⟩ | hh
      · subst e2; subst e3; subst hplE
        refine ⟨Nat.le_refl _, by simp [hn], fun _ => by simp [hn], fun _ => hpb, C, e, fr, hg, hs, ?_, fun _ => hf rfl, fun j hj1 hj2 => ?_⟩
        · simp only; omega
        · simp only at hj1 hj2 ⊢
          obtain ⟨x, u, hx, hu, hxu⟩ := hcell (off + j) (by omega) (by omega)
          have hxL : (L.map AV.str)[j]? = some x := by rw [← hcs, List.getElem?_drop]; exact hx
          refine ⟨x, u, hxL, ?_, ?_⟩
          · rw [show p.base + (off - p.lo) + (j - 0) = p.base + (off + j - p.lo) by omega]; exact hu
          · rw [List.getElem?_map, Option.map_eq_some_iff] at hxL
            obtain ⟨s, _, rfl⟩ := hxL
            simpa only [RelV] using hxu
      · have := hlen _ k' p' hh; omega
  · intro c1 k1 p1 c2 k2 p2 h1 h2 hb1 hbe
    rcases row2 c1 k1 p1 h1 with ⟨e1, e2, e3⟩ | h1'
    · rcases row2 c2 k2 p2 h2 with ⟨g1, g2, g3⟩ | h2'
      · subst e3; subst g3
        exact ⟨by omega, rfl, rfl⟩
      · subst e3
        obtain ⟨i1, _⟩ := st.rel.inj r k p c2 k2 p2 hpr (st.le.1 _ _ _ h2') hpb (by rw [hplE] at hbe; exact hbe)
        have := hlen c2 k2 p2 h2'; omega
    · rcases row2 c2 k2 p2 h2 with ⟨g1, g2, g3⟩ | h2'
      · subst g3
        obtain ⟨i1, _⟩ := st.rel.inj c1 k1 p1 r k p (st.le.1 _ _ _ h1') hpr hb1 (by rw [hplE] at hbe; exact hbe)
        have := hlen c1 k1 p1 h1'; omega
      · exact hr.inj c1 k1 p1 c2 k2 p2 h1' h2' hb1 hbe
  · intro c c' b h1 h2
    rw [obj2] at h1 h2
    exact hr.injo c c' b h1 h2
  · intro c k' p' c' b h1 h2
    rw [obj2] at h2
    rcases row2 c k' p' h1 with ⟨_, _, e3⟩ | h1'
    · subst e3
      rw [hplE]
      exact st.rel.injr r k p c' b hpr (st.le.2 _ _ h2)
    · exact hr.injr c k' p' c' b h1' h2
  · intro c k' p' h1
    rcases row2 c k' p' h1 with ⟨_, _, e3⟩ | h1'
    · subst e3; rw [hplE]; exact st.rel.ltr r k p hpr
    · exact Nat.lt_of_lt_of_le (hr.ltr c k' p' h1') st.size
  · intro c b h1
    rw [obj2] at h1
    exact Nat.lt_of_lt_of_le (hr.lto c b h1) st.size
  · intro c cs ver fl' ro k' p' hu hh
    rcases row2 c k' p' hh with ⟨e1, e2, _⟩ | hh'
    · omega
    · rw [hget c (hlen c k' p' hh')] at hu
      exact hr.vers c cs ver fl' ro k' p' hu hh'
  · intro c k' p' hh
    rcases row2 c k' p' hh with ⟨e1, _, e3⟩ | hh'
    · subst e3
      rw [hplE]
      exact .inr ⟨.inl (by omega), .inl hfresh⟩
    · exact .inl hh'
  · intro c b hh
    rw [obj2] at hh
    exact .inl hh
  · intro c hc _
    exact hget c hc
  · simp only [RelV]
    refine ⟨pl, o, cap, ?_, ?_, hcap, .inr ?_⟩
    · rw [hm2]; simp
    · rw [hplE]; exact hve
    · rw [hplE]; simp only; omega
end
end Go.Proofs.YtcflenomogpdbaaDoor.Ab

/- CALLS whose order is not known: from a demonic run to the program's own call. -/
namespace Go.Proofs.YtcflenomogpdbaaDoor.Ab
open Go Go.RowKit

section
variable {P : Program} {F : Nat → Nat} {cf : CF}
def chkFD (P : Program) (F : Nat → Nat) (f : Nat) (d : D) (rs : List Res) : Bool := match P.funcs[F f]? with
  | some fn => match fn.body with
    | some c => !(fn.name == "runtime.NumGoroutine") && chkDm P F fn.ntmps d c && chkRes P fn.results.toList rs
    | none => false
  | none => false
theorem d_calls (hs : Sound P F cf) {f : Nat} {d : D} {rs : List Res} (hc : chkFD P F f d rs = true) {xs : List AV} {h : AH} {R : RP} (hw : dW (Wcf cf) d (Env.init 0 xs) h R) (hres : ∀ x e' h', R x e' h' → (x = .normal ∨ x = .ret) ∧ ∃ r, resV e' h' rs = some r) :
    fnOk P (F f) = true ∧ ∀ (base : Nat) (m : Emb) (w : World) (args : Array Value), RelH F base m h w → RelL F m xs args.toList →
      Calls P (F f) args w fun ee w' => ∃ x e' h' r v m', R x e' h' ∧ resV e' h' rs = some r ∧ ee = .returned v ∧ RelV F m' r v ∧ StepR F base m h w m' h' w' := by
  unfold chkFD at hc
  split at hc
  case h_2 => cases hc
  rename_i fn hfn
  split at hc
  case h_2 => cases hc
  rename_i c hbody
  simp only [Bool.and_eq_true, Bool.not_eq_true'] at hc
  obtain ⟨⟨h1, h2⟩, h3⟩ := hc
  refine ⟨by simp [fnOk, hfn, hbody]; simpa using h1, ?_⟩
  intro base m w args hr hx
  refine calls_of_wp hfn hbody ?_
  have hlen := hx.length
  have he : RelEnv F m (Env.init 0 xs) (args ++ Array.replicate (fn.ntmps - args.size) undef) := by
    intro t
    rw [init_get]
    split
    · rename_i ht
      have hlt : t < xs.length := by omega
      obtain ⟨v, hv, hxv⟩ := hx.get t xs[t] (by simp)
      have h0 : xs.getD (t - 0) .undef = xs[t] := by simp [List.getD_eq_getElem?_getD, hlt]
      rw [h0]
      rw [Array.getElem?_toList] at hv
      have : (args ++ Array.replicate (fn.ntmps - args.size) undef).getD t undef = v := by
        rw [Array.getD_eq_getD_getElem?, Array.getElem?_append_left (by simp at hlen; omega), hv]; rfl
      rw [this]; exact hxv
    · simp only [RelV]
  have hn : fn.ntmps ≤ (args ++ Array.replicate (fn.ntmps - args.size) undef).size := by simp; omega
  refine wp_mono (dW_sound hs d c { tmps := args ++ Array.replicate (fn.ntmps - args.size) undef, defers := [] } m _ h w R h2 hw hr he hn) ?_
  rintro ee a' w' ⟨x, e', h', hR, rfl, k1, k2, m', k3, k4⟩
  obtain ⟨hx', r, hr'⟩ := hres x e' h' hR
  obtain ⟨v, hv, hrv⟩ := results_run h3 k4.rel k3 hr'
  rcases hx' with rfl | rfl
  · exact ⟨k1, v, hv, _, e', h', r, v, m', hR, hr', rfl, hrv, k4⟩
  · exact ⟨k1, v, hv, _, e', h', r, v, m', hR, hr', rfl, hrv, k4⟩
end
end Go.Proofs.YtcflenomogpdbaaDoor.Ab

/-
  DERIVED: THE SHELF's CONTRACTS AT THIS DUMP, IN PLAIN WORDS (tools/lay-plain.mjs out of 'TrydShelf.lean', which tools/lay-shelf.mjs wrote): THE SAME DECLARATIONS UNDER THE SAME NAMES: 'import', 'namespace', 'open', 'def', 'theorem' AND NOTHING ELSE: no command of the shelf's: FOR A HAND-IN. Each laying: the table of numbers ('.._ren') and one theorem, a field a fact of the dump's own or the kernel's comparison; each contract: ONE APPLICATION.
-/
namespace Go.Proofs
open Go.Shelf
def Tryd.lays170_ren : Go.Shelf.Ren := ⟨fun | 170 => 86 | n => n, fun | 70 => 100 | 3 => 3 | 0 => 0 | 72 => 102 | 37 => 86 | 5 => 5 | n => n, fun | n => n⟩
theorem Tryd.lays170 : Go.Proofs.Lays.n170 Tryd.prog Tryd.lays170_ren := {
  mixed := by kernel_rfl
  f170 := Tryd.func86.trans (congrArg some (by kernel_rfl))
  t0 := Tryd.underlying0
  a0 := Tryd.isAgg0
  z0 := Tryd.sizeOf0
  v0 := Tryd.zeroValue0
  t3 := Tryd.underlying3
  a3 := Tryd.isAgg3
  z3 := Tryd.sizeOf3
  v3 := Tryd.zeroValue3
  t37 := Tryd.underlying86
  a37 := Tryd.isAgg86
  z37 := Tryd.sizeOf86
  v37 := Tryd.zeroValue86
  t70 := Tryd.underlying100
  a70 := Tryd.isAgg100
  z70 := Tryd.sizeOf100
  v70 := Tryd.zeroValue100
  t72 := Tryd.underlying102
  a72 := Tryd.isAgg102
  z72 := Tryd.sizeOf102
  v72 := Tryd.zeroValue102 }
open Go.RowKit in
/-- (*strings.Builder).Len: "Len returns the number of accumulated bytes; b.Len() == len(b.String()).": the world is as it was. (LAID: no walk: one application.) -/
theorem Tryd.Builder_Len (B b : Nat) (bs : List Value) (w : World) (h : Lib.IsBuilder 102 5 B b bs w) :
    Calls Tryd.prog 86 #[.pointer (some ⟨b, 0, none⟩)] w fun e w' => e = .returned (.int .i64 bs.length) ∧ w' = w := Any.Builder_Len Tryd.lays170 B b bs w h
def Tryd.lays169_ren : Go.Shelf.Ren := ⟨fun | 169 => 87 | n => n, fun | 70 => 100 | 9 => 9 | 0 => 0 | 72 => 102 | 37 => 86 | 127 => 132 | 3 => 3 | 5 => 5 | n => n, fun | n => n⟩
theorem Tryd.lays169 : Go.Proofs.Lays.n169 Tryd.prog Tryd.lays169_ren := {
  mixed := by kernel_rfl
  f169 := Tryd.func87.trans (congrArg some (by kernel_rfl))
  t0 := Tryd.underlying0
  a0 := Tryd.isAgg0
  z0 := Tryd.sizeOf0
  v0 := Tryd.zeroValue0
  t3 := Tryd.underlying3
  a3 := Tryd.isAgg3
  z3 := Tryd.sizeOf3
  v3 := Tryd.zeroValue3
  t9 := Tryd.underlying9
  a9 := Tryd.isAgg9
  z9 := Tryd.sizeOf9
  v9 := Tryd.zeroValue9
  t37 := Tryd.underlying86
  a37 := Tryd.isAgg86
  z37 := Tryd.sizeOf86
  v37 := Tryd.zeroValue86
  t70 := Tryd.underlying100
  a70 := Tryd.isAgg100
  z70 := Tryd.sizeOf100
  v70 := Tryd.zeroValue100
  t72 := Tryd.underlying102
  a72 := Tryd.isAgg102
  z72 := Tryd.sizeOf102
  v72 := Tryd.zeroValue102
  t127 := Tryd.underlying132
  a127 := Tryd.isAgg132
  z127 := Tryd.sizeOf132
  v127 := Tryd.zeroValue132 }
theorem Tryd.Builder_Extra_169 : Builder.Extra Tryd.prog Tryd.lays169_ren := {
  sizeBuilder := by kernel_rfl
  liesBuilder := by kernel_rfl
  t5 := Tryd.underlying5
  a5 := Tryd.isAgg5
  z5 := Tryd.sizeOf5
  v5 := Tryd.zeroValue5
  infoByte := by kernel_rfl
  cellsByte := by kernel_rfl
  sizeByte := by kernel_rfl
  neB5 := by decide }
open Go.RowKit in
/-- (*strings.Builder).String: "String returns the accumulated string.": OF A BUILDER THAT HOLDS AT LEAST ONE BYTE. ✋ THE MODEL FREEZES THOSE BYTES IN THE BUFFER (unsafe.String): a later write INTO them ends the model's run without an answer; a later append BEHIND them goes on. The statement's order of evaluation is drawn: one draw. (LAID: no walk: one application.) -/
theorem Tryd.Builder_String (B b : Nat) (l : List UInt8) (w : World) (h : Lib.IsBuilder 102 5 B b (Lib.byteCells l) w) (h0 : l ≠ []) :
    Calls Tryd.prog 87 #[.pointer (some ⟨b, 0, none⟩)] w fun e w' => e = .returned (.string ⟨l.toArray⟩) ∧ Below B w w' := Any.Builder_String Tryd.lays169 Tryd.Builder_Extra_169 B b l w h h0
open Go.RowKit in
/-- (*strings.Builder).String OF A BUILDER THAT HOLDS NO BYTE: the empty string. (Its buffer is nil, or a row of which it has taken nothing yet; where that row has NO capacity the model lays one new block for unsafe.SliceData's 'some address'.) One draw. (LAID: no walk: one application.) -/
theorem Tryd.Builder_String_empty (B b : Nat) (w : World) (h : Lib.IsBuilder 102 5 B b [] w) (hBw : B ≤ w.heap.size) :
    Calls Tryd.prog 87 #[.pointer (some ⟨b, 0, none⟩)] w fun e w' => e = .returned (.string ⟨#[]⟩) ∧ Below B w w' := Any.Builder_String_empty Tryd.lays169 Tryd.Builder_Extra_169 B b w h hBw
open Go.RowKit in
/-- (*strings.Builder).String: "String returns the accumulated string.": WHATEVER THE BUILDER HOLDS. (LAID: no walk: one application.) -/
theorem Tryd.Builder_String_any (B b : Nat) (l : List UInt8) (w : World) (h : Lib.IsBuilder 102 5 B b (Lib.byteCells l) w) (hBw : B ≤ w.heap.size) :
    Calls Tryd.prog 87 #[.pointer (some ⟨b, 0, none⟩)] w fun e w' => e = .returned (.string ⟨l.toArray⟩) ∧ Below B w w' := Any.Builder_String_any Tryd.lays169 Tryd.Builder_Extra_169 B b l w h hBw
def Tryd.lays241_ren : Go.Shelf.Ren := ⟨fun | 241 => 111 | 277 => 126 | n => n, fun | 70 => 100 | 3 => 3 | 0 => 0 | 72 => 102 | 37 => 86 | 5 => 5 | n => n, fun | n => n⟩
theorem Tryd.lays241 : Go.Proofs.Lays.n241 Tryd.prog Tryd.lays241_ren := {
  mixed := by kernel_rfl
  f241 := Tryd.func111.trans (congrArg some (by kernel_rfl))
  f277 := Tryd.func126.trans (congrArg some (by kernel_rfl))
  t0 := Tryd.underlying0
  a0 := Tryd.isAgg0
  z0 := Tryd.sizeOf0
  v0 := Tryd.zeroValue0
  t3 := Tryd.underlying3
  a3 := Tryd.isAgg3
  z3 := Tryd.sizeOf3
  v3 := Tryd.zeroValue3
  t37 := Tryd.underlying86
  a37 := Tryd.isAgg86
  z37 := Tryd.sizeOf86
  v37 := Tryd.zeroValue86
  t70 := Tryd.underlying100
  a70 := Tryd.isAgg100
  z70 := Tryd.sizeOf100
  v70 := Tryd.zeroValue100
  t72 := Tryd.underlying102
  a72 := Tryd.isAgg102
  z72 := Tryd.sizeOf102
  v72 := Tryd.zeroValue102 }
theorem Tryd.Builder_Extra_241 : Builder.Extra Tryd.prog Tryd.lays241_ren := {
  sizeBuilder := by kernel_rfl
  liesBuilder := by kernel_rfl
  t5 := Tryd.underlying5
  a5 := Tryd.isAgg5
  z5 := Tryd.sizeOf5
  v5 := Tryd.zeroValue5
  infoByte := by kernel_rfl
  cellsByte := by kernel_rfl
  sizeByte := by kernel_rfl
  neB5 := by decide }
open Go.RowKit in
/-- (*strings.Builder).grow (no doc but "grow copies the buffer to a new, larger buffer so that there are at least n bytes of capacity beyond len(b.buf)."): AT A BUILDER WITHOUT A BUFFER: a new row of whatever bytes for its buffer, none of them its own yet. Three draws. (LAID: no walk: one application.) -/
theorem Tryd.Builder_grow_fresh (B b n : Nat) (w : World) (hB : B ≤ b) (hbk : w.heap[b]? = some (.cells #[.pointer (some ⟨b, 0, none⟩), .slice none 0 0] 102 (0, 0))) (hBw : B ≤ w.heap.size) (hn : n ≤ 281474976710656) :
    Calls Tryd.prog 111 #[.pointer (some ⟨b, 0, none⟩), .int .i64 n] w fun e w' => e = .returned (.tuple #[]) ∧ (Lib.BuilderAt 102 5 B b (.pointer (some ⟨b, 0, none⟩)) [] w' ∧ Below B w w') := Any.Builder_grow_fresh Tryd.lays241 Tryd.Builder_Extra_241 B b n w hB hbk hBw hn
def Tryd.lays165_ren : Go.Shelf.Ren := ⟨fun | 165 => 84 | 240 => 110 | 241 => 111 | 276 => 125 | 277 => 126 | n => n, fun | 70 => 100 | 3 => 3 | 0 => 0 | 4 => 4 | 9 => 9 | 20 => 20 | 72 => 102 | 37 => 86 | 164 => 141 | 5 => 5 | n => n, fun | n => n⟩
theorem Tryd.lays165 : Go.Proofs.Lays.n165 Tryd.prog Tryd.lays165_ren := {
  mixed := by kernel_rfl
  f165 := Tryd.func84.trans (congrArg some (by kernel_rfl))
  f240 := Tryd.func110.trans (congrArg some (by kernel_rfl))
  f241 := Tryd.func111.trans (congrArg some (by kernel_rfl))
  f276 := Tryd.func125.trans (congrArg some (by kernel_rfl))
  f277 := Tryd.func126.trans (congrArg some (by kernel_rfl))
  t0 := Tryd.underlying0
  a0 := Tryd.isAgg0
  z0 := Tryd.sizeOf0
  v0 := Tryd.zeroValue0
  t3 := Tryd.underlying3
  a3 := Tryd.isAgg3
  z3 := Tryd.sizeOf3
  v3 := Tryd.zeroValue3
  t4 := Tryd.underlying4
  a4 := Tryd.isAgg4
  z4 := Tryd.sizeOf4
  v4 := Tryd.zeroValue4
  t9 := Tryd.underlying9
  a9 := Tryd.isAgg9
  z9 := Tryd.sizeOf9
  v9 := Tryd.zeroValue9
  t20 := Tryd.underlying20
  a20 := Tryd.isAgg20
  z20 := Tryd.sizeOf20
  v20 := Tryd.zeroValue20
  t37 := Tryd.underlying86
  a37 := Tryd.isAgg86
  z37 := Tryd.sizeOf86
  v37 := Tryd.zeroValue86
  t70 := Tryd.underlying100
  a70 := Tryd.isAgg100
  z70 := Tryd.sizeOf100
  v70 := Tryd.zeroValue100
  t72 := Tryd.underlying102
  a72 := Tryd.isAgg102
  z72 := Tryd.sizeOf102
  v72 := Tryd.zeroValue102
  t164 := Tryd.underlying141
  a164 := Tryd.isAgg141
  z164 := Tryd.sizeOf141
  v164 := Tryd.zeroValue141 }
theorem Tryd.Builder_Extra_165 : Builder.Extra Tryd.prog Tryd.lays165_ren := {
  sizeBuilder := by kernel_rfl
  liesBuilder := by kernel_rfl
  t5 := Tryd.underlying5
  a5 := Tryd.isAgg5
  z5 := Tryd.sizeOf5
  v5 := Tryd.zeroValue5
  infoByte := by kernel_rfl
  cellsByte := by kernel_rfl
  sizeByte := by kernel_rfl
  neB5 := by decide }
open Go.RowKit in
/-- (*strings.Builder).Grow AT A BUILDER THAT HAS NOT BEEN WRITTEN ('var b strings.Builder; b.Grow(n)'): "Grow grows b's capacity, if necessary, to guarantee space for another n bytes.": it holds no byte behind it as before it. (LAID: no walk: one application.) -/
theorem Tryd.Builder_Grow_fresh (B b n : Nat) (w : World) (hB : B ≤ b) (hbk : w.heap[b]? = some (.cells #[.pointer none, .slice none 0 0] 102 (0, 0))) (hBw : B ≤ w.heap.size) (hn : n ≤ 281474976710656) :
    Calls Tryd.prog 84 #[.pointer (some ⟨b, 0, none⟩), .int .i64 n] w fun e w' => e = .returned (.tuple #[]) ∧ (Lib.BuilderAt 102 5 B b (.pointer (some ⟨b, 0, none⟩)) [] w' ∧ Below B w w') := Any.Builder_Grow_fresh Tryd.lays165 Tryd.Builder_Extra_165 B b n w hB hbk hBw hn
def Tryd.lays231_ren : Go.Shelf.Ren := ⟨fun | 231 => 72 | n => n, fun | 9 => 9 | 5 => 5 | 3 => 3 | 4 => 4 | n => n, fun | n => n⟩
theorem Tryd.lays231 : Go.Proofs.Lays.n231 Tryd.prog Tryd.lays231_ren := {
  mixed := by kernel_rfl
  f231 := Tryd.func72.trans (congrArg some (by kernel_rfl))
  t3 := Tryd.underlying3
  a3 := Tryd.isAgg3
  z3 := Tryd.sizeOf3
  v3 := Tryd.zeroValue3
  t4 := Tryd.underlying4
  a4 := Tryd.isAgg4
  z4 := Tryd.sizeOf4
  v4 := Tryd.zeroValue4
  t5 := Tryd.underlying5
  a5 := Tryd.isAgg5
  z5 := Tryd.sizeOf5
  v5 := Tryd.zeroValue5
  t9 := Tryd.underlying9
  a9 := Tryd.isAgg9
  z9 := Tryd.sizeOf9
  v9 := Tryd.zeroValue9 }
open Go.RowKit in
/-- strings.trimLeftByte (no doc; what TrimLeft and Trim call at a cutset of one ASCII byte): the leading bytes that are c are cut off. The world is as it was. (LAID: no walk: one application.) -/
theorem Tryd.strings_trimLeftByte (s : ByteArray) (c : UInt8) (w : World) :
    Calls Tryd.prog 72 #[.string s, .int .u8 c.toNat] w fun e w' => e = .returned (.string ⟨(Lib.trimLeftB s.data.toList c).toArray⟩) ∧ w' = w := Any.strings_trimLeftByte Tryd.lays231 s c w
def Tryd.lays232_ren : Go.Shelf.Ren := ⟨fun | 232 => 73 | n => n, fun | 9 => 9 | 5 => 5 | 3 => 3 | 4 => 4 | n => n, fun | n => n⟩
theorem Tryd.lays232 : Go.Proofs.Lays.n232 Tryd.prog Tryd.lays232_ren := {
  mixed := by kernel_rfl
  f232 := Tryd.func73.trans (congrArg some (by kernel_rfl))
  t3 := Tryd.underlying3
  a3 := Tryd.isAgg3
  z3 := Tryd.sizeOf3
  v3 := Tryd.zeroValue3
  t4 := Tryd.underlying4
  a4 := Tryd.isAgg4
  z4 := Tryd.sizeOf4
  v4 := Tryd.zeroValue4
  t5 := Tryd.underlying5
  a5 := Tryd.isAgg5
  z5 := Tryd.sizeOf5
  v5 := Tryd.zeroValue5
  t9 := Tryd.underlying9
  a9 := Tryd.isAgg9
  z9 := Tryd.sizeOf9
  v9 := Tryd.zeroValue9 }
open Go.RowKit in
/-- strings.trimRightByte (no doc; what TrimRight and Trim call at a cutset of one ASCII byte): the trailing bytes that are c are cut off. The world is as it was. ('hs': a string's length is a number that an int holds.) (LAID: no walk: one application.) -/
theorem Tryd.strings_trimRightByte (s : ByteArray) (c : UInt8) (w : World) (hs : s.size ≤ 9223372036854775807) :
    Calls Tryd.prog 73 #[.string s, .int .u8 c.toNat] w fun e w' => e = .returned (.string ⟨(Lib.trimRightB s.data.toList c).toArray⟩) ∧ w' = w := Any.strings_trimRightByte Tryd.lays232 s c w hs
def Tryd.lays160_ren : Go.Shelf.Ren := ⟨fun | 160 => 61 | 232 => 73 | 231 => 72 | 227 => 74 | 234 => 76 | 233 => 75 | 236 => 78 | 235 => 77 | 228 => 102 | 271 => 105 | 151 => 104 | 197 => 103 | 120 => 120 | 152 => 119 | 260 => 118 | 137 => 128 | 119 => 129 | 224 => 123 | 225 => 122 | 217 => 121 | 266 => 130 | n => n, fun | 9 => 9 | 4 => 4 | 3 => 3 | 5 => 5 | 117 => 94 | 116 => 93 | 0 => 0 | 124 => 97 | 21 => 21 | 105 => 125 | 46 => 90 | 119 => 147 | 139 => 150 | 138 => 149 | n => n, fun | 3 => 1 | 4 => 2 | n => n⟩
theorem Tryd.lays160 : Go.Proofs.Lays.n160 Tryd.prog Tryd.lays160_ren := {
  mixed := by kernel_rfl
  f119 := Tryd.func129.trans (congrArg some (by kernel_rfl))
  f120 := Tryd.func120.trans (congrArg some (by kernel_rfl))
  f137 := Tryd.func128.trans (congrArg some (by kernel_rfl))
  f151 := Tryd.func104.trans (congrArg some (by kernel_rfl))
  f152 := Tryd.func119.trans (congrArg some (by kernel_rfl))
  f160 := Tryd.func61.trans (congrArg some (by kernel_rfl))
  f197 := Tryd.func103.trans (congrArg some (by kernel_rfl))
  f217 := Tryd.func121.trans (congrArg some (by kernel_rfl))
  f224 := Tryd.func123.trans (congrArg some (by kernel_rfl))
  f225 := Tryd.func122.trans (congrArg some (by kernel_rfl))
  f227 := Tryd.func74.trans (congrArg some (by kernel_rfl))
  f228 := Tryd.func102.trans (congrArg some (by kernel_rfl))
  f231 := Tryd.func72.trans (congrArg some (by kernel_rfl))
  f232 := Tryd.func73.trans (congrArg some (by kernel_rfl))
  f233 := Tryd.func75.trans (congrArg some (by kernel_rfl))
  f234 := Tryd.func76.trans (congrArg some (by kernel_rfl))
  f235 := Tryd.func77.trans (congrArg some (by kernel_rfl))
  f236 := Tryd.func78.trans (congrArg some (by kernel_rfl))
  f260 := Tryd.func118.trans (congrArg some (by kernel_rfl))
  f266 := Tryd.func130.trans (congrArg some (by kernel_rfl))
  f271 := Tryd.func105.trans (congrArg some (by kernel_rfl))
  t0 := Tryd.underlying0
  a0 := Tryd.isAgg0
  z0 := Tryd.sizeOf0
  v0 := Tryd.zeroValue0
  t3 := Tryd.underlying3
  a3 := Tryd.isAgg3
  z3 := Tryd.sizeOf3
  v3 := Tryd.zeroValue3
  t4 := Tryd.underlying4
  a4 := Tryd.isAgg4
  z4 := Tryd.sizeOf4
  v4 := Tryd.zeroValue4
  t5 := Tryd.underlying5
  a5 := Tryd.isAgg5
  z5 := Tryd.sizeOf5
  v5 := Tryd.zeroValue5
  t9 := Tryd.underlying9
  a9 := Tryd.isAgg9
  z9 := Tryd.sizeOf9
  v9 := Tryd.zeroValue9
  t21 := Tryd.underlying21
  a21 := Tryd.isAgg21
  z21 := Tryd.sizeOf21
  v21 := Tryd.zeroValue21
  t46 := Tryd.underlying90
  a46 := Tryd.isAgg90
  z46 := Tryd.sizeOf90
  v46 := Tryd.zeroValue90
  t105 := Tryd.underlying125
  a105 := Tryd.isAgg125
  z105 := Tryd.sizeOf125
  v105 := Tryd.zeroValue125
  t116 := Tryd.underlying93
  a116 := Tryd.isAgg93
  z116 := Tryd.sizeOf93
  t117 := Tryd.underlying94
  a117 := Tryd.isAgg94
  z117 := Tryd.sizeOf94
  v117 := Tryd.zeroValue94
  t119 := Tryd.underlying147
  a119 := Tryd.isAgg147
  z119 := Tryd.sizeOf147
  t124 := Tryd.underlying97
  a124 := Tryd.isAgg97
  z124 := Tryd.sizeOf97
  v124 := Tryd.zeroValue97
  t138 := Tryd.underlying149
  a138 := Tryd.isAgg149
  z138 := Tryd.sizeOf149
  v138 := Tryd.zeroValue149
  t139 := Tryd.underlying150
  a139 := Tryd.isAgg150
  z139 := Tryd.sizeOf150
  v139 := Tryd.zeroValue150
  g3 := by kernel_rfl
  g4 := by kernel_rfl }
open Go.RowKit in
/-- strings.Trim: "Trim returns a slice of the string s with all leading and trailing Unicode code points contained in cutset removed.": AT A cutset OF ONE ASCII BYTE. THE WORLD BEHIND IT: as it was, or (where s is not empty) with ONE DRAW MORE off the tape: the statement 'return trimLeftByte(trimRightByte(s, c), c)' draws its order of evaluation. (LAID: no walk: one application.) -/
theorem Tryd.strings_Trim_one (s : ByteArray) (c : UInt8) (hc : c.toNat < 128) (w : World) (hs : s.size ≤ 9223372036854775807) :
    Calls Tryd.prog 61 #[.string s, .string ⟨#[c]⟩] w fun e w' => e = .returned (.string ⟨(Lib.trimB s.data.toList c).toArray⟩) ∧ (w' = w ∨ w' = w.drew) := Any.strings_Trim_one Tryd.lays160 s c hc w hs
def Tryd.lays119_ren : Go.Shelf.Ren := ⟨fun | 119 => 129 | n => n, fun | 21 => 21 | 4 => 4 | n => n, fun | n => n⟩
theorem Tryd.lays119 : Go.Proofs.Lays.n119 Tryd.prog Tryd.lays119_ren := {
  mixed := by kernel_rfl
  f119 := Tryd.func129.trans (congrArg some (by kernel_rfl))
  t4 := Tryd.underlying4
  a4 := Tryd.isAgg4
  z4 := Tryd.sizeOf4
  v4 := Tryd.zeroValue4
  t21 := Tryd.underlying21
  a21 := Tryd.isAgg21
  z21 := Tryd.sizeOf21
  v21 := Tryd.zeroValue21 }
/-- utf8.ValidRune: "ValidRune reports whether r can be legally encoded as UTF-8. Code points that are out of range or a surrogate half are illegal.": IT RETURNS 'Lib.validRune r'; the world is as it was. (LAID: no walk: one application.) -/
theorem Tryd.utf8_ValidRune (r : Int) (w : World) :
    Calls Tryd.prog 129 #[.int .i32 r] w fun e w' => e = .returned (.bool (Lib.validRune r)) ∧ w' = w := Any.utf8_ValidRune Tryd.lays119 r w
def Tryd.lays120_ren : Go.Shelf.Ren := ⟨fun | 120 => 120 | n => n, fun | 5 => 5 | 4 => 4 | n => n, fun | n => n⟩
theorem Tryd.lays120 : Go.Proofs.Lays.n120 Tryd.prog Tryd.lays120_ren := {
  mixed := by kernel_rfl
  f120 := Tryd.func120.trans (congrArg some (by kernel_rfl))
  t4 := Tryd.underlying4
  a4 := Tryd.isAgg4
  z4 := Tryd.sizeOf4
  v4 := Tryd.zeroValue4
  t5 := Tryd.underlying5
  a5 := Tryd.isAgg5
  z5 := Tryd.sizeOf5
  v5 := Tryd.zeroValue5 }
/-- utf8.RuneStart: "RuneStart reports whether the byte could be the first byte of an encoded, possibly invalid rune. Second and subsequent bytes always have the top two bits set to 10.": IT RETURNS 'Lib.runeStart b'; the world is as it was. ('h0', 'h1': b is a byte: a caller has it of every byte that it was handed.) (LAID: no walk: one application.) -/
theorem Tryd.utf8_RuneStart (b : Int) (w : World) (h0 : 0 ≤ b) (h1 : b < 256) :
    Calls Tryd.prog 120 #[.int .u8 b] w fun e w' => e = .returned (.bool (Lib.runeStart b)) ∧ w' = w := Any.utf8_RuneStart Tryd.lays120 b w h0 h1
def Tryd.lays128_ren : Go.Shelf.Ren := ⟨fun | 128 => 100 | n => n, fun | 51 => 121 | 3 => 3 | 4 => 4 | 46 => 90 | 5 => 5 | 9 => 9 | n => n, fun | n => n⟩
theorem Tryd.lays128 : Go.Proofs.Lays.n128 Tryd.prog Tryd.lays128_ren := {
  mixed := by kernel_rfl
  f128 := Tryd.func100.trans (congrArg some (by kernel_rfl))
  t3 := Tryd.underlying3
  a3 := Tryd.isAgg3
  z3 := Tryd.sizeOf3
  v3 := Tryd.zeroValue3
  t4 := Tryd.underlying4
  a4 := Tryd.isAgg4
  z4 := Tryd.sizeOf4
  v4 := Tryd.zeroValue4
  t5 := Tryd.underlying5
  a5 := Tryd.isAgg5
  z5 := Tryd.sizeOf5
  v5 := Tryd.zeroValue5
  t9 := Tryd.underlying9
  a9 := Tryd.isAgg9
  z9 := Tryd.sizeOf9
  v9 := Tryd.zeroValue9
  t46 := Tryd.underlying90
  a46 := Tryd.isAgg90
  z46 := Tryd.sizeOf90
  v46 := Tryd.zeroValue90
  t51 := Tryd.underlying121
  a51 := Tryd.isAgg121
  z51 := Tryd.sizeOf121
  v51 := Tryd.zeroValue121 }
/-- bits.Len32: "Len32 returns the minimum number of bits required to represent x; the result is 0 for x == 0.": IT RETURNS 'Lib.bitLen x'; the world is as it was. ('h0', 'h1': x is a uint32.) (LAID: no walk: one application.) -/
theorem Tryd.bits_Len32 (x : Int) (w : World) (h0 : 0 ≤ x) (h1 : x ≤ 4294967295) :
    Calls Tryd.prog 100 #[.int .u32 x] w fun e w' => e = .returned (.int .i64 (Lib.bitLen x.toNat)) ∧ w' = w := Any.bits_Len32 Tryd.lays128 x w h0 h1
def Tryd.lays125_ren : Go.Shelf.Ren := ⟨fun | 125 => 71 | 128 => 100 | 129 => 101 | n => n, fun | 46 => 90 | 3 => 3 | 51 => 121 | 53 => 123 | 4 => 4 | 5 => 5 | 9 => 9 | n => n, fun | n => n⟩
theorem Tryd.lays125 : Go.Proofs.Lays.n125 Tryd.prog Tryd.lays125_ren := {
  mixed := by kernel_rfl
  f125 := Tryd.func71.trans (congrArg some (by kernel_rfl))
  f128 := Tryd.func100.trans (congrArg some (by kernel_rfl))
  f129 := Tryd.func101.trans (congrArg some (by kernel_rfl))
  t3 := Tryd.underlying3
  a3 := Tryd.isAgg3
  z3 := Tryd.sizeOf3
  v3 := Tryd.zeroValue3
  t4 := Tryd.underlying4
  a4 := Tryd.isAgg4
  z4 := Tryd.sizeOf4
  v4 := Tryd.zeroValue4
  t5 := Tryd.underlying5
  a5 := Tryd.isAgg5
  z5 := Tryd.sizeOf5
  v5 := Tryd.zeroValue5
  t9 := Tryd.underlying9
  a9 := Tryd.isAgg9
  z9 := Tryd.sizeOf9
  v9 := Tryd.zeroValue9
  t46 := Tryd.underlying90
  a46 := Tryd.isAgg90
  z46 := Tryd.sizeOf90
  v46 := Tryd.zeroValue90
  t51 := Tryd.underlying121
  a51 := Tryd.isAgg121
  z51 := Tryd.sizeOf121
  v51 := Tryd.zeroValue121
  t53 := Tryd.underlying123
  a53 := Tryd.isAgg123
  z53 := Tryd.sizeOf123
  v53 := Tryd.zeroValue123 }
/-- bits.Len: "Len returns the minimum number of bits required to represent x; the result is 0 for x == 0.": IT RETURNS 'Lib.bitLen x'; the world is as it was. (A uint has 64 bits in the model.) ITS CALLEE bits.Len64 IS MET BY ITS OWN CONTRACT OFF THE SHELF (lay that first). (LAID: no walk: one application.) -/
theorem Tryd.bits_Len (x : Int) (w : World) (h0 : 0 ≤ x) (h1 : x ≤ 18446744073709551615) :
    Calls Tryd.prog 71 #[.int .u64 x] w fun e w' => e = .returned (.int .i64 (Lib.bitLen x.toNat)) ∧ w' = w := Any.bits_Len Tryd.lays125 x w h0 h1
def Tryd.lays137_ren : Go.Shelf.Ren := ⟨fun | 137 => 128 | 217 => 121 | 266 => 130 | n => n, fun | 9 => 9 | 5 => 5 | 3 => 3 | n => n, fun | n => n⟩
theorem Tryd.lays137 : Go.Proofs.Lays.n137 Tryd.prog Tryd.lays137_ren := {
  mixed := by kernel_rfl
  f137 := Tryd.func128.trans (congrArg some (by kernel_rfl))
  f217 := Tryd.func121.trans (congrArg some (by kernel_rfl))
  f266 := Tryd.func130.trans (congrArg some (by kernel_rfl))
  t3 := Tryd.underlying3
  a3 := Tryd.isAgg3
  z3 := Tryd.sizeOf3
  v3 := Tryd.zeroValue3
  t5 := Tryd.underlying5
  a5 := Tryd.isAgg5
  z5 := Tryd.sizeOf5
  v5 := Tryd.zeroValue5
  t9 := Tryd.underlying9
  a9 := Tryd.isAgg9
  z9 := Tryd.sizeOf9
  v9 := Tryd.zeroValue9 }
open Go.RowKit in
/-- strings.IndexByte: "IndexByte returns the index of the first instance of c in s, or -1 if c is not present in s.": IT RETURNS 'Lib.indexByte s c'; the world is as it was. (LAID: no walk: one application.) -/
theorem Tryd.strings_IndexByte (s : ByteArray) (c : Int) (w : World) :
    Calls Tryd.prog 128 #[.string s, .int .u8 c] w fun e w' => e = .returned (.int .i64 (Lib.indexByte s.data.toList c.toNat.toUInt8)) ∧ w' = w := Any.strings_IndexByte Tryd.lays137 s c w
def Tryd.lays215_ren : Go.Shelf.Ren := ⟨fun | 215 => 54 | n => n, fun | 3 => 3 | 4 => 4 | n => n, fun | n => n⟩
theorem Tryd.lays215 : Go.Proofs.Lays.n215 Tryd.prog Tryd.lays215_ren := {
  mixed := by kernel_rfl
  f215 := Tryd.func54.trans (congrArg some (by kernel_rfl))
  t3 := Tryd.underlying3
  a3 := Tryd.isAgg3
  z3 := Tryd.sizeOf3
  v3 := Tryd.zeroValue3
  t4 := Tryd.underlying4
  a4 := Tryd.isAgg4
  z4 := Tryd.sizeOf4
  v4 := Tryd.zeroValue4 }
open Go.RowKit in
/-- cmp.isNaN at int: 'x != x': false. (LAID: no walk: one application.) -/
theorem Tryd.cmp_isNaN_int (x : Int) (w : World) :
    Calls Tryd.prog 54 #[.int .i64 x] w fun e w' => e = .returned (.bool false) ∧ w' = w := Any.cmp_isNaN_int Tryd.lays215 x w
def Tryd.lays122_ren : Go.Shelf.Ren := ⟨fun | 122 => 29 | 215 => 54 | n => n, fun | 3 => 3 | 4 => 4 | n => n, fun | n => n⟩
theorem Tryd.lays122 : Go.Proofs.Lays.n122 Tryd.prog Tryd.lays122_ren := {
  mixed := by kernel_rfl
  f122 := Tryd.func29.trans (congrArg some (by kernel_rfl))
  f215 := Tryd.func54.trans (congrArg some (by kernel_rfl))
  t3 := Tryd.underlying3
  a3 := Tryd.isAgg3
  z3 := Tryd.sizeOf3
  v3 := Tryd.zeroValue3
  t4 := Tryd.underlying4
  a4 := Tryd.isAgg4
  z4 := Tryd.sizeOf4
  v4 := Tryd.zeroValue4 }
open Go.RowKit in
/-- cmp.Compare at int: "Compare returns -1 if x is less than y, 0 if x equals y, +1 if x is greater than y.": IT RETURNS 'Lib.compareInt x y'; the world is as it was. (LAID: no walk: one application.) -/
theorem Tryd.cmp_Compare_int (x y : Int) (w : World) :
    Calls Tryd.prog 29 #[.int .i64 x, .int .i64 y] w fun e w' => e = .returned (.int .i64 (Lib.compareInt x y)) ∧ w' = w := Any.cmp_Compare_int Tryd.lays122 x y w
open Go.RowKit in
/-- (*strings.Builder).Len: "Len returns the number of accumulated bytes; b.Len() == len(b.String()).": the world is as it was. (THE FORM '_f': 'Lib.IsBuilderF'.) (LAID: no walk: one application.) -/
theorem Tryd.Builder_Len_f (B b : Nat) (bs : List Value) (w : World) (h : Lib.IsBuilderF 102 5 B b bs w) :
    Calls Tryd.prog 86 #[.pointer (some ⟨b, 0, none⟩)] w fun e w' => e = .returned (.int .i64 bs.length) ∧ w' = w := Any.Builder_Len_f Tryd.lays170 B b bs w h
open Go.RowKit in
/-- (*strings.Builder).String: "String returns the accumulated string.": OF A BUILDER THAT HOLDS AT LEAST ONE BYTE. ✋ THE MODEL FREEZES THOSE BYTES IN THE BUFFER (unsafe.String): a later write INTO them ends the model's run without an answer; a later append BEHIND them goes on. The statement's order of evaluation is drawn: one draw. THE FORM '_f': IT SAYS BESIDES THAT THE BUILDER IS A BUILDER STILL ('Lib.IsBuilderF', the same bytes): SO IT CAN BE WRITTEN ON: 'b.WriteString(b.String()[:k])'. (LAID: no walk: one application.) -/
theorem Tryd.Builder_String_f (B b : Nat) (l : List UInt8) (w : World) (h : Lib.IsBuilderF 102 5 B b (Lib.byteCells l) w) (h0 : l ≠ []) :
    Calls Tryd.prog 87 #[.pointer (some ⟨b, 0, none⟩)] w fun e w' => e = .returned (.string ⟨l.toArray⟩) ∧ (Lib.IsBuilderF 102 5 B b (Lib.byteCells l) w' ∧ Below B w w') := Any.Builder_String_f Tryd.lays169 Tryd.Builder_Extra_169 B b l w h h0
open Go.RowKit in
/-- (*strings.Builder).String OF A BUILDER THAT HOLDS NO BYTE: the empty string; THE FORM '_f': a builder still. (LAID: no walk: one application.) -/
theorem Tryd.Builder_String_empty_f (B b : Nat) (w : World) (h : Lib.IsBuilderF 102 5 B b [] w) (hBw : B ≤ w.heap.size) :
    Calls Tryd.prog 87 #[.pointer (some ⟨b, 0, none⟩)] w fun e w' => e = .returned (.string ⟨#[]⟩) ∧ (Lib.IsBuilderF 102 5 B b [] w' ∧ Below B w w') := Any.Builder_String_empty_f Tryd.lays169 Tryd.Builder_Extra_169 B b w h hBw
open Go.RowKit in
/-- (*strings.Builder).String: "String returns the accumulated string.": WHATEVER THE BUILDER HOLDS; THE FORM '_f': OF A BUILDER THAT MAY HAVE BEEN READ BEFORE; AND IT IS A BUILDER STILL, holding the same bytes: it can be written on. (LAID: no walk: one application.) -/
theorem Tryd.Builder_String_any_f (B b : Nat) (l : List UInt8) (w : World) (h : Lib.IsBuilderF 102 5 B b (Lib.byteCells l) w) (hBw : B ≤ w.heap.size) :
    Calls Tryd.prog 87 #[.pointer (some ⟨b, 0, none⟩)] w fun e w' => e = .returned (.string ⟨l.toArray⟩) ∧ (Lib.IsBuilderF 102 5 B b (Lib.byteCells l) w' ∧ Below B w w') := Any.Builder_String_any_f Tryd.lays169 Tryd.Builder_Extra_169 B b l w h hBw
open Go.RowKit in
/-- (*strings.Builder).String: "String returns the accumulated string.": OF A BUILDER THAT HOLDS AT LEAST ONE BYTE. ✋ THE MODEL FREEZES THOSE BYTES IN THE BUFFER (unsafe.String): a later write INTO them ends the model's run without an answer; a later append BEHIND them goes on. The statement's order of evaluation is drawn: one draw. THE FORM '_k': OVER 'Lib.IsBuilderF' (a builder that 'String()' may have read), AND WITH THE FRAME THAT REACHES ABOVE THE BUILDER: 'Lib.OthersKept': every block that is not b and is no row of uint8's stands as it stood: the iterator of a range among them. (LAID: no walk: one application.) -/
theorem Tryd.Builder_String_k (B b : Nat) (l : List UInt8) (w : World) (h : Lib.IsBuilderF 102 5 B b (Lib.byteCells l) w) (h0 : l ≠ []) :
    Calls Tryd.prog 87 #[.pointer (some ⟨b, 0, none⟩)] w fun e w' => e = .returned (.string ⟨l.toArray⟩) ∧ (Lib.IsBuilderF 102 5 B b (Lib.byteCells l) w' ∧ Below B w w' ∧ Lib.OthersKept 5 (some b) w w') := Any.Builder_String_k Tryd.lays169 Tryd.Builder_Extra_169 B b l w h h0
open Go.RowKit in
/-- (*strings.Builder).String OF A BUILDER THAT HOLDS NO BYTE: the empty string; THE FORM '_k': OVER 'Lib.IsBuilderF' (a builder that 'String()' may have read), AND WITH THE FRAME THAT REACHES ABOVE THE BUILDER: 'Lib.OthersKept': every block that is not b and is no row of uint8's stands as it stood: the iterator of a range among them. (LAID: no walk: one application.) -/
theorem Tryd.Builder_String_empty_k (B b : Nat) (w : World) (h : Lib.IsBuilderF 102 5 B b [] w) (hBw : B ≤ w.heap.size) :
    Calls Tryd.prog 87 #[.pointer (some ⟨b, 0, none⟩)] w fun e w' => e = .returned (.string ⟨#[]⟩) ∧ (Lib.IsBuilderF 102 5 B b [] w' ∧ Below B w w' ∧ Lib.OthersKept 5 (some b) w w') := Any.Builder_String_empty_k Tryd.lays169 Tryd.Builder_Extra_169 B b w h hBw
open Go.RowKit in
/-- (*strings.Builder).String: "String returns the accumulated string.": WHATEVER THE BUILDER HOLDS; THE FORM '_k': OVER 'Lib.IsBuilderF' (a builder that 'String()' may have read), AND WITH THE FRAME THAT REACHES ABOVE THE BUILDER: 'Lib.OthersKept': every block that is not b and is no row of uint8's stands as it stood: the iterator of a range among them. (LAID: no walk: one application.) -/
theorem Tryd.Builder_String_any_k (B b : Nat) (l : List UInt8) (w : World) (h : Lib.IsBuilderF 102 5 B b (Lib.byteCells l) w) (hBw : B ≤ w.heap.size) :
    Calls Tryd.prog 87 #[.pointer (some ⟨b, 0, none⟩)] w fun e w' => e = .returned (.string ⟨l.toArray⟩) ∧ (Lib.IsBuilderF 102 5 B b (Lib.byteCells l) w' ∧ Below B w w' ∧ Lib.OthersKept 5 (some b) w w') := Any.Builder_String_any_k Tryd.lays169 Tryd.Builder_Extra_169 B b l w h hBw
def Tryd.lays195_ren : Go.Shelf.Ren := ⟨fun | 195 => 79 | n => n, fun | 9 => 9 | 3 => 3 | 0 => 0 | 4 => 4 | n => n, fun | n => n⟩
theorem Tryd.lays195 : Go.Proofs.Lays.n195 Tryd.prog Tryd.lays195_ren := {
  mixed := by kernel_rfl
  f195 := Tryd.func79.trans (congrArg some (by kernel_rfl))
  t0 := Tryd.underlying0
  a0 := Tryd.isAgg0
  z0 := Tryd.sizeOf0
  v0 := Tryd.zeroValue0
  t3 := Tryd.underlying3
  a3 := Tryd.isAgg3
  z3 := Tryd.sizeOf3
  v3 := Tryd.zeroValue3
  t4 := Tryd.underlying4
  a4 := Tryd.isAgg4
  z4 := Tryd.sizeOf4
  v4 := Tryd.zeroValue4
  t9 := Tryd.underlying9
  a9 := Tryd.isAgg9
  z9 := Tryd.sizeOf9
  v9 := Tryd.zeroValue9 }
open Go.RowKit in
/-- unicode/utf8.RuneCountInString: "RuneCountInString is like RuneCount but its input is a string." ("RuneCount returns the number of runes in p. Erroneous and short encodings are treated as single runes of width 1 byte."): EVERY STRING, valid UTF-8 or not: 'Lib.runeCount s' (plain Lean over the model's own 'Utf8.decode'; 'Lib.runeCount_le': at most len(s); 'Lib.runeCount_ascii': on ASCII: len(s)). THE ONE CONDITION: len(s) below 2^63 - 1 (the counter does not wrap): the form's reach pays it. THE WORLD BEHIND THE CALL: ONE BLOCK MORE: the model's iterator over s, at its end: all else as it was. (LAID: no walk: one application.) -/
theorem Tryd.utf8_RuneCountInString (s : ByteArray) (w : World) (hs : s.size < 9223372036854775807) :
    Calls Tryd.prog 79 #[.string s] w fun e w' => e = .returned (.int .i64 (Lib.runeCount s)) ∧ ∃ pos, w' = w.iter s pos := Any.utf8_RuneCountInString Tryd.lays195 s w hs
open Go.RowKit in
/-- (*strings.Builder).grow (no doc but "grow copies the buffer to a new, larger buffer so that there are at least n bytes of capacity beyond len(b.buf)."): AT A BUILDER WITHOUT A BUFFER: a new row of whatever bytes for its buffer, none of them its own yet. Three draws. (LAID: no walk: one application.) -/
theorem Tryd.Builder_grow_fresh_cap (B b n : Nat) (w : World) (hB : B ≤ b) (hbk : w.heap[b]? = some (.cells #[.pointer (some ⟨b, 0, none⟩), .slice none 0 0] 102 (0, 0))) (hBw : B ≤ w.heap.size) (hn : n ≤ 281474976710656) :
    Calls Tryd.prog 111 #[.pointer (some ⟨b, 0, none⟩), .int .i64 n] w fun e w' => e = .returned (.tuple #[]) ∧ (Lib.BuilderAt 102 5 B b (.pointer (some ⟨b, 0, none⟩)) [] w' ∧ Below B w w') ∧ ∃ p cap, w'.cell? ⟨b, 1, none⟩ = some (.slice p 0 cap) ∧ n ≤ cap := Any.Builder_grow_fresh_cap Tryd.lays241 Tryd.Builder_Extra_241 B b n w hB hbk hBw hn
open Go.RowKit in
/-- (*strings.Builder).Grow AT A BUILDER THAT HAS NOT BEEN WRITTEN ('var b strings.Builder; b.Grow(n)'): "Grow grows b's capacity, if necessary, to guarantee space for another n bytes.": it holds no byte behind it as before it. (LAID: no walk: one application.) -/
theorem Tryd.Builder_Grow_fresh_cap (B b n : Nat) (w : World) (hB : B ≤ b) (hbk : w.heap[b]? = some (.cells #[.pointer none, .slice none 0 0] 102 (0, 0))) (hBw : B ≤ w.heap.size) (hn : n ≤ 281474976710656) :
    Calls Tryd.prog 84 #[.pointer (some ⟨b, 0, none⟩), .int .i64 n] w fun e w' => e = .returned (.tuple #[]) ∧ (Lib.BuilderAt 102 5 B b (.pointer (some ⟨b, 0, none⟩)) [] w' ∧ Below B w w') ∧ ∃ p cap, w'.cell? ⟨b, 1, none⟩ = some (.slice p 0 cap) ∧ n ≤ cap := Any.Builder_Grow_fresh_cap Tryd.lays165 Tryd.Builder_Extra_165 B b n w hB hbk hBw hn
def Tryd.lays129_ren : Go.Shelf.Ren := ⟨fun | 129 => 101 | n => n, fun | 53 => 123 | 3 => 3 | 4 => 4 | 46 => 90 | 5 => 5 | 9 => 9 | n => n, fun | n => n⟩
theorem Tryd.lays129 : Go.Proofs.Lays.n129 Tryd.prog Tryd.lays129_ren := {
  mixed := by kernel_rfl
  f129 := Tryd.func101.trans (congrArg some (by kernel_rfl))
  t3 := Tryd.underlying3
  a3 := Tryd.isAgg3
  z3 := Tryd.sizeOf3
  v3 := Tryd.zeroValue3
  t4 := Tryd.underlying4
  a4 := Tryd.isAgg4
  z4 := Tryd.sizeOf4
  v4 := Tryd.zeroValue4
  t5 := Tryd.underlying5
  a5 := Tryd.isAgg5
  z5 := Tryd.sizeOf5
  v5 := Tryd.zeroValue5
  t9 := Tryd.underlying9
  a9 := Tryd.isAgg9
  z9 := Tryd.sizeOf9
  v9 := Tryd.zeroValue9
  t46 := Tryd.underlying90
  a46 := Tryd.isAgg90
  z46 := Tryd.sizeOf90
  v46 := Tryd.zeroValue90
  t53 := Tryd.underlying123
  a53 := Tryd.isAgg123
  z53 := Tryd.sizeOf123
  v53 := Tryd.zeroValue123 }
/-- bits.Len64: "Len64 returns the minimum number of bits required to represent x; the result is 0 for x == 0.": IT RETURNS 'Lib.bitLen x'; the world is as it was. ('h0', 'h1': x is a uint64.) (LAID: no walk: one application.) -/
theorem Tryd.bits_Len64 (x : Int) (w : World) (h0 : 0 ≤ x) (h1 : x ≤ 18446744073709551615) :
    Calls Tryd.prog 101 #[.int .u64 x] w fun e w' => e = .returned (.int .i64 (Lib.bitLen x.toNat)) ∧ w' = w := Any.bits_Len64 Tryd.lays129 x w h0 h1
def Tryd.lays217_ren : Go.Shelf.Ren := ⟨fun | 217 => 121 | 266 => 130 | n => n, fun | 9 => 9 | 5 => 5 | 3 => 3 | n => n, fun | n => n⟩
theorem Tryd.lays217 : Go.Proofs.Lays.n217 Tryd.prog Tryd.lays217_ren := {
  mixed := by kernel_rfl
  f217 := Tryd.func121.trans (congrArg some (by kernel_rfl))
  f266 := Tryd.func130.trans (congrArg some (by kernel_rfl))
  t3 := Tryd.underlying3
  a3 := Tryd.isAgg3
  z3 := Tryd.sizeOf3
  v3 := Tryd.zeroValue3
  t5 := Tryd.underlying5
  a5 := Tryd.isAgg5
  z5 := Tryd.sizeOf5
  v5 := Tryd.zeroValue5
  t9 := Tryd.underlying9
  a9 := Tryd.isAgg9
  z9 := Tryd.sizeOf9
  v9 := Tryd.zeroValue9 }
open Go.RowKit Go.Lib in
/-- internal/stringslite.IndexByte (what strings.IndexByte calls): IT RETURNS 'Lib.indexByte s c'; the world is as it was. (LAID: no walk: one application.) -/
theorem Tryd.stringslite_IndexByte (s : ByteArray) (c : Int) (w : World) :
    Calls Tryd.prog 121 #[.string s, .int .u8 c] w fun e w' => e = .returned (.int .i64 (Lib.indexByte s.data.toList c.toNat.toUInt8)) ∧ w' = w := Any.stringslite_IndexByte Tryd.lays217 s c w
def Tryd.lays224_ren : Go.Shelf.Ren := ⟨fun | 224 => 123 | n => n, fun | 3 => 3 | n => n, fun | n => n⟩
theorem Tryd.lays224 : Go.Proofs.Lays.n224 Tryd.prog Tryd.lays224_ren := {
  mixed := by kernel_rfl
  f224 := Tryd.func123.trans (congrArg some (by kernel_rfl))
  t3 := Tryd.underlying3
  a3 := Tryd.isAgg3
  z3 := Tryd.sizeOf3
  v3 := Tryd.zeroValue3 }
open Go.RowKit Go.Lib in
/-- internal/bytealg.Cutover: "Cutover reports the number of failures of IndexByte we should tolerate before switching over to Index. n is the number of bytes processed so far.": on amd64: (n + 16) / 8. (LAID: no walk: one application.) -/
theorem Tryd.bytealg_Cutover (n : Int) (h0 : 0 ≤ n) (h1 : n < 4611686018427387904) (w : World) :
    Calls Tryd.prog 123 #[.int .i64 n] w fun e w' => e = .returned (.int .i64 ((n + 16) / 8)) ∧ w' = w := Any.bytealg_Cutover Tryd.lays224 n h0 h1 w
def Tryd.lays314_ren : Go.Shelf.Ren := ⟨fun | 314 => 131 | n => n, fun | 9 => 9 | 51 => 121 | 3 => 3 | 4 => 4 | 5 => 5 | 46 => 90 | n => n, fun | n => n⟩
theorem Tryd.lays314 : Go.Proofs.Lays.n314 Tryd.prog Tryd.lays314_ren := {
  mixed := by kernel_rfl
  f314 := Tryd.func131.trans (congrArg some (by kernel_rfl))
  t3 := Tryd.underlying3
  a3 := Tryd.isAgg3
  z3 := Tryd.sizeOf3
  v3 := Tryd.zeroValue3
  t4 := Tryd.underlying4
  a4 := Tryd.isAgg4
  z4 := Tryd.sizeOf4
  v4 := Tryd.zeroValue4
  t5 := Tryd.underlying5
  a5 := Tryd.isAgg5
  z5 := Tryd.sizeOf5
  v5 := Tryd.zeroValue5
  t9 := Tryd.underlying9
  a9 := Tryd.isAgg9
  z9 := Tryd.sizeOf9
  v9 := Tryd.zeroValue9
  t46 := Tryd.underlying90
  a46 := Tryd.isAgg90
  z46 := Tryd.sizeOf90
  v46 := Tryd.zeroValue90
  t51 := Tryd.underlying121
  a51 := Tryd.isAgg121
  z51 := Tryd.sizeOf121
  v51 := Tryd.zeroValue121 }
open Go.RowKit Go.Lib in
/-- hashStr: "returns the hash and the appropriate multiplicative factor for use in Rabin-Karp algorithm": THE HASH OF ALL OF sep, AND 16777619 ^ len(sep), both in uint32. (LAID: no walk: one application.) -/
theorem Tryd.bytealg_hashStr (sep : ByteArray) (hs : sep.size < 4294967281) (w : World) :
    Calls Tryd.prog 131 #[.string sep] w fun e w' => e = .returned (.tuple #[.int .u32 (RK.H sep.data.toList % 4294967296), .int .u32 (16777619 ^ sep.size % 4294967296)]) ∧ w' = w := Any.bytealg_hashStr Tryd.lays314 sep hs w
def Tryd.lays267_ren : Go.Shelf.Ren := ⟨fun | 267 => 124 | 314 => 131 | n => n, fun | 9 => 9 | 3 => 3 | 146 => 128 | 51 => 121 | 4 => 4 | 5 => 5 | 46 => 90 | n => n, fun | n => n⟩
theorem Tryd.lays267 : Go.Proofs.Lays.n267 Tryd.prog Tryd.lays267_ren := {
  mixed := by kernel_rfl
  f267 := Tryd.func124.trans (congrArg some (by kernel_rfl))
  f314 := Tryd.func131.trans (congrArg some (by kernel_rfl))
  t3 := Tryd.underlying3
  a3 := Tryd.isAgg3
  z3 := Tryd.sizeOf3
  v3 := Tryd.zeroValue3
  t4 := Tryd.underlying4
  a4 := Tryd.isAgg4
  z4 := Tryd.sizeOf4
  v4 := Tryd.zeroValue4
  t5 := Tryd.underlying5
  a5 := Tryd.isAgg5
  z5 := Tryd.sizeOf5
  v5 := Tryd.zeroValue5
  t9 := Tryd.underlying9
  a9 := Tryd.isAgg9
  z9 := Tryd.sizeOf9
  v9 := Tryd.zeroValue9
  t46 := Tryd.underlying90
  a46 := Tryd.isAgg90
  z46 := Tryd.sizeOf90
  v46 := Tryd.zeroValue90
  t51 := Tryd.underlying121
  a51 := Tryd.isAgg121
  z51 := Tryd.sizeOf121
  v51 := Tryd.zeroValue121
  t146 := Tryd.underlying128
  a146 := Tryd.isAgg128
  z146 := Tryd.sizeOf128
  v146 := Tryd.zeroValue128 }
open Go.RowKit Go.Lib in
theorem Tryd.bytealg_IndexRabinKarp (s sep : ByteArray) (h1 : 1 ≤ sep.size) (h2 : sep.size ≤ s.size) (hs : s.size < 4294967281) (w : World) :
    Calls Tryd.prog 124 #[.string s, .string sep] w fun e w' => e = .returned (.int .i64 (Lib.index s.data.toList sep.data.toList)) ∧ w' = w := Any.bytealg_IndexRabinKarp Tryd.lays267 s sep h1 h2 hs w
def Tryd.lays219_ren : Go.Shelf.Ren := ⟨fun | 219 => 106 | 217 => 121 | 225 => 122 | 224 => 123 | 267 => 124 | 266 => 130 | 314 => 131 | n => n, fun | 9 => 9 | 3 => 3 | 4 => 4 | 5 => 5 | 46 => 90 | 146 => 128 | 51 => 121 | n => n, fun | 1 => 0 | n => n⟩
theorem Tryd.lays219 : Go.Proofs.Lays.n219 Tryd.prog Tryd.lays219_ren := {
  mixed := by kernel_rfl
  f217 := Tryd.func121.trans (congrArg some (by kernel_rfl))
  f219 := Tryd.func106.trans (congrArg some (by kernel_rfl))
  f224 := Tryd.func123.trans (congrArg some (by kernel_rfl))
  f225 := Tryd.func122.trans (congrArg some (by kernel_rfl))
  f266 := Tryd.func130.trans (congrArg some (by kernel_rfl))
  f267 := Tryd.func124.trans (congrArg some (by kernel_rfl))
  f314 := Tryd.func131.trans (congrArg some (by kernel_rfl))
  t3 := Tryd.underlying3
  a3 := Tryd.isAgg3
  z3 := Tryd.sizeOf3
  v3 := Tryd.zeroValue3
  t4 := Tryd.underlying4
  a4 := Tryd.isAgg4
  z4 := Tryd.sizeOf4
  v4 := Tryd.zeroValue4
  t5 := Tryd.underlying5
  a5 := Tryd.isAgg5
  z5 := Tryd.sizeOf5
  v5 := Tryd.zeroValue5
  t9 := Tryd.underlying9
  a9 := Tryd.isAgg9
  z9 := Tryd.sizeOf9
  v9 := Tryd.zeroValue9
  t46 := Tryd.underlying90
  a46 := Tryd.isAgg90
  z46 := Tryd.sizeOf90
  v46 := Tryd.zeroValue90
  t51 := Tryd.underlying121
  a51 := Tryd.isAgg121
  z51 := Tryd.sizeOf121
  v51 := Tryd.zeroValue121
  t146 := Tryd.underlying128
  a146 := Tryd.isAgg128
  z146 := Tryd.sizeOf128
  v146 := Tryd.zeroValue128
  g1 := by kernel_rfl }
open Go.RowKit Go.Lib in
/-- internal/stringslite.Index (what strings.Index calls) AT A substr OF ONE BYTE c: IT RETURNS 'Lib.indexByte s c'; the world is as it was. (LAID: no walk: one application.) -/
theorem Tryd.stringslite_Index_one (s : ByteArray) (c : UInt8) (w : World) :
    Calls Tryd.prog 106 #[.string s, .string ⟨#[c]⟩] w fun e w' => e = .returned (.int .i64 (Lib.indexByte s.data.toList c)) ∧ w' = w := Any.stringslite_Index_one Tryd.lays219 s c w
open Go.RowKit Go.Lib in
/-- internal/stringslite.Index (what strings.Index calls) AT A substr OF WHATEVER LENGTH: IT RETURNS 'Lib.index s substr'; the world is as it was. 'm': what internal/bytealg.MaxLen holds: whatever. (LAID: no walk: one application.) -/
theorem Tryd.stringslite_Index (s sub : ByteArray) (m : Int) (w : World) (hs : s.size < 4294967281) (hm : w.cell? ⟨0, 0, none⟩ = some (.int .i64 m)) :
    Calls Tryd.prog 106 #[.string s, .string sub] w fun e w' => e = .returned (.int .i64 (Lib.index s.data.toList sub.data.toList)) ∧ w' = w := Any.stringslite_Index Tryd.lays219 s sub m w hs hm
def Tryd.lays143_ren : Go.Shelf.Ren := ⟨fun | 143 => 81 | 219 => 106 | 217 => 121 | 225 => 122 | 224 => 123 | 267 => 124 | 266 => 130 | 314 => 131 | n => n, fun | 9 => 9 | 3 => 3 | 4 => 4 | 5 => 5 | 46 => 90 | 146 => 128 | 51 => 121 | n => n, fun | 1 => 0 | n => n⟩
theorem Tryd.lays143 : Go.Proofs.Lays.n143 Tryd.prog Tryd.lays143_ren := {
  mixed := by kernel_rfl
  f143 := Tryd.func81.trans (congrArg some (by kernel_rfl))
  f217 := Tryd.func121.trans (congrArg some (by kernel_rfl))
  f219 := Tryd.func106.trans (congrArg some (by kernel_rfl))
  f224 := Tryd.func123.trans (congrArg some (by kernel_rfl))
  f225 := Tryd.func122.trans (congrArg some (by kernel_rfl))
  f266 := Tryd.func130.trans (congrArg some (by kernel_rfl))
  f267 := Tryd.func124.trans (congrArg some (by kernel_rfl))
  f314 := Tryd.func131.trans (congrArg some (by kernel_rfl))
  t3 := Tryd.underlying3
  a3 := Tryd.isAgg3
  z3 := Tryd.sizeOf3
  v3 := Tryd.zeroValue3
  t4 := Tryd.underlying4
  a4 := Tryd.isAgg4
  z4 := Tryd.sizeOf4
  v4 := Tryd.zeroValue4
  t5 := Tryd.underlying5
  a5 := Tryd.isAgg5
  z5 := Tryd.sizeOf5
  v5 := Tryd.zeroValue5
  t9 := Tryd.underlying9
  a9 := Tryd.isAgg9
  z9 := Tryd.sizeOf9
  v9 := Tryd.zeroValue9
  t46 := Tryd.underlying90
  a46 := Tryd.isAgg90
  z46 := Tryd.sizeOf90
  v46 := Tryd.zeroValue90
  t51 := Tryd.underlying121
  a51 := Tryd.isAgg121
  z51 := Tryd.sizeOf121
  v51 := Tryd.zeroValue121
  t146 := Tryd.underlying128
  a146 := Tryd.isAgg128
  z146 := Tryd.sizeOf128
  v146 := Tryd.zeroValue128
  g1 := by kernel_rfl }
open Go.RowKit Go.Lib in
/-- strings.Index: "Index returns the index of the first instance of substr in s, or -1 if substr is not present in s.": AT A substr OF ONE BYTE c: IT RETURNS 'Lib.indexByte s c'; the world is as it was. (LAID: no walk: one application.) -/
theorem Tryd.strings_Index_one (s : ByteArray) (c : UInt8) (w : World) :
    Calls Tryd.prog 81 #[.string s, .string ⟨#[c]⟩] w fun e w' => e = .returned (.int .i64 (Lib.indexByte s.data.toList c)) ∧ w' = w := Any.strings_Index_one Tryd.lays143 s c w
open Go.RowKit Go.Lib in
/-- strings.Index: "Index returns the index of the first instance of substr in s, or -1 if substr is not present in s.": IT RETURNS 'Lib.index s substr'; the world is as it was. (LAID: no walk: one application.) -/
theorem Tryd.strings_Index (s sub : ByteArray) (m : Int) (w : World) (hs : s.size < 4294967281) (hm : w.cell? ⟨0, 0, none⟩ = some (.int .i64 m)) :
    Calls Tryd.prog 81 #[.string s, .string sub] w fun e w' => e = .returned (.int .i64 (Lib.index s.data.toList sub.data.toList)) ∧ w' = w := Any.strings_Index Tryd.lays143 s sub m w hs hm
def Tryd.lays144_ren : Go.Shelf.Ren := ⟨fun | 144 => 67 | 143 => 81 | 219 => 106 | 217 => 121 | 225 => 122 | 224 => 123 | 267 => 124 | 266 => 130 | 314 => 131 | n => n, fun | 9 => 9 | 4 => 4 | 3 => 3 | 5 => 5 | 46 => 90 | 146 => 128 | 51 => 121 | n => n, fun | 1 => 0 | n => n⟩
theorem Tryd.lays144 : Go.Proofs.Lays.n144 Tryd.prog Tryd.lays144_ren := {
  mixed := by kernel_rfl
  f143 := Tryd.func81.trans (congrArg some (by kernel_rfl))
  f144 := Tryd.func67.trans (congrArg some (by kernel_rfl))
  f217 := Tryd.func121.trans (congrArg some (by kernel_rfl))
  f219 := Tryd.func106.trans (congrArg some (by kernel_rfl))
  f224 := Tryd.func123.trans (congrArg some (by kernel_rfl))
  f225 := Tryd.func122.trans (congrArg some (by kernel_rfl))
  f266 := Tryd.func130.trans (congrArg some (by kernel_rfl))
  f267 := Tryd.func124.trans (congrArg some (by kernel_rfl))
  f314 := Tryd.func131.trans (congrArg some (by kernel_rfl))
  t3 := Tryd.underlying3
  a3 := Tryd.isAgg3
  z3 := Tryd.sizeOf3
  v3 := Tryd.zeroValue3
  t4 := Tryd.underlying4
  a4 := Tryd.isAgg4
  z4 := Tryd.sizeOf4
  v4 := Tryd.zeroValue4
  t5 := Tryd.underlying5
  a5 := Tryd.isAgg5
  z5 := Tryd.sizeOf5
  v5 := Tryd.zeroValue5
  t9 := Tryd.underlying9
  a9 := Tryd.isAgg9
  z9 := Tryd.sizeOf9
  v9 := Tryd.zeroValue9
  t46 := Tryd.underlying90
  a46 := Tryd.isAgg90
  z46 := Tryd.sizeOf90
  v46 := Tryd.zeroValue90
  t51 := Tryd.underlying121
  a51 := Tryd.isAgg121
  z51 := Tryd.sizeOf121
  v51 := Tryd.zeroValue121
  t146 := Tryd.underlying128
  a146 := Tryd.isAgg128
  z146 := Tryd.sizeOf128
  v146 := Tryd.zeroValue128
  g1 := by kernel_rfl }
open Go.RowKit Go.Lib in
/-- strings.Contains: "Contains reports whether substr is within s.": AT A substr OF ONE BYTE c: IT RETURNS 'decide (0 ≤ Lib.indexByte s c)'; the world is as it was. (LAID: no walk: one application.) -/
theorem Tryd.strings_Contains_one (s : ByteArray) (c : UInt8) (w : World) :
    Calls Tryd.prog 67 #[.string s, .string ⟨#[c]⟩] w fun e w' => e = .returned (.bool (decide (0 ≤ Lib.indexByte s.data.toList c))) ∧ w' = w := Any.strings_Contains_one Tryd.lays144 s c w
open Go.RowKit Go.Lib in
/-- strings.Contains: "Contains reports whether substr is within s.": IT RETURNS 'Lib.contains s substr'; the world is as it was. (LAID: no walk: one application.) -/
theorem Tryd.strings_Contains (s sub : ByteArray) (m : Int) (w : World) (hs : s.size < 4294967281) (hm : w.cell? ⟨0, 0, none⟩ = some (.int .i64 m)) :
    Calls Tryd.prog 67 #[.string s, .string sub] w fun e w' => e = .returned (.bool (Lib.contains s.data.toList sub.data.toList)) ∧ w' = w := Any.strings_Contains Tryd.lays144 s sub m w hs hm
def Tryd.lays138_ren : Go.Shelf.Ren := ⟨fun | 138 => 63 | 195 => 79 | 218 => 80 | 143 => 81 | 219 => 106 | 217 => 121 | 225 => 122 | 224 => 123 | 267 => 124 | 266 => 130 | 314 => 131 | n => n, fun | 9 => 9 | 3 => 3 | 4 => 4 | 5 => 5 | 0 => 0 | 46 => 90 | 146 => 128 | 51 => 121 | n => n, fun | 1 => 0 | n => n⟩
theorem Tryd.lays138 : Go.Proofs.Lays.n138 Tryd.prog Tryd.lays138_ren := {
  mixed := by kernel_rfl
  f138 := Tryd.func63.trans (congrArg some (by kernel_rfl))
  f143 := Tryd.func81.trans (congrArg some (by kernel_rfl))
  f195 := Tryd.func79.trans (congrArg some (by kernel_rfl))
  f217 := Tryd.func121.trans (congrArg some (by kernel_rfl))
  f218 := Tryd.func80.trans (congrArg some (by kernel_rfl))
  f219 := Tryd.func106.trans (congrArg some (by kernel_rfl))
  f224 := Tryd.func123.trans (congrArg some (by kernel_rfl))
  f225 := Tryd.func122.trans (congrArg some (by kernel_rfl))
  f266 := Tryd.func130.trans (congrArg some (by kernel_rfl))
  f267 := Tryd.func124.trans (congrArg some (by kernel_rfl))
  f314 := Tryd.func131.trans (congrArg some (by kernel_rfl))
  t0 := Tryd.underlying0
  a0 := Tryd.isAgg0
  z0 := Tryd.sizeOf0
  v0 := Tryd.zeroValue0
  t3 := Tryd.underlying3
  a3 := Tryd.isAgg3
  z3 := Tryd.sizeOf3
  v3 := Tryd.zeroValue3
  t4 := Tryd.underlying4
  a4 := Tryd.isAgg4
  z4 := Tryd.sizeOf4
  v4 := Tryd.zeroValue4
  t5 := Tryd.underlying5
  a5 := Tryd.isAgg5
  z5 := Tryd.sizeOf5
  v5 := Tryd.zeroValue5
  t9 := Tryd.underlying9
  a9 := Tryd.isAgg9
  z9 := Tryd.sizeOf9
  v9 := Tryd.zeroValue9
  t46 := Tryd.underlying90
  a46 := Tryd.isAgg90
  z46 := Tryd.sizeOf90
  v46 := Tryd.zeroValue90
  t51 := Tryd.underlying121
  a51 := Tryd.isAgg121
  z51 := Tryd.sizeOf121
  v51 := Tryd.zeroValue121
  t146 := Tryd.underlying128
  a146 := Tryd.isAgg128
  z146 := Tryd.sizeOf128
  v146 := Tryd.zeroValue128
  g1 := by kernel_rfl }
open Go.RowKit Go.Lib in
/-- strings.Count AT A substr OF ONE BYTE ('hp'): "Count counts the number of non-overlapping instances of substr in s.": IT RETURNS 'Lib.countByte s (that byte)'; the world is as it was. ✋ NO CONTRACT HERE YET at an empty substr (utf8.RuneCountInString) or at a longer one (a loop over strings.Index). (LAID: no walk: one application.) -/
theorem Tryd.strings_Count_one (s : ByteArray) (c : UInt8) (w : World) :
    Calls Tryd.prog 63 #[.string s, .string ⟨#[c]⟩] w fun e w' => e = .returned (.int .i64 (Lib.countByte s.data.toList c)) ∧ w' = w := Any.strings_Count_one Tryd.lays138 s c w
open Go.RowKit Go.Lib in
/-- strings.Count AT A substr OF TWO BYTES OR MORE: "Count counts the number of non-overlapping instances of substr in s.": IT RETURNS 'Lib.count s substr'; the world is as it was. (LAID: no walk: one application.) -/
theorem Tryd.strings_Count (s sub : ByteArray) (m : Int) (w : World) (hs : s.size < 4294967281) (hm : w.cell? ⟨0, 0, none⟩ = some (.int .i64 m)) (h2 : 2 ≤ sub.size) :
    Calls Tryd.prog 63 #[.string s, .string sub] w fun e w' => e = .returned (.int .i64 (Lib.countB s sub)) ∧ w' = w := Any.strings_Count Tryd.lays138 s sub m w hs hm h2
def Tryd.laysM219_ren : Go.Shelf.Ren := ⟨fun | 219 => 106 | 217 => 121 | 225 => 122 | 224 => 123 | 267 => 124 | 266 => 130 | 314 => 131 | n => n, fun | 9 => 9 | 3 => 3 | 4 => 4 | 5 => 5 | 46 => 90 | 146 => 128 | 51 => 121 | n => n, fun | 1 => 0 | n => n⟩
theorem Tryd.laysM219 : Go.Proofs.LaysM.n219 Tryd.prog Tryd.laysM219_ren := {
  mixed := by kernel_rfl
  f217 := Tryd.func121.trans (congrArg some (by kernel_rfl))
  f219 := Tryd.func106.trans (congrArg some (by kernel_rfl))
  f224 := Tryd.func123.trans (congrArg some (by kernel_rfl))
  f225 := Tryd.func122.trans (congrArg some (by kernel_rfl))
  f266 := Tryd.func130.trans (congrArg some (by kernel_rfl))
  f267 := Tryd.func124.trans (congrArg some (by kernel_rfl))
  f314 := Tryd.func131.trans (congrArg some (by kernel_rfl))
  t3 := Tryd.underlying3
  a3 := Tryd.isAgg3
  z3 := Tryd.sizeOf3
  v3 := Tryd.zeroValue3
  t4 := Tryd.underlying4
  a4 := Tryd.isAgg4
  z4 := Tryd.sizeOf4
  v4 := Tryd.zeroValue4
  t5 := Tryd.underlying5
  a5 := Tryd.isAgg5
  z5 := Tryd.sizeOf5
  v5 := Tryd.zeroValue5
  t9 := Tryd.underlying9
  a9 := Tryd.isAgg9
  z9 := Tryd.sizeOf9
  v9 := Tryd.zeroValue9
  t46 := Tryd.underlying90
  a46 := Tryd.isAgg90
  z46 := Tryd.sizeOf90
  v46 := Tryd.zeroValue90
  t51 := Tryd.underlying121
  a51 := Tryd.isAgg121
  z51 := Tryd.sizeOf121
  v51 := Tryd.zeroValue121
  t146 := Tryd.underlying128
  a146 := Tryd.isAgg128
  z146 := Tryd.sizeOf128
  v146 := Tryd.zeroValue128
  g1 := by kernel_rfl
  i3 := by kernel_rfl
  i4 := by kernel_rfl
  i5 := by kernel_rfl
  i9 := by kernel_rfl
  i46 := by kernel_rfl
  i51 := by kernel_rfl
  i146 := by kernel_rfl
  m1 := by kernel_rfl
  s1_3 := fun w h => Go.Proofs.cell_of_shapedOpen_int (zero := #[.int .i64 0]) (t := 3) h (of_decide_eq_true (by kernel_rfl)) (by kernel_rfl) rfl (by kernel_rfl) (by kernel_rfl) Tryd.underlying3 }
open Go.RowKit Go.Lib in
theorem Tryd.stringslite_Index_shaped (s sub : ByteArray) (w : World) (h : w.ShapedOpen Tryd.prog) (hs : s.size < 4294967281) :
    Calls Tryd.prog 106 #[.string s, .string sub] w fun e w' => e = .returned (.int .i64 (Lib.index s.data.toList sub.data.toList)) ∧ w' = w := Any.stringslite_Index_shaped Tryd.laysM219 s sub w h hs
def Tryd.laysM143_ren : Go.Shelf.Ren := ⟨fun | 143 => 81 | 219 => 106 | 217 => 121 | 225 => 122 | 224 => 123 | 267 => 124 | 266 => 130 | 314 => 131 | n => n, fun | 9 => 9 | 3 => 3 | 4 => 4 | 5 => 5 | 46 => 90 | 146 => 128 | 51 => 121 | n => n, fun | 1 => 0 | n => n⟩
theorem Tryd.laysM143 : Go.Proofs.LaysM.n143 Tryd.prog Tryd.laysM143_ren := {
  mixed := by kernel_rfl
  f143 := Tryd.func81.trans (congrArg some (by kernel_rfl))
  f217 := Tryd.func121.trans (congrArg some (by kernel_rfl))
  f219 := Tryd.func106.trans (congrArg some (by kernel_rfl))
  f224 := Tryd.func123.trans (congrArg some (by kernel_rfl))
  f225 := Tryd.func122.trans (congrArg some (by kernel_rfl))
  f266 := Tryd.func130.trans (congrArg some (by kernel_rfl))
  f267 := Tryd.func124.trans (congrArg some (by kernel_rfl))
  f314 := Tryd.func131.trans (congrArg some (by kernel_rfl))
  t3 := Tryd.underlying3
  a3 := Tryd.isAgg3
  z3 := Tryd.sizeOf3
  v3 := Tryd.zeroValue3
  t4 := Tryd.underlying4
  a4 := Tryd.isAgg4
  z4 := Tryd.sizeOf4
  v4 := Tryd.zeroValue4
  t5 := Tryd.underlying5
  a5 := Tryd.isAgg5
  z5 := Tryd.sizeOf5
  v5 := Tryd.zeroValue5
  t9 := Tryd.underlying9
  a9 := Tryd.isAgg9
  z9 := Tryd.sizeOf9
  v9 := Tryd.zeroValue9
  t46 := Tryd.underlying90
  a46 := Tryd.isAgg90
  z46 := Tryd.sizeOf90
  v46 := Tryd.zeroValue90
  t51 := Tryd.underlying121
  a51 := Tryd.isAgg121
  z51 := Tryd.sizeOf121
  v51 := Tryd.zeroValue121
  t146 := Tryd.underlying128
  a146 := Tryd.isAgg128
  z146 := Tryd.sizeOf128
  v146 := Tryd.zeroValue128
  g1 := by kernel_rfl
  i3 := by kernel_rfl
  i4 := by kernel_rfl
  i5 := by kernel_rfl
  i9 := by kernel_rfl
  i46 := by kernel_rfl
  i51 := by kernel_rfl
  i146 := by kernel_rfl
  m1 := by kernel_rfl
  s1_3 := fun w h => Go.Proofs.cell_of_shapedOpen_int (zero := #[.int .i64 0]) (t := 3) h (of_decide_eq_true (by kernel_rfl)) (by kernel_rfl) rfl (by kernel_rfl) (by kernel_rfl) Tryd.underlying3 }
open Go.RowKit Go.Lib in
theorem Tryd.strings_Index_shaped (s sub : ByteArray) (w : World) (h : w.ShapedOpen Tryd.prog) (hs : s.size < 4294967281) :
    Calls Tryd.prog 81 #[.string s, .string sub] w fun e w' => e = .returned (.int .i64 (Lib.index s.data.toList sub.data.toList)) ∧ w' = w := Any.strings_Index_shaped Tryd.laysM143 s sub w h hs
def Tryd.laysM144_ren : Go.Shelf.Ren := ⟨fun | 144 => 67 | 143 => 81 | 219 => 106 | 217 => 121 | 225 => 122 | 224 => 123 | 267 => 124 | 266 => 130 | 314 => 131 | n => n, fun | 9 => 9 | 4 => 4 | 3 => 3 | 5 => 5 | 46 => 90 | 146 => 128 | 51 => 121 | n => n, fun | 1 => 0 | n => n⟩
theorem Tryd.laysM144 : Go.Proofs.LaysM.n144 Tryd.prog Tryd.laysM144_ren := {
  mixed := by kernel_rfl
  f143 := Tryd.func81.trans (congrArg some (by kernel_rfl))
  f144 := Tryd.func67.trans (congrArg some (by kernel_rfl))
  f217 := Tryd.func121.trans (congrArg some (by kernel_rfl))
  f219 := Tryd.func106.trans (congrArg some (by kernel_rfl))
  f224 := Tryd.func123.trans (congrArg some (by kernel_rfl))
  f225 := Tryd.func122.trans (congrArg some (by kernel_rfl))
  f266 := Tryd.func130.trans (congrArg some (by kernel_rfl))
  f267 := Tryd.func124.trans (congrArg some (by kernel_rfl))
  f314 := Tryd.func131.trans (congrArg some (by kernel_rfl))
  t3 := Tryd.underlying3
  a3 := Tryd.isAgg3
  z3 := Tryd.sizeOf3
  v3 := Tryd.zeroValue3
  t4 := Tryd.underlying4
  a4 := Tryd.isAgg4
  z4 := Tryd.sizeOf4
  v4 := Tryd.zeroValue4
  t5 := Tryd.underlying5
  a5 := Tryd.isAgg5
  z5 := Tryd.sizeOf5
  v5 := Tryd.zeroValue5
  t9 := Tryd.underlying9
  a9 := Tryd.isAgg9
  z9 := Tryd.sizeOf9
  v9 := Tryd.zeroValue9
  t46 := Tryd.underlying90
  a46 := Tryd.isAgg90
  z46 := Tryd.sizeOf90
  v46 := Tryd.zeroValue90
  t51 := Tryd.underlying121
  a51 := Tryd.isAgg121
  z51 := Tryd.sizeOf121
  v51 := Tryd.zeroValue121
  t146 := Tryd.underlying128
  a146 := Tryd.isAgg128
  z146 := Tryd.sizeOf128
  v146 := Tryd.zeroValue128
  g1 := by kernel_rfl
  i3 := by kernel_rfl
  i4 := by kernel_rfl
  i5 := by kernel_rfl
  i9 := by kernel_rfl
  i46 := by kernel_rfl
  i51 := by kernel_rfl
  i146 := by kernel_rfl
  m1 := by kernel_rfl
  s1_3 := fun w h => Go.Proofs.cell_of_shapedOpen_int (zero := #[.int .i64 0]) (t := 3) h (of_decide_eq_true (by kernel_rfl)) (by kernel_rfl) rfl (by kernel_rfl) (by kernel_rfl) Tryd.underlying3 }
open Go.RowKit Go.Lib in
theorem Tryd.strings_Contains_shaped (s sub : ByteArray) (w : World) (h : w.ShapedOpen Tryd.prog) (hs : s.size < 4294967281) :
    Calls Tryd.prog 67 #[.string s, .string sub] w fun e w' => e = .returned (.bool (Lib.contains s.data.toList sub.data.toList)) ∧ w' = w := Any.strings_Contains_shaped Tryd.laysM144 s sub w h hs
def Tryd.laysM138_ren : Go.Shelf.Ren := ⟨fun | 138 => 63 | 195 => 79 | 218 => 80 | 143 => 81 | 219 => 106 | 217 => 121 | 225 => 122 | 224 => 123 | 267 => 124 | 266 => 130 | 314 => 131 | n => n, fun | 9 => 9 | 3 => 3 | 4 => 4 | 5 => 5 | 0 => 0 | 46 => 90 | 146 => 128 | 51 => 121 | n => n, fun | 1 => 0 | n => n⟩
theorem Tryd.laysM138 : Go.Proofs.LaysM.n138 Tryd.prog Tryd.laysM138_ren := {
  mixed := by kernel_rfl
  f138 := Tryd.func63.trans (congrArg some (by kernel_rfl))
  f143 := Tryd.func81.trans (congrArg some (by kernel_rfl))
  f195 := Tryd.func79.trans (congrArg some (by kernel_rfl))
  f217 := Tryd.func121.trans (congrArg some (by kernel_rfl))
  f218 := Tryd.func80.trans (congrArg some (by kernel_rfl))
  f219 := Tryd.func106.trans (congrArg some (by kernel_rfl))
  f224 := Tryd.func123.trans (congrArg some (by kernel_rfl))
  f225 := Tryd.func122.trans (congrArg some (by kernel_rfl))
  f266 := Tryd.func130.trans (congrArg some (by kernel_rfl))
  f267 := Tryd.func124.trans (congrArg some (by kernel_rfl))
  f314 := Tryd.func131.trans (congrArg some (by kernel_rfl))
  t0 := Tryd.underlying0
  a0 := Tryd.isAgg0
  z0 := Tryd.sizeOf0
  v0 := Tryd.zeroValue0
  t3 := Tryd.underlying3
  a3 := Tryd.isAgg3
  z3 := Tryd.sizeOf3
  v3 := Tryd.zeroValue3
  t4 := Tryd.underlying4
  a4 := Tryd.isAgg4
  z4 := Tryd.sizeOf4
  v4 := Tryd.zeroValue4
  t5 := Tryd.underlying5
  a5 := Tryd.isAgg5
  z5 := Tryd.sizeOf5
  v5 := Tryd.zeroValue5
  t9 := Tryd.underlying9
  a9 := Tryd.isAgg9
  z9 := Tryd.sizeOf9
  v9 := Tryd.zeroValue9
  t46 := Tryd.underlying90
  a46 := Tryd.isAgg90
  z46 := Tryd.sizeOf90
  v46 := Tryd.zeroValue90
  t51 := Tryd.underlying121
  a51 := Tryd.isAgg121
  z51 := Tryd.sizeOf121
  v51 := Tryd.zeroValue121
  t146 := Tryd.underlying128
  a146 := Tryd.isAgg128
  z146 := Tryd.sizeOf128
  v146 := Tryd.zeroValue128
  g1 := by kernel_rfl
  i0 := by kernel_rfl
  i3 := by kernel_rfl
  i4 := by kernel_rfl
  i5 := by kernel_rfl
  i9 := by kernel_rfl
  i46 := by kernel_rfl
  i51 := by kernel_rfl
  i146 := by kernel_rfl
  m1 := by kernel_rfl
  s1_3 := fun w h => Go.Proofs.cell_of_shapedOpen_int (zero := #[.int .i64 0]) (t := 3) h (of_decide_eq_true (by kernel_rfl)) (by kernel_rfl) rfl (by kernel_rfl) (by kernel_rfl) Tryd.underlying3 }
open Go.RowKit Go.Lib in
theorem Tryd.strings_Count_shaped (s sub : ByteArray) (w : World) (h : w.ShapedOpen Tryd.prog) (hs : s.size < 4294967281) (h2 : 2 ≤ sub.size) :
    Calls Tryd.prog 63 #[.string s, .string sub] w fun e w' => e = .returned (.int .i64 (Lib.countB s sub)) ∧ w' = w := Any.strings_Count_shaped Tryd.laysM138 s sub w h hs h2
def Tryd.lays190_ren : Go.Shelf.Ren := ⟨fun | 190 => 52 | 125 => 71 | 258 => 70 | 128 => 100 | 129 => 101 | 302 => 91 | 303 => 92 | 304 => 93 | 305 => 94 | 306 => 95 | 307 => 96 | 308 => 97 | 309 => 98 | 310 => 99 | 333 => 112 | 329 => 113 | 330 => 114 | 334 => 115 | 335 => 116 | 336 => 117 | 344 => 127 | n => n, fun | 31 => 31 | 9 => 9 | 3 => 3 | 46 => 90 | 0 => 0 | 51 => 121 | 53 => 123 | 4 => 4 | 183 => 115 | 182 => 114 | 131 => 74 | 5 => 5 | 218 => 133 | 222 => 137 | 228 => 144 | 229 => 145 | n => n, fun | n => n⟩
theorem Tryd.lays190 : Go.Proofs.Lays.n190 Tryd.prog Tryd.lays190_ren := {
  mixed := by kernel_rfl
  f125 := Tryd.func71.trans (congrArg some (by kernel_rfl))
  f128 := Tryd.func100.trans (congrArg some (by kernel_rfl))
  f129 := Tryd.func101.trans (congrArg some (by kernel_rfl))
  f190 := Tryd.func52.trans (congrArg some (by kernel_rfl))
  f258 := Tryd.func70.trans (congrArg some (by kernel_rfl))
  f302 := Tryd.func91.trans (congrArg some (by kernel_rfl))
  f303 := Tryd.func92.trans (congrArg some (by kernel_rfl))
  f304 := Tryd.func93.trans (congrArg some (by kernel_rfl))
  f305 := Tryd.func94.trans (congrArg some (by kernel_rfl))
  f306 := Tryd.func95.trans (congrArg some (by kernel_rfl))
  f307 := Tryd.func96.trans (congrArg some (by kernel_rfl))
  f308 := Tryd.func97.trans (congrArg some (by kernel_rfl))
  f309 := Tryd.func98.trans (congrArg some (by kernel_rfl))
  f310 := Tryd.func99.trans (congrArg some (by kernel_rfl))
  f329 := Tryd.func113.trans (congrArg some (by kernel_rfl))
  f330 := Tryd.func114.trans (congrArg some (by kernel_rfl))
  f333 := Tryd.func112.trans (congrArg some (by kernel_rfl))
  f334 := Tryd.func115.trans (congrArg some (by kernel_rfl))
  f335 := Tryd.func116.trans (congrArg some (by kernel_rfl))
  f336 := Tryd.func117.trans (congrArg some (by kernel_rfl))
  f344 := Tryd.func127.trans (congrArg some (by kernel_rfl))
  t0 := Tryd.underlying0
  a0 := Tryd.isAgg0
  z0 := Tryd.sizeOf0
  v0 := Tryd.zeroValue0
  t3 := Tryd.underlying3
  a3 := Tryd.isAgg3
  z3 := Tryd.sizeOf3
  v3 := Tryd.zeroValue3
  t4 := Tryd.underlying4
  a4 := Tryd.isAgg4
  z4 := Tryd.sizeOf4
  v4 := Tryd.zeroValue4
  t5 := Tryd.underlying5
  a5 := Tryd.isAgg5
  z5 := Tryd.sizeOf5
  v5 := Tryd.zeroValue5
  t9 := Tryd.underlying9
  a9 := Tryd.isAgg9
  z9 := Tryd.sizeOf9
  v9 := Tryd.zeroValue9
  t31 := Tryd.underlying31
  a31 := Tryd.isAgg31
  z31 := Tryd.sizeOf31
  v31 := Tryd.zeroValue31
  t46 := Tryd.underlying90
  a46 := Tryd.isAgg90
  z46 := Tryd.sizeOf90
  v46 := Tryd.zeroValue90
  t51 := Tryd.underlying121
  a51 := Tryd.isAgg121
  z51 := Tryd.sizeOf121
  v51 := Tryd.zeroValue121
  t53 := Tryd.underlying123
  a53 := Tryd.isAgg123
  z53 := Tryd.sizeOf123
  v53 := Tryd.zeroValue123
  t131 := Tryd.underlying74
  a131 := Tryd.isAgg74
  z131 := Tryd.sizeOf74
  v131 := Tryd.zeroValue74
  t182 := Tryd.underlying114
  a182 := Tryd.isAgg114
  z182 := Tryd.sizeOf114
  v182 := Tryd.zeroValue114
  t183 := Tryd.underlying115
  a183 := Tryd.isAgg115
  z183 := Tryd.sizeOf115
  v183 := Tryd.zeroValue115
  t218 := Tryd.underlying133
  a218 := Tryd.isAgg133
  z218 := Tryd.sizeOf133
  v218 := Tryd.zeroValue133
  t222 := Tryd.underlying137
  a222 := Tryd.isAgg137
  z222 := Tryd.sizeOf137
  v222 := Tryd.zeroValue137
  t228 := Tryd.underlying144
  a228 := Tryd.isAgg144
  z228 := Tryd.sizeOf144
  v228 := Tryd.zeroValue144
  t229 := Tryd.underlying145
  a229 := Tryd.isAgg145
  z229 := Tryd.sizeOf145
  v229 := Tryd.zeroValue145 }
open Go.Sort Go.RowKit in
theorem Tryd.slices_Sort_string (blk off cap : Nat) (ss : List (List UInt8)) (w : World) (hH : Holds encStr w blk off ss.toArray) (hblk : blk < w.heap.size) (hsz : ss.length < 4611686018427387904) :
    Calls Tryd.prog 52 #[.slice (some ⟨blk, off, none⟩) ss.length cap] w fun e w' =>
      e = .returned (.tuple #[]) ∧ ∃ n os, w' = grow (putRow encStr (Sort.ahead w n) blk off (ss.mergeSort fun x y => decide (x ≤ y)).toArray) os := Any.slices_Sort_string Tryd.lays190 blk off cap ss w hH hblk hsz
def Tryd.lays206_ren : Go.Shelf.Ren := ⟨fun | 206 => 109 | n => n, fun | 9 => 9 | 4 => 4 | 3 => 3 | n => n, fun | n => n⟩
theorem Tryd.lays206 : Go.Proofs.Lays.n206 Tryd.prog Tryd.lays206_ren := {
  mixed := by kernel_rfl
  f206 := Tryd.func109.trans (congrArg some (by kernel_rfl))
  t3 := Tryd.underlying3
  a3 := Tryd.isAgg3
  z3 := Tryd.sizeOf3
  v3 := Tryd.zeroValue3
  t4 := Tryd.underlying4
  a4 := Tryd.isAgg4
  z4 := Tryd.sizeOf4
  v4 := Tryd.zeroValue4
  t9 := Tryd.underlying9
  a9 := Tryd.isAgg9
  z9 := Tryd.sizeOf9
  v9 := Tryd.zeroValue9 }
open Go.RowKit Go.Lib in
/-- internal/stringslite.HasPrefix (what strings.HasPrefix calls). (LAID: no walk: one application.) -/
theorem Tryd.stringslite_HasPrefix (s p : ByteArray) (w : World) :
    Calls Tryd.prog 109 #[.string s, .string p] w fun e w' => e = .returned (.bool (Lib.hasPrefix s.data.toList p.data.toList)) ∧ w' = w := Any.stringslite_HasPrefix Tryd.lays206 s p w
def Tryd.lays99_ren : Go.Shelf.Ren := ⟨fun | 99 => 83 | 206 => 109 | n => n, fun | 9 => 9 | 4 => 4 | 3 => 3 | n => n, fun | n => n⟩
theorem Tryd.lays99 : Go.Proofs.Lays.n99 Tryd.prog Tryd.lays99_ren := {
  mixed := by kernel_rfl
  f99 := Tryd.func83.trans (congrArg some (by kernel_rfl))
  f206 := Tryd.func109.trans (congrArg some (by kernel_rfl))
  t3 := Tryd.underlying3
  a3 := Tryd.isAgg3
  z3 := Tryd.sizeOf3
  v3 := Tryd.zeroValue3
  t4 := Tryd.underlying4
  a4 := Tryd.isAgg4
  z4 := Tryd.sizeOf4
  v4 := Tryd.zeroValue4
  t9 := Tryd.underlying9
  a9 := Tryd.isAgg9
  z9 := Tryd.sizeOf9
  v9 := Tryd.zeroValue9 }
open Go.RowKit Go.Lib in
/-- strings.HasPrefix: "HasPrefix reports whether the string s begins with prefix.": IT RETURNS 'Lib.hasPrefix s prefix'; the world is as it was. (LAID: no walk: one application.) -/
theorem Tryd.strings_HasPrefix (s p : ByteArray) (w : World) :
    Calls Tryd.prog 83 #[.string s, .string p] w fun e w' => e = .returned (.bool (Lib.hasPrefix s.data.toList p.data.toList)) ∧ w' = w := Any.strings_HasPrefix Tryd.lays99 s p w
open Go.RowKit Go.Lib in
/-- strings.Count at whatever sep that is not empty: the two roads under one statement. (LAID: no walk: one application.) -/
theorem Tryd.strings_Count_any (s sep : ByteArray) (m : Int) (w : World) (hs : s.size < 4294967281) (hm : w.cell? ⟨0, 0, none⟩ = some (.int .i64 m)) (h1 : 1 ≤ sep.size) :
    Calls Tryd.prog 63 #[.string s, .string sep] w fun e w' => e = .returned (.int .i64 (Lib.countB s sep)) ∧ w' = w := Any.strings_Count_any Tryd.lays138 s sep m w hs hm h1
def Tryd.lays197_ren : Go.Shelf.Ren := ⟨fun | 197 => 103 | 260 => 118 | n => n, fun | 9 => 9 | 21 => 21 | 3 => 3 | 4 => 4 | 5 => 5 | 105 => 125 | 119 => 147 | 0 => 0 | 46 => 90 | 139 => 150 | 138 => 149 | n => n, fun | 3 => 1 | 4 => 2 | n => n⟩
theorem Tryd.lays197 : Go.Proofs.Lays.n197 Tryd.prog Tryd.lays197_ren := {
  mixed := by kernel_rfl
  f197 := Tryd.func103.trans (congrArg some (by kernel_rfl))
  f260 := Tryd.func118.trans (congrArg some (by kernel_rfl))
  t0 := Tryd.underlying0
  a0 := Tryd.isAgg0
  z0 := Tryd.sizeOf0
  v0 := Tryd.zeroValue0
  t3 := Tryd.underlying3
  a3 := Tryd.isAgg3
  z3 := Tryd.sizeOf3
  v3 := Tryd.zeroValue3
  t4 := Tryd.underlying4
  a4 := Tryd.isAgg4
  z4 := Tryd.sizeOf4
  v4 := Tryd.zeroValue4
  t5 := Tryd.underlying5
  a5 := Tryd.isAgg5
  z5 := Tryd.sizeOf5
  v5 := Tryd.zeroValue5
  t9 := Tryd.underlying9
  a9 := Tryd.isAgg9
  z9 := Tryd.sizeOf9
  v9 := Tryd.zeroValue9
  t21 := Tryd.underlying21
  a21 := Tryd.isAgg21
  z21 := Tryd.sizeOf21
  v21 := Tryd.zeroValue21
  t46 := Tryd.underlying90
  a46 := Tryd.isAgg90
  z46 := Tryd.sizeOf90
  v46 := Tryd.zeroValue90
  t105 := Tryd.underlying125
  a105 := Tryd.isAgg125
  z105 := Tryd.sizeOf125
  v105 := Tryd.zeroValue125
  t119 := Tryd.underlying147
  a119 := Tryd.isAgg147
  z119 := Tryd.sizeOf147
  t138 := Tryd.underlying149
  a138 := Tryd.isAgg149
  z138 := Tryd.sizeOf149
  v138 := Tryd.zeroValue149
  t139 := Tryd.underlying150
  a139 := Tryd.isAgg150
  z139 := Tryd.sizeOf150
  v139 := Tryd.zeroValue150
  g3 := by kernel_rfl
  g4 := by kernel_rfl }
open Go.RowKit Go.Lib in
/-- unicode/utf8.DecodeRuneInString: "DecodeRuneInString is like DecodeRune but its input is a string.": ("DecodeRune unpacks the first UTF-8 encoding in p and returns the rune and its width in bytes."): WHERE s BEGINS WITH AN ASCII BYTE x: (x, 1). (LAID: no walk: one application.) -/
theorem Tryd.utf8_DecodeRuneInString_ascii (s : ByteArray) (x : UInt8) (w : World) (h0 : s.data.toList[0]? = some x) (hx : x.toNat < 128) :
    Calls Tryd.prog 103 #[.string s] w fun e w' => e = .returned (.tuple #[.int .i32 x.toNat, .int .i64 1]) ∧ w' = w := Any.utf8_DecodeRuneInString_ascii Tryd.lays197 s x w h0 hx
def Tryd.lays152_ren : Go.Shelf.Ren := ⟨fun | 152 => 119 | 137 => 128 | 119 => 129 | 224 => 123 | 225 => 122 | 217 => 121 | 266 => 130 | n => n, fun | 9 => 9 | 21 => 21 | 3 => 3 | 4 => 4 | 5 => 5 | 0 => 0 | 46 => 90 | n => n, fun | n => n⟩
theorem Tryd.lays152 : Go.Proofs.Lays.n152 Tryd.prog Tryd.lays152_ren := {
  mixed := by kernel_rfl
  f119 := Tryd.func129.trans (congrArg some (by kernel_rfl))
  f137 := Tryd.func128.trans (congrArg some (by kernel_rfl))
  f152 := Tryd.func119.trans (congrArg some (by kernel_rfl))
  f217 := Tryd.func121.trans (congrArg some (by kernel_rfl))
  f224 := Tryd.func123.trans (congrArg some (by kernel_rfl))
  f225 := Tryd.func122.trans (congrArg some (by kernel_rfl))
  f266 := Tryd.func130.trans (congrArg some (by kernel_rfl))
  t0 := Tryd.underlying0
  a0 := Tryd.isAgg0
  z0 := Tryd.sizeOf0
  v0 := Tryd.zeroValue0
  t3 := Tryd.underlying3
  a3 := Tryd.isAgg3
  z3 := Tryd.sizeOf3
  v3 := Tryd.zeroValue3
  t4 := Tryd.underlying4
  a4 := Tryd.isAgg4
  z4 := Tryd.sizeOf4
  v4 := Tryd.zeroValue4
  t5 := Tryd.underlying5
  a5 := Tryd.isAgg5
  z5 := Tryd.sizeOf5
  v5 := Tryd.zeroValue5
  t9 := Tryd.underlying9
  a9 := Tryd.isAgg9
  z9 := Tryd.sizeOf9
  v9 := Tryd.zeroValue9
  t21 := Tryd.underlying21
  a21 := Tryd.isAgg21
  z21 := Tryd.sizeOf21
  v21 := Tryd.zeroValue21
  t46 := Tryd.underlying90
  a46 := Tryd.isAgg90
  z46 := Tryd.sizeOf90
  v46 := Tryd.zeroValue90 }
open Go.RowKit Go.Lib in
theorem Tryd.strings_IndexRune_ascii (s : ByteArray) (r : Int) (w : World) (h0 : 0 ≤ r) (h1 : r < 128) :
    Calls Tryd.prog 119 #[.string s, .int .i32 r] w fun e w' => e = .returned (.int .i64 (Lib.indexByte s.data.toList r.toNat.toUInt8)) ∧ w' = w := Any.strings_IndexRune_ascii Tryd.lays152 s r w h0 h1
def Tryd.lays151_ren : Go.Shelf.Ren := ⟨fun | 151 => 104 | 152 => 119 | 137 => 128 | 119 => 129 | 224 => 123 | 225 => 122 | 217 => 121 | 266 => 130 | n => n, fun | 9 => 9 | 21 => 21 | 4 => 4 | 3 => 3 | 5 => 5 | 0 => 0 | 46 => 90 | n => n, fun | n => n⟩
theorem Tryd.lays151 : Go.Proofs.Lays.n151 Tryd.prog Tryd.lays151_ren := {
  mixed := by kernel_rfl
  f119 := Tryd.func129.trans (congrArg some (by kernel_rfl))
  f137 := Tryd.func128.trans (congrArg some (by kernel_rfl))
  f151 := Tryd.func104.trans (congrArg some (by kernel_rfl))
  f152 := Tryd.func119.trans (congrArg some (by kernel_rfl))
  f217 := Tryd.func121.trans (congrArg some (by kernel_rfl))
  f224 := Tryd.func123.trans (congrArg some (by kernel_rfl))
  f225 := Tryd.func122.trans (congrArg some (by kernel_rfl))
  f266 := Tryd.func130.trans (congrArg some (by kernel_rfl))
  t0 := Tryd.underlying0
  a0 := Tryd.isAgg0
  z0 := Tryd.sizeOf0
  v0 := Tryd.zeroValue0
  t3 := Tryd.underlying3
  a3 := Tryd.isAgg3
  z3 := Tryd.sizeOf3
  v3 := Tryd.zeroValue3
  t4 := Tryd.underlying4
  a4 := Tryd.isAgg4
  z4 := Tryd.sizeOf4
  v4 := Tryd.zeroValue4
  t5 := Tryd.underlying5
  a5 := Tryd.isAgg5
  z5 := Tryd.sizeOf5
  v5 := Tryd.zeroValue5
  t9 := Tryd.underlying9
  a9 := Tryd.isAgg9
  z9 := Tryd.sizeOf9
  v9 := Tryd.zeroValue9
  t21 := Tryd.underlying21
  a21 := Tryd.isAgg21
  z21 := Tryd.sizeOf21
  v21 := Tryd.zeroValue21
  t46 := Tryd.underlying90
  a46 := Tryd.isAgg90
  z46 := Tryd.sizeOf90
  v46 := Tryd.zeroValue90 }
open Go.RowKit Go.Lib in
theorem Tryd.strings_ContainsRune_ascii (s : ByteArray) (r : Int) (w : World) (h0 : 0 ≤ r) (h1 : r < 128) :
    Calls Tryd.prog 104 #[.string s, .int .i32 r] w fun e w' => e = .returned (.bool (decide (0 ≤ Lib.indexByte s.data.toList r.toNat.toUInt8))) ∧ w' = w := Any.strings_ContainsRune_ascii Tryd.lays151 s r w h0 h1
open Go.RowKit Go.Lib in
theorem Tryd.utf8_RuneCountInString_ascii (s : ByteArray) (w : World) (hs : s.size < 4294967281) (hascii : ∀ (j : Nat) b, s.data.toList[j]? = some b → b.toNat < 128) :
    Calls Tryd.prog 79 #[.string s] w fun e w' => e = .returned (.int .i64 s.size) ∧ w' = w.iter s s.size := Any.utf8_RuneCountInString_ascii Tryd.lays195 s w hs hascii
def Tryd.lays227_ren : Go.Shelf.Ren := ⟨fun | 227 => 74 | n => n, fun | 9 => 9 | 116 => 93 | 4 => 4 | 0 => 0 | 3 => 3 | 5 => 5 | n => n, fun | n => n⟩
theorem Tryd.lays227 : Go.Proofs.Lays.n227 Tryd.prog Tryd.lays227_ren := {
  mixed := by kernel_rfl
  f227 := Tryd.func74.trans (congrArg some (by kernel_rfl))
  t0 := Tryd.underlying0
  a0 := Tryd.isAgg0
  z0 := Tryd.sizeOf0
  v0 := Tryd.zeroValue0
  t3 := Tryd.underlying3
  a3 := Tryd.isAgg3
  z3 := Tryd.sizeOf3
  v3 := Tryd.zeroValue3
  t4 := Tryd.underlying4
  a4 := Tryd.isAgg4
  z4 := Tryd.sizeOf4
  v4 := Tryd.zeroValue4
  t5 := Tryd.underlying5
  a5 := Tryd.isAgg5
  z5 := Tryd.sizeOf5
  v5 := Tryd.zeroValue5
  t9 := Tryd.underlying9
  a9 := Tryd.isAgg9
  z9 := Tryd.sizeOf9
  v9 := Tryd.zeroValue9
  t116 := Tryd.underlying93
  a116 := Tryd.isAgg93
  z116 := Tryd.sizeOf93 }
open Go.RowKit Go.Lib in
theorem Tryd.strings_makeASCIISet (hv116 : ∀ w, (zeroValue 93).run Tryd.prog w = .ok (.agg (Array.replicate 256 (.bool false))) w) (chars : ByteArray) (w : World) (hs : chars.size < 4294967281) (hascii : ∀ (j : Nat) b, chars.data.toList[j]? = some b → b.toNat < 128) :
    Calls Tryd.prog 74 #[.string chars] w fun e w' => e = .returned (.tuple #[.agg (Lib.setCells chars.data.toList), .bool true]) ∧ w' = w.alloc (.cells (Lib.setCells chars.data.toList) 93) := Any.strings_makeASCIISet Tryd.lays227 hv116 (by kernel_rfl) chars w hs hascii
def Tryd.lays228_ren : Go.Shelf.Ren := ⟨fun | 228 => 102 | n => n, fun | 124 => 97 | 5 => 5 | 4 => 4 | 0 => 0 | 116 => 93 | n => n, fun | n => n⟩
theorem Tryd.lays228 : Go.Proofs.Lays.n228 Tryd.prog Tryd.lays228_ren := {
  mixed := by kernel_rfl
  f228 := Tryd.func102.trans (congrArg some (by kernel_rfl))
  t0 := Tryd.underlying0
  a0 := Tryd.isAgg0
  z0 := Tryd.sizeOf0
  v0 := Tryd.zeroValue0
  t4 := Tryd.underlying4
  a4 := Tryd.isAgg4
  z4 := Tryd.sizeOf4
  v4 := Tryd.zeroValue4
  t5 := Tryd.underlying5
  a5 := Tryd.isAgg5
  z5 := Tryd.sizeOf5
  v5 := Tryd.zeroValue5
  t116 := Tryd.underlying93
  a116 := Tryd.isAgg93
  z116 := Tryd.sizeOf93
  t124 := Tryd.underlying97
  a124 := Tryd.isAgg97
  z124 := Tryd.sizeOf97
  v124 := Tryd.zeroValue97 }
open Go.RowKit Go.Lib in
/-- '(as *asciiSet) contains(c)': 'as[c]': the set lies at block b, whole. (LAID: no walk: one application.) -/
theorem Tryd.asciiSet_contains (b : Nat) (x : UInt8) (v : Bool) (w : World) (hc : w.cell? ⟨b, x.toNat, none⟩ = some (.bool v)) :
    Calls Tryd.prog 102 #[.pointer (some ⟨b, 0, none⟩), .int .u8 x.toNat] w fun e w' => e = .returned (.bool v) ∧ w' = w := Any.asciiSet_contains Tryd.lays228 b x v w hc
def Tryd.lays264_ren : Go.Shelf.Ren := ⟨fun | 264 => 108 | n => n, fun | 53 => 123 | 46 => 90 | n => n, fun | n => n⟩
theorem Tryd.lays264 : Go.Proofs.Lays.n264 Tryd.prog Tryd.lays264_ren := {
  mixed := by kernel_rfl
  f264 := Tryd.func108.trans (congrArg some (by kernel_rfl))
  t46 := Tryd.underlying90
  a46 := Tryd.isAgg90
  z46 := Tryd.sizeOf90
  v46 := Tryd.zeroValue90
  t53 := Tryd.underlying123
  a53 := Tryd.isAgg123
  z53 := Tryd.sizeOf123
  v53 := Tryd.zeroValue123 }
open Go.RowKit Go.Lib in
theorem Tryd.bits_Mul64 (x y : Nat) (hx : x < 18446744073709551616) (hy : y < 18446744073709551616) (w : World) :
    Calls Tryd.prog 108 #[.int .u64 x, .int .u64 y] w fun e w' => e = .returned (.tuple #[.int .u64 ((x * y / 18446744073709551616 : Nat) : Int), .int .u64 ((x * y % 18446744073709551616 : Nat) : Int)]) ∧ w' = w := Any.bits_Mul64 Tryd.lays264 x y hx hy w
def Tryd.lays212_ren : Go.Shelf.Ren := ⟨fun | 212 => 82 | 263 => 107 | 264 => 108 | n => n, fun | 46 => 90 | 51 => 121 | 146 => 128 | 53 => 123 | 148 => 130 | n => n, fun | n => n⟩
theorem Tryd.lays212 : Go.Proofs.Lays.n212 Tryd.prog Tryd.lays212_ren := {
  mixed := by kernel_rfl
  f212 := Tryd.func82.trans (congrArg some (by kernel_rfl))
  f263 := Tryd.func107.trans (congrArg some (by kernel_rfl))
  f264 := Tryd.func108.trans (congrArg some (by kernel_rfl))
  t46 := Tryd.underlying90
  a46 := Tryd.isAgg90
  z46 := Tryd.sizeOf90
  v46 := Tryd.zeroValue90
  t51 := Tryd.underlying121
  a51 := Tryd.isAgg121
  z51 := Tryd.sizeOf121
  v51 := Tryd.zeroValue121
  t53 := Tryd.underlying123
  a53 := Tryd.isAgg123
  z53 := Tryd.sizeOf123
  v53 := Tryd.zeroValue123
  t146 := Tryd.underlying128
  a146 := Tryd.isAgg128
  z146 := Tryd.sizeOf128
  v146 := Tryd.zeroValue128
  t148 := Tryd.underlying130
  a148 := Tryd.isAgg130
  z148 := Tryd.sizeOf130
  v148 := Tryd.zeroValue130 }
open Go.RowKit Go.Lib in
/-- math/bits.Mul: "Mul returns the full-width product of x and y": on a machine of 64 bits: Mul64's. (LAID: no walk: one application.) -/
theorem Tryd.bits_Mul (x y : Nat) (hx : x < 18446744073709551616) (hy : y < 18446744073709551616) (w : World) :
    Calls Tryd.prog 82 #[.int .u64 x, .int .u64 y] w fun e w' => e = .returned (.tuple #[.int .u64 ((x * y / 18446744073709551616 : Nat) : Int), .int .u64 ((x * y % 18446744073709551616 : Nat) : Int)]) ∧ w' = w := Any.bits_Mul Tryd.lays212 x y hx hy w
def Tryd.lays105_ren : Go.Shelf.Ren := ⟨fun | 105 => 64 | 212 => 82 | 99 => 83 | 165 => 84 | 166 => 85 | 170 => 86 | 169 => 87 | 263 => 107 | 264 => 108 | 206 => 109 | 240 => 110 | 241 => 111 | 276 => 125 | 277 => 126 | n => n, fun | 9 => 9 | 3 => 3 | 4 => 4 | 20 => 20 | 0 => 0 | 46 => 90 | 109 => 98 | 5 => 5 | 72 => 102 | 76 => 106 | 51 => 121 | 146 => 128 | 53 => 123 | 148 => 130 | 70 => 100 | 37 => 86 | 75 => 105 | 127 => 132 | 164 => 141 | 80 => 109 | n => n, fun | n => n⟩
theorem Tryd.lays105 : Go.Proofs.Lays.n105 Tryd.prog Tryd.lays105_ren := {
  mixed := by kernel_rfl
  f99 := Tryd.func83.trans (congrArg some (by kernel_rfl))
  f105 := Tryd.func64.trans (congrArg some (by kernel_rfl))
  f165 := Tryd.func84.trans (congrArg some (by kernel_rfl))
  f166 := Tryd.func85.trans (congrArg some (by kernel_rfl))
  f169 := Tryd.func87.trans (congrArg some (by kernel_rfl))
  f170 := Tryd.func86.trans (congrArg some (by kernel_rfl))
  f206 := Tryd.func109.trans (congrArg some (by kernel_rfl))
  f212 := Tryd.func82.trans (congrArg some (by kernel_rfl))
  f240 := Tryd.func110.trans (congrArg some (by kernel_rfl))
  f241 := Tryd.func111.trans (congrArg some (by kernel_rfl))
  f263 := Tryd.func107.trans (congrArg some (by kernel_rfl))
  f264 := Tryd.func108.trans (congrArg some (by kernel_rfl))
  f276 := Tryd.func125.trans (congrArg some (by kernel_rfl))
  f277 := Tryd.func126.trans (congrArg some (by kernel_rfl))
  t0 := Tryd.underlying0
  a0 := Tryd.isAgg0
  z0 := Tryd.sizeOf0
  v0 := Tryd.zeroValue0
  t3 := Tryd.underlying3
  a3 := Tryd.isAgg3
  z3 := Tryd.sizeOf3
  v3 := Tryd.zeroValue3
  t4 := Tryd.underlying4
  a4 := Tryd.isAgg4
  z4 := Tryd.sizeOf4
  v4 := Tryd.zeroValue4
  t5 := Tryd.underlying5
  a5 := Tryd.isAgg5
  z5 := Tryd.sizeOf5
  v5 := Tryd.zeroValue5
  t9 := Tryd.underlying9
  a9 := Tryd.isAgg9
  z9 := Tryd.sizeOf9
  v9 := Tryd.zeroValue9
  t20 := Tryd.underlying20
  a20 := Tryd.isAgg20
  z20 := Tryd.sizeOf20
  v20 := Tryd.zeroValue20
  t37 := Tryd.underlying86
  a37 := Tryd.isAgg86
  z37 := Tryd.sizeOf86
  v37 := Tryd.zeroValue86
  t46 := Tryd.underlying90
  a46 := Tryd.isAgg90
  z46 := Tryd.sizeOf90
  v46 := Tryd.zeroValue90
  t51 := Tryd.underlying121
  a51 := Tryd.isAgg121
  z51 := Tryd.sizeOf121
  v51 := Tryd.zeroValue121
  t53 := Tryd.underlying123
  a53 := Tryd.isAgg123
  z53 := Tryd.sizeOf123
  v53 := Tryd.zeroValue123
  t70 := Tryd.underlying100
  a70 := Tryd.isAgg100
  z70 := Tryd.sizeOf100
  v70 := Tryd.zeroValue100
  t72 := Tryd.underlying102
  a72 := Tryd.isAgg102
  z72 := Tryd.sizeOf102
  v72 := Tryd.zeroValue102
  t75 := Tryd.underlying105
  a75 := Tryd.isAgg105
  z75 := Tryd.sizeOf105
  v75 := Tryd.zeroValue105
  t76 := Tryd.underlying106
  a76 := Tryd.isAgg106
  z76 := Tryd.sizeOf106
  v76 := Tryd.zeroValue106
  t109 := Tryd.underlying98
  a109 := Tryd.isAgg98
  z109 := Tryd.sizeOf98
  v109 := Tryd.zeroValue98
  t127 := Tryd.underlying132
  a127 := Tryd.isAgg132
  z127 := Tryd.sizeOf132
  v127 := Tryd.zeroValue132
  t146 := Tryd.underlying128
  a146 := Tryd.isAgg128
  z146 := Tryd.sizeOf128
  v146 := Tryd.zeroValue128
  t148 := Tryd.underlying130
  a148 := Tryd.isAgg130
  z148 := Tryd.sizeOf130
  v148 := Tryd.zeroValue130
  t164 := Tryd.underlying141
  a164 := Tryd.isAgg141
  z164 := Tryd.sizeOf141
  v164 := Tryd.zeroValue141 }
theorem Tryd.Builder_Extra_105 : Builder.Extra Tryd.prog Tryd.lays105_ren := {
  sizeBuilder := by kernel_rfl
  liesBuilder := by kernel_rfl
  t5 := Tryd.underlying5
  a5 := Tryd.isAgg5
  z5 := Tryd.sizeOf5
  v5 := Tryd.zeroValue5
  infoByte := by kernel_rfl
  cellsByte := by kernel_rfl
  sizeByte := by kernel_rfl
  neB5 := by decide }
open Go.RowKit Go.Lib in
/-- THE MAIN CASE: at least two copies of a string that is not empty. (LAID: no walk: one application.) -/
theorem Tryd.strings_Repeat_main (s : ByteArray) (c : Nat) (w : World) (hc2 : 2 ≤ c) (hc : c ≤ 9223372036854775807) (hlen : s.size * c ≤ 140737488355328) (h0 : 0 < s.size) :
    Calls Tryd.prog 64 #[.string s, .int .i64 c] w fun e w' => e = .returned (.string ⟨(Lib.repeatL s.data.toList c).toArray⟩) ∧ Below w.heap.size w w' := Any.strings_Repeat_main Tryd.lays105 Tryd.Builder_Extra_105 s c w hc2 hc hlen h0
open Go.RowKit Go.Lib in
theorem Tryd.strings_Repeat_zero (s : ByteArray) (w : World) :
    Calls Tryd.prog 64 #[.string s, .int .i64 0] w fun e w' => e = .returned (.string ⟨#[]⟩) ∧ w' = w := Any.strings_Repeat_zero Tryd.lays105 s w
open Go.RowKit Go.Lib in
theorem Tryd.strings_Repeat_one (s : ByteArray) (w : World) :
    Calls Tryd.prog 64 #[.string s, .int .i64 1] w fun e w' => e = .returned (.string s) ∧ w' = w := Any.strings_Repeat_one Tryd.lays105 s w
open Go.RowKit Go.Lib in
/-- Copies of the empty string. (LAID: no walk: one application.) -/
theorem Tryd.strings_Repeat_empty (s : ByteArray) (c : Nat) (w : World) (hc2 : 2 ≤ c) (hc : c ≤ 9223372036854775807) (h0 : s.size = 0) :
    Calls Tryd.prog 64 #[.string s, .int .i64 c] w fun e w' => e = .returned (.string ⟨#[]⟩) ∧ w' = w := Any.strings_Repeat_empty Tryd.lays105 s c w hc2 hc h0
open Go.RowKit Go.Lib in
/-- count < 0: "It panics if count is negative". (LAID: no walk: one application.) -/
theorem Tryd.strings_Repeat_negative (s : ByteArray) (c : Int) (w : World) (hc : c < 0) :
    Calls Tryd.prog 64 #[.string s, .int .i64 c] w fun e w' => e = .panicked [{ v := repeatPanic Tryd.lays105_ren "strings: negative Repeat count", recovered := false }] ∧ w' = w := Any.strings_Repeat_negative Tryd.lays105 s c w hc
open Go.RowKit Go.Lib in
/-- len(s) * count is no int: ".. or if the result of (len(s) * count) overflows". (LAID: no walk: one application.) -/
theorem Tryd.strings_Repeat_overflow (s : ByteArray) (c : Nat) (w : World) (hc : c ≤ 9223372036854775807) (hs : s.size ≤ 9223372036854775807) (hbig : 9223372036854775807 < s.size * c) :
    Calls Tryd.prog 64 #[.string s, .int .i64 c] w fun e w' => e = .panicked [{ v := repeatPanic Tryd.lays105_ren "strings: Repeat output length overflow", recovered := false }] ∧ w' = w := Any.strings_Repeat_overflow Tryd.lays105 s c w hc hs hbig
open Go.RowKit Go.Lib in
/-- **strings.Repeat: count ≥ 0, the result within one allocation: count copies of s.** (LAID: no walk: one application.) -/
theorem Tryd.strings_Repeat (s : ByteArray) (c : Nat) (w : World) (hc : c ≤ 9223372036854775807) (hlen : s.size * c ≤ 140737488355328) :
    Calls Tryd.prog 64 #[.string s, .int .i64 c] w fun e w' => e = .returned (.string ⟨(Lib.repeatL s.data.toList c).toArray⟩) ∧ Below w.heap.size w w' := Any.strings_Repeat Tryd.lays105 Tryd.Builder_Extra_105 s c w hc hlen
def Tryd.lays260_ren : Go.Shelf.Ren := ⟨fun | 260 => 118 | n => n, fun | 9 => 9 | 21 => 21 | 3 => 3 | 4 => 4 | 5 => 5 | 119 => 147 | 0 => 0 | 46 => 90 | 139 => 150 | 138 => 149 | n => n, fun | 3 => 1 | 4 => 2 | n => n⟩
theorem Tryd.lays260 : Go.Proofs.Lays.n260 Tryd.prog Tryd.lays260_ren := {
  mixed := by kernel_rfl
  f260 := Tryd.func118.trans (congrArg some (by kernel_rfl))
  t0 := Tryd.underlying0
  a0 := Tryd.isAgg0
  z0 := Tryd.sizeOf0
  v0 := Tryd.zeroValue0
  t3 := Tryd.underlying3
  a3 := Tryd.isAgg3
  z3 := Tryd.sizeOf3
  v3 := Tryd.zeroValue3
  t4 := Tryd.underlying4
  a4 := Tryd.isAgg4
  z4 := Tryd.sizeOf4
  v4 := Tryd.zeroValue4
  t5 := Tryd.underlying5
  a5 := Tryd.isAgg5
  z5 := Tryd.sizeOf5
  v5 := Tryd.zeroValue5
  t9 := Tryd.underlying9
  a9 := Tryd.isAgg9
  z9 := Tryd.sizeOf9
  v9 := Tryd.zeroValue9
  t21 := Tryd.underlying21
  a21 := Tryd.isAgg21
  z21 := Tryd.sizeOf21
  v21 := Tryd.zeroValue21
  t46 := Tryd.underlying90
  a46 := Tryd.isAgg90
  z46 := Tryd.sizeOf90
  v46 := Tryd.zeroValue90
  t119 := Tryd.underlying147
  a119 := Tryd.isAgg147
  z119 := Tryd.sizeOf147
  t138 := Tryd.underlying149
  a138 := Tryd.isAgg149
  z138 := Tryd.sizeOf149
  v138 := Tryd.zeroValue149
  t139 := Tryd.underlying150
  a139 := Tryd.isAgg150
  z139 := Tryd.sizeOf150
  v139 := Tryd.zeroValue150
  g3 := by kernel_rfl
  g4 := by kernel_rfl }
open Go.RowKit Go.Lib in
theorem Tryd.utf8_decodeRuneInStringSlow (s : ByteArray) (w : World) (hT : Lib.Utf8Tabs 1 2 w) :
    Calls Tryd.prog 118 #[.string s] w fun e w' => e = .returned (.tuple #[.int .i32 (Lib.decodeGo s).1, .int .i64 (Lib.decodeGo s).2]) ∧ Below w.heap.size w w' := Any.utf8_decodeRuneInStringSlow Tryd.lays260 s w hT
open Go.RowKit Go.Lib in
/-- **unicode/utf8.DecodeRuneInString AT EVERY STRING.** (LAID: no walk: one application.) -/
theorem Tryd.utf8_DecodeRuneInString (s : ByteArray) (w : World) (hT : Lib.Utf8Tabs 1 2 w) :
    Calls Tryd.prog 103 #[.string s] w fun e w' => e = .returned (.tuple #[.int .i32 (Lib.decodeGo s).1, .int .i64 (Lib.decodeGo s).2]) ∧ Below w.heap.size w w' := Any.utf8_DecodeRuneInString Tryd.lays197 s w hT
def Tryd.lays271_ren : Go.Shelf.Ren := ⟨fun | 271 => 105 | 120 => 120 | 197 => 103 | 260 => 118 | n => n, fun | 9 => 9 | 21 => 21 | 3 => 3 | 4 => 4 | 5 => 5 | 105 => 125 | 119 => 147 | 0 => 0 | 46 => 90 | 139 => 150 | 138 => 149 | n => n, fun | 3 => 1 | 4 => 2 | n => n⟩
theorem Tryd.lays271 : Go.Proofs.Lays.n271 Tryd.prog Tryd.lays271_ren := {
  mixed := by kernel_rfl
  f120 := Tryd.func120.trans (congrArg some (by kernel_rfl))
  f197 := Tryd.func103.trans (congrArg some (by kernel_rfl))
  f260 := Tryd.func118.trans (congrArg some (by kernel_rfl))
  f271 := Tryd.func105.trans (congrArg some (by kernel_rfl))
  t0 := Tryd.underlying0
  a0 := Tryd.isAgg0
  z0 := Tryd.sizeOf0
  v0 := Tryd.zeroValue0
  t3 := Tryd.underlying3
  a3 := Tryd.isAgg3
  z3 := Tryd.sizeOf3
  v3 := Tryd.zeroValue3
  t4 := Tryd.underlying4
  a4 := Tryd.isAgg4
  z4 := Tryd.sizeOf4
  v4 := Tryd.zeroValue4
  t5 := Tryd.underlying5
  a5 := Tryd.isAgg5
  z5 := Tryd.sizeOf5
  v5 := Tryd.zeroValue5
  t9 := Tryd.underlying9
  a9 := Tryd.isAgg9
  z9 := Tryd.sizeOf9
  v9 := Tryd.zeroValue9
  t21 := Tryd.underlying21
  a21 := Tryd.isAgg21
  z21 := Tryd.sizeOf21
  v21 := Tryd.zeroValue21
  t46 := Tryd.underlying90
  a46 := Tryd.isAgg90
  z46 := Tryd.sizeOf90
  v46 := Tryd.zeroValue90
  t105 := Tryd.underlying125
  a105 := Tryd.isAgg125
  z105 := Tryd.sizeOf125
  v105 := Tryd.zeroValue125
  t119 := Tryd.underlying147
  a119 := Tryd.isAgg147
  z119 := Tryd.sizeOf147
  t138 := Tryd.underlying149
  a138 := Tryd.isAgg149
  z138 := Tryd.sizeOf149
  v138 := Tryd.zeroValue149
  t139 := Tryd.underlying150
  a139 := Tryd.isAgg150
  z139 := Tryd.sizeOf150
  v139 := Tryd.zeroValue150
  g3 := by kernel_rfl
  g4 := by kernel_rfl }
open Go.RowKit Go.Lib in
/-- **unicode/utf8.DecodeLastRuneInString AT EVERY STRING.** (LAID: no walk: one application.) -/
theorem Tryd.utf8_DecodeLastRuneInString (s : ByteArray) (w : World) (hs : s.size ≤ 9223372036854775807) (hT : Lib.Utf8Tabs 1 2 w) :
    Calls Tryd.prog 105 #[.string s] w fun e w' => e = .returned (.tuple #[.int .i32 (Lib.decodeLastL s.data.toList).1, .int .i64 (Lib.decodeLastL s.data.toList).2]) ∧ Below w.heap.size w w' := Any.utf8_DecodeLastRuneInString Tryd.lays271 s w hs hT
def Tryd.laysNm237_ren : Go.Shelf.Ren := ⟨fun | 37 => 54 | n => n, fun | 3 => 3 | 4 => 4 | n => n, fun | n => n⟩
theorem Tryd.laysNm237 : Go.Proofs.Lays2.n37 Tryd.prog Tryd.laysNm237_ren := {
  mixed := by kernel_rfl
  f37 := Tryd.func54.trans (congrArg some (by kernel_rfl))
  t3 := Tryd.underlying3
  a3 := Tryd.isAgg3
  z3 := Tryd.sizeOf3
  v3 := Tryd.zeroValue3
  t4 := Tryd.underlying4
  a4 := Tryd.isAgg4
  z4 := Tryd.sizeOf4
  v4 := Tryd.zeroValue4 }
open Go.RowKit Go.Lib in
/-- cmp.isNaN[int]: 'x != x': false. (LAID: no walk: one application.) -/
theorem Tryd.cmp_isNaN_int2 (x : Int) (w : World) :
    Calls Tryd.prog 54 #[.int .i64 x] w fun e w' => e = .returned (.bool false) ∧ w' = w := Any.cmp_isNaN_int2 Tryd.laysNm237 x w
open Go.RowKit Go.Sort in
/-- .. and plain. (LAID: no walk: one application.) -/
theorem Tryd.slices_Sort_string_none (p : Option Addr) (cap : Nat) (w : World) :
    Calls Tryd.prog 52 #[.slice p 0 cap] w fun e w' => e = .returned (.tuple #[]) ∧ w' = w := Any.slices_Sort_string_none Tryd.lays190 p cap w
end Go.Proofs

/- THE SEAT's contracts: texts sorted; texts gathered from a map. -/
namespace Go.Proofs.YtcflenomogpdbaaDoor.Ab
open Go Go.RowKit

theorem strs_rel2 {m : Emb} : ∀ {cs : List AV} {xs : List (List UInt8)} {vs : List Value}, strsOf cs = some xs → RelL F m cs vs → vs = xs.map fun s => Value.string ⟨s.toArray⟩
  | [], xs, vs, h, hr => by
    simp only [strsOf, Option.some.injEq] at h
    subst h
    simpa only [RelL, List.map_nil] using hr
  | .str s :: cs, xs, vs, h, hr => by
    simp only [strsOf, Option.map_eq_some_iff] at h
    obtain ⟨ys, hy, rfl⟩ := h
    simp only [RelL] at hr
    obtain ⟨v, vs', rfl, h1, h2⟩ := hr
    rw [rel_str h1, strs_rel2 hy h2]
    rfl
  | .int .. :: _, _, _, h, _ | .bool _ :: _, _, _, h, _ | .nilS :: _, _, _, h, _ | .empS :: _, _, _, h, _ | .slice .. :: _, _, _, h, _ | .nilP :: _, _, _, h, _ | .ptr .. :: _, _, _, h, _ | .nilM :: _, _, _, h, _ | .map _ :: _, _, _, h, _
  | .iter _ :: _, _, _, h, _ | .fn .. :: _, _, _, h, _ | .nilF :: _, _, _, h, _ | .agg _ :: _, _, _, h, _ | .tup _ :: _, _, _, h, _ | .nilI :: _, _, _, h, _ | .ifc :: _, _, _, h, _ | .undef :: _, _, _, h, _ => by simp [strsOf] at h
theorem strs_map : ∀ (L : List (List UInt8)) (m : Emb), RelL F m (L.map AV.str) (L.map encStr)
  | [], _ => by simp [RelL]
  | s :: L, m => by
    simp only [List.map_cons, RelL]
    exact ⟨_, _, rfl, by simp [RelV, encStr], strs_map L m⟩
theorem put_set {w : World} {blk off : Nat} {d : Array (List UInt8)} (hH : Go.Sort.Holds encStr w blk off d) {xs : List (List UInt8)} (hl : xs.length = d.size) : Go.Sort.putRow encStr w blk off xs.toArray = w.setCells blk off (xs.map encStr) := by
  have h1 := Go.Lib.putRow_setCells encStr w blk off xs d 0 (by omega)
  rw [Go.Sort.putRow_self encStr w blk off d hH, Nat.add_zero] at h1
  rw [h1]
  congr 1
  apply Array.ext_getElem?
  intro j
  rw [Go.Lib.lay_get? xs d 0 j (by omega)]
  by_cases hj : j < xs.length
  · rw [if_pos ⟨Nat.zero_le _, by omega⟩, Nat.sub_zero]; simp
  · rw [if_neg (by omega), Array.getElem?_eq_none (by simp; omega), Array.getElem?_eq_none (by omega)]
theorem x_SortS : ExtAtW Go.Proofs.Tryd.prog F 275 xSortS := by
  intro xs h r h' hr
  have one : ∀ {x : AV} {args : Array Value} {m : Emb}, RelL F m [x] args.toList → ∃ u, args = #[u] ∧ RelV F m x u := by
    intro x args m h
    simp only [RelL] at h
    obtain ⟨u, l, e1, h1, rfl⟩ := h
    exact ⟨u, by rw [← Array.toArray_toList (xs := args), e1], h1⟩
  have unit : ∀ {m : Emb}, RelV F m (.tup []) (.tuple #[]) := by simp [RelV, RelL]
  unfold xSortS at hr
  split at hr
  · cases hr
    refine ⟨by decide +kernel, fun base m w args hrel hx => ?_⟩
    obtain ⟨u, rfl, h1⟩ := one hx
    simp only [RelV] at h1
    subst h1
    refine (Tryd.slices_Sort_string_none none 0 w).mono ?_
    rintro e w' ⟨rfl, rfl⟩
    exact ⟨_, m, rfl, unit, StepR.refl hrel⟩
  · cases hr
    refine ⟨by decide +kernel, fun base m w args hrel hx => ?_⟩
    obtain ⟨u, rfl, h1⟩ := one hx
    simp only [RelV] at h1
    obtain ⟨a, rfl⟩ := h1
    refine (Tryd.slices_Sort_string_none (some a) 0 w).mono ?_
    rintro e w' ⟨rfl, rfl⟩
    exact ⟨_, m, rfl, unit, StepR.refl hrel⟩
  · rename_i hh c k off n e
    split at hr
    · rename_i hcond
      obtain ⟨rfl, hn1, hnm⟩ := hcond
      split at hr
      · rename_i cs hcs
        split at hr
        · rename_i ss hss
          rw [Option.map_eq_some_iff] at hr
          obtain ⟨h2, hw, hr⟩ := hr
          cases hr
          refine ⟨by decide +kernel, fun base m w args hrel hx => ?_⟩
          obtain ⟨u, rfl, h1⟩ := one hx
          simp only [RelV] at h1
          obtain ⟨p, o, cap, hp, rfl, hcap, hpl⟩ := h1
          obtain ⟨q1, rfl, q3, q4⟩ := hpl.resolve_left (by omega)
          obtain ⟨vs, n1, n2, n3⟩ := hrel.row_at hcs hp (by omega) (by omega)
          have hvs := strs_rel2 hss n1
          have hsl : ss.length = n := by rw [← n2, hvs, List.length_map]
          have hsrt : (ss.mergeSort fun x y => decide (x ≤ y)).length = n := by rw [List.length_mergeSort, hsl]
          have hwc := wr_cells hrel hw hp (by omega) (by rw [List.length_map, hsrt]; omega)
          rw [List.length_map, hsrt] at hwc
          have hH : Go.Sort.Holds encStr w p.blk (p.base + (off - p.lo)) ss.toArray := by
            intro j hj
            have hj' : j < n := by simpa [hsl] using hj
            refine ⟨?_, (hwc j hj').2⟩
            apply n3
            rw [hvs, List.getElem?_map]
            have hjs : j < ss.length := by omega
            rw [List.getElem?_eq_getElem hjs]
            have : ss.toArray[j]! = ss[j] := by
              rw [getElem!_pos _ j (by simpa using hjs)]; simp
            rw [this]
            simp [encStr]
          have hblk := hrel.ltr c k p hp
          have := Tryd.slices_Sort_string p.blk (p.base + (off - p.lo)) cap ss w hH hblk (by omega)
          rw [hsl] at this
          refine this.mono ?_
          rintro e w' ⟨rfl, q, os, rfl⟩
          refine ⟨_, m, rfl, unit, ?_⟩
          have st0 : StepR F base m h w m h (Go.Sort.ahead w q) := StepR.draw hrel rfl rfl rfl rfl
          have hH2 : Go.Sort.Holds encStr (Go.Sort.ahead w q) p.blk (p.base + (off - p.lo)) ss.toArray := hH
          have e2 := put_set hH2 (xs := ss.mergeSort fun x y => decide (x ≤ y)) (by rw [hsrt]; simp [hsl])
          rw [e2]
          have st1 := wr_set (P := Go.Proofs.Tryd.prog) st0.rel hw hp (by omega) (by rw [List.length_map, hsrt]; omega) (strs_map _ m) (by
            intro v hv
            obtain ⟨s, _, rfl⟩ := List.mem_map.1 hv
            rfl)
          refine st0.trans (st1.trans ?_)
          refine StepR.grown st1.rel (fun b hb => ?_) (by simp [Go.Sort.grow]) rfl rfl rfl
          simp only [Go.Sort.grow]
          rw [Array.getElem?_append_left hb]
        · cases hr
      · cases hr
    · cases hr
  · cases hr
end Go.Proofs.YtcflenomogpdbaaDoor.Ab

/- THE SEAT's contracts of strings, out of the shelf. -/
namespace Go.Proofs.YtcflenomogpdbaaDoor.Ab
open Go Go.RowKit Go.Shelf

section
variable {m : Emb} {args : Array Value}
theorem rel_two {x y : AV} (h : RelL F m [x, y] args.toList) : ∃ u v, args = #[u, v] ∧ RelV F m x u ∧ RelV F m y v := by
  simp only [RelL] at h
  obtain ⟨u, l, e1, h1, v, l2, rfl, h2, rfl⟩ := h
  exact ⟨u, v, by rw [← Array.toArray_toList (xs := args), e1], h1, h2⟩
end

theorem x_Count : ExtAt Go.Proofs.Tryd.prog F 131 xCount := by
  intro xs r hr
  unfold xCount at hr
  split at hr
  · rename_i s c
    cases hr
    refine ⟨by decide +kernel, fun m w args hx => ?_⟩
    obtain ⟨u, v, rfl, h1, h2⟩ := rel_two hx
    rw [rel_str h1, rel_str h2]
    refine (Tryd.strings_Count_one ⟨s.toArray⟩ c w).mono ?_
    rintro e w' ⟨rfl, rfl⟩
    exact ⟨_, rfl, by simp only [RelV], Below.refl _ _⟩
  · cases hr
theorem x_Contains : ExtAt Go.Proofs.Tryd.prog F 126 xContains := by
  intro xs r hr
  unfold xContains at hr
  split at hr
  · rename_i s c
    cases hr
    refine ⟨by decide +kernel, fun m w args hx => ?_⟩
    obtain ⟨u, v, rfl, h1, h2⟩ := rel_two hx
    rw [rel_str h1, rel_str h2]
    refine (Tryd.strings_Contains_one ⟨s.toArray⟩ c w).mono ?_
    rintro e w' ⟨rfl, rfl⟩
    exact ⟨_, rfl, by simp only [RelV], Below.refl _ _⟩
  · cases hr
theorem x_Index : ExtAt Go.Proofs.Tryd.prog F 194 xIndex := by
  intro xs r hr
  unfold xIndex at hr
  split at hr
  · rename_i s c
    cases hr
    refine ⟨by decide +kernel, fun m w args hx => ?_⟩
    obtain ⟨u, v, rfl, h1, h2⟩ := rel_two hx
    rw [rel_str h1, rel_str h2]
    refine (Tryd.strings_Index_one ⟨s.toArray⟩ c w).mono ?_
    rintro e w' ⟨rfl, rfl⟩
    exact ⟨_, rfl, by simp only [RelV], Below.refl _ _⟩
  · cases hr
theorem x_IndexByte : ExtAt Go.Proofs.Tryd.prog F 190 xIndexByte := by
  intro xs r hr
  unfold xIndexByte at hr
  split at hr
  · rename_i s c
    cases hr
    refine ⟨by decide +kernel, fun m w args hx => ?_⟩
    obtain ⟨u, v, rfl, h1, h2⟩ := rel_two hx
    rw [rel_str h1, rel_int h2]
    refine (Tryd.strings_IndexByte ⟨s.toArray⟩ c w).mono ?_
    rintro e w' ⟨rfl, rfl⟩
    exact ⟨_, rfl, by simp only [RelV], Below.refl _ _⟩
  · cases hr
theorem x_Trim : ExtAt Go.Proofs.Tryd.prog F 111 xTrim := by
  intro xs r hr
  unfold xTrim at hr
  split at hr
  · rename_i s c
    split at hr
    · rename_i hc
      obtain ⟨h1, h2, h3⟩ := hc
      cases hr
      refine ⟨by decide +kernel, fun m w args hx => ?_⟩
      obtain ⟨u, v, rfl, g1, g2⟩ := rel_two hx
      rw [rel_str g1, rel_str g2]
      have hsz : ∀ l : List UInt8, (⟨l.toArray⟩ : ByteArray).size = l.length := fun _ => rfl
      refine (Any.strings_Trim_laid Tryd.lays160 (by kernel_rfl) ⟨s.toArray⟩ ⟨c.toArray⟩ w (by rw [hsz]; omega) (by rw [hsz]; omega) ?_).mono ?_
      · intro j b hb
        have := List.all_eq_true.1 h3 b (List.mem_of_getElem? hb)
        simpa using this
      · rintro e w' ⟨rfl, hb⟩
        exact ⟨_, rfl, by simp only [RelV], hb⟩
    · cases hr
  · cases hr

theorem x_Repeat : ExtAt Go.Proofs.Tryd.prog F 123 xRepeat := by
  intro xs r hr
  unfold xRepeat at hr
  split at hr
  · rename_i s n
    split at hr
    · rename_i hc
      obtain ⟨h1, h2, h3⟩ := hc
      cases hr
      refine ⟨by decide +kernel, fun m w args hx => ?_⟩
      obtain ⟨u, v, rfl, g1, g2⟩ := rel_two hx
      obtain ⟨c, rfl⟩ : ∃ c : Nat, n = c := ⟨n.toNat, by omega⟩
      rw [rel_str g1, rel_int g2]
      have hsz : ∀ l : List UInt8, (⟨l.toArray⟩ : ByteArray).size = l.length := fun _ => rfl
      refine (Tryd.strings_Repeat ⟨s.toArray⟩ c w (by omega) (by rw [hsz]; simpa using h3)).mono ?_
      rintro e w' ⟨rfl, hb⟩
      exact ⟨_, rfl, by simp only [RelV, Int.toNat_natCast], hb⟩
    · cases hr
  · cases hr
theorem strs_rel {m : Emb} : ∀ {cs : List AV} {xs : List (List UInt8)} {vs : List Value}, strsOf cs = some xs → RelL F m cs vs → vs = xs.map fun s => Value.string ⟨s.toArray⟩
  | [], xs, vs, h, hr => by
    simp only [strsOf, Option.some.injEq] at h
    subst h
    simpa only [RelL, List.map_nil] using hr
  | .str s :: cs, xs, vs, h, hr => by
    simp only [strsOf, Option.map_eq_some_iff] at h
    obtain ⟨ys, hy, rfl⟩ := h
    simp only [RelL] at hr
    obtain ⟨v, vs', rfl, h1, h2⟩ := hr
    rw [rel_str h1, strs_rel hy h2]
    rfl
  | .int .. :: _, _, _, h, _ | .bool _ :: _, _, _, h, _ | .nilS :: _, _, _, h, _ | .empS :: _, _, _, h, _ | .slice .. :: _, _, _, h, _ | .nilP :: _, _, _, h, _ | .ptr .. :: _, _, _, h, _ | .nilM :: _, _, _, h, _ | .map _ :: _, _, _, h, _
  | .iter _ :: _, _, _, h, _ | .fn .. :: _, _, _, h, _ | .nilF :: _, _, _, h, _ | .agg _ :: _, _, _, h, _ | .tup _ :: _, _, _, h, _ | .nilI :: _, _, _, h, _ | .ifc :: _, _, _, h, _ | .undef :: _, _, _, h, _ => by simp [strsOf] at h
theorem xok : ExtOk Go.Proofs.Tryd.prog F E := by
  refine ext_ok ?_ ?_ ?_
  · intro x hx
    simp only [xtab, List.mem_cons, List.not_mem_nil, or_false] at hx
    rcases hx with rfl | rfl | rfl | rfl | rfl | rfl
    · exact x_Trim.h
    · exact x_IndexByte.h
    · exact x_Index.h
    · exact x_Contains.h
    · exact x_Count.h
    · exact x_Repeat.h
  · intro x hx
    simp only [ytab, List.mem_cons, List.not_mem_nil, or_false] at hx
    subst hx; exact x_SortS
  · intro x hx
    simp only [ztab, List.mem_cons, List.not_mem_nil, or_false] at hx
    all_goals cases hx
/-- ALL OF IT: what the machine says, the program does. -/
theorem all_sound : ∀ n, Sound Go.Proofs.Tryd.prog F (evF T E n) := sound hT xok
end Go.Proofs.YtcflenomogpdbaaDoor.Ab

/- RULES for the simplifier: reckoning through a body. What is still to come is hidden from it behind a tag. -/
namespace Go.Proofs.YtcflenomogpdbaaDoor.Ab
open Go

inductive Tag {α : Sort _} (a : α) : Type
  | k

/-- A function's answer. -/
def S (f : Nat) (xs : List AV) (h : AH) (post : AV → AH → Prop) (_ : Tag post) : Prop := Spec T E f xs h post
def Cx (c : C) (e : Env) (h : AH) (R : X → Env → AH → Prop) (_ : Tag c) (_ : Tag R) : Prop := WC T E c e h R
def Rx (is : List I) (e : Env) (h : AH) (Q : Env → AH → Prop) (_ : Tag is) (_ : Tag Q) : Prop := WR T E is e h Q
def Ox (o : Option (AV × AH)) (K : AV → AH → Prop) (_ : Tag K) : Prop := WO o K
/-- A branch: not gone into before it is known. -/
def WB (v : AV) (K : Bool → Prop) (_ : Tag K) : Prop := match v with
  | .bool t => K t
  | _ => False
def WF (v : AV) (K : Nat → List AV → Prop) (_ : Tag K) : Prop := match v with
  | .fn f cap => K f cap
  | _ => False
def WI (t : Bool) (A B : Prop) (_ : Tag A) (_ : Tag B) : Prop := if t = true then A else B
abbrev k {α : Sort _} {a : α} : Tag a := Tag.k

theorem WB_true {K : Bool → Prop} : WB (.bool true) K k = K true := rfl
theorem WB_false {K : Bool → Prop} : WB (.bool false) K k = K false := rfl
theorem WI_true {A B : Prop} : WI true A B k k = A := by simp [WI]
theorem WI_false {A B : Prop} : WI false A B k k = B := by simp [WI]
theorem WF_fn {f : Nat} {cap : List AV} {K : Nat → List AV → Prop} : WF (.fn f cap) K k = K f cap := rfl
theorem beq_tt : (true == true) = true := rfl
theorem beq_ff : (false == false) = true := rfl
theorem beq_tf : (true == false) = false := rfl
theorem beq_ft : (false == true) = false := rfl
theorem WB_dec {p : Prop} [Decidable p] {K : Bool → Prop} (h1 : p → K true) (h2 : ¬ p → K false) : WB (.bool (decide p)) K k := by
  by_cases h : p
  · simp [h, WB]; exact h1 h
  · simp [h, WB]; exact h2 h
theorem WB_cases {b : Bool} {K : Bool → Prop} (h1 : b = true → K true) (h2 : b = false → K false) : WB (.bool b) K k := by
  cases b
  · exact h2 rfl
  · exact h1 rfl

section
variable {e : Env} {h : AH} {Q : Env → AH → Prop} {R : X → Env → AH → Prop}

theorem w_skip : Cx .skip e h R k k = R .normal e h := propext WC_skip
theorem w_ret : Cx .ret e h R k k = R .ret e h := propext WC_ret
theorem w_exit {i : Nat} : Cx (.exit i) e h R k k = R (.exit i) e h := propext WC_exit
theorem w_reg {is : List I} : Cx (.reg is) e h R k k = Rx is e h (R .normal) k k := propext WC_reg
theorem w_drw0 {is : List I} : Cx (.drw is []) e h R k k = Rx is e h (R .normal) k k := by
  have key : ∀ cf, evDraw cf is [] e h = evR cf is e h := fun cf => by
    unfold evDraw; rw [if_pos]; intro p hp; cases hp
  apply propext
  unfold Cx Rx WC WR
  simp only [evC, key]
  constructor
  · rintro ⟨n, x, e', h', hev, hq⟩
    simp only [Option.map_eq_some_iff, Prod.mk.injEq] at hev
    obtain ⟨⟨e1, h1⟩, hev, rfl, rfl, rfl⟩ := hev
    exact ⟨n, e1, h1, hev, hq⟩
  · rintro ⟨n, e', h', hev, hq⟩
    exact ⟨n, .normal, e', h', by rw [hev]; rfl, hq⟩
theorem w_kl {ts : List Nat} {c : C} : Cx (.kl ts c) e h R k k = Cx c (e.dels ts) h R k k := propext WC_kl
theorem w_seq {a b : C} : Cx (.seq a b) e h R k k = Cx a e h (then' (fun e' h' => Cx b e' h' R k k) R) k k := propext (WC_seq hE)
theorem w_blk {i : Nat} {c : C} : Cx (.blk i c) e h R k k = Cx c e h (inBlk i R) k k := propext WC_blk
theorem w_cond {x : Opd} {a b : C} : Cx (.cond x a b) e h R k k = WB (env e x) (fun t => WI t (Cx a e h R k k) (Cx b e h R k k) k k) k := by
  apply propext
  unfold Cx
  cases hx : env e x with
  | bool t => rw [WC_cond hx]; simp only [WB, WI]
  | _ =>
    simp only [WB, iff_false]
    rintro ⟨n, y, e', h', hev, _⟩
    simp [evC, hx] at hev
theorem w_loop {c : C} : Cx (.loop c) e h R k k = Cx c e h (then' (fun e' h' => Cx (.loop c) e' h' R k k) R) k k := propext (WC_loop hE)
theorem w_loopb {c d : C} (hd : d = c) : Cx (.loop c) e h R k k = Cx d e h (then' (fun e' h' => Cx (.loop c) e' h' R k k) R) k k := by subst hd; exact w_loop
theorem del_eq (e : Env) (t : Nat) : e.del t = e.filter fun x => x.1 != t := by
  induction e with
  | nil => rfl
  | cons x e ih =>
    obtain ⟨u, v⟩ := x
    simp only [Env.del, List.filter_cons, ih]
    by_cases h : u = t <;> simp [h]
theorem dels_eq : ∀ (ts : List Nat) (e : Env), e.dels ts = e.filter fun x => !ts.contains x.1
  | [], e => by
    simp only [Env.dels, List.contains_nil, Bool.not_false]
    exact (List.filter_eq_self.2 (fun _ _ => rfl)).symm
  | t :: ts, e => by
    rw [Env.dels, dels_eq ts, del_eq, List.filter_filter]
    congr 1
    funext x
    by_cases h : x.1 = t <;> simp [h]
theorem dels_dels (e : Env) (ts : List Nat) : (e.dels ts).dels ts = e.dels ts := by
  rw [dels_eq, dels_eq, List.filter_filter]; simp
/-- At a loop's head the dead slots go. -/
theorem w_loopn {c c' : C} {ts : List Nat} (hc : c = .kl ts c') : Cx (.loop c) e h R k k = Cx (.loop c) (e.dels ts) h R k k := by
  subst hc
  rw [w_loop, w_loop (e := e.dels ts), w_kl, w_kl, dels_dels]
theorem then_n {K : Env → AH → Prop} : then' K R .normal e h = K e h := rfl
theorem then_e {K : Env → AH → Prop} {i : Nat} : then' K R (.exit i) e h = R (.exit i) e h := rfl
theorem then_r {K : Env → AH → Prop} : then' K R .ret e h = R .ret e h := rfl
theorem blk_n {i : Nat} : inBlk i R .normal e h = R .normal e h := rfl
theorem blk_r {i : Nat} : inBlk i R .ret e h = R .ret e h := rfl
theorem blk_e {i j : Nat} : inBlk i R (.exit j) e h = WI (j == i) (R .normal e h) (R (.exit j) e h) k k := by simp [inBlk, WI]

theorem w_nil : Rx [] e h Q k k = Q e h := propext WR_nil
def WOp (d : Option Nat) (op : AOp) (is : List I) (e : Env) (h : AH) (Q : Env → AH → Prop) (_ : Tag is) (_ : Tag Q) : Prop := match op with
  | .call f xs => S f (xs.map (env e)) h (fun v h' => Rx is (put e d v) h' Q k k) k
  | .callv x xs => WF (env e x) (fun f cap => S f (xs.map (env e) ++ cap) h (fun v h' => Rx is (put e d v) h' Q k k) k) k
  | op => Ox (evOp noCall (env e) h op) (fun v h' => Rx is (put e d v) h' Q k k) k
theorem w_op {d : Option Nat} {op : AOp} {is : List I} : Rx (⟨d, op, none⟩ :: is) e h Q k k = WOp d op is e h Q k k := by
  apply propext
  unfold Rx
  cases op <;> first
    | exact WR_op rfl
    | exact WR_call hE
    | (rename_i x xs
       simp only [WOp]
       cases hx : env e x with
       | fn f cap => rw [WR_callv hE hx]; rfl
       | _ =>
         simp only [WF, iff_false]
         rintro ⟨n, e', h', hev, _⟩
         simp [evR, evI, evOp, hx] at hev)
/-- A guard: heard, not heard, or on what was not done. -/
def WG (v : AV) (K : Bool → Prop) (A : Prop) (_ : Tag K) (_ : Tag A) : Prop := match v with
  | .bool t => K t
  | .tup [] => A
  | _ => False
theorem WG_bool {b : Bool} {K : Bool → Prop} {A : Prop} : WG (.bool b) K A k k = WB (.bool b) K k := rfl
theorem WG_skp {K : Bool → Prop} {A : Prop} : WG (.tup []) K A k k = A := rfl
theorem w_grd {d : Option Nat} {op : AOp} {is : List I} {t : Nat} {want : Bool} : Rx (⟨d, op, some (t, want)⟩ :: is) e h Q k k = WG (e.get t) (fun b => WI (b == want) (Rx (⟨d, op, none⟩ :: is) e h Q k k) (Rx is (put e d (.tup [])) h Q k k) k k) (Rx is (put e d (.tup [])) h Q k k) k k := by
  apply propext
  unfold Rx
  have bad : (∀ b, e.get t ≠ .bool b) → e.get t ≠ .tup [] → ¬ WR T E (⟨d, op, some (t, want)⟩ :: is) e h Q := by
    rintro h1 h2 ⟨n, e', h', hev, _⟩
    simp only [evR, evI] at hev
    cases hev
  cases hx : e.get t with
  | bool b => rw [WR_grd hx]; simp only [WG, WI, beq_iff_eq]
  | tup l =>
    cases l with
    | nil => rw [WR_grd0 hx]; rfl
    | cons a l =>
      simp only [WG, iff_false]
      exact bad (by rw [hx]; intro b; simp) (by rw [hx]; simp)
  | _ =>
    simp only [WG, iff_false]
    exact bad (by rw [hx]; intro b; simp) (by rw [hx]; simp)

theorem O_some {v : AV} {h : AH} {K : AV → AH → Prop} : Ox (some (v, h)) K k = K v h := rfl
theorem O_map {β : Type} {f : β → AV × AH} {b : β} {K : AV → AH → Prop} : Ox ((some b).map f) K k = K (f b).1 (f b).2 := rfl
theorem O_if {c : Prop} [Decidable c] {x : Option (AV × AH)} {K : AV → AH → Prop} : Ox (if c then x else none) K k = (c ∧ Ox x K k) := by
  unfold Ox; split <;> simp [*, WO]
theorem O_mapif {β : Type} {c : Prop} [Decidable c] {f : β → AV × AH} {x : Option β} {K : AV → AH → Prop} : Ox ((if c then x else none).map f) K k = (c ∧ Ox (x.map f) K k) := by
  unfold Ox; split <;> simp [*, WO]
theorem O_ite {c : Prop} [Decidable c] {x y : Option (AV × AH)} {K : AV → AH → Prop} : Ox (if c then x else y) K k = if c then Ox x K k else Ox y K k := by
  split <;> rfl

/-- Into a function of the table. -/
theorem S_of {f : Nat} {xs : List AV} {post : AV → AH → Prop} {fi : FI} (hEf : E f = none) (hT : T f = some fi)
    (hw : Cx fi.body (Env.init 0 xs) h (fun x e' h' => (x = .normal ∨ x = .ret) ∧ ∃ r, resV e' h' fi.res = some r ∧ post r h') k k) : S f xs h post k := Spec_of hEf hT hw
theorem S_ext {f : Nat} {xs : List AV} {post : AV → AH → Prop} {G : List AV → AH → Option AV} {r : AV} (hEf : E f = some (pureX G)) (hG : G xs h = some r) (hp : post r h) : S f xs h post k := Spec_ext hEf 0 (by simp [pureX, hG]) hp
theorem S_mono {f : Nat} {xs : List AV} {post post' : AV → AH → Prop} (hs : S f xs h post k) (hp : ∀ r h', post r h' → post' r h') : S f xs h post' k := Spec.mono hs hp
theorem Cx_mono {c : C} {R' : X → Env → AH → Prop} (hs : Cx c e h R k k) (hp : ∀ x e' h', R x e' h' → R' x e' h') : Cx c e h R' k k := WC.mono hs hp
end

/- The rules above, in bundles. -/
theorem zP : type_of% @w_kl ∧ type_of% @w_seq ∧ type_of% @w_reg ∧ type_of% @w_drw0 ∧ type_of% @w_blk ∧ type_of% @then_n ∧ type_of% @then_e ∧ type_of% @then_r ∧ type_of% @blk_n ∧
   type_of% @blk_e ∧ type_of% @blk_r ∧ type_of% @List.map_cons.{0,0} ∧ type_of% @List.map_nil.{0,0} := ⟨@w_kl, @w_seq, @w_reg, @w_drw0, @w_blk, @then_n, @then_e, @then_r, @blk_n,
   @blk_e, @blk_r, @List.map_cons.{0,0}, @List.map_nil.{0,0}⟩
theorem zW : type_of% @w_op ∧ type_of% @w_nil ∧ type_of% @w_cond ∧ type_of% @w_skip ∧ type_of% @w_exit ∧ type_of% @w_ret ∧ type_of% @w_grd ∧ type_of% @WG_bool ∧ type_of% @WG_skp ∧
   type_of% @WB_true ∧ type_of% @WB_false ∧ type_of% @WI_true ∧ type_of% @WI_false ∧ type_of% @WF_fn ∧ type_of% @beq_tt ∧ type_of% @beq_ff ∧ type_of% @beq_tf ∧ type_of% @beq_ft ∧
   type_of% @O_some ∧ type_of% @O_if ∧ type_of% @O_mapif ∧ type_of% @O_map ∧ type_of% @List.nil_append.{0} ∧ type_of% @List.cons_append.{0} ∧ type_of% @List.append_nil.{0} ∧
   type_of% @if_true.{1} ∧ type_of% @if_false.{1} ∧ type_of% @Option.map_some.{0,0} ∧ type_of% @Option.map_none.{0,0} ∧ type_of% @Option.bind_some.{0,0} ∧ type_of%
   @Option.some.injEq.{0} ∧ type_of% @Bool.not_true ∧ type_of% @Bool.not_false ∧ type_of% @Bool.false_eq_true ∧ type_of% @Bool.true_eq_false ∧ type_of% @decide_true ∧ type_of%
   @decide_false ∧ type_of% @true_and ∧ type_of% @and_true ∧ type_of% @false_and ∧ type_of% @and_false ∧ type_of% @true_or ∧ type_of% @or_true ∧ type_of% @false_or ∧ type_of%
   @or_false ∧ type_of% @Int.lt_irrefl ∧ type_of% @List.getElem?_cons_zero.{0} ∧ type_of% @List.getElem?_cons_succ.{0} ∧ type_of% @exists_eq_left'.{1} ∧ type_of%
   @List.length_cons.{0} ∧ type_of% @List.length_nil.{0} ∧ type_of% @List.all_cons.{0} ∧ type_of% @List.all_nil.{0} ∧ type_of% @List.take_succ_cons.{0} ∧ type_of%
   @List.take_zero.{0} ∧ type_of% @List.take_nil.{0} ∧ type_of% @List.drop_succ_cons.{0} ∧ type_of% @List.drop_zero.{0} ∧ type_of% @List.drop_nil.{0} ∧ type_of% @Bool.and_true ∧
   type_of% @Bool.true_and ∧ type_of% @Bool.false_and ∧ type_of% @Bool.and_false ∧ type_of% @Bool.and_self ∧ type_of% @Nat.le_refl ∧ type_of% @and_self ∧ type_of% @Nat.zero_add ∧
   type_of% @Int.toNat_natCast ∧ type_of% @Int.natCast_nonneg := ⟨@w_op, @w_nil, @w_cond, @w_skip, @w_exit, @w_ret, @w_grd, @WG_bool, @WG_skp, @WB_true, @WB_false, @WI_true,
   @WI_false, @WF_fn, @beq_tt, @beq_ff, @beq_tf, @beq_ft, @O_some, @O_if, @O_mapif, @O_map, @List.nil_append.{0}, @List.cons_append.{0}, @List.append_nil.{0}, @if_true.{1},
   @if_false.{1}, @Option.map_some.{0,0}, @Option.map_none.{0,0}, @Option.bind_some.{0,0}, @Option.some.injEq.{0}, @Bool.not_true, @Bool.not_false, @Bool.false_eq_true,
   @Bool.true_eq_false, @decide_true, @decide_false, @true_and, @and_true, @false_and, @and_false, @true_or, @or_true, @false_or, @or_false, @Int.lt_irrefl,
   @List.getElem?_cons_zero.{0}, @List.getElem?_cons_succ.{0}, @exists_eq_left'.{1}, @List.length_cons.{0}, @List.length_nil.{0}, @List.all_cons.{0}, @List.all_nil.{0},
   @List.take_succ_cons.{0}, @List.take_zero.{0}, @List.take_nil.{0}, @List.drop_succ_cons.{0}, @List.drop_zero.{0}, @List.drop_nil.{0}, @Bool.and_true, @Bool.true_and,
   @Bool.false_and, @Bool.and_false, @Bool.and_self, @Nat.le_refl, @and_self, @Nat.zero_add, @Int.toNat_natCast, @Int.natCast_nonneg⟩
theorem zL : type_of% @true_and ∧ type_of% @Nat.le_refl ∧ type_of% @List.length_append.{0} ∧ type_of% @List.length_cons.{0} ∧ type_of% @List.length_nil.{0} ∧ type_of%
   @List.length_map.{0,0} ∧ type_of% @List.length_set.{0} ∧ type_of% @List.length_take.{0} ∧ type_of% @List.length_drop.{0} := ⟨@true_and, @Nat.le_refl, @List.length_append.{0},
   @List.length_cons.{0}, @List.length_nil.{0}, @List.length_map.{0,0}, @List.length_set.{0}, @List.length_take.{0}, @List.length_drop.{0}⟩
end Go.Proofs.YtcflenomogpdbaaDoor.Ab
