/- Part 3 of the proof of a law of the given program: the rules that it leans on, and what the functions that it reaches answer; the conditions stand with each theorem. -/
import Derived.Orders
import Derived.LoopN
import Derived.Test.YtejhhdpfndiliaaGreatDoorProg
import Derived.Laws.IdiomCopy
import Derived.Shelf.Strings.Builder1
import Derived.Shelf.Strings.Builder2
import Derived.Shelf.Strings.OnBuilder
import Derived.Shelf.Strings.Trim
import Derived.Shelf.Small.Utf8
import Derived.Shelf.Small.Strs
import Derived.Shelf.Strings.BuilderF
import Derived.Shelf.Utf8.RuneCount
import Derived.Shelf.Strings.Search1
import Derived.Shelf.Strings.Search2
import Derived.Shelf.Strings.Search3
import Derived.Shelf.Strings.Count
import Derived.Shelf.LaysM
import Derived.Shelf.Strings.Shaped
import Derived.Shelf.Strings.Prefix
import Derived.Shelf.Strings.Split
import Derived.Shelf.Unicode.Decode
import Derived.Shelf.Strings.Runes
import Derived.Shelf.Strings.RuneCount
import Derived.Shelf.Strings.AsciiSet
import Derived.Shelf.Bits.Mul64
import Derived.Shelf.Strings.Repeat
import Derived.Shelf.Unicode.DecodeSlow
import Derived.Shelf.Unicode.DecodeAny
import Derived.Shelf.Unicode.DecodeLast
import Derived.Shelf.Strings.SlTrimAscii
import Derived.ChangeSame
import Derived.Below
import Derived.WideKeyArgs
import Derived.Carry
import Derived.Deep.Slices
import Derived.Deep.Fields
import Derived.Lib.SmallJoins
import Derived.Test.YtejhhdpfndiliaaGreatDoorQ1
set_option linter.unusedSimpArgs false
set_option linter.unusedVariables false
/- REGIONS in the order in which they stand. -/
namespace Go.Proofs.YtejhhdpfndiliaaGreatDoor.Ab
open Go Go.RowKit

section
variable {P : Program} {F : Nat → Nat} {base : Nat} {m m' : Emb} {h h' : AH} {w w' : World} {e e' : Env} {cf : CF} {nt : Nat} {ops : Array Oper} {Q : Exit → Act → World → Prop}

theorem Act.put_size (a : Act) (d : Option Nat) (v : Value) : (a.put d v).tmps.size = a.tmps.size := by
  cases d <;> simp [Act.put]
theorem Act.put_defs (a : Act) (d : Option Nat) (v : Value) : (a.put d v).defers = a.defers := by
  cases d <;> rfl

theorem chkD_lt {d d' : Option Nat} (h : chkD nt d d' = true) : d = d' ∧ ∀ t, d = some t → t < nt := by
  unfold chkD at h
  simp only [Bool.and_eq_true, decide_eq_true_eq] at h
  obtain ⟨rfl, h2⟩ := h
  refine ⟨rfl, ?_⟩
  rintro t rfl
  simpa using h2

theorem getD_bool {tmps : Array Value} {t : Nat} {b : Bool} (h : tmps.getD t undef = .bool b) : tmps[t]? = some (.bool b) := by
  rw [Array.getD_eq_getD_getElem?] at h
  cases hg : tmps[t]? with
  | some v => rw [hg] at h; simp at h; rw [h]
  | none => rw [hg] at h; simp [undef] at h

/-- One operation, its guard heard. -/
theorem i_wanted {o : Oper} {i : I} {a : Act} (hc : chkG ops o i = true) (he : RelEnv F m e a.tmps) {t : Nat} {want b : Bool} (hg : i.grd = some (t, want)) (hb : e.get t = .bool b) : Region.wanted o (yielded ops a.tmps) = (b == want) := by
  unfold chkG at hc
  rw [hg] at hc
  split at hc
  · rename_i h1 h2; cases h2
  · rename_i j want2 t2 want' h1 h2
    cases h2
    simp only [Bool.and_eq_true, decide_eq_true_eq] at hc
    obtain ⟨rfl, hd⟩ := hc
    have hv := he t
    rw [hb] at hv
    have hv := getD_bool (rel_bool hv)
    simp [Region.wanted, h1, yielded, hd, hv]
  · cases hc
theorem rel_skp : RelV F m (.tup []) undef := by simp only [RelV]; exact ⟨#[], rfl, by simp [RelL]⟩
theorem skp_undef {v : Value} (h : RelV F m (.tup []) v) : v = .tuple #[] := by
  simp only [RelV, RelL] at h
  obtain ⟨vs, rfl, h2⟩ := h
  rw [Array.toList_eq_nil_iff.1 h2]
/-- A guard on what was not done. -/
theorem i_skp {o : Oper} {i : I} {a : Act} (hc : chkG ops o i = true) (he : RelEnv F m e a.tmps) {t : Nat} {want : Bool} (hg : i.grd = some (t, want)) (hb : e.get t = .tup []) : Region.wanted o (yielded ops a.tmps) = false := by
  unfold chkG at hc
  rw [hg] at hc
  split at hc
  · rename_i h1 h2; cases h2
  · rename_i j want2 t2 want' h1 h2
    cases h2
    simp only [Bool.and_eq_true, decide_eq_true_eq] at hc
    obtain ⟨rfl, hd⟩ := hc
    have hv := he t
    rw [hb] at hv
    have hv := skp_undef hv
    have hv2 : a.tmps[t]? ≠ some (.bool true) ∧ a.tmps[t]? ≠ some (.bool false) := by
      rw [Array.getD_eq_getD_getElem?] at hv
      constructor <;> (intro hx; rw [hx] at hv; simp at hv)
    have hy : yielded ops a.tmps j = none := by
      simp only [yielded, hd, Option.bind_some]
      split
      · rename_i b hb
        cases b
        · exact absurd hb hv2.2
        · exact absurd hb hv2.1
      · rfl
    simp [Region.wanted, h1, hy]
  · cases hc
theorem i_free {o : Oper} {i : I} {a : Act} (hc : chkG ops o i = true) (hg : i.grd = none) : Region.wanted o (yielded ops a.tmps) = true := by
  unfold chkG at hc
  rw [hg] at hc
  split at hc
  · rename_i h1 _; simp [Region.wanted, h1]
  · rename_i h1 h2; cases h2
  · cases hc

theorem seq_sound (hs : Sound P F cf) : ∀ (os : List Oper) (is : List I) (l : List Nat) (a : Act) (m : Emb) (e : Env) (h : AH) (w : World), chkIs P F nt ops os is = true → l.map (fun i => ops[i]?) = os.map some → evR cf is e h = some (e', h') →
    RelH F base m h w → RelEnv F m e a.tmps → nt ≤ a.tmps.size →
    (∀ a' w' m', a'.defers = a.defers → nt ≤ a'.tmps.size → RelEnv F m' e' a'.tmps → StepR F base m h w m' h' w' → Q .normal a' w') → wpOps P ops Q l a w
  | [], is, l, a, m, e, h, w, hc, hl, hev, hr, he, hn, hQ => by
    cases is with
    | cons _ _ => simp [chkIs] at hc
    | nil =>
      have : l = [] := by simpa using hl
      subst this
      simp only [evR, Option.some.injEq, Prod.mk.injEq] at hev
      obtain ⟨rfl, rfl⟩ := hev
      exact hQ a w m rfl hn he (StepR.refl hr)
  | o :: os, is, l, a, m, e, h, w, hc, hl, hev, hr, he, hn, hQ => by
    cases is with
    | nil => simp [chkIs] at hc
    | cons i is =>
    cases l with
    | nil => simp at hl
    | cons j l =>
    simp only [List.map_cons, List.cons.injEq] at hl
    obtain ⟨ho, hl⟩ := hl
    simp only [chkIs, Bool.and_eq_true, chkI] at hc
    obtain ⟨⟨⟨hd, hg⟩, hop⟩, hrest⟩ := hc
    obtain ⟨hdd, hdlt⟩ := chkD_lt hd
    simp only [evR] at hev
    split at hev
    case h_2 => cases hev
    rename_i e1 h1 hev1
    have go : ∀ (a1 : Act) (w1 : World) (m1 : Emb), a1.defers = a.defers → nt ≤ a1.tmps.size → RelEnv F m1 e1 a1.tmps → StepR F base m h w m1 h1 w1 → wpOps P ops Q l a1 w1 := by
      intro a1 w1 m1 k1 k2 k3 k4
      refine seq_sound hs os is l a1 m1 e1 h1 w1 hrest hl hev k4.rel k3 k2 ?_
      intro a' w' m' g1 g2 g3 g4
      exact hQ a' w' m' (g1.trans k1) g2 g3 (k4.trans g4)
    have run : (evOp cf (env e) h i.op).map (fun (v, h') => (put e i.dst v, h')) = some (e1, h1) → Region.wanted o (yielded ops a.tmps) = true → wpOps P ops Q (j :: l) a w := by
      intro hev hw
      simp only [Option.map_eq_some_iff, Prod.mk.injEq] at hev
      obtain ⟨⟨v, h2⟩, hv, rfl, rfl⟩ := hev
      simp only [wpOps, ho, hw, if_true]
      refine .inl (Oper.wp_mono ?_ (op_sound hs hr he hop hv Q))
      rintro a2 w2 ⟨v2, m2, rfl, hv2, hst⟩
      refine go _ w2 m2 (Act.put_defs ..) (by rw [Act.put_size]; exact hn) ?_ hst
      rw [← hdd]
      exact (he.mono hst.le).put hv2 o.dst (fun t ht => Nat.lt_of_lt_of_le (hdlt t ht) hn)
    unfold evI at hev1
    split at hev1
    · rename_i hgn
      exact run hev1 (i_free hg hgn)
    · rename_i t want hgs
      split at hev1
      · rename_i b hb
        have hw := i_wanted hg he hgs hb
        split at hev1
        · rename_i hbw
          exact run hev1 (by rw [hw]; simpa using hbw)
        · rename_i hbw
          simp only [Option.some.injEq, Prod.mk.injEq] at hev1
          obtain ⟨rfl, rfl⟩ := hev1
          have hw' : Region.wanted o (yielded ops a.tmps) = false := by rw [hw]; simpa using hbw
          simp only [wpOps, ho, hw', Bool.false_eq_true, if_false]
          refine go _ w m (Act.put_defs ..) (by rw [Act.put_size]; exact hn) ?_ (StepR.refl hr)
          rw [← hdd]
          exact he.put rel_skp o.dst (fun t ht => Nat.lt_of_lt_of_le (hdlt t ht) hn)
      · rename_i hb
        simp only [Option.some.injEq, Prod.mk.injEq] at hev1
        obtain ⟨rfl, rfl⟩ := hev1
        have hw' : Region.wanted o (yielded ops a.tmps) = false := i_skp hg he hgs hb
        simp only [wpOps, ho, hw', Bool.false_eq_true, if_false]
        refine go _ w m (Act.put_defs ..) (by rw [Act.put_size]; exact hn) ?_ (StepR.refl hr)
        rw [← hdd]
        exact he.put rel_skp o.dst (fun t ht => Nat.lt_of_lt_of_le (hdlt t ht) hn)
      · cases hev1

theorem reg_sound (hs : Sound P F cf) {is : List I} {id : Nat} {a : Act} (hc : chkIs P F nt ops ops.toList is = true) (hev : evR cf is e h = some (e', h')) (hr : RelH F base m h w) (he : RelEnv F m e a.tmps) (hn : nt ≤ a.tmps.size)
    (hQ : ∀ a' w' m', a'.defers = a.defers → nt ≤ a'.tmps.size → RelEnv F m' e' a'.tmps → StepR F base m h w m' h' w' → Q .normal a' w') : (Code.region id ops false).wp P Q a w := by
  refine wp_region (seq_sound hs ops.toList is _ a m e h w hc ?_ hev hr he hn hQ)
  apply List.ext_getElem?
  intro i
  simp only [List.getElem?_map, Array.getElem?_toList]
  by_cases hi : i < ops.size
  · rw [List.getElem?_range hi, Array.getElem?_eq_getElem hi]; simp [Array.getElem?_eq_getElem hi]
  · rw [List.getElem?_eq_none (by simpa using hi), Array.getElem?_eq_none (by simpa using hi)]; rfl

end
end Go.Proofs.YtejhhdpfndiliaaGreatDoor.Ab

/- DRAWN ORDERS, first part: what an operation reads and brings; what readers leave. -/
namespace Go.Proofs.YtejhhdpfndiliaaGreatDoor.Ab
open Go Go.RowKit

/-! ### Classes of operations -/
inductive K | q | l | a | m
  deriving DecidableEq
def AOp.kind : AOp → K
  | .load .. | .ofB .. | .look .. | .mlen .. | .subA .. => .l
  | .new .. | .box .. | .lit .. | .toB .. | .make .. | .mkmap | .rng .. => .a
  | .call .. | .callv .. | .store .. | .app .. | .appS .. | .mset .. | .nxt .. | .rngM .. | .ent .. | .copy .. | .clr .. => .m
  | _ => .q

def Opd.ts : Opd → List Nat
  | .t n => [n]
  | .c _ => []
def oOpd : Option Opd → List Opd
  | none => []
  | some x => [x]
def AOp.ods : AOp → List Opd
  | .mov x => [x]
  | .pick c a b => [c, a, b]
  | .bin _ x y | .beq _ x y | .aeq _ _ x y => [x, y]
  | .niq _ _ x | .un _ x | .conv _ x | .toB x | .ofB x | .ofR x => [x]
  | .new _ | .lit0 | .mkmap => []
  | .box x => [x]
  | .build _ ps | .lit _ _ _ ps => ps.map (·.2.2)
  | .load _ _ a => [a]
  | .store _ a x => [a, x]
  | .nck x => [x]
  | .faddr _ _ a => [a]
  | .fld _ _ _ x => [x]
  | .iaddr _ x i | .iaddrA _ _ x i | .idx _ _ _ x i | .idxS x i => [x, i]
  | .sub _ x lo hi | .subS x lo hi | .subA _ _ x lo hi => x :: (oOpd lo ++ oOpd hi)
  | .sub0 x hi mx => [x, hi, mx]
  | .make _ _ l c => [l, c]
  | .mkfn _ cs => cs
  | .look _ _ _ x k => [x, k]
  | .mset _ x k v => [x, k, v]
  | .mlen x | .rng x | .rngM x | .ent x | .nxt x => [x]
  | .prj _ x => [x]
  | .call _ xs => xs
  | .callv x xs => x :: xs
  | .lenS x | .lenV x => [x]
  | .app _ s x | .appS s x | .copy _ s x => [s, x]
  | .clr _ x => [x]
  | .mmx _ x y => [x, y]

theorem optv_congr {ρ ρ' : Opd → AV} {x : Option Opd} (h : ∀ y ∈ oOpd x, ρ y = ρ' y) : optv ρ x = optv ρ' x := by
  cases x with
  | none => rfl
  | some y => simp only [optv]; rw [h y (by simp [oOpd])]

/-- An operation sees its operands alone. -/
theorem evOp_congr {cf : CF} {ρ ρ' : Opd → AV} {h : AH} {op : AOp} (hx : ∀ x ∈ op.ods, ρ x = ρ' x) : evOp cf ρ h op = evOp cf ρ' h op := by
  cases op <;> simp only [AOp.ods] at hx <;> first
    | (simp only [evOp]; done)
    | (rename_i x; have h1 := hx x (by simp); simp only [evOp, h1]; done)
    | (rename_i x; have h1 : List.map ρ x = List.map ρ' x := List.map_congr_left hx; simp only [evOp, h1]; done)
    | (rename_i x y; have h1 := hx x (by simp); have h2 := hx y (by simp); simp only [evOp, h1, h2]; done)
    | (rename_i x y; have h1 := hx y (by simp); simp only [evOp, h1]; done)
    | (rename_i x y; have h1 := hx x (by simp); have h2 : List.map ρ y = List.map ρ' y := List.map_congr_left (fun z hz => hx z (by simp [hz])); simp only [evOp, h1, h2]; done)
    | (rename_i x y z; have h1 := hx x (by simp); have h2 := hx y (by simp); have h3 := hx z (by simp); simp only [evOp, h1, h2, h3]; done)
    | (rename_i x y z; have h2 := hx y (by simp); have h3 := hx z (by simp); simp only [evOp, h2, h3]; done)
    | (rename_i x y z; have h3 := hx z (by simp); simp only [evOp, h3]; done)
    | (rename_i x lo hi; have h1 := hx x (by simp); have h2 : optv ρ lo = optv ρ' lo := optv_congr (fun z hz => hx z (by simp [hz])); have h3 : optv ρ hi = optv ρ' hi := optv_congr (fun z hz => hx z (by simp [hz])); simp only [evOp, h1, h2, h3]; done)
    | (rename_i x y z u; have h1 := hx z (by simp); have h2 := hx u (by simp); simp only [evOp, h1, h2]; done)
    | (rename_i x y z u; have h1 := hx u (by simp); simp only [evOp, h1]; done)
    | (rename_i q x y z; have h1 := hx x (by simp); have h2 := hx y (by simp); have h3 := hx z (by simp); simp only [evOp, h1, h2, h3]; done)
    | (rename_i q x lo hi; have h1 := hx x (by simp); have h2 : optv ρ lo = optv ρ' lo := optv_congr (fun z hz => hx z (by simp [hz])); have h3 : optv ρ hi = optv ρ' hi := optv_congr (fun z hz => hx z (by simp [hz])); simp only [evOp, h1, h2, h3]; done)
    | (rename_i q p x lo hi; have h1 := hx x (by simp); have h2 : optv ρ lo = optv ρ' lo := optv_congr (fun z hz => hx z (by simp [hz])); have h3 : optv ρ hi = optv ρ' hi := optv_congr (fun z hz => hx z (by simp [hz])); simp only [evOp, h1, h2, h3]; done)
    | (rename_i q p s x y; have h1 := hx x (by simp); have h2 := hx y (by simp); simp only [evOp, h1, h2]; done)
    | (rename_i x ps; have h1 : List.map (fun (o, n, x) => (o, n, ρ x)) ps = List.map (fun (o, n, x) => (o, n, ρ' x)) ps := List.map_congr_left (fun z hz => by obtain ⟨o, n, y⟩ := z; simp only; rw [hx y (by simp only [List.mem_map]; exact ⟨_, hz, rfl⟩)]); simp only [evOp, h1]; done)
    | (rename_i q p x ps; have h1 : List.map (fun (o, n, x) => (o, n, ρ x)) ps = List.map (fun (o, n, x) => (o, n, ρ' x)) ps := List.map_congr_left (fun z hz => by obtain ⟨o, n, y⟩ := z; simp only; rw [hx y (by simp only [List.mem_map]; exact ⟨_, hz, rfl⟩)]); simp only [evOp, h1]; done)

/-- Pure ones hear nothing of the heap. -/
theorem evOp_q {cf : CF} {ρ : Opd → AV} {h : AH} {op : AOp} (hk : op.kind = .q) {v : AV} {h' : AH} (hev : evOp cf ρ h op = some (v, h')) (V : AH) : evOp cf ρ V op = some (v, V) := by
  cases op <;> simp only [AOp.kind] at hk <;> first
    | (cases hk; done)
    | (simp only [evOp] at hev ⊢
       first
         | (simp only [Option.some.injEq, Prod.mk.injEq] at hev; obtain ⟨rfl, rfl⟩ := hev; rfl)
         | (simp only [Option.map_eq_some_iff, Prod.mk.injEq] at hev ⊢; obtain ⟨u, hu, rfl, rfl⟩ := hev; exact ⟨u, hu, rfl, rfl⟩)
         | (repeat' split at hev
            all_goals first
              | (cases hev; done)
              | (simp only [Option.some.injEq, Prod.mk.injEq] at hev; obtain ⟨rfl, rfl⟩ := hev; simp [*]; done)
              | (simp only [Option.map_eq_some_iff, Prod.mk.injEq] at hev; obtain ⟨u, hu, rfl, rfl⟩ := hev; simp [*]; done)))

/-- Readers leave the heap as it is. -/
theorem evOp_l_same {cf : CF} {ρ : Opd → AV} {h h' : AH} {op : AOp} (hk : op.kind = .l) {v : AV} (hev : evOp cf ρ h op = some (v, h')) : h' = h := by
  cases op <;> simp only [AOp.kind] at hk <;> first
    | (cases hk; done)
    | (simp only [evOp] at hev
       repeat' split at hev
       all_goals first
         | (cases hev; done)
         | (cases hev; rfl)
         | (simp only [Option.map_eq_some_iff, Prod.mk.injEq] at hev; obtain ⟨u, hu, rfl, rfl⟩ := hev; rfl))
end Go.Proofs.YtejhhdpfndiliaaGreatDoor.Ab

/- REGIONS whose order is drawn: all that turns or reads the heap stands in one order. -/
namespace Go.Proofs.YtejhhdpfndiliaaGreatDoor.Ab
open Go Go.RowKit

/-! ### The checker -/
def mkMask (o : Oper) (acc : List Nat) : Nat := o.after.toList.foldl (fun s e => if Region.binds .any e then s ||| 2 ^ e.on ||| acc.getD e.on 0 else s) 0
def masks : List Oper → List Nat → List Nat
  | [], acc => acc
  | o :: os, acc => masks os (acc ++ [mkMask o acc])
def I.reads (x : I) : List Nat := x.op.ods.flatMap Opd.ts ++ (match x.grd with | some (t, _) => [t] | none => [])
def clashK : K → K → Bool
  | .q, _ | _, .q => false
  | .l, .l => false
  | _, _ => true
def pairOk (ps : List (Nat × Nat)) (i j : Nat) (x y : I) (bit : Bool) : Bool :=
  bit || ((match x.dst, y.dst with
    | some t, some u => decide (t ≠ u)
    | _, _ => true) && (match x.dst with
    | some t => decide (t ∉ y.reads)
    | none => true) && (match y.dst with
    | some t => decide (t ∉ x.reads)
    | none => true) && (!(clashK x.op.kind y.op.kind) || (decide (x.op.kind = .l) && clashK y.op.kind .l && ps.contains (i, j)) || (decide (y.op.kind = .l) && clashK x.op.kind .l && ps.contains (j, i)) || ps.contains (j, j)))
def dstsOk (x y : I) : Bool := match x.dst, y.dst with
  | some t, some u => decide (t ≠ u)
  | _, _ => true
def pairsOk (ps : List (Nat × Nat)) (B : List Nat) (is : List I) (y : I) (j : Nat) : Bool := (List.range j).all fun i => match is[i]? with
  | some x => dstsOk x y && pairOk ps i j x y ((B.getD j 0).testBit i)
  | none => false
def edgesOk : List Oper → Nat → Bool
  | [], _ => true
  | o :: os, i => o.after.toList.all (fun e => !Region.binds .any e || decide (e.on < i)) && edgesOk os (i + 1)
/-- Allocations that may come early: literals and new cells; what they bring, what they answer. -/
def AOp.isEa : AOp → Bool
  | .lit .. | .new _ => true
  | _ => false
def eaC (ρ : Opd → AV) : AOp → Option (List AV)
  | .lit _ _ z qs => fillP z (qs.map fun (o, n, y) => (o, n, ρ y))
  | .new z => some z
  | _ => none
def eaV (c : Nat) : AOp → AV
  | .lit esz len _ _ => .slice c 0 0 len esz
  | .new z => .ptr c 0 0 z.length
  | _ => .undef
def eaW (b : Nat) : AOp → Value
  | .lit _ len _ _ => .slice (some ⟨b, 0, none⟩) len len
  | _ => .pointer (some ⟨b, 0, none⟩)
def eaOk (cs : List AV) : AOp → Prop
  | .lit esz len _ _ => cs.length = len * esz
  | .new z => cs = z
  | _ => False
theorem ea_ev {cf : CF} {ρ : Opd → AV} {h : AH} {op : AOp} (he : op.isEa = true) : evOp cf ρ h op = (eaC ρ op).bind fun cs => (newRow h cs).map fun (c, h') => (eaV c op, h') := by
  cases op <;> simp only [AOp.isEa] at he <;> first
    | (cases he; done)
    | (simp only [evOp, eaC, eaV, Option.bind_some]; done)
    | (rename_i a b z qs
       simp only [evOp, eaC, eaV]
       cases fillP z (qs.map fun (o, n, y) => (o, n, ρ y)) with
       | none => rfl
       | some cs => rfl)
theorem ea_kind {op : AOp} (he : op.isEa = true) : op.kind = .a := by
  cases op <;> simp only [AOp.isEa] at he <;> first
    | (cases he; done)
    | rfl
theorem eaC_congr {ρ ρ' : Opd → AV} {op : AOp} (h : ∀ y ∈ op.ods, ρ y = ρ' y) : eaC ρ op = eaC ρ' op := by
  cases op <;> first
    | rfl
    | (rename_i a b z qs
       simp only [eaC]
       congr 1
       refine List.map_congr_left fun q hq => ?_
       obtain ⟨o', n', y⟩ := q
       simp only
       rw [h y (by simp only [AOp.ods, List.mem_map]; exact ⟨_, hq, rfl⟩)])
/-- An allocation that may be made early: what reads it is done in its turn. -/
def earlyOk (is : List I) (ps : List (Nat × Nat)) : Bool := (List.range is.length).all fun k => !ps.contains (k, k) || (match is[k]? with
  | some ⟨some t, op, none⟩ => op.isEa && ((is.all fun y => decide (t ∉ y.reads) || decide (y.op.kind = .m)) && (List.range is.length).all fun i => match is[i]? with
    | some y => !(decide (y.op.kind = .l)) || ps.contains (i, k)
    | none => true)
  | _ => false)
def drwOk (ops : Array Oper) (is : List I) (ps : List (Nat × Nat)) : Bool :=
  let B := masks ops.toList []
  edgesOk ops.toList 0 && (earlyOk is ps && (List.range is.length).all fun j => match is[j]? with
    | some y => pairsOk ps B is y j
    | none => false)

theorem mask_bit {o : Oper} {acc : List Nat} {i : Nat} (h : (mkMask o acc).testBit i = true) : ∃ e ∈ o.after.toList, Region.binds .any e = true ∧ (i = e.on ∨ (acc.getD e.on 0).testBit i = true) := by
  have gen : ∀ (l : List Edge) (s : Nat), (l.foldl (fun s e => if Region.binds .any e then s ||| 2 ^ e.on ||| acc.getD e.on 0 else s) s).testBit i = true → s.testBit i = true ∨ ∃ e ∈ l, Region.binds .any e = true ∧ (i = e.on ∨ (acc.getD e.on 0).testBit i = true) := by
    intro l
    induction l with
    | nil => intro s h; exact .inl h
    | cons e l ih =>
      intro s h
      simp only [List.foldl_cons] at h
      rcases ih _ h with h1 | ⟨e', he', h2⟩
      · split at h1
        · rename_i hb
          simp only [Nat.testBit_or, Bool.or_eq_true] at h1
          rcases h1 with (h1 | h1) | h1
          · exact .inl h1
          · refine .inr ⟨e, by simp, hb, .inl ?_⟩
            rw [Nat.testBit_two_pow] at h1
            exact (of_decide_eq_true h1).symm
          · exact .inr ⟨e, by simp, hb, .inr h1⟩
        · exact .inl h1
      · exact .inr ⟨e', by simp [he'], h2⟩
  rcases gen _ _ h with h1 | h1
  · simp at h1
  · exact h1

theorem masks_closed {S : Nat → Prop} : ∀ (os : List Oper) (acc : List Nat), (∀ k, k < acc.length → S k → ∀ i, (acc.getD k 0).testBit i = true → S i) →
    (∀ (k : Nat) (o : Oper), os[k]? = some o → S (acc.length + k) → ∀ e ∈ o.after.toList, Region.binds .any e = true → S e.on) → ∀ j, S j → ∀ i, ((masks os acc).getD j 0).testBit i = true → S i
  | [], acc, ha, _, j, hj, i, hb => by
    simp only [masks] at hb
    by_cases hlt : j < acc.length
    · exact ha j hlt hj i hb
    · rw [List.getD_eq_getElem?_getD, List.getElem?_eq_none (by omega)] at hb; simp at hb
  | o :: os, acc, ha, ho, j, hj, i, hb => by
    simp only [masks] at hb
    refine masks_closed os _ ?_ ?_ j hj i hb
    · intro k hk hSk i hb
      simp only [List.length_append, List.length_singleton] at hk
      by_cases hlt : k < acc.length
      · rw [List.getD_eq_getElem?_getD, List.getElem?_append_left hlt, ← List.getD_eq_getElem?_getD] at hb
        exact ha k hlt hSk i hb
      · have hke : k = acc.length := by omega
        subst hke
        rw [List.getD_eq_getElem?_getD, List.getElem?_append_right (Nat.le_refl _)] at hb
        simp only [Nat.sub_self, List.getElem?_cons_zero, Option.getD_some] at hb
        obtain ⟨e, he, hbd, h1⟩ := mask_bit hb
        have hSe := ho 0 o rfl hSk e he hbd
        rcases h1 with rfl | h1
        · exact hSe
        · by_cases hlt2 : e.on < acc.length
          · exact ha _ hlt2 hSe i h1
          · rw [List.getD_eq_getElem?_getD, List.getElem?_eq_none (by omega)] at h1; simp at h1
    · intro k o' hk hS
      refine ho (k + 1) o' (by simpa using hk) ?_
      simp only [List.length_append, List.length_singleton] at hS
      rwa [show acc.length + (k + 1) = acc.length + 1 + k by omega]

theorem edges_get : ∀ (os : List Oper) (b k : Nat) (o : Oper), edgesOk os b = true → os[k]? = some o → ∀ e ∈ o.after.toList, Region.binds .any e = true → e.on < b + k
  | [], _, _, _, _, h => by simp at h
  | o :: os, b, k, o', hc, h => by
    simp only [edgesOk, Bool.and_eq_true] at hc
    intro e he hb
    cases k with
    | zero =>
      simp at h; subst h
      have := List.all_eq_true.1 hc.1 e he
      simpa [hb] using this
    | succ k =>
      have := edges_get os (b + 1) k o' hc.2 (by simpa using h) e he hb
      omega

/-! ### The states between -/
theorem states {cf : CF} : ∀ (is : List I) (e : Env) (h : AH) (e' : Env) (h' : AH), evR cf is e h = some (e', h') → ∃ st : Nat → Env × AH, st 0 = (e, h) ∧ st is.length = (e', h') ∧ ∀ i x, is[i]? = some x → evI cf x (st i).1 (st i).2 = some (st (i + 1))
  | [], e, h, e', h', hev => by
    simp only [evR, Option.some.injEq, Prod.mk.injEq] at hev
    obtain ⟨rfl, rfl⟩ := hev
    exact ⟨fun _ => (e, h), rfl, rfl, fun i x hx => by simp at hx⟩
  | x :: is, e, h, e', h', hev => by
    simp only [evR] at hev
    split at hev
    · rename_i e1 h1 h2
      obtain ⟨st, s0, sn, ss⟩ := states is e1 h1 e' h' hev
      refine ⟨fun i => match i with | 0 => (e, h) | i + 1 => st i, rfl, sn, ?_⟩
      intro i y hy
      cases i with
      | zero => simp at hy; subst hy; simp only [h2, s0]
      | succ i => exact ss i y (by simpa using hy)
    · cases hev

theorem evI_env {cf : CF} {x : I} {e e' : Env} {h h' : AH} (hev : evI cf x e h = some (e', h')) {t : Nat} (ht : x.dst ≠ some t) : e'.get t = e.get t := by
  have key : ∀ v, (put e x.dst v).get t = e.get t := by
    intro v
    cases hd : x.dst with
    | none => rfl
    | some u =>
      simp only [put, Env.get_set]
      rw [if_neg]
      intro hu; subst hu; exact ht hd
  unfold evI at hev
  split at hev
  · simp only [Option.map_eq_some_iff, Prod.mk.injEq] at hev
    obtain ⟨⟨v, h2⟩, _, rfl, _⟩ := hev
    exact key v
  · split at hev
    · split at hev
      · simp only [Option.map_eq_some_iff, Prod.mk.injEq] at hev
        obtain ⟨⟨v, h2⟩, _, rfl, _⟩ := hev
        exact key v
      · simp only [Option.some.injEq, Prod.mk.injEq] at hev
        obtain ⟨rfl, _⟩ := hev
        exact key _
    · simp only [Option.some.injEq, Prod.mk.injEq] at hev
      obtain ⟨rfl, _⟩ := hev
      exact key _
    · cases hev

theorem evI_heap {cf : CF} {x : I} {e e' : Env} {h h' : AH} (hev : evI cf x e h = some (e', h')) (hk : clashK x.op.kind .l = false ∨ x.op.kind = .l) : h' = h := by
  have key : ∀ v h2, evOp cf (env e) h x.op = some (v, h2) → h2 = h := by
    intro v h2 ho
    rcases hk with hk | hk
    · cases hkk : x.op.kind <;> rw [hkk] at hk <;> simp [clashK] at hk
      · have := evOp_q hkk ho h
        rw [ho] at this; cases this; rfl
      · exact evOp_l_same hkk ho
    · exact evOp_l_same hk ho
  unfold evI at hev
  split at hev
  · simp only [Option.map_eq_some_iff, Prod.mk.injEq] at hev
    obtain ⟨⟨v, h2⟩, ho, _, rfl⟩ := hev
    exact key v _ ho
  · split at hev
    · split at hev
      · simp only [Option.map_eq_some_iff, Prod.mk.injEq] at hev
        obtain ⟨⟨v, h2⟩, ho, _, rfl⟩ := hev
        exact key v _ ho
      · simp only [Option.some.injEq, Prod.mk.injEq] at hev
        exact hev.2.symm
    · simp only [Option.some.injEq, Prod.mk.injEq] at hev
      exact hev.2.symm
    · cases hev

/-- Some slots of an environment alone. -/
def Env.only (l : List Nat) (e : Env) : Env := l.map fun t => (t, e.get t)
theorem only_get (l : List Nat) (e : Env) (t : Nat) : (Env.only l e).get t = if t ∈ l then e.get t else .undef := by
  induction l with
  | nil => simp [Env.only, Env.get]
  | cons u l ih =>
    simp only [Env.only, List.map_cons, Env.get, List.mem_cons]
    by_cases h : u = t
    · subst h; simp
    · rw [if_neg h]
      have := ih
      simp only [Env.only] at this
      rw [this]
      have h' : ¬ t = u := fun hh => h hh.symm
      simp only [h', false_or]


/-! ### What the checker gives -/
structure Fit (ps : List (Nat × Nat)) (B : List Nat) (is : List I) : Prop where
  dst : ∀ (i j : Nat) (x y : I) (t : Nat), i < j → is[i]? = some x → is[j]? = some y → x.dst = some t → y.dst = some t → False
  rd : ∀ (i j : Nat) (x y : I) (t : Nat), i < j → is[i]? = some x → is[j]? = some y → x.dst = some t → t ∈ y.reads → (B.getD j 0).testBit i = true
  wr : ∀ (i j : Nat) (x y : I) (t : Nat), i < j → is[i]? = some x → is[j]? = some y → y.dst = some t → t ∈ x.reads → (B.getD j 0).testBit i = true
  hp : ∀ (i j : Nat) (x y : I), i < j → is[i]? = some x → is[j]? = some y → clashK x.op.kind y.op.kind = true → (B.getD j 0).testBit i = true ∨ (x.op.kind = .l ∧ clashK y.op.kind .l = true ∧ (i, j) ∈ ps) ∨ (y.op.kind = .l ∧ clashK x.op.kind .l = true ∧ (j, i) ∈ ps) ∨ (j, j) ∈ ps
  esh : ∀ (k : Nat) (x : I), (k, k) ∈ ps → is[k]? = some x → ∃ t op, x = ⟨some t, op, none⟩ ∧ op.isEa = true
  erd : ∀ (k : Nat) (x : I) (t : Nat) (j : Nat) (y : I), (k, k) ∈ ps → is[k]? = some x → x.dst = some t → is[j]? = some y → t ∈ y.reads → y.op.kind = .m
  el : ∀ (k : Nat) (x : I) (i : Nat) (y : I), (k, k) ∈ ps → is[k]? = some x → is[i]? = some y → y.op.kind = .l → (i, k) ∈ ps

theorem fit_of {ops : Array Oper} {is : List I} {ps : List (Nat × Nat)} (h : drwOk ops is ps = true) : Fit ps (masks ops.toList []) is ∧ edgesOk ops.toList 0 = true := by
  simp only [drwOk, Bool.and_eq_true] at h
  obtain ⟨he, h0, h⟩ := h
  have early : ∀ (k : Nat) (x : I), (k, k) ∈ ps → is[k]? = some x → (∃ t op, x = ⟨some t, op, none⟩ ∧ op.isEa = true) ∧ (∀ (t : Nat) (j : Nat) (y : I), x.dst = some t → is[j]? = some y → t ∈ y.reads → y.op.kind = .m) ∧
      ∀ (i : Nat) (y : I), is[i]? = some y → y.op.kind = .l → (i, k) ∈ ps := by
    intro k x hk hx
    have hlt := (List.getElem?_eq_some_iff.1 hx).1
    have h1 := List.all_eq_true.1 h0 k (List.mem_range.2 hlt)
    rw [hx, List.contains_iff_mem.2 hk] at h1
    simp only [Bool.not_true, Bool.false_or] at h1
    split at h1
    · rename_i t op heq
      cases heq
      rw [Bool.and_eq_true, Bool.and_eq_true] at h1
      obtain ⟨h1e, h1⟩ := h1
      refine ⟨⟨t, op, rfl, h1e⟩, ?_, ?_⟩
      · intro t' j y ht hy hr
        cases ht
        have h2 := List.all_eq_true.1 h1.1 y (List.mem_of_getElem? hy)
        simp only [Bool.or_eq_true, decide_eq_true_iff] at h2
        rcases h2 with h2 | h2
        · exact absurd hr h2
        · exact h2
      · intro i y hy hl
        have hil := (List.getElem?_eq_some_iff.1 hy).1
        have h2 := List.all_eq_true.1 h1.2 i (List.mem_range.2 hil)
        rw [hy] at h2
        simp only [hl, decide_true, Bool.not_true, Bool.false_or] at h2
        exact List.contains_iff_mem.1 h2
    · cases h1
  have pair : ∀ (i j : Nat) (x y : I), i < j → is[i]? = some x → is[j]? = some y → dstsOk x y = true ∧ pairOk ps i j x y (((masks ops.toList []).getD j 0).testBit i) = true := by
    intro i j x y hij hx hy
    have hj := (List.getElem?_eq_some_iff.1 hy).1
    have h1 := List.all_eq_true.1 h j (List.mem_range.2 hj)
    rw [hy] at h1
    have h2 := List.all_eq_true.1 h1 i (List.mem_range.2 hij)
    rw [hx] at h2
    simpa using h2
  refine ⟨⟨?_, ?_, ?_, ?_, fun k x hk hx => (early k x hk hx).1, fun k x t j y hk hx => (early k x hk hx).2.1 t j y, fun k x i y hk hx => (early k x hk hx).2.2 i y⟩, he⟩
  · intro i j x y t hij hx hy h1 h2
    have := (pair i j x y hij hx hy).1
    simp [dstsOk, h1, h2] at this
  · intro i j x y t hij hx hy h1 h2
    have := (pair i j x y hij hx hy).2
    simp only [pairOk, Bool.or_eq_true, Bool.and_eq_true] at this
    rcases this with h3 | h3
    · exact h3
    · have := h3.1.1.2
      simp [h1, h2] at this
  · intro i j x y t hij hx hy h1 h2
    have := (pair i j x y hij hx hy).2
    simp only [pairOk, Bool.or_eq_true, Bool.and_eq_true] at this
    rcases this with h3 | h3
    · exact h3
    · have := h3.1.2
      simp [h1, h2] at this
  · intro i j x y hij hx hy h1
    have := (pair i j x y hij hx hy).2
    simp only [pairOk, Bool.or_eq_true, Bool.and_eq_true] at this
    rcases this with h3 | h3
    · exact .inl h3
    · rcases h3.2 with ((h4 | h4) | h4) | h4
      · simp [h1] at h4
      · exact .inr (.inl ⟨of_decide_eq_true h4.1.1, h4.1.2, List.contains_iff_mem.1 h4.2⟩)
      · exact .inr (.inr (.inl ⟨of_decide_eq_true h4.1.1, h4.1.2, List.contains_iff_mem.1 h4.2⟩))
      · exact .inr (.inr (.inr (List.contains_iff_mem.1 h4)))

def cnt (S : Nat → Bool) : Nat → Nat
  | 0 => 0
  | n + 1 => cnt S n + if S n then 0 else 1
theorem cnt_mono {S S' : Nat → Bool} (h : ∀ i, S i = true → S' i = true) : ∀ n, cnt S' n ≤ cnt S n
  | 0 => Nat.le_refl _
  | n + 1 => by
    have := cnt_mono h n
    simp only [cnt]
    cases h1 : S n
    · cases h2 : S' n <;> simp <;> omega
    · rw [h n h1]; simpa using this
theorem cnt_lt {S S' : Nat → Bool} (h : ∀ i, S i = true → S' i = true) {i : Nat} (h1 : S i = false) (h2 : S' i = true) : ∀ n, i < n → cnt S' n < cnt S n
  | 0, hn => by omega
  | n + 1, hn => by
    have hm := cnt_mono h n
    simp only [cnt]
    by_cases he : i = n
    · subst he; simp only [h1, h2, if_true, Bool.false_eq_true, if_false]; omega
    · have := cnt_lt h h1 h2 n (by omega)
      cases h3 : S n
      · cases h4 : S' n <;> simp <;> omega
      · rw [h n h3]; simpa using this
theorem cnt_zero {S : Nat → Bool} : ∀ n, cnt S n = 0 → ∀ i, i < n → S i = true
  | 0, _, i, hi => by omega
  | n + 1, h, i, hi => by
    simp only [cnt] at h
    by_cases he : i = n
    · subst he
      cases h1 : S i
      · simp [h1] at h
      · rfl
    · exact cnt_zero n (by omega) i (by omega)

section
variable {P : Program} {F : Nat → Nat} {base : Nat} {m m0 : Emb} {h h' : AH} {w w0 : World} {e e' : Env} {cf : CF} {nt : Nat} {ops : Array Oper} {Q : Exit → Act → World → Prop} {is : List I} {st : Nat → Env × AH}

theorem chk_get : ∀ {os : List Oper} {is : List I}, chkIs P F nt ops os is = true → os.length = is.length ∧ ∀ (i : Nat) (o : Oper) (x : I), os[i]? = some o → is[i]? = some x → chkI P F nt ops o x = true
  | [], [], _ => ⟨rfl, fun i o x h _ => by simp at h⟩
  | [], _ :: _, h => by simp [chkIs] at h
  | _ :: _, [], h => by simp [chkIs] at h
  | o :: os, x :: is, h => by
    simp only [chkIs, Bool.and_eq_true] at h
    obtain ⟨g1, g2⟩ := chk_get h.2
    refine ⟨by simp [g1], ?_⟩
    intro i o' x' h1 h2
    cases i with
    | zero => simp at h1 h2; subst h1; subst h2; exact h.1
    | succ i => exact g2 i o' x' (by simpa using h1) (by simpa using h2)

/-- No one writes a slot between: it is as it was. -/
theorem env_same (hst : ∀ (i : Nat) (x : I), is[i]? = some x → evI cf x (st i).1 (st i).2 = some (st (i + 1))) {t : Nat} : ∀ (d i : Nat), i + d ≤ is.length → (∀ (k : Nat) (x : I), i ≤ k → k < i + d → is[k]? = some x → x.dst ≠ some t) → (st (i + d)).1.get t = (st i).1.get t
  | 0, i, _, _ => rfl
  | d + 1, i, hl, hk => by
    have ih := env_same hst d i (by omega) (fun k x h1 h2 => hk k x h1 (by omega))
    obtain ⟨x, hx⟩ : ∃ x, is[i + d]? = some x := ⟨is[i + d]'(by omega), by simp⟩
    have := evI_env (hst (i + d) x hx) (hk (i + d) x (by omega) (by omega) hx)
    rw [← ih]; exact this
theorem heap_same (hst : ∀ (i : Nat) (x : I), is[i]? = some x → evI cf x (st i).1 (st i).2 = some (st (i + 1))) : ∀ (d i : Nat), i + d ≤ is.length → (∀ (k : Nat) (x : I), i ≤ k → k < i + d → is[k]? = some x → clashK x.op.kind .l = false ∨ x.op.kind = .l) → (st (i + d)).2 = (st i).2
  | 0, i, _, _ => rfl
  | d + 1, i, hl, hk => by
    have ih := heap_same hst d i (by omega) (fun k x h1 h2 => hk k x h1 (by omega))
    obtain ⟨x, hx⟩ : ∃ x, is[i + d]? = some x := ⟨is[i + d]'(by omega), by simp⟩
    have := evI_heap (hst (i + d) x hx) (hk (i + d) x (by omega) (by omega) hx)
    rw [← ih]; exact this

def AOp.heapy (op : AOp) : Bool := clashK op.kind .l
theorem heapy_not {op : AOp} (h : op.heapy = false) : clashK op.kind .l = false ∨ op.kind = .l := .inl h
end

/-! ### Literals that are laid early -/
theorem fillP_len : ∀ {l : List (Nat × Nat × AV)} {zs cs : List AV}, fillP zs l = some cs → cs.length = zs.length
  | [], zs, cs, h => by simp [fillP] at h; rw [h]
  | (o, n, x) :: l, zs, cs, h => by
    simp only [fillP] at h
    split at h
    · rename_i hc
      rw [fillP_len h, splice_length (by omega)]
    · cases h
/-- A block that is there already is taken for a new row. -/
theorem adopt {F : Nat → Nat} {base : Nat} {m0 m : Emb} {h0 h : AH} {w0 w : World} (hr : StepR F base m0 h0 w0 m h w) {cs : List AV} {us : Array Value} {b : Nat} {t : TypeId} {fr : Nat × Nat} (hb : w.heap[b]? = some (.cells us t fr)) (hfr : fr.2 ≤ fr.1) (hb0 : w0.heap.size ≤ b) (hbase : base ≤ w0.heap.size) (hnh : ¬ m.has b) (hvs : RelL F m cs us.toList) :
    m.le (m.addRow h.length 0 ⟨b, 0, 0, cs.length, us.size⟩) ∧ StepR F base m0 h0 w0 (m.addRow h.length 0 ⟨b, 0, 0, cs.length, us.size⟩) (h ++ [.row cs 0 0 false]) w := by
  have rl := hr.rel
  have hnone : ∀ k, m.row h.length k = none := by
    intro k
    cases hk : m.row h.length k with
    | none => rfl
    | some p => obtain ⟨o, ho, _⟩ := rl.rowc _ _ _ hk; simp at ho
  have hnone2 : m.obj h.length = none := by
    cases hk : m.obj h.length with
    | none => rfl
    | some p => obtain ⟨o, ho, _⟩ := rl.objc _ _ hk; simp at ho
  have hm : m.le (m.addRow h.length 0 ⟨b, 0, 0, cs.length, us.size⟩) := Emb.le_addRow (hnone 0)
  have hlen := hvs.length
  have hlen' : us.size = cs.length := by simpa using hlen
  have hblt := (Array.getElem?_eq_some_iff.1 hb).1
  refine ⟨hm, Emb.le_trans hr.le hm, ?_, hr.os, hr.tape, hr.out, hr.size, hr.frame, ?_, fun c b h => hr.newo c b h, ?_, by have := hr.len; simp; omega⟩
  · refine ⟨?_, ?_, ?_, ?_, rl.injo, ?_, ?_, rl.lto, ?_, rl.le⟩
    · intro c k p hp
      rcases Emb.addRow_inv hp with ⟨rfl, _, _⟩ | hp
      · exact ⟨.row cs 0 0 false, by simp, rfl⟩
      · obtain ⟨o, ho, hi⟩ := rl.rowc c k p hp
        exact ⟨o, by rw [List.getElem?_append_left (by have := List.getElem?_eq_some_iff.1 ho; exact this.1)]; exact ho, hi⟩
    · intro c b hb
      obtain ⟨o, ho, hi⟩ := rl.objc c b hb
      exact ⟨o, by rw [List.getElem?_append_left (by have := List.getElem?_eq_some_iff.1 ho; exact this.1)]; exact ho, hi⟩
    · intro c o hc
      by_cases hlt : c < h.length
      · rw [List.getElem?_append_left hlt] at hc
        refine ObjRel.keep (rl.ob c o hc) hm ?_ (fun b hb => hb) (fun _ _ _ => rfl) (fun _ _ => rfl)
        intro k p hp
        rcases Emb.addRow_inv hp with ⟨rfl, _, _⟩ | hp
        · omega
        · exact hp
      · rw [List.getElem?_append_right (by omega)] at hc
        have hce : c = h.length := by
          by_cases he : c = h.length
          · exact he
          · rw [List.getElem?_eq_none (by simp; omega)] at hc; cases hc
        subst hce
        simp only [Nat.sub_self, List.getElem?_cons_zero, Option.some.injEq] at hc
        subst hc
        intro k p hp _
        rcases Emb.addRow_inv hp with ⟨_, rfl, rfl⟩ | hp
        · refine ⟨Nat.le_refl _, Nat.le_refl _, fun _ => rfl, fun _ => Nat.le_trans hbase hb0, us, t, fr, hb, rfl, by simp; omega, fun _ => .inr hfr, ?_⟩
          intro j _ hj
          obtain ⟨x, hx⟩ : ∃ x, cs[j]? = some x := ⟨cs[j], by simp [hj]⟩
          obtain ⟨v, hv, hxv⟩ := hvs.get j x hx
          refine ⟨x, v, hx, ?_, RelV.mono hm _ _ hxv⟩
          simp only [Nat.zero_add, Nat.sub_zero]
          rwa [Array.getElem?_toList] at hv
        · rw [hnone k] at hp; cases hp
    · intro c k p c' k' p' hp hp' hb he
      rcases Emb.addRow_inv hp with ⟨rfl, rfl, rfl⟩ | hp <;> rcases Emb.addRow_inv hp' with ⟨rfl, rfl, rfl⟩ | hp'
      · exact ⟨rfl, rfl, rfl⟩
      · exact absurd (.inl ⟨_, _, _, hp', he.symm⟩) hnh
      · exact absurd (.inl ⟨_, _, _, hp, he⟩) hnh
      · exact rl.inj c k p c' k' p' hp hp' hb he
    · intro c k p c' b' hp hb' e
      rcases Emb.addRow_inv hp with ⟨rfl, rfl, rfl⟩ | hp
      · simp only at e
        subst e
        exact hnh (.inr ⟨c', hb'⟩)
      · exact rl.injr c k p c' b' hp hb' e
    · intro c k p hp
      rcases Emb.addRow_inv hp with ⟨rfl, rfl, rfl⟩ | hp
      · exact hblt
      · exact rl.ltr c k p hp
    · intro c cs' ver fl ro k p hc hp
      rcases Emb.addRow_inv hp with ⟨_, rfl, _⟩ | hp
      · omega
      · obtain ⟨o, ho, _⟩ := rl.rowc c k p hp
        have hlt := (List.getElem?_eq_some_iff.1 ho).1
        rw [List.getElem?_append_left hlt] at hc
        exact rl.vers c cs' ver fl ro k p hc hp
  · intro c k p hp
    rcases Emb.addRow_inv hp with ⟨rfl, rfl, rfl⟩ | hp
    · exact .inr ⟨.inl hr.len, .inl hb0⟩
    · exact hr.newr c k p hp
  · intro c hc hn
    rw [List.getElem?_append_left (by have := hr.len; omega)]
    exact hr.unpl c hc hn
/-- A block that is no one's stays so. -/
theorem has_not {F : Nat → Nat} {base : Nat} {m m' : Emb} {h h' : AH} {w w' : World} (hr : StepR F base m h w m' h' w') {b : Nat} (hb : b < w.heap.size) (hn : ¬ m.has b) : w'.heap[b]? = w.heap[b]? ∧ ¬ m'.has b := by
  refine ⟨hr.frame b hb (.inr hn), ?_⟩
  rintro (⟨c, k, p, hp, rfl⟩ | ⟨c, hc⟩)
  · rcases hr.newr c k p hp with h1 | ⟨_, h1 | ⟨k0, p0, h1, h2⟩⟩
    · exact hn (.inl ⟨c, k, p, h1, rfl⟩)
    · omega
    · exact hn (.inl ⟨c, k0, p0, h1, h2⟩)
  · rcases hr.newo c b hc with h1 | ⟨_, h1⟩
    · exact hn (.inr ⟨c, h1⟩)
    · omega
/-- A literal, as it is laid in the program's own world. -/
theorem lit_raw {P : Program} {F : Nat → Nat} {o : Oper} {a : Act} {m : Emb} {w : World} {e : Env} {esz len : Nat} {z : List AV} {qs : List (Nat × Nat × Opd)} (he : RelEnv F m e a.tmps) (hc : chkOp P F o.op (.lit esz len z qs) = true) {cs : List AV} (hf : fillP z (qs.map fun (o, n, y) => (o, n, env e y)) = some cs)
    (K : Act → World → Prop) (Q : Exit → Act → World → Prop) (hK : ∀ us t, RelL F m cs us.toList → K (a.put o.dst (.slice (some ⟨w.heap.size, 0, none⟩) len len)) (w.alloc (.cells us t))) : cs.length = len * esz ∧ o.wp P a w K Q := by
  have rel : ∀ {x y}, chkO F x y = true → RelV F m (env e y) (a.eval x) := fun h => chkO_rel he h
  generalize hop : o.op = q at hc
  cases q <;> first
    | (simp [chkOp, chkCall] at hc; done)
    | skip
  rename_i t n ps
  simp only [chkOp, Bool.and_eq_true, decide_eq_true_eq] at hc
  obtain ⟨rfl, h1⟩ := hc
  split at h1
  · rename_i e' hu
    simp only [Bool.and_eq_true, decide_eq_true_eq] at h1
    obtain ⟨⟨⟨⟨hs, h0⟩, hlen⟩, g4⟩, hp⟩ := h1
    split at g4
    · rename_i ie hie
      split at g4
      · rename_i zv hzv
        simp only [Bool.and_eq_true, decide_eq_true_eq] at g4
        have hcz := g4.1.1
        have h1 := g4.2
        obtain ⟨i', hi', hsz⟩ := sz_eq hs
        rw [hie] at hi'; cases hi'
        have hrelz := chkVs_rel (m := m) _ _ hcz
        obtain ⟨g1, g2⟩ := placesA_get hp
        obtain ⟨us, hus, hrel⟩ := parts_rel (a := a) (place := fun i => some (i * ie.size, ie.size)) hf hrelz g1 (by
          intro i j x off n y e1 e2
          obtain ⟨⟨ho, hn⟩, hxy⟩ := g2 i j x off n y e1 e2
          exact ⟨by rw [← ho, hn, hsz], rel hxy⟩)
        have hpl : (ps.map fun (i, x) => (i, a.eval x)).toList = ps.toList.map fun (i, x) => (i, a.eval x) := by simp
        have hpos : 0 < n * esz := Nat.mul_pos h1 h0
        have hrun := run_buildSlice (P := P) w t e' n (ps.map fun (i, x) => (i, a.eval x)) us ie zv hu hie hzv (by rw [hsz]; omega) (by rw [hsz]; omega) (by rw [hpl, hsz]; rw [hsz] at hus; exact hus)
        have hcl : cs.length = n * esz := by
          rw [fillP_len hf]
          have := hrelz.length
          simpa using this.symm
        refine ⟨hcl, ?_⟩
        unfold Oper.wp
        have : (execOp a.eval o).run P w = .ok (.value (.slice (some ⟨w.heap.size, 0, none⟩) n n)) (w.alloc (.cells us e')) := by
          simp only [execOp, hop, Sem.run_bind, hrun, Result.andThen, Sem.run_pure]
        rw [this]
        exact hK us e' hrel
      · cases g4
    · cases g4
  · cases h1

theorem new_raw {P : Program} {F : Nat → Nat} {o : Oper} {a : Act} {m : Emb} {w : World} {z : List AV} (hc : chkOp P F o.op (.new z) = true)
    (K : Act → World → Prop) (Q : Exit → Act → World → Prop) (hK : ∀ us t, RelL F m z us.toList → K (a.put o.dst (.pointer (some ⟨w.heap.size, 0, none⟩))) (w.alloc (.cells us t))) : o.wp P a w K Q := by
  generalize hop : o.op = q at hc
  cases q <;> first
    | (simp [chkOp, chkCall] at hc; done)
    | skip
  rename_i t
  obtain ⟨i, v, hi, hv, hcv, hsc⟩ := zer_eq (P := P) (F := F) (t := t) (z := z) hc
  have hrel : RelL F m z v.cells.toList := chkVs_rel _ _ hcv
  unfold Oper.wp
  have : (execOp a.eval o).run P w = .ok (.value (.pointer (some ⟨w.heap.size, 0, none⟩))) (w.alloc (.cells v.cells t)) := by
    simp [execOp, hop, Instr.alloc, zeroValue, typeInfo, hi, hv, newVar, Go.newRow]
  rw [this]
  exact hK v.cells t hrel
theorem ea_raw {P : Program} {F : Nat → Nat} {o : Oper} {a : Act} {m : Emb} {w : World} {e : Env} {op : AOp} (he : RelEnv F m e a.tmps) (hea : op.isEa = true) (hc : chkOp P F o.op op = true) {cs : List AV} (hf : eaC (env e) op = some cs)
    (K : Act → World → Prop) (Q : Exit → Act → World → Prop) (hK : ∀ us t, RelL F m cs us.toList → K (a.put o.dst (eaW w.heap.size op)) (w.alloc (.cells us t))) : eaOk cs op ∧ o.wp P a w K Q := by
  cases op <;> simp only [AOp.isEa] at hea <;> first
    | (cases hea; done)
    | (simp only [eaC, Option.some.injEq] at hf
       subst hf
       exact ⟨rfl, new_raw hc K Q hK⟩)
    | (exact lit_raw he hc hf K Q hK)
/-- An allocation that was made ahead of its turn. -/
def EarlyAt (F : Nat → Nat) (m : Emb) (w0 w : World) (e : Env) (x : I) (b : Nat) (a : Act) : Prop := ∃ t op cs us ty, x = ⟨some t, op, none⟩ ∧ op.isEa = true ∧ eaC (env e) op = some cs ∧ eaOk cs op ∧
  RelL F m cs us.toList ∧ w.heap[b]? = some (.cells us ty (0, 0)) ∧ w0.heap.size ≤ b ∧ ¬ m.has b ∧ a.tmps.getD t undef = eaW b op
/-- What holds when some operations have been carried out: those that turn the heap up to p, and some literals ahead of their turn. -/
structure Inv (F : Nat → Nat) (base nt : Nat) (m0 : Emb) (w0 : World) (ds : List Deferred) (is : List I) (st : Nat → Env × AH) (ops : Array Oper) (ps : List (Nat × Nat)) (S : Nat → Bool) (p : Nat) (eb : Nat → Nat) (m : Emb) (a : Act) (w : World) : Prop where
  defs : a.defers = ds
  size : nt ≤ a.tmps.size
  done : ∀ (t k : Nat) (x : I), is[k]? = some x → x.dst = some t → S k = true → (k < p ∨ (k, k) ∉ ps) → RelV F m ((st is.length).1.get t) (a.tmps.getD t undef)
  todo : ∀ t, (∀ (k : Nat) (x : I), is[k]? = some x → x.dst = some t → S k = false) → RelV F m ((st 0).1.get t) (a.tmps.getD t undef)
  closed : ∀ (k : Nat) (o : Oper), ops[k]? = some o → S k = true → ∀ e ∈ o.after.toList, Region.binds .any e = true → S e.on = true
  ple : p ≤ is.length
  low : ∀ (k : Nat) (x : I), k < p → is[k]? = some x → x.op.heapy = true → S k = true
  upp : ∀ (k : Nat) (x : I), p ≤ k → is[k]? = some x → x.op.heapy = true → S k = true → (k, k) ∈ ps
  step : StepR F base m0 (st 0).2 w0 m (st p).2 w
  b0 : base ≤ w0.heap.size
  early : ∀ (k : Nat) (x : I), p ≤ k → is[k]? = some x → (k, k) ∈ ps → S k = true → EarlyAt F m w0 w (st k).1 x (eb k) a
  einj : ∀ (k k' : Nat), p ≤ k → p ≤ k' → (k, k) ∈ ps → (k', k') ∈ ps → S k = true → S k' = true → k < is.length → k' < is.length → eb k = eb k' → k = k'

theorem lit_heapy {x : I} {t : Nat} {op : AOp} (hx : x = ⟨some t, op, none⟩) (he : op.isEa = true) : x.op.heapy = true := by subst hx; simp [AOp.heapy, ea_kind he, clashK]

section
variable {P : Program} {F : Nat → Nat} {base : Nat} {m m0 : Emb} {w w0 : World} {cf : CF} {nt : Nat} {ops : Array Oper} {Q : Exit → Act → World → Prop} {is : List I} {st : Nat → Env × AH} {ps : List (Nat × Nat)} {B : List Nat} {S : Nat → Bool} {ds : List Deferred} {p : Nat} {eb : Nat → Nat} {a : Act}

/-- One step further with what is done. -/
theorem advance (hst : ∀ (i : Nat) (x : I), is[i]? = some x → evI cf x (st i).1 (st i).2 = some (st (i + 1))) (hf : Fit ps B is) (hi : Inv F base nt m0 w0 ds is st ops ps S p eb m a w) (hlt : p < is.length) (hS : ∀ x, is[p]? = some x → x.op.heapy = true → S p = true) :
    ∃ m', Inv F base nt m0 w0 ds is st ops ps S (p + 1) eb m' a w := by
  obtain ⟨x, hx⟩ : ∃ x, is[p]? = some x := ⟨is[p], by simp⟩
  by_cases hh : x.op.heapy = true
  · have hSp := hS x hx hh
    have hpe := hi.upp p x (Nat.le_refl _) hx hh hSp
    obtain ⟨t, op, cs, us, ty, rfl, hea, hfil, hcl, hrel, hblk, hb0, hnh, htmp⟩ := hi.early p x (Nat.le_refl _) hx hpe hSp
    obtain ⟨hle, hst'⟩ := adopt hi.step hblk (Nat.le_refl _) hb0 hi.b0 hnh hrel
    have hev := hst p _ hx
    simp only [evI, ea_ev hea, hfil, Option.bind_some, newRow] at hev
    split at hev
    · rename_i hsc
      simp only [Option.map_some, Option.some.injEq] at hev
      have hul : us.size = cs.length := by have := hrel.length; simpa using this
      have hheap : (st (p + 1)).2 = (st p).2 ++ [.row cs 0 0 false] := by rw [← hev]
      have henv : (st (p + 1)).1 = (st p).1.set t (eaV (st p).2.length op) := by rw [← hev]; rfl
      refine ⟨_, ⟨hi.defs, hi.size, ?_, fun t' ht => RelV.mono hle _ _ (hi.todo t' ht), hi.closed, by omega, ?_, ?_, by rw [hheap]; exact hst', hi.b0, ?_, ?_⟩⟩
      · intro t' k y hy hyt hSk hk
        by_cases hkp : k = p
        · subst hkp
          rw [hx] at hy; cases hy
          simp only [Option.some.injEq] at hyt
          subst hyt
          have uniq : ∀ (q : Nat) (zz : I), is[q]? = some zz → zz.dst = some t → q = k := by
            intro q zz hz hzt
            rcases Nat.lt_trichotomy q k with h1 | h1 | h1
            · exact absurd (hf.dst q k zz _ t h1 hz hx hzt rfl) id
            · exact h1
            · exact absurd (hf.dst k q _ zz t h1 hx hz rfl hzt) id
          have := env_same hst (is.length - (k + 1)) (k + 1) (by omega) (t := t) (fun q zz g1 g2 hz hzt => by have := uniq q zz hz hzt; omega)
          rw [show k + 1 + (is.length - (k + 1)) = is.length by omega] at this
          rw [this, henv, Env.get_set, if_pos rfl, htmp]
          cases op <;> simp only [AOp.isEa] at hea <;> first
            | (cases hea; done)
            | (rename_i z
               simp only [eaOk] at hcl
               subst hcl
               simp only [eaV, eaW, RelV]
               exact ⟨_, Emb.addRow_at _ _ _ _, rfl, Nat.le_refl _, by simp⟩)
            | (rename_i esz len z qs
               simp only [eaOk] at hcl
               simp only [eaV, eaW, RelV]
               exact ⟨_, 0, len, Emb.addRow_at _ _ _ _, rfl, Nat.le_refl _, .inr ⟨Nat.le_refl _, rfl, by simp only; omega, by simp only; omega⟩⟩)
        · exact RelV.mono hle _ _ (hi.done t' k y hy hyt hSk (hk.imp (fun h => by omega) id))
      · intro k y hk hy hyh
        by_cases hkp : k = p
        · rw [hkp]; exact hSp
        · exact hi.low k y (by omega) hy hyh
      · intro k y hk hy hyh hSk
        exact hi.upp k y (by omega) hy hyh hSk
      · intro k y hk hy hke hSk
        obtain ⟨t2, op2, cs2, us2, ty2, rfl, k0, k1, k2, k3, k4, k5, k6, k7⟩ := hi.early k y (by omega) hy hke hSk
        refine ⟨t2, op2, cs2, us2, ty2, rfl, k0, k1, k2, RelL.mono hle _ _ k3, k4, k5, ?_, k7⟩
        rintro (⟨c, kk, q, hq, hqb⟩ | ⟨c, hc⟩)
        · rcases Emb.addRow_inv hq with ⟨rfl, rfl, rfl⟩ | hq
          · have hlk := (List.getElem?_eq_some_iff.1 hy).1
            have := hi.einj p k (Nat.le_refl _) (by omega) hpe hke hSp hSk hlt hlk hqb
            omega
          · exact k6 (.inl ⟨c, kk, q, hq, hqb⟩)
        · exact k6 (.inr ⟨c, hc⟩)
      · intro k k' g1 g2
        exact hi.einj k k' (by omega) (by omega)
    · simp at hev
  · have hh' : x.op.heapy = false := by simpa using hh
    have hne : (p, p) ∉ ps := fun hpe => by
      obtain ⟨t, op, he, hea⟩ := hf.esh p x hpe hx
      rw [lit_heapy he hea] at hh'; cases hh'
    have hsame : (st (p + 1)).2 = (st p).2 := evI_heap (hst p x hx) (heapy_not hh')
    refine ⟨m, ⟨hi.defs, hi.size, ?_, hi.todo, hi.closed, by omega, ?_, ?_, by rw [hsame]; exact hi.step, hi.b0, fun k y hk => hi.early k y (by omega), fun k k' g1 g2 => hi.einj k k' (by omega) (by omega)⟩⟩
    · intro t k y hy hyt hSk hk
      refine hi.done t k y hy hyt hSk ?_
      by_cases hkp : k = p
      · rw [hkp]; exact .inr hne
      · exact hk.imp (fun h => by omega) id
    · intro k y hk hy hyh
      by_cases hkp : k = p
      · subst hkp; rw [hx] at hy; cases hy; rw [hh'] at hyh; cases hyh
      · exact hi.low k y (by omega) hy hyh
    · intro k y hk hy hyh hSk
      exact hi.upp k y (by omega) hy hyh hSk
theorem advanceTo (hst : ∀ (i : Nat) (x : I), is[i]? = some x → evI cf x (st i).1 (st i).2 = some (st (i + 1))) (hf : Fit ps B is) (i : Nat) (hil : i ≤ is.length) : ∀ (d p : Nat) (m : Emb), p + d = i → Inv F base nt m0 w0 ds is st ops ps S p eb m a w → (∀ (k : Nat) (x : I), p ≤ k → k < i → is[k]? = some x → x.op.heapy = true → S k = true) →
    ∃ m', Inv F base nt m0 w0 ds is st ops ps S i eb m' a w
  | 0, p, m, hd, hi, _ => ⟨m, by rw [← hd]; exact hi⟩
  | d + 1, p, m, hd, hi, hS => by
    obtain ⟨m', hi'⟩ := advance hst hf hi (by omega) (fun x hx hh => hS p x (Nat.le_refl _) (by omega) hx hh)
    exact advanceTo hst hf i hil d (p + 1) m' (by omega) hi' (fun k x hk => hS k x (by omega))
end

section
variable {P : Program} {F : Nat → Nat} {base : Nat} {m m0 : Emb} {h h' : AH} {w w0 : World} {e e' : Env} {cf : CF} {nt : Nat} {ops : Array Oper} {Q : Exit → Act → World → Prop} {is : List I} {st : Nat → Env × AH}

theorem inv_end {ps : List (Nat × Nat)} {B : List Nat} {S : Nat → Bool} {ds : List Deferred} {p : Nat} {eb : Nat → Nat} {a : Act} (hst : ∀ (i : Nat) (x : I), is[i]? = some x → evI cf x (st i).1 (st i).2 = some (st (i + 1))) (hf : Fit ps B is) (hi0 : Inv F base nt m0 w0 ds is st ops ps S p eb m a w) (hall : ∀ k, k < is.length → S k = true) :
    ∃ m', RelEnv F m' (st is.length).1 a.tmps ∧ StepR F base m0 (st 0).2 w0 m' (st is.length).2 w := by
  obtain ⟨m', hi⟩ := advanceTo hst hf is.length (Nat.le_refl _) (is.length - p) p m (by have := hi0.ple; omega) hi0 (fun k x _ hk _ _ => hall k hk)
  refine ⟨m', ?_, hi.step⟩
  intro t
  by_cases hw : ∃ (k : Nat) (x : I), is[k]? = some x ∧ x.dst = some t
  · obtain ⟨k, x, hx, ht⟩ := hw
    have hlt := (List.getElem?_eq_some_iff.1 hx).1
    exact hi.done t k x hx ht (hall k hlt) (.inl hlt)
  · have hn : ∀ (k : Nat) (x : I), is[k]? = some x → x.dst ≠ some t := fun k x h1 h2 => hw ⟨k, x, h1, h2⟩
    have := env_same hst is.length 0 (by omega) (t := t) (fun k x _ _ h1 => hn k x h1)
    rw [Nat.zero_add] at this
    rw [this]
    exact hi.todo t fun k x h1 h2 => absurd h2 (hn k x h1)

theorem reads_od {x : I} {y : Opd} (hy : y ∈ x.op.ods) {t : Nat} (ht : t ∈ y.ts) : t ∈ x.reads := by
  simp only [I.reads, List.mem_append, List.mem_flatMap]
  exact .inl ⟨y, hy, ht⟩
theorem env_only {x : I} {e : Env} : ∀ y ∈ x.op.ods, env e y = env (Env.only x.reads e) y := by
  intro y hy
  cases y with
  | c v => rfl
  | t n =>
    simp only [env, only_get]
    rw [if_pos (reads_od hy (by simp [Opd.ts]))]

theorem read_same (hst : ∀ (i : Nat) (x : I), is[i]? = some x → evI cf x (st i).1 (st i).2 = some (st (i + 1))) {op : AOp} {ρ : Opd → AV} : ∀ (d i : Nat), i + d ≤ is.length →
    (∀ (k : Nat) (x : I), i ≤ k → k < i + d → is[k]? = some x → x.op.heapy = false ∨ (evOp noCall ρ (st k).2 op).map (·.1) = (evOp noCall ρ (st (k + 1)).2 op).map (·.1)) →
    (evOp noCall ρ (st (i + d)).2 op).map (·.1) = (evOp noCall ρ (st i).2 op).map (·.1)
  | 0, i, _, _ => rfl
  | d + 1, i, hl, hk => by
    have ih := read_same hst d i (by omega) (fun k x h1 h2 => hk k x h1 (by omega))
    obtain ⟨x, hx⟩ : ∃ x, is[i + d]? = some x := ⟨is[i + d]'(by omega), by simp⟩
    rcases hk (i + d) x (by omega) (by omega) hx with h1 | h1
    · have := evI_heap (hst (i + d) x hx) (heapy_not h1)
      rw [show i + (d + 1) = i + d + 1 by omega, this]; exact ih
    · rw [show i + (d + 1) = i + d + 1 by omega, ← h1]; exact ih

theorem put_other {a : Act} {d : Option Nat} {v : Value} {t : Nat} (h : d ≠ some t) : (a.put d v).tmps.getD t undef = a.tmps.getD t undef := by
  cases hod : d with
  | none => rfl
  | some u =>
    simp only [Act.put]
    rw [getD_set, if_neg]
    rintro ⟨rfl, _⟩
    exact h hod
theorem StepR.grown {F : Nat → Nat} {base : Nat} {m : Emb} {h : AH} {w w' : World} (hr : RelH F base m h w) (hold : ∀ b : Nat, b < w.heap.size → w'.heap[b]? = w.heap[b]?) (hsz : w.heap.size ≤ w'.heap.size) (ho : w'.os = w.os) (ht : w'.tape = w.tape) (hu : w'.output = w.output) : StepR F base m h w m h w' := by
  refine ⟨Emb.le_refl m, ⟨hr.rowc, hr.objc, ?_, hr.inj, hr.injo, hr.injr, ?_, ?_, hr.vers, Nat.le_trans hr.le hsz⟩, ho, ht, hu, hsz, fun b hb _ => hold b hb, fun _ _ _ h => .inl h, fun _ _ h => .inl h, fun _ _ _ => rfl, Nat.le_refl _⟩
  · intro c ob hc
    exact ObjRel.keep (hr.ob c ob hc) (Emb.le_refl m) (fun _ _ h => h) (fun _ h => h) (fun k p hp => hold _ (hr.ltr c k p hp)) (fun b hb => hold _ (hr.lto c b hb))
  · intro c k p hp; exact Nat.lt_of_lt_of_le (hr.ltr c k p hp) hsz
  · intro c b hb; exact Nat.lt_of_lt_of_le (hr.lto c b hb) hsz
theorem inv_step (hs : Sound P F cf) (hst : ∀ (i : Nat) (x : I), is[i]? = some x → evI cf x (st i).1 (st i).2 = some (st (i + 1))) {ps : List (Nat × Nat)} (hf : Fit ps (masks ops.toList []) is) (hstb : ∀ q ∈ ps, q.1 ≠ q.2 → ∀ o : I, is[q.1]? = some o → q.2 < is.length → (evOp noCall (env (st q.1).1) (st q.2).2 o.op).map (·.1) = (evOp noCall (env (st q.1).1) (st (q.2 + 1)).2 o.op).map (·.1))
    {S S' : Nat → Bool} {ds : List Deferred} {p0 : Nat} {eb : Nat → Nat} {m00 : Emb} {a : Act} (hinv0 : Inv F base nt m0 w0 ds is st ops ps S p0 eb m00 a w)
    {i : Nat} {o : Oper} {x : I} (ho : ops[i]? = some o) (hx : is[i]? = some x) (hc : chkI P F nt ops o x = true) (hSi : S i = false) (hS' : ∀ k, S' k = true ↔ k = i ∨ S k = true) (hready : ∀ e ∈ o.after.toList, Region.binds .any e = true → S e.on = true)
    {K : Act → World → Prop} (hK : ∀ a' w' m' p' eb', Inv F base nt m0 w0 ds is st ops ps S' p' eb' m' a' w' → K a' w') : wpOp P ops Q i K a w := by
  have hlt : i < is.length := (List.getElem?_eq_some_iff.1 hx).1
  simp only [chkI, Bool.and_eq_true] at hc
  obtain ⟨⟨hd, hg⟩, hop⟩ := hc
  obtain ⟨hdd, hdlt⟩ := chkD_lt hd
  have hcl' : ∀ (k : Nat) (o' : Oper), ops.toList[k]? = some o' → S' (([] : List Nat).length + k) = true → ∀ e ∈ o'.after.toList, Region.binds .any e = true → S' e.on = true := by
    intro k o' hk hSk e he hb
    simp only [List.length_nil, Nat.zero_add] at hSk
    rw [Array.getElem?_toList] at hk
    rcases (hS' k).1 hSk with rfl | h1
    · rw [ho] at hk; cases hk
      exact (hS' _).2 (.inr (hready e he hb))
    · exact (hS' _).2 (.inr (hinv0.closed k o' hk h1 e he hb))
  have fact1 : ∀ q, q < i → ((masks ops.toList []).getD i 0).testBit q = true → S q = true := by
    intro q hq hb
    have := masks_closed (S := fun k => S' k = true) ops.toList [] (fun k hk => by simp at hk) hcl' i ((hS' i).2 (.inl rfl)) q hb
    rcases (hS' q).1 this with h1 | h1
    · omega
    · exact h1
  have fact2 : ∀ q, i < q → ((masks ops.toList []).getD q 0).testBit i = true → S q = false := by
    intro q hq hb
    cases hSq : S q
    · rfl
    · have := masks_closed (S := fun k => S k = true) ops.toList [] (fun k hk => by simp at hk) (fun k o' hk hSk => by
        simp only [List.length_nil, Nat.zero_add] at hSk
        rw [Array.getElem?_toList] at hk
        exact hinv0.closed k o' hk hSk) q hSq i hb
      rw [hSi] at this; cases this
  have uniqI : ∀ (t : Nat), x.dst = some t → ∀ (q : Nat) (z : I), is[q]? = some z → z.dst = some t → q = i := by
    intro t hxt q z hz hzt
    rcases Nat.lt_trichotomy q i with h1 | h1 | h1
    · exact absurd (hf.dst q i z x t h1 hz hx hzt hxt) id
    · exact h1
    · exact absurd (hf.dst i q x z t h1 hx hz hxt hzt) id
  have odst : ∀ (t : Nat) (q : Nat) (z : I), is[q]? = some z → z.dst = some t → q ≠ i → o.dst ≠ some t := by
    intro t q z hz hzt hqi hod
    exact hqi (uniqI t (hdd ▸ hod) q z hz hzt)
  -- what it reads
  have reads : ∀ (p : Nat) (m : Emb), Inv F base nt m0 w0 ds is st ops ps S p eb m a w → (x.op.kind = .m → p = i) → RelEnv F m (Env.only x.reads (st i).1) a.tmps := by
    intro p m hinv hpm t
    rw [only_get]
    split
    case isFalse => simp only [RelV]
    rename_i ht
    by_cases hw : ∃ (k : Nat) (y : I), is[k]? = some y ∧ y.dst = some t
    · obtain ⟨k, y, hy, hyt⟩ := hw
      have uniq : ∀ (q : Nat) (z : I), is[q]? = some z → z.dst = some t → q = k := by
        intro q z hz hzt
        rcases Nat.lt_trichotomy q k with h1 | h1 | h1
        · exact absurd (hf.dst q k z y t h1 hz hy hzt hyt) id
        · exact h1
        · exact absurd (hf.dst k q y z t h1 hy hz hyt hzt) id
      have pre : ¬ k < i → S k = false → RelV F m ((st i).1.get t) (a.tmps.getD t undef) := by
        intro hki hSk
        have := env_same hst i 0 (by omega) (t := t) (fun q z h1 h2 hz hzt => by have := uniq q z hz hzt; omega)
        rw [Nat.zero_add] at this
        rw [this]
        exact hinv.todo t fun q z hz hzt => by rw [uniq q z hz hzt]; exact hSk
      rcases Nat.lt_trichotomy k i with h1 | h1 | h1
      · have hSk := fact1 k h1 (hf.rd k i y x t h1 hy hx hyt ht)
        have := env_same hst (is.length - i) i (by omega) (t := t) (fun q z g1 g2 hz hzt => by have := uniq q z hz hzt; omega)
        rw [show i + (is.length - i) = is.length by omega] at this
        rw [← this]
        refine hinv.done t k y hy hyt hSk ?_
        by_cases hke : (k, k) ∈ ps
        · have := hpm (hf.erd k y t i x hke hy hyt hx ht)
          exact .inl (by omega)
        · exact .inr hke
      · exact pre (by omega) (by rw [h1]; exact hSi)
      · exact pre (by omega) (fact2 k h1 (hf.wr i k x y t h1 hx hy hyt ht))
    · have hn : ∀ (k : Nat) (y : I), is[k]? = some y → y.dst ≠ some t := fun k y h1 h2 => hw ⟨k, y, h1, h2⟩
      have := env_same hst i 0 (by omega) (t := t) (fun q z _ _ hz => hn q z hz)
      rw [Nat.zero_add] at this
      rw [this]
      exact hinv.todo t fun q z hz hzt => absurd hzt (hn q z hz)
  by_cases hearly : (i, i) ∈ ps
  · -- a literal, laid ahead of its turn or in it
    obtain ⟨t, op, hxe, hea⟩ := hf.esh i x hearly hx
    have hnm : x.op.kind = .m → p0 = i := fun h => by rw [hxe] at h; rw [ea_kind hea] at h; cases h
    have hrel := reads p0 m00 hinv0 hnm
    have hev := hst i x hx
    have hxd : x.dst = some t := by rw [hxe]
    have hod : o.dst = some t := hdd.trans hxd
    obtain ⟨cs, hfil⟩ : ∃ cs, eaC (env (st i).1) op = some cs := by
      rw [hxe] at hev
      simp only [evI, ea_ev hea] at hev
      cases hfc : eaC (env (st i).1) op with
      | none => rw [hfc] at hev; simp at hev
      | some cs => exact ⟨cs, rfl⟩
    have hfil' : eaC (env (Env.only x.reads (st i).1)) op = some cs := by
      rw [← hfil]
      exact (eaC_congr fun y hy => env_only (x := x) (e := (st i).1) y (by rw [hxe]; exact hy)).symm
    have hop' : chkOp P F o.op op = true := by rw [hxe] at hop; exact hop
    have hw : Region.wanted o (yielded ops a.tmps) = true := i_free hg (by rw [hxe])
    have key := ea_raw (o := o) (a := a) (w := w) hrel hea hop' hfil' K Q
    have hcl := (ea_raw (o := o) (a := a) (w := w) hrel hea hop' hfil' (fun _ _ => True) (fun _ _ _ => True) (fun _ _ _ => trivial)).1
    unfold wpOp
    simp only [ho, hw, if_true]
    refine .inl (key ?_).2
    intro us ty hus
    have hold : ∀ b : Nat, b < w.heap.size → (w.alloc (.cells us ty)).heap[b]? = w.heap[b]? := fun b hb => by rw [alloc_heap, Array.getElem?_push, if_neg (by omega)]
    have hnew : (w.alloc (.cells us ty)).heap[w.heap.size]? = some (.cells us ty (0, 0)) := by rw [alloc_heap]; simp
    have hblt : ∀ (k : Nat) (y : I), p0 ≤ k → is[k]? = some y → (k, k) ∈ ps → S k = true → eb k < w.heap.size := by
      intro k y hk hy hke hSk
      obtain ⟨_, _, _, _, _, _, _, _, _, _, hh, _⟩ := hinv0.early k y hk hy hke hSk
      exact (Array.getElem?_eq_some_iff.1 hh).1
    have hip : ¬ i < p0 := fun h => by
      have := hinv0.low i x h hx (lit_heapy hxe hea)
      rw [hSi] at this; cases this
    have hgr := StepR.grown (w' := w.alloc (.cells us ty)) hinv0.step.rel hold (by rw [alloc_heap]; simp) rfl rfl rfl
    refine hK _ _ m00 p0 (fun k => if k = i then w.heap.size else eb k) ⟨by rw [Act.put_defs]; exact hinv0.defs, by rw [Act.put_size]; exact hinv0.size, ?_, ?_, ?_, hinv0.ple, ?_, ?_, hinv0.step.trans hgr, hinv0.b0, ?_, ?_⟩
    · intro t' k y hy hyt hSk hk
      have hki : k ≠ i := by
        rintro rfl
        rcases hk with hk | hk
        · exact hip hk
        · exact hk hearly
      rw [put_other (odst t' k y hy hyt hki)]
      exact hinv0.done t' k y hy hyt (((hS' k).1 hSk).resolve_left hki) hk
    · intro t' hall
      have hne : o.dst ≠ some t' := by
        intro hod'
        have := hall i x hx (hdd ▸ hod')
        rw [(hS' i).2 (.inl rfl)] at this; cases this
      rw [put_other hne]
      refine hinv0.todo t' fun k y hy hyt => ?_
      have := hall k y hy hyt
      cases hSk : S k
      · rfl
      · rw [(hS' k).2 (.inr hSk)] at this; cases this
    · intro k o' hk hSk e he hb
      exact hcl' k o' (by rw [Array.getElem?_toList]; exact hk) (by simpa using hSk) e he hb
    · intro k y hk hy hyh; exact (hS' k).2 (.inr (hinv0.low k y hk hy hyh))
    · intro k y hk hy hyh hSk
      rcases (hS' k).1 hSk with rfl | h1
      · exact hearly
      · exact hinv0.upp k y hk hy hyh h1
    · intro k y hk hy hke hSk
      by_cases hki : k = i
      · subst hki
        rw [hx] at hy; cases hy
        refine ⟨t, op, cs, us, ty, hxe, hea, hfil, hcl, hus, by rw [if_pos rfl]; exact hnew, by rw [if_pos rfl]; exact hinv0.step.size, ?_, ?_⟩
        · rw [if_pos rfl]
          rintro (⟨c, kk, q, hq, hqb⟩ | ⟨c, hc⟩)
          · have := hinv0.step.rel.ltr c kk q hq; omega
          · have := hinv0.step.rel.lto c _ hc; omega
        · rw [if_pos rfl]
          have hlt2 := hdlt t hod
          simp only [hod, Act.put]
          rw [getD_set, if_pos ⟨rfl, Nat.lt_of_lt_of_le hlt2 hinv0.size⟩]
      · have hSk' := ((hS' k).1 hSk).resolve_left hki
        obtain ⟨t2, op2, cs2, us2, ty2, hye, k0, k1, k2, k3, k4, k5, k6, k7⟩ := hinv0.early k y hk hy hke hSk'
        have hb := hblt k y hk hy hke hSk'
        refine ⟨t2, op2, cs2, us2, ty2, hye, k0, k1, k2, k3, ?_, ?_, ?_, ?_⟩
        · rw [if_neg hki, hold _ hb]; exact k4
        · rw [if_neg hki]; exact k5
        · rw [if_neg hki]; exact k6
        · rw [if_neg hki, put_other (odst t2 k y hy (by rw [hye]) hki)]; exact k7
    · intro k k' g1 g2 g3 g4 g5 g6 g7 g8 g9
      have get : ∀ k, k < is.length → ∃ y, is[k]? = some y := fun k hk => ⟨is[k], by simp⟩
      obtain ⟨y, hy⟩ := get k g7
      obtain ⟨y', hy'⟩ := get k' g8
      by_cases hki : k = i <;> by_cases hki' : k' = i
      · rw [hki, hki']
      · simp only [hki, if_true, if_neg hki'] at g9
        have := hblt k' y' g2 hy' g4 (((hS' k').1 g6).resolve_left hki')
        omega
      · simp only [hki', if_true, if_neg hki] at g9
        have := hblt k y g1 hy g3 (((hS' k).1 g5).resolve_left hki)
        omega
      · simp only [if_neg hki, if_neg hki'] at g9
        exact hinv0.einj k k' g1 g2 g3 g4 (((hS' k).1 g5).resolve_left hki) (((hS' k').1 g6).resolve_left hki') g7 g8 g9
  -- in its turn
  obtain ⟨p, m, hinv, hpi⟩ : ∃ p m, Inv F base nt m0 w0 ds is st ops ps S p eb m a w ∧ ((x.op.heapy = true ∧ p = i) ∨ x.op.heapy = false) := by
    cases hh : x.op.heapy
    · exact ⟨p0, m00, hinv0, .inr rfl⟩
    · have hip : ¬ i < p0 := fun h => by
        have := hinv0.low i x h hx hh
        rw [hSi] at this; cases this
      obtain ⟨m1, h1⟩ := advanceTo hst hf i (by omega) (i - p0) p0 m00 (by omega) hinv0 (by
        intro k y hk hk2 hy hyh
        have hcl : clashK y.op.kind x.op.kind = true := by
          unfold AOp.heapy at hyh hh
          cases h1 : y.op.kind <;> rw [h1] at hyh <;> simp [clashK] at hyh <;> cases h2 : x.op.kind <;> rw [h2] at hh <;> simp [clashK] at hh ⊢
        rcases hf.hp k i y x hk2 hy hx hcl with h1 | ⟨h1, _⟩ | ⟨h1, _⟩ | h1
        · exact fact1 k hk2 h1
        · rw [AOp.heapy, h1] at hyh; simp [clashK] at hyh
        · rw [AOp.heapy, h1] at hh; simp [clashK] at hh
        · exact absurd h1 hearly)
      exact ⟨i, m1, h1, .inl ⟨rfl, rfl⟩⟩
  have hkm : x.op.kind = .m → p = i := fun h => by
    rcases hpi with ⟨_, h1⟩ | h1
    · exact h1
    · rw [AOp.heapy, h] at h1; simp [clashK] at h1
  have hrel := reads p m hinv hkm
  have hstep := hinv.step
  have hp := hinv.ple
  have hV : x.op.kind = .q ∨ (x.op.heapy = true ∧ (st p).2 = (st i).2) ∨ (x.op.kind = .l ∧ ∀ ρ, ρ = env (st i).1 → (evOp noCall ρ (st p).2 x.op).map (·.1) = (evOp noCall ρ (st i).2 x.op).map (·.1)) := by
    rcases hpi with ⟨hh, rfl⟩ | hh
    · exact .inr (.inl ⟨hh, rfl⟩)
    by_cases hq : x.op.kind = .q
    · exact .inl hq
    have hl : x.op.kind = .l := by
      unfold AOp.heapy at hh
      cases h2 : x.op.kind <;> rw [h2] at hh <;> simp [clashK] at hh <;> first | rfl | exact absurd h2 hq
    refine .inr (.inr ⟨hl, ?_⟩)
    rintro ρ rfl
    have hclash : ∀ {y : I}, y.op.heapy = true → clashK y.op.kind x.op.kind = true ∧ clashK x.op.kind y.op.kind = true := by
      intro y hyh
      unfold AOp.heapy at hyh
      rw [hl]
      refine ⟨hyh, ?_⟩
      cases h1 : y.op.kind <;> rw [h1] at hyh <;> simp [clashK] at hyh ⊢
    have stab : ∀ (k : Nat) (y : I), (i, k) ∈ ps → is[k]? = some y → y.op.heapy = true → (evOp noCall (env (st i).1) (st k).2 x.op).map (·.1) = (evOp noCall (env (st i).1) (st (k + 1)).2 x.op).map (·.1) := by
      intro k y hik hy hyh
      have hlk := (List.getElem?_eq_some_iff.1 hy).1
      refine hstb _ hik ?_ x hx hlk
      simp only
      rintro rfl
      rw [hx] at hy; cases hy
      rw [hh] at hyh; cases hyh
    by_cases hpi' : p ≤ i
    · have := read_same hst (op := x.op) (ρ := env (st i).1) (i - p) p (by omega) (fun k y hk hk2 hy => by
        cases hyh : y.op.heapy
        · exact .inl rfl
        · refine .inr ?_
          rcases hf.hp k i y x (by omega) hy hx (hclash hyh).1 with g1 | ⟨g1, _⟩ | ⟨_, _, g1⟩ | g1
          · have := hinv.upp k y hk hy hyh (fact1 k (by omega) g1)
            exact stab k y (hf.el k y i x this hy hx hl) hy hyh
          · rw [AOp.heapy, g1] at hyh; simp [clashK] at hyh
          · exact stab k y g1 hy hyh
          · exact absurd g1 hearly)
      rw [show p + (i - p) = i by omega] at this
      exact this.symm
    · have := read_same hst (op := x.op) (ρ := env (st i).1) (p - i) i (by omega) (fun k y hk hk2 hy => by
        cases hyh : y.op.heapy
        · exact .inl rfl
        · refine .inr ?_
          by_cases hki : k = i
          · subst hki; rw [hx] at hy; cases hy; rw [hh] at hyh; cases hyh
          · rcases hf.hp i k x y (by omega) hx hy (hclash hyh).2 with g1 | ⟨_, _, g1⟩ | ⟨g1, _⟩ | g1
            · have h1 := hinv.low k y (by omega) hy hyh
              rw [fact2 k (by omega) g1] at h1; cases h1
            · exact stab k y g1 hy hyh
            · rw [AOp.heapy, g1] at hyh; simp [clashK] at hyh
            · exact stab k y (hf.el k y i x g1 hy hx hl) hy hyh)
      rw [show i + (p - i) = p by omega] at this
      exact this
  have after : ∀ (v : AV) (v' : Value) (m' : Emb) (w' : World) (V' : AH), RelV F m' v v' → (st (i + 1)).1 = put (st i).1 x.dst v → StepR F base m (st p).2 w m' V' w' → (x.op.heapy = true → V' = (st (i + 1)).2) → (x.op.heapy = false → V' = (st p).2) → ∃ p', Inv F base nt m0 w0 ds is st ops ps S' p' eb m' (a.put o.dst v') w' := by
    intro v v' m' w' V' hv hput hst' h1 h2
    have hkeep : ∀ (k : Nat) (y : I), p ≤ k → is[k]? = some y → (k, k) ∈ ps → S' k = true → EarlyAt F m' w0 w' (st k).1 y (eb k) (a.put o.dst v') := by
      intro k y hk hy hke hSk
      have hki : k ≠ i := fun e => hearly (e ▸ hke)
      obtain ⟨t2, op2, cs2, us2, ty2, hye, k0, k1, k2, k3, k4, k5, k6, k7⟩ := hinv.early k y hk hy hke (((hS' k).1 hSk).resolve_left hki)
      have hb := (Array.getElem?_eq_some_iff.1 k4).1
      obtain ⟨q1, q2⟩ := has_not hst' hb k6
      refine ⟨t2, op2, cs2, us2, ty2, hye, k0, k1, k2, RelL.mono hst'.le _ _ k3, by rw [q1]; exact k4, k5, q2, ?_⟩
      rw [put_other (odst t2 k y hy (by rw [hye]) hki)]; exact k7
    have hei : ∀ p', p ≤ p' → ∀ (k k' : Nat), p' ≤ k → p' ≤ k' → (k, k) ∈ ps → (k', k') ∈ ps → S' k = true → S' k' = true → k < is.length → k' < is.length → eb k = eb k' → k = k' := by
      intro p' hpp k k' g1 g2 g3 g4 g5 g6
      exact hinv.einj k k' (by omega) (by omega) g3 g4 (((hS' k).1 g5).resolve_left (fun e => hearly (e ▸ g3))) (((hS' k').1 g6).resolve_left (fun e => hearly (e ▸ g4)))
    have hdone : ∀ p', (∀ k, k ≠ i → k < p' → k < p) → ∀ (t k : Nat) (y : I), is[k]? = some y → y.dst = some t → S' k = true → (k < p' ∨ (k, k) ∉ ps) → RelV F m' ((st is.length).1.get t) ((a.put o.dst v').tmps.getD t undef) := by
      intro p' hpp t k y hy hyt hSk hk
      by_cases hki : k = i
      · subst hki
        rw [hx] at hy; cases hy
        have := env_same hst (is.length - (k + 1)) (k + 1) (by omega) (t := t) (fun q z g1 g2 hz hzt => by have := uniqI t hyt q z hz hzt; omega)
        rw [show k + 1 + (is.length - (k + 1)) = is.length by omega] at this
        rw [this, hput, hyt]
        have hod : o.dst = some t := hdd.trans hyt
        have hlt2 := hdlt t hod
        simp only [put, Env.get_set, if_true, hod, Act.put]
        rw [getD_set]
        rw [if_pos ⟨rfl, Nat.lt_of_lt_of_le hlt2 hinv.size⟩]
        exact hv
      · rw [put_other (odst t k y hy hyt hki)]
        exact RelV.mono hst'.le _ _ (hinv.done t k y hy hyt (((hS' k).1 hSk).resolve_left hki) (hk.imp (hpp k hki) id))
    have htodo : ∀ t, (∀ (k : Nat) (y : I), is[k]? = some y → y.dst = some t → S' k = false) → RelV F m' ((st 0).1.get t) ((a.put o.dst v').tmps.getD t undef) := by
      intro t hall
      have hne : o.dst ≠ some t := by
        intro hod
        have := hall i x hx (hdd ▸ hod)
        rw [(hS' i).2 (.inl rfl)] at this; cases this
      rw [put_other hne]
      refine RelV.mono hst'.le _ _ (hinv.todo t fun k y hy hyt => ?_)
      have := hall k y hy hyt
      cases hSk : S k
      · rfl
      · rw [(hS' k).2 (.inr hSk)] at this; cases this
    have hclo : ∀ (k : Nat) (o' : Oper), ops[k]? = some o' → S' k = true → ∀ e ∈ o'.after.toList, Region.binds .any e = true → S' e.on = true := fun k o' hk hSk e he hb => hcl' k o' (by rw [Array.getElem?_toList]; exact hk) (by simpa using hSk) e he hb
    rcases hpi with ⟨hh, rfl⟩ | hh
    · rw [h1 hh] at hst'
      refine ⟨p + 1, by rw [Act.put_defs]; exact hinv.defs, by rw [Act.put_size]; exact hinv.size, hdone (p + 1) (fun k h1 h2 => by omega), htodo, hclo, by omega, ?_, ?_, hstep.trans hst', hinv.b0, fun k y hk => hkeep k y (by omega), hei (p + 1) (by omega)⟩
      · intro k y hk hy hyh
        by_cases hki : k = p
        · exact (hS' k).2 (.inl hki)
        · exact (hS' k).2 (.inr (hinv.low k y (by omega) hy hyh))
      · intro k y hk hy hyh hSk
        exact hinv.upp k y (by omega) hy hyh (((hS' k).1 hSk).resolve_left (by omega))
    · rw [h2 hh] at hst'
      refine ⟨p, by rw [Act.put_defs]; exact hinv.defs, by rw [Act.put_size]; exact hinv.size, hdone p (fun k _ h2 => h2), htodo, hclo, hp, ?_, ?_, hstep.trans hst', hinv.b0, fun k y hk => hkeep k y hk, hei p (Nat.le_refl _)⟩
      · intro k y hk hy hyh; exact (hS' k).2 (.inr (hinv.low k y hk hy hyh))
      · intro k y hk hy hyh hSk
        rcases (hS' k).1 hSk with rfl | h1
        · rw [hx] at hy; cases hy; rw [hh] at hyh; cases hyh
        · exact hinv.upp k y hk hy hyh h1
  have hevi := hst i x hx
  have run : (evOp cf (env (st i).1) (st i).2 x.op).map (fun (v, h') => (put (st i).1 x.dst v, h')) = some (st (i + 1)) → Region.wanted o (yielded ops a.tmps) = true → wpOp P ops Q i K a w := by
    intro hev hw
    simp only [Option.map_eq_some_iff] at hev
    obtain ⟨⟨v, h2⟩, hv, hst2⟩ := hev
    have hput : (st (i + 1)).1 = put (st i).1 x.dst v := by rw [← hst2]
    have hh2 : (st (i + 1)).2 = h2 := by rw [← hst2]
    have hev' : ∃ V', evOp cf (env (Env.only x.reads (st i).1)) (st p).2 x.op = some (v, V') ∧ (x.op.heapy = true → V' = (st (i + 1)).2) ∧ (x.op.heapy = false → V' = (st p).2) := by
      rw [evOp_congr (env_only (x := x))] at hv
      rcases hV with hq | ⟨hhx, hV⟩ | ⟨hl, hV⟩
      · refine ⟨(st p).2, evOp_q hq hv _, ?_, fun _ => rfl⟩
        intro hh; simp [AOp.heapy, hq, clashK] at hh
      · rw [hV]
        refine ⟨h2, hv, fun _ => hh2.symm, ?_⟩
        intro hh; rw [hhx] at hh; cases hh
      · have hcall : x.op.isCall = false := by
          cases hxo : x.op <;> rw [hxo] at hl <;> simp [AOp.kind] at hl <;> rfl
        have h3 := hV (env (st i).1) rfl
        rw [evOp_congr (env_only (x := x)), evOp_congr (ρ := env (st i).1) (env_only (x := x)), evOp_any hcall noCall cf, evOp_any hcall noCall cf, hv] at h3
        simp only [Option.map_some, Option.map_eq_some_iff] at h3
        obtain ⟨⟨u, V'⟩, hu, rfl⟩ := h3
        have := evOp_l_same hl hu
        subst this
        refine ⟨_, hu, ?_, fun _ => rfl⟩
        intro hh; rw [AOp.heapy, hl] at hh; simp [clashK] at hh
    obtain ⟨V', hev2, k1, k2⟩ := hev'
    unfold wpOp
    simp only [ho, hw, if_true]
    refine .inl (Oper.wp_mono ?_ (op_sound hs hstep.rel hrel hop hev2 Q))
    rintro a2 w2 ⟨v2, m2, rfl, hv2, hst3⟩
    obtain ⟨p', hp'⟩ := after v v2 m2 w2 V' hv2 hput hst3 k1 k2
    exact hK _ w2 m2 p' eb hp'
  unfold evI at hevi
  split at hevi
  · rename_i hgn
    exact run hevi (i_free hg hgn)
  · rename_i t want hgs
    split at hevi
    · rename_i b hb
      have hb' : (Env.only x.reads (st i).1).get t = .bool b := by
        rw [only_get, if_pos (by simp [I.reads, hgs])]; exact hb
      have hw := i_wanted hg hrel hgs hb'
      split at hevi
      · rename_i hbw
        exact run hevi (by rw [hw]; simpa using hbw)
      · rename_i hbw
        simp only [Option.some.injEq] at hevi
        have hw' : Region.wanted o (yielded ops a.tmps) = false := by rw [hw]; simpa using hbw
        unfold wpOp
        simp only [ho, hw', Bool.false_eq_true, if_false]
        have hheap : (st (i + 1)).2 = (st i).2 := by rw [← hevi]
        have hgh : x.op.heapy = true → (st p).2 = (st (i + 1)).2 := by
          intro hh
          rcases hV with hq | ⟨_, hV⟩ | ⟨hl, _⟩
          · simp [AOp.heapy, hq, clashK] at hh
          · rw [hV, hheap]
          · rw [AOp.heapy, hl] at hh; simp [clashK] at hh
        obtain ⟨p', hp'⟩ := after (.tup []) undef m w (st p).2 rel_skp (by rw [← hevi]) (StepR.refl hstep.rel) hgh (fun _ => rfl)
        exact hK _ w m p' eb hp'
    · rename_i hb
      have hb' : (Env.only x.reads (st i).1).get t = .tup [] := by
        rw [only_get, if_pos (by simp [I.reads, hgs])]; exact hb
      simp only [Option.some.injEq] at hevi
      have hw' : Region.wanted o (yielded ops a.tmps) = false := i_skp hg hrel hgs hb'
      unfold wpOp
      simp only [ho, hw', Bool.false_eq_true, if_false]
      have hheap : (st (i + 1)).2 = (st i).2 := by rw [← hevi]
      have hgh : x.op.heapy = true → (st p).2 = (st (i + 1)).2 := by
        intro hh
        rcases hV with hq | ⟨_, hV⟩ | ⟨hl, _⟩
        · simp [AOp.heapy, hq, clashK] at hh
        · rw [hV, hheap]
        · rw [AOp.heapy, hl] at hh; simp [clashK] at hh
      obtain ⟨p', hp'⟩ := after (.tup []) undef m w (st p).2 rel_skp (by rw [← hevi]) (StepR.refl hstep.rel) hgh (fun _ => rfl)
      exact hK _ w m p' eb hp'
    · cases hevi

theorem drw_sound (hs : Sound P F cf) (hm : P.follows .mixedOrders = true) {ps : List (Nat × Nat)} {id : Nat} {a : Act} (hc : chkIs P F nt ops ops.toList is = true) (hd : drwOk ops is ps = true) (hev : evDraw cf is ps e h = some (e', h'))
    (hr : RelH F base m h w) (he : RelEnv F m e a.tmps) (hn : nt ≤ a.tmps.size)
    (hQ : ∀ a' w' m', a'.defers = a.defers → nt ≤ a'.tmps.size → RelEnv F m' e' a'.tmps → StepR F base m h w m' h' w' → Q .normal a' w') : (Code.region id ops true).wp P Q a w := by
  have hev : evR cf is e h = some (e', h') ∧ ∀ q ∈ ps, q.1 = q.2 ∨ Stable cf is e h q.1 q.2 := by
    unfold evDraw at hev
    split at hev
    · rename_i hh; exact ⟨hev, hh⟩
    · cases hev
  obtain ⟨hev, hstable⟩ := hev
  obtain ⟨hf, hed⟩ := fit_of hd
  obtain ⟨hlen, hchk⟩ := chk_get hc
  obtain ⟨st, s0, sn, hst⟩ := states is e h e' h' hev
  have hstate : ∀ i, i ≤ is.length → stateAt cf is i e h = some (st i) := by
    intro i
    induction i with
    | zero => intro _; simp [stateAt, evR, s0]
    | succ i ih =>
      intro hi
      have h1 := ih (by omega)
      obtain ⟨x, hx⟩ : ∃ x, is[i]? = some x := ⟨is[i]'(by omega), by simp⟩
      have app : ∀ (l : List I) (e : Env) (h : AH) (s : Env × AH), evR cf l e h = some s → evR cf (l ++ [x]) e h = evI cf x s.1 s.2 := by
        intro l
        induction l with
        | nil =>
          intro e h s hs
          simp only [evR, Option.some.injEq] at hs
          subst hs
          simp only [List.nil_append, evR]
          cases evI cf x e h with
          | none => rfl
          | some y => rfl
        | cons y l ih =>
          intro e h s hs
          simp only [List.cons_append, evR] at hs ⊢
          split at hs
          · rename_i e1 h1 h2; exact ih _ _ _ hs
          · cases hs
      unfold stateAt at h1 ⊢
      rw [List.take_add_one, hx]
      simp only [Option.toList_some]
      rw [app _ _ _ _ h1, hst i x hx]
  have hstb : ∀ q ∈ ps, q.1 ≠ q.2 → ∀ o : I, is[q.1]? = some o → q.2 < is.length → (evOp noCall (env (st q.1).1) (st q.2).2 o.op).map (·.1) = (evOp noCall (env (st q.1).1) (st (q.2 + 1)).2 o.op).map (·.1) := by
    intro q hq hne o ho hlt
    have hlt1 := (List.getElem?_eq_some_iff.1 ho).1
    exact (hstable q hq).resolve_left hne o _ _ _ _ _ _ ho (hstate q.1 (by omega)) (hstate q.2 (by omega)) (hstate (q.2 + 1) (by omega))
  refine wp_region_any hm ?_
  have hdraw : StepR F base m h w m h { w with drawn := w.drawn + 1 } := StepR.draw hr rfl rfl rfl rfl
  have main : ∀ (fuel : Nat) (listed : Array Bool) (a1 : Act) (m1 : Emb) (w1 : World) (p1 : Nat) (eb1 : Nat → Nat), listed.size = ops.size → cnt (fun k => listed.getD k false) ops.size ≤ fuel → Inv F base nt m w a.defers is st ops ps (fun k => listed.getD k false) p1 eb1 m1 a1 w1 → wpAny P .any ops Q fuel listed a1 w1 := by
    have fin : ∀ (listed : Array Bool) (a1 : Act) (m1 : Emb) (w1 : World) (p1 : Nat) (eb1 : Nat → Nat), Inv F base nt m w a.defers is st ops ps (fun k => listed.getD k false) p1 eb1 m1 a1 w1 → (∀ k, k < is.length → listed.getD k false = true) → Q .normal a1 w1 := by
      intro listed a1 m1 w1 p1 eb1 hinv hall
      obtain ⟨m', g1, g2⟩ := inv_end hst hf hinv hall
      rw [sn] at g1 g2
      rw [s0] at g2
      exact hQ a1 w1 m' hinv.defs hinv.size g1 g2
    have allOf : ∀ listed : Array Bool, listed.size = ops.size → Region.ready .any ops listed = [] → ∀ k, k < ops.size → listed.getD k false = true := by
      intro listed hsz hrd k
      induction k using Nat.strongRecOn with
      | ind k ih =>
        intro hk
        cases hl : listed.getD k false with
        | true => rfl
        | false =>
          have : k ∈ Region.ready .any ops listed := by
            rw [mem_ready]
            refine ⟨?_, ops[k], by simp, ?_⟩
            · rw [Array.getD_eq_getD_getElem?] at hl ⊢
              rw [Array.getElem?_eq_getElem (by omega)] at hl ⊢
              simpa using hl
            · intro ed hed' hb
              have := edges_get ops.toList 0 k ops[k] hed (by simp) ed (by simpa using hed') hb
              exact ih ed.on (by omega) (by omega)
          rw [hrd] at this
          cases this
    intro fuel
    induction fuel with
    | zero =>
      intro listed a1 m1 w1 p1 eb1 hsz hcnt hinv
      have hall := cnt_zero (S := fun k => listed.getD k false) ops.size (by omega)
      refine ⟨?_, fin listed a1 m1 w1 p1 eb1 hinv (fun k hk => hall k (by simp at hlen; omega))⟩
      cases hrd : Region.ready .any ops listed with
      | nil => rfl
      | cons k l =>
        have hk : k ∈ Region.ready .any ops listed := by rw [hrd]; simp
        rw [mem_ready] at hk
        obtain ⟨h1, o, ho, _⟩ := hk
        have hlt := (Array.getElem?_eq_some_iff.1 ho).1
        have h2 := hall k hlt
        rw [Array.getD_eq_getD_getElem?, Array.getElem?_eq_getElem (by omega)] at h1 h2
        simp at h1 h2
        rw [h1] at h2; cases h2
    | succ fuel ih =>
      intro listed a1 m1 w1 p1 eb1 hsz hcnt hinv
      refine ⟨fun hrd => fin listed a1 m1 w1 p1 eb1 hinv (fun k hk => allOf listed hsz hrd k (by simp at hlen; omega)), ?_⟩
      intro i hi
      rw [mem_ready] at hi
      obtain ⟨h1, o, ho, hedge⟩ := hi
      have hlt := (Array.getElem?_eq_some_iff.1 ho).1
      have hlt2 : i < is.length := by simp at hlen; omega
      have hSi : listed.getD i false = false := by
        rw [Array.getD_eq_getD_getElem?, Array.getElem?_eq_getElem (by omega)] at h1 ⊢
        simpa using h1
      have hS' : ∀ k, (listed.setIfInBounds i true).getD k false = true ↔ k = i ∨ listed.getD k false = true := by
        intro k
        simp only [Array.getD_eq_getD_getElem?, Array.getElem?_setIfInBounds]
        by_cases hik : i = k
        · subst hik
          simp [show i < listed.size by omega]
        · rw [if_neg hik]
          constructor
          · intro hh; exact .inr hh
          · rintro (hh | hh)
            · exact absurd hh.symm hik
            · exact hh
      refine inv_step hs hst hf hstb hinv (S' := fun k => (listed.setIfInBounds i true).getD k false) ho (x := is[i]) (by simp) (hchk i o is[i] (by rw [Array.getElem?_toList]; exact ho) (by simp)) hSi hS' (fun ed hed' hb => hedge ed (by simpa using hed') hb) ?_
      intro a' w' m' p' eb' hinv'
      refine ih _ a' m' w' p' eb' (by simp [hsz]) ?_ hinv'
      have := cnt_lt (S := fun k => listed.getD k false) (S' := fun k => (listed.setIfInBounds i true).getD k false) (fun k hk => (hS' k).2 (.inr hk)) hSi ((hS' i).2 (.inl rfl)) ops.size hlt
      omega
  refine main ops.size _ a m _ 0 (fun _ => 0) (by simp) ?_ ?_
  · have : ∀ (S : Nat → Bool) n, cnt S n ≤ n := by
      intro S n
      induction n with
      | zero => exact Nat.le_refl _
      | succ n ih => simp only [cnt]; split <;> omega
    exact this _ _
  · have hno : ∀ k, (Array.replicate ops.size false).getD k false = false := by
      intro k
      rw [Array.getD_eq_getD_getElem?, Array.getElem?_replicate]
      split <;> rfl
    refine ⟨rfl, hn, ?_, ?_, ?_, Nat.zero_le _, fun k x hk => by omega, ?_, by rw [s0]; exact hdraw, hr.le, ?_, ?_⟩
    · intro t k x hx hxt hS; rw [hno] at hS; cases hS
    · intro t _; rw [s0]; exact he t
    · intro k o ho hS; rw [hno] at hS; cases hS
    · intro k x _ _ _ hS; rw [hno] at hS; cases hS
    · intro k x _ _ _ hS; rw [hno] at hS; cases hS
    · intro k k' _ _ _ _ hS; rw [hno] at hS; cases hS
end
end Go.Proofs.YtejhhdpfndiliaaGreatDoor.Ab

/- CODE AND CALLS: what the evaluator says, the program does. -/
namespace Go.Proofs.YtejhhdpfndiliaaGreatDoor.Ab
open Go Go.RowKit

section
variable (P : Program) (F : Nat → Nat)

def chkC (nt : Nat) : C → Code → Bool
  | .kl _ c, d => chkC nt c d
  | .skip, .skip => true
  | .reg is, .region _ ops false => chkIs P F nt ops ops.toList is
  | .drw is ps, .region _ ops true => P.follows .mixedOrders && chkIs P F nt ops ops.toList is && drwOk ops is ps
  | .seq a b, .seq x y => chkC nt a x && chkC nt b y
  | .cond c a b, .cond y x z => chkO F y c && chkC nt a x && chkC nt b z
  | .blk i c, .block j d => decide (i = j) && chkC nt c d
  | .loop c, .loop d => chkC nt c d
  | .exit i, .exit j => decide (i = j)
  | .ret, .ret => true
  | .bad, _ => true
  | _, _ => false

def chkRes : List ResultVar → List Res → Bool
  | [], [] => true
  | .tmp t :: rs, .tmp t' :: qs => decide (t = t') && chkRes rs qs
  | .cell a t :: rs, .cell agg n a' :: qs => decide (a = a') && shp P t agg n && chkRes rs qs
  | _, _ => false

def chkF (f : Nat) (fi : FI) : Bool := match P.funcs[F f]? with
  | some fn => match fn.body with
    | some c => !(fn.name == "runtime.NumGoroutine") && chkC P F fn.ntmps fi.body c && chkRes P fn.results.toList fi.res
    | none => false
  | none => false
end

def X.exit' : X → Exit
  | .normal => .normal
  | .exit i => .exit i
  | .ret => .ret

section
variable {P : Program} {F : Nat → Nat} {base : Nat} {cf : CF} {nt : Nat}

/-- What a piece of code leaves behind. -/
def Post (P : Program) (F : Nat → Nat) (base nt : Nat) (m : Emb) (h : AH) (w : World) (ds : List Deferred) (x : X) (e' : Env) (h' : AH) : Exit → Act → World → Prop :=
  fun ee a' w' => ee = x.exit' ∧ a'.defers = ds ∧ nt ≤ a'.tmps.size ∧ ∃ m', RelEnv F m' e' a'.tmps ∧ StepR F base m h w m' h' w'

theorem Post.trans {m m1 : Emb} {h h1 h' : AH} {w w1 : World} {ds : List Deferred} {x : X} {e' : Env} {ee : Exit} {a' : Act} {w' : World} (hs : StepR F base m h w m1 h1 w1) (hp : Post P F base nt m1 h1 w1 ds x e' h' ee a' w') : Post P F base nt m h w ds x e' h' ee a' w' := by
  obtain ⟨h1, h2, h3, m', h4, h5⟩ := hp
  exact ⟨h1, h2, h3, m', h4, hs.trans h5⟩

theorem code_sound (hs : Sound P F cf) (n : Nat) : ∀ (c : C) (d : Code) (a : Act) (m : Emb) (e : Env) (h : AH) (w : World) (x : X) (e' : Env) (h' : AH), chkC P F nt c d = true → evC cf n c e h = some (x, e', h') →
    RelH F base m h w → RelEnv F m e a.tmps → nt ≤ a.tmps.size → d.wp P (Post P F base nt m h w a.defers x e' h') a w := by
  intro c
  induction c with
  | skip =>
    intro d a m e h w x e' h' hc hev hr he hn
    cases d <;> simp [chkC] at hc
    simp only [evC, Option.some.injEq, Prod.mk.injEq] at hev
    obtain ⟨rfl, rfl, rfl⟩ := hev
    exact wp_skip ⟨rfl, rfl, hn, m, he, StepR.refl hr⟩
  | reg is =>
    intro d a m e h w x e' h' hc hev hr he hn
    cases d <;> try (simp [chkC] at hc; done)
    rename_i id ops draw
    cases draw <;> try (simp [chkC] at hc; done)
    simp only [chkC] at hc
    simp only [evC, Option.map_eq_some_iff, Prod.mk.injEq] at hev
    obtain ⟨⟨e1, h1⟩, hev, rfl, rfl, rfl⟩ := hev
    exact reg_sound hs hc hev hr he hn fun a' w' m' k1 k2 k3 k4 => ⟨rfl, k1, k2, m', k3, k4⟩
  | drw is ps =>
    intro d a m e h w x e' h' hc hev hr he hn
    cases d <;> try (simp [chkC] at hc; done)
    rename_i id ops draw
    cases draw <;> try (simp [chkC] at hc; done)
    simp only [chkC] at hc
    simp only [Bool.and_eq_true] at hc
    simp only [evC, Option.map_eq_some_iff, Prod.mk.injEq] at hev
    obtain ⟨⟨e1, h1⟩, hev, rfl, rfl, rfl⟩ := hev
    exact drw_sound hs hc.1.1 hc.1.2 hc.2 hev hr he hn fun a' w' m' k1 k2 k3 k4 => ⟨rfl, k1, k2, m', k3, k4⟩
  | kl ts c ih =>
    intro d a m e h w x e' h' hc hev hr he hn
    simp only [chkC] at hc
    simp only [evC] at hev
    exact ih d a m _ h w x e' h' hc hev hr (he.dels ts) hn
  | seq c1 c2 ih1 ih2 =>
    intro d a m e h w x e' h' hc hev hr he hn
    cases d <;> simp only [chkC] at hc <;> try (cases hc; done)
    simp only [Bool.and_eq_true] at hc
    simp only [evC] at hev
    refine wp_seq ?_
    split at hev
    · rename_i e1 h1 hev1
      refine wp_mono (ih1 _ a m e h w _ e1 h1 hc.1 hev1 hr he hn) ?_
      rintro ee a1 w1 ⟨rfl, k1, k2, m1, k3, k4⟩
      have := ih2 _ a1 m1 e1 h1 w1 x e' h' hc.2 hev k4.rel k3 k2
      rw [k1] at this
      exact wp_mono this fun ee a2 w2 hp => Post.trans k4 hp
    · rename_i hne
      refine wp_mono (ih1 _ a m e h w _ e' h' hc.1 hev hr he hn) ?_
      rintro ee a1 w1 ⟨rfl, k1, k2, m1, k3, k4⟩
      cases x with
      | normal => exact absurd hev (hne _ _)
      | exit i => exact ⟨rfl, k1, k2, m1, k3, k4⟩
      | ret => exact ⟨rfl, k1, k2, m1, k3, k4⟩
  | cond y c1 c2 ih1 ih2 =>
    intro d a m e h w x e' h' hc hev hr he hn
    cases d <;> simp only [chkC] at hc <;> try (cases hc; done)
    simp only [Bool.and_eq_true] at hc
    simp only [evC] at hev
    split at hev
    · rename_i t ht
      have hv := chkO_rel he hc.1.1
      rw [ht] at hv
      refine wp_cond (rel_bool hv) ?_
      cases t
      · exact ih2 _ a m e h w x e' h' hc.2 hev hr he hn
      · exact ih1 _ a m e h w x e' h' hc.1.2 hev hr he hn
    · cases hev
  | blk id c ih =>
    intro d a m e h w x e' h' hc hev hr he hn
    cases d <;> simp only [chkC] at hc <;> try (cases hc; done)
    rename_i id2 d2
    simp only [Bool.and_eq_true, decide_eq_true_eq] at hc
    obtain ⟨rfl, hc⟩ := hc
    simp only [evC] at hev
    refine wp_block ?_
    split at hev
    · rename_i id' e1 h1 hev1
      refine wp_mono (ih _ a m e h w _ e1 h1 hc hev1 hr he hn) ?_
      rintro ee a1 w1 ⟨rfl, k1, k2, m1, k3, k4⟩
      simp only [X.exit', Exit.inBlock]
      split at hev
      · rename_i hid
        rw [if_pos hid]
        simp only [Option.some.injEq, Prod.mk.injEq] at hev
        obtain ⟨rfl, rfl, rfl⟩ := hev
        exact ⟨rfl, k1, k2, m1, k3, k4⟩
      · rename_i hid
        rw [if_neg hid]
        simp only [Option.some.injEq, Prod.mk.injEq] at hev
        obtain ⟨rfl, rfl, rfl⟩ := hev
        exact ⟨rfl, k1, k2, m1, k3, k4⟩
    · rename_i hne
      refine wp_mono (ih _ a m e h w _ e' h' hc hev hr he hn) ?_
      rintro ee a1 w1 ⟨rfl, k1, k2, m1, k3, k4⟩
      cases x with
      | normal => exact ⟨rfl, k1, k2, m1, k3, k4⟩
      | exit i => exact absurd hev (hne _ _ _)
      | ret => exact ⟨rfl, k1, k2, m1, k3, k4⟩
  | loop c ih =>
    intro d a m e h w x e' h' hc hev hr he hn
    cases d <;> simp only [chkC] at hc <;> try (cases hc; done)
    rename_i d2
    simp only [evC] at hev
    have key : ∀ (k : Nat) (a : Act) (m : Emb) (e : Env) (h : AH) (w : World), evLoop (evC cf n c) k e h = some (x, e', h') → RelH F base m h w → RelEnv F m e a.tmps → nt ≤ a.tmps.size →
        Code.rounds P d2 (Post P F base nt m h w a.defers x e' h') k a w := by
      intro k
      induction k with
      | zero => intro a m e h w hev; simp [evLoop] at hev
      | succ k ihk =>
        intro a m e h w hev hr he hn
        rw [rounds_succ]
        simp only [evLoop] at hev
        split at hev
        · rename_i e1 h1 hev1
          refine wp_mono (ih _ a m e h w _ e1 h1 hc hev1 hr he hn) ?_
          rintro ee a1 w1 ⟨rfl, k1, k2, m1, k3, k4⟩
          have := ihk a1 m1 e1 h1 w1 hev k4.rel k3 k2
          rw [k1] at this
          simp only [X.exit', Exit.then]
          have mono : ∀ (k : Nat) (Q Q' : Exit → Act → World → Prop), (∀ ee a w, Q ee a w → Q' ee a w) → ∀ a w, Code.rounds P d2 Q k a w → Code.rounds P d2 Q' k a w := by
            intro k Q Q' hq
            induction k with
            | zero => intro a w hh; exact hh
            | succ k ih =>
              intro a w hh
              rw [rounds_succ] at hh ⊢
              refine wp_mono hh ?_
              intro ee a w hx
              cases ee <;> first | exact ih _ _ hx | exact hq _ _ _ hx
          exact mono _ _ _ (fun ee a2 w2 hp => Post.trans k4 hp) _ _ this
        · rename_i hne
          refine wp_mono (ih _ a m e h w _ e' h' hc hev hr he hn) ?_
          rintro ee a1 w1 ⟨rfl, k1, k2, m1, k3, k4⟩
          cases x with
          | normal => exact absurd hev (hne _ _)
          | exit i => exact ⟨rfl, k1, k2, m1, k3, k4⟩
          | ret => exact ⟨rfl, k1, k2, m1, k3, k4⟩
    exact wp_loop_rounds n (key n a m e h w hev hr he hn)
  | exit i =>
    intro d a m e h w x e' h' hc hev hr he hn
    cases d <;> simp [chkC] at hc
    subst hc
    simp only [evC, Option.some.injEq, Prod.mk.injEq] at hev
    obtain ⟨rfl, rfl, rfl⟩ := hev
    exact wp_exit ⟨rfl, rfl, hn, m, he, StepR.refl hr⟩
  | ret =>
    intro d a m e h w x e' h' hc hev hr he hn
    cases d <;> simp [chkC] at hc
    simp only [evC, Option.some.injEq, Prod.mk.injEq] at hev
    obtain ⟨rfl, rfl, rfl⟩ := hev
    exact wp_ret ⟨rfl, rfl, hn, m, he, StepR.refl hr⟩
  | bad =>
    intro d a m e h w x e' h' hc hev hr he hn
    simp [evC] at hev

def oneRes (tmps : Array Value) : ResultVar → Sem Value
  | .tmp t => pure (tmps.getD t undef)
  | .cell a t => do loadVar t (← asAddr (tmps.getD a undef))
theorem results_eq (fn : Func) (tmps : Array Value) : results fn tmps = (do
    let vs ← fn.results.mapM (oneRes tmps)
    pure (if h : vs.size = 1 then vs[0] else .tuple vs)) := rfl

theorem res_run : ∀ (rs : List ResultVar) (qs : List Res) {e : Env} {h : AH} {w : World} {m : Emb} {tmps : Array Value} {vs : List AV}, chkRes P rs qs = true → RelH F base m h w → RelEnv F m e tmps → resL e h qs = some vs →
    ∃ us : List Value, (rs.mapM (oneRes tmps)).run P w = .ok us w ∧ RelL F m vs us
  | [], [], e, h, w, m, tmps, vs, hc, hr, he, hv => by
    simp only [resL, Option.some.injEq] at hv
    subst hv
    exact ⟨[], by simp, by simp [RelL]⟩
  | [], _ :: _, e, h, w, m, tmps, vs, hc, hr, he, hv => by simp [chkRes] at hc
  | .tmp _ :: _, [], e, h, w, m, tmps, vs, hc, hr, he, hv => by simp [chkRes] at hc
  | .cell _ _ :: _, [], e, h, w, m, tmps, vs, hc, hr, he, hv => by simp [chkRes] at hc
  | .tmp _ :: _, .cell .. :: _, e, h, w, m, tmps, vs, hc, hr, he, hv => by simp [chkRes] at hc
  | .cell _ _ :: _, .tmp _ :: _, e, h, w, m, tmps, vs, hc, hr, he, hv => by simp [chkRes] at hc
  | .tmp t :: rs, .tmp t' :: qs, e, h, w, m, tmps, vs, hc, hr, he, hv => by
    simp only [chkRes, Bool.and_eq_true, decide_eq_true_eq] at hc
    obtain ⟨rfl, hc⟩ := hc
    simp only [resL, res1] at hv
    split at hv
    · rename_i v vs' h1 h2
      cases hv
      cases h1
      obtain ⟨us, hu, hrel⟩ := res_run rs qs hc hr he h2
      refine ⟨tmps.getD t undef :: us, ?_, ?_⟩
      · simp only [List.mapM_cons, oneRes, Sem.run_bind, Sem.run_pure, Result.andThen, hu]
      · simp only [RelL]; exact ⟨_, _, rfl, he t, hrel⟩
    · cases hv
  | .cell t ty :: rs, .cell agg n t' :: qs, e, h, w, m, tmps, vs, hc, hr, he, hv => by
    simp only [chkRes, Bool.and_eq_true, decide_eq_true_eq] at hc
    obtain ⟨⟨rfl, hsh⟩, hc⟩ := hc
    simp only [resL] at hv
    split at hv
    · rename_i v vs' h1 h2
      cases hv
      obtain ⟨us, hu, hrel⟩ := res_run rs qs hc hr he h2
      simp only [res1] at h1
      split at h1
      case h_2 => cases h1
      rename_i c k off mm hk
      have hx := he t
      rw [hk] at hx
      obtain ⟨p, hp, hv2, hlo, hext⟩ := rel_ptr hx
      split at h1
      case isFalse => cases h1
      rename_i hle
      split at h1
      case h_2 => cases h1
      rename_i cs hcs
      obtain ⟨ls, hls, hlen, hrun⟩ := hr.loads (P := P) hcs hp hlo (by omega)
      have hsh' := hsh
      simp only [shp, Bool.and_eq_true, Bool.or_eq_true] at hsh'
      obtain ⟨⟨g1, g2⟩, g3⟩ := hsh'
      have hlv : ∃ u, (loadVar ty ⟨p.blk, p.base + (off - p.lo), none⟩).run P w = .ok u w ∧ RelV F m v u := by
        rcases mkv_rel h1 hls with ⟨rfl, hrv⟩ | ⟨rfl, u, rfl, hrv⟩
        · exact ⟨_, by simp [loadVar, run_isAg g1, run_sz g2, hrun], hrv⟩
        · have hn : n = 1 := by simpa using g3
          subst hn
          have hrun' := hrun
          have hcell : w.cell? ⟨p.blk, p.base + (off - p.lo), none⟩ = some u := by
            obtain ⟨us', hus', hlen', hc'⟩ := hr.row_at hcs hp hlo (by omega)
            simp only [loadCells, loadCellsFrom, Sem.run_bind, addr_add, Nat.add_zero, run_load] at hrun'
            cases hcc : w.cell? ⟨p.blk, p.base + (off - p.lo), none⟩ with
            | some q => rw [hcc] at hrun'; simp at hrun'; rw [hrun']
            | none =>
              obtain ⟨q, hq⟩ : ∃ q, us'[0]? = some q := ⟨us'[0], by simp⟩
              have := hc' 0 q hq
              rw [Nat.add_zero, hcc] at this; cases this
          exact ⟨u, by simp [loadVar, run_isAg g1, hcell], hrv⟩
      obtain ⟨u, hlu, hru⟩ := hlv
      refine ⟨u :: us, ?_, ?_⟩
      · simp only [List.mapM_cons, oneRes, Sem.run_bind, hv2, asAddr, Sem.run_pure, Result.andThen, hlu, hu]
      · simp only [RelL]; exact ⟨_, _, rfl, hru, hrel⟩
    · cases hv

theorem results_run {fn : Func} {qs : List Res} {e : Env} {h : AH} {w : World} {m : Emb} {tmps : Array Value} {r : AV} (hc : chkRes P fn.results.toList qs = true) (hr : RelH F base m h w) (he : RelEnv F m e tmps) (hv : resV e h qs = some r) :
    ∃ v, (results fn tmps).run P w = .ok v w ∧ RelV F m r v := by
  unfold resV at hv
  have key : ∀ vs, resL e h qs = some vs → ∃ us : List Value, RelL F m vs us ∧ (results fn tmps).run P w = .ok (if h : us.toArray.size = 1 then us.toArray[0] else .tuple us.toArray) w := by
    intro vs hvs
    obtain ⟨us, h1, h2⟩ := res_run fn.results.toList qs hc hr he hvs
    refine ⟨us, h2, ?_⟩
    rw [results_eq, Array.mapM_eq_mapM_toList]
    simp only [Sem.run_bind, Sem.run_map, h1, Result.andThen, Sem.run_pure]
  split at hv
  · rename_i v hvs
    cases hv
    obtain ⟨us, h1, h2⟩ := key _ hvs
    simp only [RelL] at h1
    obtain ⟨u, l, rfl, hu, rfl⟩ := h1
    exact ⟨u, by rw [h2]; simp, hu⟩
  · rename_i vs hne hvs
    cases hv
    obtain ⟨us, h1, h2⟩ := key _ hvs
    refine ⟨.tuple us.toArray, ?_, by simp only [RelV]; exact ⟨_, rfl, by simpa using h1⟩⟩
    have hl := h1.length
    have hne1 : us.length ≠ 1 := by
      intro h0
      rw [h0] at hl
      match vs, hl with
      | [v], _ => exact hne v rfl
    rw [h2]
    simp [hne1]
  · cases hv

/-- What a contract of a function outside the table owes. -/
def ExtOk (P : Program) (F : Nat → Nat) (E : Ext) : Prop := ∀ f G, E f = some G → ∀ cf, Sound P F cf → ∀ xs h r h', G cf xs h = some (r, h') → fnOk P (F f) = true ∧ ∀ base m w args, RelH F base m h w → RelL F m xs args.toList →
    Calls P (F f) args w fun e w' => ∃ v m', e = .returned v ∧ RelV F m' r v ∧ StepR F base m h w m' h' w'

theorem sound {T : Nat → Option FI} {E : Ext} (hT : ∀ f fi, E f = none → T f = some fi → chkF P F f fi = true) (hE : ExtOk P F E) : ∀ n, Sound P F (evF T E n)
  | 0 => by intro f xs h r h' hev; simp [evF] at hev
  | n + 1 => by
    intro f xs h r h' hev
    simp only [evF] at hev
    split at hev
    · rename_i G hG
      exact hE f G hG _ (sound hT hE n) xs h r h' hev
    · rename_i hG
      split at hev
      case h_2 => cases hev
      rename_i fi hfi
      have hc := hT f fi hG hfi
      unfold chkF at hc
      split at hc
      case h_2 => cases hc
      rename_i fn hfn
      split at hc
      case h_2 => cases hc
      rename_i c hbody
      simp only [Bool.and_eq_true, Bool.not_eq_true'] at hc
      obtain ⟨⟨h1, h2⟩, h3⟩ := hc
      refine ⟨by simp [fnOk, hfn, hbody]; simpa using h1, ?_⟩
      intro base m w args hr hx
      refine calls_of_wp hfn hbody ?_
      have hlen := hx.length
      have he : RelEnv F m (Env.init 0 xs) (args ++ Array.replicate (fn.ntmps - args.size) undef) := by
        intro t
        rw [init_get]
        split
        · rename_i ht
          have hlt : t < xs.length := by omega
          obtain ⟨v, hv, hxv⟩ := hx.get t xs[t] (by simp)
          have h0 : xs.getD (t - 0) .undef = xs[t] := by simp [List.getD_eq_getElem?_getD, hlt]
          rw [h0]
          rw [Array.getElem?_toList] at hv
          have : (args ++ Array.replicate (fn.ntmps - args.size) undef).getD t undef = v := by
            rw [Array.getD_eq_getD_getElem?, Array.getElem?_append_left (by simp at hlen; omega), hv]; rfl
          rw [this]; exact hxv
        · simp only [RelV]
      have hn : fn.ntmps ≤ (args ++ Array.replicate (fn.ntmps - args.size) undef).size := by simp; omega
      have main : ∀ x e' h1', evC (evF T E n) n fi.body (Env.init 0 xs) h = some (x, e', h1') → (x = .normal ∨ x = .ret) → (resV e' h1' fi.res).map (·, h1') = some (r, h') →
          c.wp P (bodyPost P fn fun ee w' => ∃ v m', ee = .returned v ∧ RelV F m' r v ∧ StepR F base m h w m' h' w') { tmps := args ++ Array.replicate (fn.ntmps - args.size) undef, defers := [] } w := by
        intro x e' h1' hev hx' hres
        refine wp_mono (code_sound (sound hT hE n) n fi.body c _ m _ h w x e' h1' h2 hev hr he hn) ?_
        rintro ee a' w' ⟨rfl, k1, k2, m', k3, k4⟩
        simp only [Option.map_eq_some_iff, Prod.mk.injEq] at hres
        obtain ⟨r', hres, rfl, rfl⟩ := hres
        obtain ⟨v, hv, hrv⟩ := results_run h3 k4.rel k3 hres
        rcases hx' with rfl | rfl
        · exact ⟨k1, v, hv, v, m', rfl, hrv, k4⟩
        · exact ⟨k1, v, hv, v, m', rfl, hrv, k4⟩
      split at hev
      · rename_i e' h1' hc'
        exact main _ e' h1' hc' (.inl rfl) hev
      · rename_i e' h1' hc'
        exact main _ e' h1' hc' (.inr rfl) hev
      · cases hev

end
end Go.Proofs.YtejhhdpfndiliaaGreatDoor.Ab

/- THE SEAT's numbers of functions, and that the bodies are the program's. -/
namespace Go.Proofs.YtejhhdpfndiliaaGreatDoor.Ab
open Go

def F : Nat → Nat := fun n => [0, 0, 0, 0, 0, 0, 0, 0, 0, 0, 0, 0, 0, 0, 0, 0, 0, 0, 0, 0, 0, 0, 6, 0, 0, 0, 0, 14, 0, 0, 0, 0, 0, 0, 0, 49, 0, 0, 0, 0, 0, 0, 0, 0, 0, 0, 0, 0, 0, 0, 0, 0, 0, 0, 0, 0, 0, 0, 0, 93, 0, 79, 102, 68, 96, 0, 89, 0, 74, 0, 0, 105, 0, 0, 64, 0, 0, 69, 0, 0, 94, 0, 97, 0, 0, 0, 0, 0, 0, 0, 0, 63, 62, 0, 0, 0, 0, 0, 0, 106, 71, 72, 0, 130, 57, 115, 53, 104, 118, 123, 122, 124, 0, 0, 103, 0, 58, 0, 0, 107, 0, 0, 0, 129, 101, 131, 137, 108, 0, 0, 109, 98, 0, 0, 0, 0, 0, 0, 0, 0, 0, 0, 0, 0, 0, 0, 0, 0, 0, 0, 0, 0, 0, 0, 0, 0, 0, 0, 0, 0, 0, 0, 0, 0, 0, 0, 0, 0, 0, 0, 0, 0, 0, 0, 0, 0, 0, 0, 0, 0, 0, 0, 0, 0, 0, 0, 0, 0, 0, 54, 55, 78, 84, 121, 127, 0, 0, 0, 111, 82, 116, 134, 133, 112, 113, 136, 135, 0, 0, 0, 0, 0, 0, 0, 0, 0, 0, 0, 0, 0, 0, 0, 0, 0, 0, 0, 0, 0, 0, 0, 0, 0, 0, 0, 0, 0, 0, 60, 0, 0, 0, 92, 0, 0, 0, 0, 100, 0, 114, 110, 0, 61, 0, 70, 83, 132, 0, 0, 0, 0, 0, 0, 0, 0, 0, 0, 0, 0, 0, 0, 0, 0, 0, 0, 0, 0, 0, 0, 0, 0, 0, 0, 0, 0, 0, 0, 0, 0, 0, 0, 0, 0, 0, 0, 0, 0, 0, 0, 0, 0, 0, 0, 0, 0, 0, 65, 0, 0, 0, 0, 0, 0, 0, 0, 0, 0, 0, 0, 0, 0, 0, 0, 0, 0, 0, 0, 0, 0, 0, 0, 0, 0, 0, 0, 0, 0, 0, 0, 0, 0, 0, 0, 0, 0, 0, 0, 0, 0, 0, 0, 0, 0, 0, 0, 0, 0, 0, 0, 0, 0, 0, 0, 0, 0, 0, 0, 0, 0, 0, 0, 0, 0, 0, 0, 0, 47, 0, 48, 0, 16, 0, 27, 0, 0, 0, 50, 0, 0, 29, 28, 0, 0, 0, 0, 0, 3, 7, 8, 9, 10, 11, 12, 13, 15, 17, 18, 19, 20, 21, 22, 23, 24, 25, 26, 4, 30, 31, 32, 33, 34, 35, 36, 37, 38, 39, 40, 41, 42, 43, 44, 45, 46, 5, 51, 52, 75, 186, 0, 0, 56, 59, 66, 67, 73, 76, 77, 80, 81, 85, 86, 87, 88, 90, 91, 95, 120, 117, 119, 0, 1, 125, 126, 128, 138, 139, 140, 141, 142, 143, 144, 145, 146, 147, 148, 149, 150, 151, 152, 153, 154, 155, 156, 157, 158, 159, 160, 161, 162, 163, 164, 165, 166, 167, 168, 169, 170, 171, 172, 173, 174, 175, 176, 177, 178, 179, 180, 181, 182, 183, 184, 185, 187, 188, 189, 190, 191, 192, 193, 194, 2, 99, 0, 0, 0, 0, 0, 0, 0, 0, 0, 0, 0, 0, 0, 0, 0, 0].getD n 0
theorem chk432 : chkF Go.Proofs.Tryz.prog F 432 fi432 = true := by decide +kernel
theorem chk22 : chkF Go.Proofs.Tryz.prog F 22 fi22 = true := by decide +kernel
theorem chk389 : chkF Go.Proofs.Tryz.prog F 389 fi389 = true := by decide +kernel
theorem chk415 : chkF Go.Proofs.Tryz.prog F 415 fi415 = true := by decide +kernel
theorem chk416 : chkF Go.Proofs.Tryz.prog F 416 fi416 = true := by decide +kernel
theorem chk417 : chkF Go.Proofs.Tryz.prog F 417 fi417 = true := by decide +kernel
theorem chk418 : chkF Go.Proofs.Tryz.prog F 418 fi418 = true := by decide +kernel
theorem chk419 : chkF Go.Proofs.Tryz.prog F 419 fi419 = true := by decide +kernel
theorem chk420 : chkF Go.Proofs.Tryz.prog F 420 fi420 = true := by decide +kernel
theorem chk421 : chkF Go.Proofs.Tryz.prog F 421 fi421 = true := by decide +kernel
theorem chk422 : chkF Go.Proofs.Tryz.prog F 422 fi422 = true := by decide +kernel
theorem chk423 : chkF Go.Proofs.Tryz.prog F 423 fi423 = true := by decide +kernel
theorem chk424 : chkF Go.Proofs.Tryz.prog F 424 fi424 = true := by decide +kernel
theorem chk425 : chkF Go.Proofs.Tryz.prog F 425 fi425 = true := by decide +kernel
theorem chk426 : chkF Go.Proofs.Tryz.prog F 426 fi426 = true := by decide +kernel
theorem chk427 : chkF Go.Proofs.Tryz.prog F 427 fi427 = true := by decide +kernel
theorem chk428 : chkF Go.Proofs.Tryz.prog F 428 fi428 = true := by decide +kernel
theorem chk429 : chkF Go.Proofs.Tryz.prog F 429 fi429 = true := by decide +kernel
theorem chk430 : chkF Go.Proofs.Tryz.prog F 430 fi430 = true := by decide +kernel
theorem chk431 : chkF Go.Proofs.Tryz.prog F 431 fi431 = true := by decide +kernel
theorem chk375 : chkF Go.Proofs.Tryz.prog F 375 fi375 = true := by decide +kernel
theorem chk377 : chkF Go.Proofs.Tryz.prog F 377 fi377 = true := by decide +kernel
theorem chk35 : chkF Go.Proofs.Tryz.prog F 35 fi35 = true := by decide +kernel
theorem chk385 : chkF Go.Proofs.Tryz.prog F 385 fi385 = true := by decide +kernel
theorem chk433 : chkF Go.Proofs.Tryz.prog F 433 fi433 = true := by decide +kernel
theorem chk106 : chkF Go.Proofs.Tryz.prog F 106 fi106 = true := by decide +kernel
theorem chk104 : chkF Go.Proofs.Tryz.prog F 104 fi104 = true := by decide +kernel
theorem chk116 : chkF Go.Proofs.Tryz.prog F 116 fi116 = true := by decide +kernel
theorem chk74 : chkF Go.Proofs.Tryz.prog F 74 fi74 = true := by decide +kernel
theorem chk63 : chkF Go.Proofs.Tryz.prog F 63 fi63 = true := by decide +kernel
theorem chk77 : chkF Go.Proofs.Tryz.prog F 77 fi77 = true := by decide +kernel
theorem chk100 : chkF Go.Proofs.Tryz.prog F 100 fi100 = true := by decide +kernel
theorem chk435 : chkF Go.Proofs.Tryz.prog F 435 fi435 = true := by decide +kernel
theorem chk61 : chkF Go.Proofs.Tryz.prog F 61 fi61 = true := by decide +kernel
theorem chk446 : chkF Go.Proofs.Tryz.prog F 446 fi446 = true := by decide +kernel
theorem chk447 : chkF Go.Proofs.Tryz.prog F 447 fi447 = true := by decide +kernel
theorem chk199 : chkF Go.Proofs.Tryz.prog F 199 fi199 = true := by decide +kernel
theorem chk254 : chkF Go.Proofs.Tryz.prog F 254 fi254 = true := by decide +kernel
theorem chk192 : chkF Go.Proofs.Tryz.prog F 192 fi192 = true := by decide +kernel
theorem chk448 : chkF Go.Proofs.Tryz.prog F 448 fi448 = true := by decide +kernel
theorem chk449 : chkF Go.Proofs.Tryz.prog F 449 fi449 = true := by decide +kernel
theorem chk450 : chkF Go.Proofs.Tryz.prog F 450 fi450 = true := by decide +kernel
theorem chk451 : chkF Go.Proofs.Tryz.prog F 451 fi451 = true := by decide +kernel
theorem chk66 : chkF Go.Proofs.Tryz.prog F 66 fi66 = true := by decide +kernel
theorem chk452 : chkF Go.Proofs.Tryz.prog F 452 fi452 = true := by decide +kernel
theorem chk453 : chkF Go.Proofs.Tryz.prog F 453 fi453 = true := by decide +kernel
theorem chk241 : chkF Go.Proofs.Tryz.prog F 241 fi241 = true := by decide +kernel
theorem chk59 : chkF Go.Proofs.Tryz.prog F 59 fi59 = true := by decide +kernel
theorem chk80 : chkF Go.Proofs.Tryz.prog F 80 fi80 = true := by decide +kernel
theorem chk454 : chkF Go.Proofs.Tryz.prog F 454 fi454 = true := by decide +kernel
theorem chk64 : chkF Go.Proofs.Tryz.prog F 64 fi64 = true := by decide +kernel
theorem chk82 : chkF Go.Proofs.Tryz.prog F 82 fi82 = true := by decide +kernel
theorem chk124 : chkF Go.Proofs.Tryz.prog F 124 fi124 = true := by decide +kernel
theorem chk107 : chkF Go.Proofs.Tryz.prog F 107 fi107 = true := by decide +kernel
theorem chk71 : chkF Go.Proofs.Tryz.prog F 71 fi71 = true := by decide +kernel
theorem chk99 : chkF Go.Proofs.Tryz.prog F 99 fi99 = true := by decide +kernel
theorem chk119 : chkF Go.Proofs.Tryz.prog F 119 fi119 = true := by decide +kernel
theorem chk127 : chkF Go.Proofs.Tryz.prog F 127 fi127 = true := by decide +kernel
theorem chk130 : chkF Go.Proofs.Tryz.prog F 130 fi130 = true := by decide +kernel
theorem chk249 : chkF Go.Proofs.Tryz.prog F 249 fi249 = true := by decide +kernel
theorem chk198 : chkF Go.Proofs.Tryz.prog F 198 fi198 = true := by decide +kernel
theorem chk203 : chkF Go.Proofs.Tryz.prog F 203 fi203 = true := by decide +kernel
theorem chk204 : chkF Go.Proofs.Tryz.prog F 204 fi204 = true := by decide +kernel
theorem chk248 : chkF Go.Proofs.Tryz.prog F 248 fi248 = true := by decide +kernel
theorem chk105 : chkF Go.Proofs.Tryz.prog F 105 fi105 = true := by decide +kernel
theorem chk200 : chkF Go.Proofs.Tryz.prog F 200 fi200 = true := by decide +kernel
theorem chk456 : chkF Go.Proofs.Tryz.prog F 456 fi456 = true := by decide +kernel
theorem chk108 : chkF Go.Proofs.Tryz.prog F 108 fi108 = true := by decide +kernel
theorem chk457 : chkF Go.Proofs.Tryz.prog F 457 fi457 = true := by decide +kernel
theorem chk455 : chkF Go.Proofs.Tryz.prog F 455 fi455 = true := by decide +kernel
theorem chk193 : chkF Go.Proofs.Tryz.prog F 193 fi193 = true := by decide +kernel
theorem chk110 : chkF Go.Proofs.Tryz.prog F 110 fi110 = true := by decide +kernel
theorem chk109 : chkF Go.Proofs.Tryz.prog F 109 fi109 = true := by decide +kernel
theorem chk103 : chkF Go.Proofs.Tryz.prog F 103 fi103 = true := by decide +kernel
theorem chk125 : chkF Go.Proofs.Tryz.prog F 125 fi125 = true := by decide +kernel
theorem chk202 : chkF Go.Proofs.Tryz.prog F 202 fi202 = true := by decide +kernel
theorem chk201 : chkF Go.Proofs.Tryz.prog F 201 fi201 = true := by decide +kernel
theorem chk206 : chkF Go.Proofs.Tryz.prog F 206 fi206 = true := by decide +kernel
theorem chk205 : chkF Go.Proofs.Tryz.prog F 205 fi205 = true := by decide +kernel
theorem hT : ∀ f fi, E f = none → T f = some fi → chkF Go.Proofs.Tryz.prog F f fi = true := by
  have all : ∀ x ∈ tab, chkF Go.Proofs.Tryz.prog F x.1 x.2 = true := by
    intro x hx
    simp only [tab, List.mem_cons, List.not_mem_nil, or_false] at hx
    rcases hx with rfl | rfl | rfl | rfl | rfl | rfl | rfl | rfl | rfl | rfl | rfl | rfl | rfl | rfl | rfl | rfl | rfl | rfl | rfl | rfl | rfl | rfl | rfl | rfl | rfl | rfl | rfl | rfl | rfl | rfl | rfl | rfl | rfl | rfl | rfl | rfl | rfl | rfl | rfl | rfl | rfl | rfl | rfl | rfl | rfl | rfl | rfl | rfl | rfl | rfl | rfl | rfl | rfl | rfl | rfl | rfl | rfl | rfl | rfl | rfl | rfl | rfl | rfl | rfl | rfl | rfl | rfl | rfl | rfl | rfl | rfl | rfl | rfl | rfl | rfl | rfl | rfl | rfl | rfl
    · exact chk432
    · exact chk22
    · exact chk389
    · exact chk415
    · exact chk416
    · exact chk417
    · exact chk418
    · exact chk419
    · exact chk420
    · exact chk421
    · exact chk422
    · exact chk423
    · exact chk424
    · exact chk425
    · exact chk426
    · exact chk427
    · exact chk428
    · exact chk429
    · exact chk430
    · exact chk431
    · exact chk375
    · exact chk377
    · exact chk35
    · exact chk385
    · exact chk433
    · exact chk106
    · exact chk104
    · exact chk116
    · exact chk74
    · exact chk63
    · exact chk77
    · exact chk100
    · exact chk435
    · exact chk61
    · exact chk446
    · exact chk447
    · exact chk199
    · exact chk254
    · exact chk192
    · exact chk448
    · exact chk449
    · exact chk450
    · exact chk451
    · exact chk66
    · exact chk452
    · exact chk453
    · exact chk241
    · exact chk59
    · exact chk80
    · exact chk454
    · exact chk64
    · exact chk82
    · exact chk124
    · exact chk107
    · exact chk71
    · exact chk99
    · exact chk119
    · exact chk127
    · exact chk130
    · exact chk249
    · exact chk198
    · exact chk203
    · exact chk204
    · exact chk248
    · exact chk105
    · exact chk200
    · exact chk456
    · exact chk108
    · exact chk457
    · exact chk455
    · exact chk193
    · exact chk110
    · exact chk109
    · exact chk103
    · exact chk125
    · exact chk202
    · exact chk201
    · exact chk206
    · exact chk205
  intro f fi _ h
  simp only [T, Option.map_eq_some_iff] at h
  obtain ⟨x, hx, rfl⟩ := h
  have h1 := List.find?_some hx
  have h2 := List.mem_of_find?_eq_some hx
  have h3 : x.1 = f := by simpa using h1
  rw [← h3]; exact all x h2
end Go.Proofs.YtejhhdpfndiliaaGreatDoor.Ab

/- FOR CONTRACTS outside the table: calls that turn nothing old. -/
namespace Go.Proofs.YtejhhdpfndiliaaGreatDoor.Ab
open Go Go.RowKit

theorem StepR.below' {F : Nat → Nat} {base : Nat} {m : Emb} {h : AH} {w w' : World} (hr : RelH F base m h w) (hb : Below w.heap.size w w') : StepR F base m h w m h w' :=
  StepR.grown hr hb.block hb.size hb.os hb.tape hb.output

/-- A contract of one function. -/
def ExtAt (P : Program) (F : Nat → Nat) (f : Nat) (G : List AV → Option AV) : Prop :=
  ∀ xs r, G xs = some r → fnOk P (F f) = true ∧ ∀ (m : Emb) (w : World) (args : Array Value), RelL F m xs args.toList →
    Calls P (F f) args w fun e w' => ∃ v, e = .returned v ∧ RelV F m r v ∧ Below w.heap.size w w'
/-- .. that reads the heap. -/
def ExtAtH (P : Program) (F : Nat → Nat) (f : Nat) (G : List AV → AH → Option AV) : Prop :=
  ∀ xs h r, G xs h = some r → fnOk P (F f) = true ∧ ∀ (base : Nat) (m : Emb) (w : World) (args : Array Value), RelH F base m h w → RelL F m xs args.toList →
    Calls P (F f) args w fun e w' => ∃ v, e = .returned v ∧ RelV F m r v ∧ Below w.heap.size w w'
theorem ExtAt.h {P : Program} {F : Nat → Nat} {f : Nat} {G : List AV → Option AV} (hG : ExtAt P F f G) : ExtAtH P F f fun xs _ => G xs := fun xs _ r hr => by
  obtain ⟨h1, h2⟩ := hG xs r hr
  exact ⟨h1, fun _ m w args _ hx => h2 m w args hx⟩
theorem ext_pure {P : Program} {F : Nat → Nat} {f : Nat} {G : List AV → AH → Option AV} (hG : ExtAtH P F f G) (cf : CF) (xs : List AV) (h : AH) (r : AV) (h' : AH) (hev : pureX G cf xs h = some (r, h')) : fnOk P (F f) = true ∧ ∀ base m w args, RelH F base m h w → RelL F m xs args.toList →
    Calls P (F f) args w fun e w' => ∃ v m', e = .returned v ∧ RelV F m' r v ∧ StepR F base m h w m' h' w' := by
  simp only [pureX, Option.map_eq_some_iff, Prod.mk.injEq] at hev
  obtain ⟨r', hr', rfl, rfl⟩ := hev
  obtain ⟨h1, h2⟩ := hG xs h r' hr'
  refine ⟨h1, fun base m w args hr hx => (h2 base m w args hr hx).mono ?_⟩
  rintro e w' ⟨v, rfl, hv, hb⟩
  exact ⟨v, m, rfl, hv, StepR.below' hr hb⟩
/-- .. that turns the heap. -/
def ExtAtW (P : Program) (F : Nat → Nat) (f : Nat) (G : List AV → AH → Option (AV × AH)) : Prop :=
  ∀ xs h r h', G xs h = some (r, h') → fnOk P (F f) = true ∧ ∀ (base : Nat) (m : Emb) (w : World) (args : Array Value), RelH F base m h w → RelL F m xs args.toList →
    Calls P (F f) args w fun e w' => ∃ v m', e = .returned v ∧ RelV F m' r v ∧ StepR F base m h w m' h' w'
/-- .. that leans on calls. -/
def ExtAtZ (P : Program) (F : Nat → Nat) (f : Nat) (G : CF → List AV → AH → Option (AV × AH)) : Prop := ∀ cf, Sound P F cf → ExtAtW P F f (G cf)
theorem ext_ok {P : Program} {F : Nat → Nat} (h : ∀ x ∈ xtab, ExtAtH P F x.1 x.2) (h2 : ∀ x ∈ ytab, ExtAtW P F x.1 x.2) (h4 : ∀ x ∈ ztab, ExtAtZ P F x.1 x.2) : ExtOk P F E := by
  intro f G hf cf hcf xs hh r h' hev
  unfold E at hf
  split at hf
  · rename_i x hx
    cases hf
    have h1 := List.find?_some hx
    have h3 : x.1 = f := by simpa using h1
    have := ext_pure (h x (List.mem_of_find?_eq_some hx)) cf xs hh r h' hev
    rwa [h3] at this
  · split at hf
    · rename_i x hx
      cases hf
      have h1 := List.find?_some hx
      have h3 : x.1 = f := by simpa using h1
      have := h2 x (List.mem_of_find?_eq_some hx) xs hh r h' hev
      rwa [h3] at this
    · simp only [Option.map_eq_some_iff] at hf
      obtain ⟨x, hx, rfl⟩ := hf
      have h1 := List.find?_some hx
      have h3 : x.1 = f := by simpa using h1
      have := h4 x (List.mem_of_find?_eq_some hx) cf hcf xs hh r h' hev
      rwa [h3] at this

/-! ### Writes, by the model's own words -/
theorem wr_cells {F : Nat → Nat} {base : Nat} {m : Emb} {h : AH} {w : World} (hr : RelH F base m h w) {c k off : Nat} {xs : List AV} {h' : AH} (hw : wrRow h c k off xs = some h') {p : Place} (hp : m.row c k = some p) (hlo : p.lo ≤ off) (hext : off + xs.length ≤ p.ext) :
    ∀ j, j < xs.length → (w.cell? ⟨p.blk, p.base + (off - p.lo) + j, none⟩).isSome = true ∧ w.frozen? ⟨p.blk, p.base + (off - p.lo) + j, none⟩ = false := by
  unfold wrRow at hw
  split at hw
  · rename_i cs ver fl hc
    split at hw
    · rename_i hcond
      obtain ⟨rfl, hfl, hl, hsc⟩ := hcond
      obtain ⟨_, h2, h3, h4, C, e, fr, hg, hs, hb, hf, hcell⟩ := hr.ob c _ hc k p hp hfl
      intro j hj
      have hlt : p.base + (off - p.lo) + j < C.size := by omega
      have hf' := hf rfl
      constructor
      · simp only [World.cell?, hg, Option.isSome_none, Bool.false_eq_true, if_false]
        rw [Array.getElem?_eq_getElem hlt]; rfl
      · simp only [World.frozen?, hg]
        rcases hf' with h | h
        · simp; omega
        · simp; omega
    · cases hw
  · cases hw
theorem wr_set {P : Program} {F : Nat → Nat} {base : Nat} {m : Emb} {h : AH} {w : World} (hr : RelH F base m h w) {c k off : Nat} {xs : List AV} {h' : AH} (hw : wrRow h c k off xs = some h') {p : Place} (hp : m.row c k = some p) (hlo : p.lo ≤ off) (hext : off + xs.length ≤ p.ext) {vs : List Value} (hvs : RelL F m xs vs) (hone : ∀ v ∈ vs, v.oneCell' = true) :
    StepR F base m h w m h' (w.setCells p.blk (p.base + (off - p.lo)) vs) := by
  obtain ⟨w', h1, h2⟩ := wr_step (P := P) hr hw hp hlo hext hvs
  have hl := hvs.length
  have hc := wr_cells hr hw hp hlo hext
  have h3 := run_storeCells_cells (P := P) p.blk (p.base + (off - p.lo)) vs 0 w (fun j hj => by simpa using (hc j (by omega)).1) (fun j hj => by simpa using (hc j (by omega)).2) hone
  rw [h1] at h3
  cases h3
  exact h2
/-- 'clear(s)' at elements of three numbers. -/
theorem run_clear3 {P : Program} (w : World) (t e ty : TypeId) (z : Value) (ht : P.underlying t = some (.slice e)) (hv : ∀ w, (zeroValue e).run P w = .ok z w) (hz : z.cells = #[.int .i64 0, .int .i64 0, .int .i64 0]) (b o n c : Nat) (hn : 0 < n)
    (hc : ∀ j, j < n * 3 → (w.cell? ⟨b, o + j, none⟩).isSome = true) (hf : ∀ j, j < n * 3 → w.frozen? ⟨b, o + j, none⟩ = false) :
    (Builtin.clear_ #[t] ty #[.slice (some ⟨b, o, none⟩) n c]).run P w = .ok (.tuple #[]) (w.setCells b o (List.replicate (n * 3) (.int .i64 0))) := by
  have hzc : (Builtin.zeroCells z.cells n).toList = List.replicate (n * 3) (.int .i64 0) := by
    rw [hz]
    simp only [Builtin.zeroCells]
    apply List.ext_getElem
    · simp
    · intro i h1 h2
      have : i % 3 = 0 ∨ i % 3 = 1 ∨ i % 3 = 2 := by omega
      rcases this with h | h | h <;> simp [h]
  have hst := run_storeCells_cells (P := P) b o (List.replicate (n * 3) (.int .i64 0)) 0 w (by simpa using hc) (by simpa using hf) (by intro v hv'; rw [List.eq_of_mem_replicate hv']; rfl)
  simp only [Nat.add_zero] at hst
  obtain ⟨m, rfl⟩ : ∃ m, n = m + 1 := ⟨n - 1, by omega⟩
  simp [Builtin.clear_, run_underlying ht, hv, hzc, hst]
end Go.Proofs.YtejhhdpfndiliaaGreatDoor.Ab

/-
  DERIVED: THE SHELF's CONTRACTS AT THIS DUMP, IN PLAIN WORDS (tools/lay-plain.mjs out of 'TryzShelf.lean', which tools/lay-shelf.mjs wrote): THE SAME DECLARATIONS UNDER THE SAME NAMES: 'import', 'namespace', 'open', 'def', 'theorem' AND NOTHING ELSE: no command of the shelf's: FOR A HAND-IN. Each laying: the table of numbers ('.._ren') and one theorem, a field a fact of the dump's own or the kernel's comparison; each contract: ONE APPLICATION.
-/
namespace Go.Proofs
open Go.Shelf
def Tryz.lays170_ren : Go.Shelf.Ren := ⟨fun | 170 => 150 | n => n, fun | 70 => 151 | 3 => 3 | 0 => 0 | 72 => 153 | 37 => 22 | 5 => 5 | n => n, fun | n => n⟩
theorem Tryz.lays170 : Go.Proofs.Lays.n170 Tryz.prog Tryz.lays170_ren := {
  mixed := by kernel_rfl
  f170 := Tryz.func150.trans (congrArg some (by kernel_rfl))
  t0 := Tryz.underlying0
  a0 := Tryz.isAgg0
  z0 := Tryz.sizeOf0
  v0 := Tryz.zeroValue0
  t3 := Tryz.underlying3
  a3 := Tryz.isAgg3
  z3 := Tryz.sizeOf3
  v3 := Tryz.zeroValue3
  t37 := Tryz.underlying22
  a37 := Tryz.isAgg22
  z37 := Tryz.sizeOf22
  v37 := Tryz.zeroValue22
  t70 := Tryz.underlying151
  a70 := Tryz.isAgg151
  z70 := Tryz.sizeOf151
  v70 := Tryz.zeroValue151
  t72 := Tryz.underlying153
  a72 := Tryz.isAgg153
  z72 := Tryz.sizeOf153
  v72 := Tryz.zeroValue153 }
open Go.RowKit in
/-- (*strings.Builder).Len: "Len returns the number of accumulated bytes; b.Len() == len(b.String()).": the world is as it was. (LAID: no walk: one application.) -/
theorem Tryz.Builder_Len (B b : Nat) (bs : List Value) (w : World) (h : Lib.IsBuilder 153 5 B b bs w) :
    Calls Tryz.prog 150 #[.pointer (some ⟨b, 0, none⟩)] w fun e w' => e = .returned (.int .i64 bs.length) ∧ w' = w := Any.Builder_Len Tryz.lays170 B b bs w h
def Tryz.lays169_ren : Go.Shelf.Ren := ⟨fun | 169 => 151 | n => n, fun | 70 => 151 | 9 => 9 | 0 => 0 | 72 => 153 | 37 => 22 | 127 => 168 | 3 => 3 | 5 => 5 | n => n, fun | n => n⟩
theorem Tryz.lays169 : Go.Proofs.Lays.n169 Tryz.prog Tryz.lays169_ren := {
  mixed := by kernel_rfl
  f169 := Tryz.func151.trans (congrArg some (by kernel_rfl))
  t0 := Tryz.underlying0
  a0 := Tryz.isAgg0
  z0 := Tryz.sizeOf0
  v0 := Tryz.zeroValue0
  t3 := Tryz.underlying3
  a3 := Tryz.isAgg3
  z3 := Tryz.sizeOf3
  v3 := Tryz.zeroValue3
  t9 := Tryz.underlying9
  a9 := Tryz.isAgg9
  z9 := Tryz.sizeOf9
  v9 := Tryz.zeroValue9
  t37 := Tryz.underlying22
  a37 := Tryz.isAgg22
  z37 := Tryz.sizeOf22
  v37 := Tryz.zeroValue22
  t70 := Tryz.underlying151
  a70 := Tryz.isAgg151
  z70 := Tryz.sizeOf151
  v70 := Tryz.zeroValue151
  t72 := Tryz.underlying153
  a72 := Tryz.isAgg153
  z72 := Tryz.sizeOf153
  v72 := Tryz.zeroValue153
  t127 := Tryz.underlying168
  a127 := Tryz.isAgg168
  z127 := Tryz.sizeOf168
  v127 := Tryz.zeroValue168 }
theorem Tryz.Builder_Extra_169 : Builder.Extra Tryz.prog Tryz.lays169_ren := {
  sizeBuilder := by kernel_rfl
  liesBuilder := by kernel_rfl
  t5 := Tryz.underlying5
  a5 := Tryz.isAgg5
  z5 := Tryz.sizeOf5
  v5 := Tryz.zeroValue5
  infoByte := by kernel_rfl
  cellsByte := by kernel_rfl
  sizeByte := by kernel_rfl
  neB5 := by decide }
open Go.RowKit in
/-- (*strings.Builder).String: "String returns the accumulated string.": OF A BUILDER THAT HOLDS AT LEAST ONE BYTE. ✋ THE MODEL FREEZES THOSE BYTES IN THE BUFFER (unsafe.String): a later write INTO them ends the model's run without an answer; a later append BEHIND them goes on. The statement's order of evaluation is drawn: one draw. (LAID: no walk: one application.) -/
theorem Tryz.Builder_String (B b : Nat) (l : List UInt8) (w : World) (h : Lib.IsBuilder 153 5 B b (Lib.byteCells l) w) (h0 : l ≠ []) :
    Calls Tryz.prog 151 #[.pointer (some ⟨b, 0, none⟩)] w fun e w' => e = .returned (.string ⟨l.toArray⟩) ∧ Below B w w' := Any.Builder_String Tryz.lays169 Tryz.Builder_Extra_169 B b l w h h0
open Go.RowKit in
/-- (*strings.Builder).String OF A BUILDER THAT HOLDS NO BYTE: the empty string. (Its buffer is nil, or a row of which it has taken nothing yet; where that row has NO capacity the model lays one new block for unsafe.SliceData's 'some address'.) One draw. (LAID: no walk: one application.) -/
theorem Tryz.Builder_String_empty (B b : Nat) (w : World) (h : Lib.IsBuilder 153 5 B b [] w) (hBw : B ≤ w.heap.size) :
    Calls Tryz.prog 151 #[.pointer (some ⟨b, 0, none⟩)] w fun e w' => e = .returned (.string ⟨#[]⟩) ∧ Below B w w' := Any.Builder_String_empty Tryz.lays169 Tryz.Builder_Extra_169 B b w h hBw
open Go.RowKit in
/-- (*strings.Builder).String: "String returns the accumulated string.": WHATEVER THE BUILDER HOLDS. (LAID: no walk: one application.) -/
theorem Tryz.Builder_String_any (B b : Nat) (l : List UInt8) (w : World) (h : Lib.IsBuilder 153 5 B b (Lib.byteCells l) w) (hBw : B ≤ w.heap.size) :
    Calls Tryz.prog 151 #[.pointer (some ⟨b, 0, none⟩)] w fun e w' => e = .returned (.string ⟨l.toArray⟩) ∧ Below B w w' := Any.Builder_String_any Tryz.lays169 Tryz.Builder_Extra_169 B b l w h hBw
def Tryz.lays241_ren : Go.Shelf.Ren := ⟨fun | 241 => 163 | 277 => 169 | n => n, fun | 70 => 151 | 3 => 3 | 0 => 0 | 72 => 153 | 37 => 22 | 5 => 5 | n => n, fun | n => n⟩
theorem Tryz.lays241 : Go.Proofs.Lays.n241 Tryz.prog Tryz.lays241_ren := {
  mixed := by kernel_rfl
  f241 := Tryz.func163.trans (congrArg some (by kernel_rfl))
  f277 := Tryz.func169.trans (congrArg some (by kernel_rfl))
  t0 := Tryz.underlying0
  a0 := Tryz.isAgg0
  z0 := Tryz.sizeOf0
  v0 := Tryz.zeroValue0
  t3 := Tryz.underlying3
  a3 := Tryz.isAgg3
  z3 := Tryz.sizeOf3
  v3 := Tryz.zeroValue3
  t37 := Tryz.underlying22
  a37 := Tryz.isAgg22
  z37 := Tryz.sizeOf22
  v37 := Tryz.zeroValue22
  t70 := Tryz.underlying151
  a70 := Tryz.isAgg151
  z70 := Tryz.sizeOf151
  v70 := Tryz.zeroValue151
  t72 := Tryz.underlying153
  a72 := Tryz.isAgg153
  z72 := Tryz.sizeOf153
  v72 := Tryz.zeroValue153 }
theorem Tryz.Builder_Extra_241 : Builder.Extra Tryz.prog Tryz.lays241_ren := {
  sizeBuilder := by kernel_rfl
  liesBuilder := by kernel_rfl
  t5 := Tryz.underlying5
  a5 := Tryz.isAgg5
  z5 := Tryz.sizeOf5
  v5 := Tryz.zeroValue5
  infoByte := by kernel_rfl
  cellsByte := by kernel_rfl
  sizeByte := by kernel_rfl
  neB5 := by decide }
open Go.RowKit in
/-- (*strings.Builder).grow (no doc but "grow copies the buffer to a new, larger buffer so that there are at least n bytes of capacity beyond len(b.buf)."): AT A BUILDER WITHOUT A BUFFER: a new row of whatever bytes for its buffer, none of them its own yet. Three draws. (LAID: no walk: one application.) -/
theorem Tryz.Builder_grow_fresh (B b n : Nat) (w : World) (hB : B ≤ b) (hbk : w.heap[b]? = some (.cells #[.pointer (some ⟨b, 0, none⟩), .slice none 0 0] 153 (0, 0))) (hBw : B ≤ w.heap.size) (hn : n ≤ 281474976710656) :
    Calls Tryz.prog 163 #[.pointer (some ⟨b, 0, none⟩), .int .i64 n] w fun e w' => e = .returned (.tuple #[]) ∧ (Lib.BuilderAt 153 5 B b (.pointer (some ⟨b, 0, none⟩)) [] w' ∧ Below B w w') := Any.Builder_grow_fresh Tryz.lays241 Tryz.Builder_Extra_241 B b n w hB hbk hBw hn
def Tryz.lays165_ren : Go.Shelf.Ren := ⟨fun | 165 => 148 | 240 => 162 | 241 => 163 | 276 => 168 | 277 => 169 | n => n, fun | 70 => 151 | 3 => 3 | 0 => 0 | 4 => 4 | 9 => 9 | 20 => 20 | 72 => 153 | 37 => 22 | 164 => 171 | 5 => 5 | n => n, fun | n => n⟩
theorem Tryz.lays165 : Go.Proofs.Lays.n165 Tryz.prog Tryz.lays165_ren := {
  mixed := by kernel_rfl
  f165 := Tryz.func148.trans (congrArg some (by kernel_rfl))
  f240 := Tryz.func162.trans (congrArg some (by kernel_rfl))
  f241 := Tryz.func163.trans (congrArg some (by kernel_rfl))
  f276 := Tryz.func168.trans (congrArg some (by kernel_rfl))
  f277 := Tryz.func169.trans (congrArg some (by kernel_rfl))
  t0 := Tryz.underlying0
  a0 := Tryz.isAgg0
  z0 := Tryz.sizeOf0
  v0 := Tryz.zeroValue0
  t3 := Tryz.underlying3
  a3 := Tryz.isAgg3
  z3 := Tryz.sizeOf3
  v3 := Tryz.zeroValue3
  t4 := Tryz.underlying4
  a4 := Tryz.isAgg4
  z4 := Tryz.sizeOf4
  v4 := Tryz.zeroValue4
  t9 := Tryz.underlying9
  a9 := Tryz.isAgg9
  z9 := Tryz.sizeOf9
  v9 := Tryz.zeroValue9
  t20 := Tryz.underlying20
  a20 := Tryz.isAgg20
  z20 := Tryz.sizeOf20
  v20 := Tryz.zeroValue20
  t37 := Tryz.underlying22
  a37 := Tryz.isAgg22
  z37 := Tryz.sizeOf22
  v37 := Tryz.zeroValue22
  t70 := Tryz.underlying151
  a70 := Tryz.isAgg151
  z70 := Tryz.sizeOf151
  v70 := Tryz.zeroValue151
  t72 := Tryz.underlying153
  a72 := Tryz.isAgg153
  z72 := Tryz.sizeOf153
  v72 := Tryz.zeroValue153
  t164 := Tryz.underlying171
  a164 := Tryz.isAgg171
  z164 := Tryz.sizeOf171
  v164 := Tryz.zeroValue171 }
theorem Tryz.Builder_Extra_165 : Builder.Extra Tryz.prog Tryz.lays165_ren := {
  sizeBuilder := by kernel_rfl
  liesBuilder := by kernel_rfl
  t5 := Tryz.underlying5
  a5 := Tryz.isAgg5
  z5 := Tryz.sizeOf5
  v5 := Tryz.zeroValue5
  infoByte := by kernel_rfl
  cellsByte := by kernel_rfl
  sizeByte := by kernel_rfl
  neB5 := by decide }
open Go.RowKit in
/-- (*strings.Builder).Grow AT A BUILDER THAT HAS NOT BEEN WRITTEN ('var b strings.Builder; b.Grow(n)'): "Grow grows b's capacity, if necessary, to guarantee space for another n bytes.": it holds no byte behind it as before it. (LAID: no walk: one application.) -/
theorem Tryz.Builder_Grow_fresh (B b n : Nat) (w : World) (hB : B ≤ b) (hbk : w.heap[b]? = some (.cells #[.pointer none, .slice none 0 0] 153 (0, 0))) (hBw : B ≤ w.heap.size) (hn : n ≤ 281474976710656) :
    Calls Tryz.prog 148 #[.pointer (some ⟨b, 0, none⟩), .int .i64 n] w fun e w' => e = .returned (.tuple #[]) ∧ (Lib.BuilderAt 153 5 B b (.pointer (some ⟨b, 0, none⟩)) [] w' ∧ Below B w w') := Any.Builder_Grow_fresh Tryz.lays165 Tryz.Builder_Extra_165 B b n w hB hbk hBw hn
def Tryz.lays156_ren : Go.Shelf.Ren := ⟨fun | 156 => 132 | 165 => 148 | 166 => 149 | 169 => 151 | 240 => 162 | 241 => 163 | 276 => 168 | 277 => 169 | n => n, fun | 31 => 85 | 9 => 9 | 3 => 3 | 4 => 4 | 0 => 0 | 20 => 20 | 72 => 153 | 76 => 157 | 70 => 151 | 37 => 22 | 75 => 156 | 127 => 168 | 164 => 171 | 5 => 5 | 80 => 76 | n => n, fun | n => n⟩
theorem Tryz.lays156 : Go.Proofs.Lays.n156 Tryz.prog Tryz.lays156_ren := {
  mixed := by kernel_rfl
  f156 := Tryz.func132.trans (congrArg some (by kernel_rfl))
  f165 := Tryz.func148.trans (congrArg some (by kernel_rfl))
  f166 := Tryz.func149.trans (congrArg some (by kernel_rfl))
  f169 := Tryz.func151.trans (congrArg some (by kernel_rfl))
  f240 := Tryz.func162.trans (congrArg some (by kernel_rfl))
  f241 := Tryz.func163.trans (congrArg some (by kernel_rfl))
  f276 := Tryz.func168.trans (congrArg some (by kernel_rfl))
  f277 := Tryz.func169.trans (congrArg some (by kernel_rfl))
  t0 := Tryz.underlying0
  a0 := Tryz.isAgg0
  z0 := Tryz.sizeOf0
  v0 := Tryz.zeroValue0
  t3 := Tryz.underlying3
  a3 := Tryz.isAgg3
  z3 := Tryz.sizeOf3
  v3 := Tryz.zeroValue3
  t4 := Tryz.underlying4
  a4 := Tryz.isAgg4
  z4 := Tryz.sizeOf4
  v4 := Tryz.zeroValue4
  t9 := Tryz.underlying9
  a9 := Tryz.isAgg9
  z9 := Tryz.sizeOf9
  v9 := Tryz.zeroValue9
  t20 := Tryz.underlying20
  a20 := Tryz.isAgg20
  z20 := Tryz.sizeOf20
  v20 := Tryz.zeroValue20
  t31 := Tryz.underlying85
  a31 := Tryz.isAgg85
  z31 := Tryz.sizeOf85
  v31 := Tryz.zeroValue85
  t37 := Tryz.underlying22
  a37 := Tryz.isAgg22
  z37 := Tryz.sizeOf22
  v37 := Tryz.zeroValue22
  t70 := Tryz.underlying151
  a70 := Tryz.isAgg151
  z70 := Tryz.sizeOf151
  v70 := Tryz.zeroValue151
  t72 := Tryz.underlying153
  a72 := Tryz.isAgg153
  z72 := Tryz.sizeOf153
  v72 := Tryz.zeroValue153
  t75 := Tryz.underlying156
  a75 := Tryz.isAgg156
  z75 := Tryz.sizeOf156
  v75 := Tryz.zeroValue156
  t76 := Tryz.underlying157
  a76 := Tryz.isAgg157
  z76 := Tryz.sizeOf157
  v76 := Tryz.zeroValue157
  t127 := Tryz.underlying168
  a127 := Tryz.isAgg168
  z127 := Tryz.sizeOf168
  v127 := Tryz.zeroValue168
  t164 := Tryz.underlying171
  a164 := Tryz.isAgg171
  z164 := Tryz.sizeOf171
  v164 := Tryz.zeroValue171 }
theorem Tryz.Builder_Extra_156 : Builder.Extra Tryz.prog Tryz.lays156_ren := {
  sizeBuilder := by kernel_rfl
  liesBuilder := by kernel_rfl
  t5 := Tryz.underlying5
  a5 := Tryz.isAgg5
  z5 := Tryz.sizeOf5
  v5 := Tryz.zeroValue5
  infoByte := by kernel_rfl
  cellsByte := by kernel_rfl
  sizeByte := by kernel_rfl
  neB5 := by decide }
open Go.RowKit in
/-- No element: the empty string; the world is as it was. (Whatever the slice's address and capacity: a nil slice too.) (LAID: no walk: one application.) -/
theorem Tryz.strings_Join_none (a : Option Addr) (c : Nat) (sep : ByteArray) (w : World) :
    Calls Tryz.prog 132 #[.slice a 0 c, .string sep] w fun e w' => e = .returned (.string ⟨#[]⟩) ∧ w' = w := Any.strings_Join_none Tryz.lays156 Tryz.Builder_Extra_156 a c sep w
open Go.RowKit in
/-- strings.Join: "Join concatenates the elements of its first argument to create a single string. The separator string sep is placed between elements in the resulting string.": HOWEVER MANY ELEMENTS. Below the heap's end the world is as it was. (LAID: no walk: one application.) -/
theorem Tryz.strings_Join (bk o c : Nat) (xs : List ByteArray) (sep : ByteArray) (w : World) (hcells : ∀ (j : Nat) x, xs[j]? = some x → w.cell? ⟨bk, o + j, none⟩ = some (.string x)) (hbk : bk < w.heap.size) (hN : xs.length ≤ 140737488355328) (hcap : xs.length ≤ c) (hlen : (Lib.join (xs.map (·.data.toList)) sep.data.toList).length ≤ 140737488355328) :
    Calls Tryz.prog 132 #[.slice (some ⟨bk, o, none⟩) xs.length c, .string sep] w fun e w' => e = .returned (.string ⟨(Lib.join (xs.map (·.data.toList)) sep.data.toList).toArray⟩) ∧ Below w.heap.size w w' := Any.strings_Join Tryz.lays156 Tryz.Builder_Extra_156 bk o c xs sep w hcells hbk hN hcap hlen
def Tryz.lays231_ren : Go.Shelf.Ren := ⟨fun | 231 => 138 | n => n, fun | 9 => 9 | 5 => 5 | 3 => 3 | 4 => 4 | n => n, fun | n => n⟩
theorem Tryz.lays231 : Go.Proofs.Lays.n231 Tryz.prog Tryz.lays231_ren := {
  mixed := by kernel_rfl
  f231 := Tryz.func138.trans (congrArg some (by kernel_rfl))
  t3 := Tryz.underlying3
  a3 := Tryz.isAgg3
  z3 := Tryz.sizeOf3
  v3 := Tryz.zeroValue3
  t4 := Tryz.underlying4
  a4 := Tryz.isAgg4
  z4 := Tryz.sizeOf4
  v4 := Tryz.zeroValue4
  t5 := Tryz.underlying5
  a5 := Tryz.isAgg5
  z5 := Tryz.sizeOf5
  v5 := Tryz.zeroValue5
  t9 := Tryz.underlying9
  a9 := Tryz.isAgg9
  z9 := Tryz.sizeOf9
  v9 := Tryz.zeroValue9 }
open Go.RowKit in
/-- strings.trimLeftByte (no doc; what TrimLeft and Trim call at a cutset of one ASCII byte): the leading bytes that are c are cut off. The world is as it was. (LAID: no walk: one application.) -/
theorem Tryz.strings_trimLeftByte (s : ByteArray) (c : UInt8) (w : World) :
    Calls Tryz.prog 138 #[.string s, .int .u8 c.toNat] w fun e w' => e = .returned (.string ⟨(Lib.trimLeftB s.data.toList c).toArray⟩) ∧ w' = w := Any.strings_trimLeftByte Tryz.lays231 s c w
def Tryz.lays232_ren : Go.Shelf.Ren := ⟨fun | 232 => 139 | n => n, fun | 9 => 9 | 5 => 5 | 3 => 3 | 4 => 4 | n => n, fun | n => n⟩
theorem Tryz.lays232 : Go.Proofs.Lays.n232 Tryz.prog Tryz.lays232_ren := {
  mixed := by kernel_rfl
  f232 := Tryz.func139.trans (congrArg some (by kernel_rfl))
  t3 := Tryz.underlying3
  a3 := Tryz.isAgg3
  z3 := Tryz.sizeOf3
  v3 := Tryz.zeroValue3
  t4 := Tryz.underlying4
  a4 := Tryz.isAgg4
  z4 := Tryz.sizeOf4
  v4 := Tryz.zeroValue4
  t5 := Tryz.underlying5
  a5 := Tryz.isAgg5
  z5 := Tryz.sizeOf5
  v5 := Tryz.zeroValue5
  t9 := Tryz.underlying9
  a9 := Tryz.isAgg9
  z9 := Tryz.sizeOf9
  v9 := Tryz.zeroValue9 }
open Go.RowKit in
/-- strings.trimRightByte (no doc; what TrimRight and Trim call at a cutset of one ASCII byte): the trailing bytes that are c are cut off. The world is as it was. ('hs': a string's length is a number that an int holds.) (LAID: no walk: one application.) -/
theorem Tryz.strings_trimRightByte (s : ByteArray) (c : UInt8) (w : World) (hs : s.size ≤ 9223372036854775807) :
    Calls Tryz.prog 139 #[.string s, .int .u8 c.toNat] w fun e w' => e = .returned (.string ⟨(Lib.trimRightB s.data.toList c).toArray⟩) ∧ w' = w := Any.strings_trimRightByte Tryz.lays232 s c w hs
def Tryz.lays160_ren : Go.Shelf.Ren := ⟨fun | 160 => 124 | 232 => 139 | 231 => 138 | 227 => 140 | 234 => 142 | 233 => 141 | 236 => 144 | 235 => 143 | 228 => 152 | 271 => 155 | 151 => 154 | 197 => 153 | 120 => 166 | 152 => 165 | 260 => 164 | 137 => 55 | 119 => 170 | 224 => 157 | 225 => 156 | 217 => 99 | 266 => 128 | n => n, fun | 9 => 9 | 4 => 4 | 3 => 3 | 5 => 5 | 117 => 145 | 116 => 144 | 0 => 0 | 124 => 148 | 21 => 21 | 105 => 160 | 46 => 134 | 119 => 174 | 139 => 177 | 138 => 176 | n => n, fun | 3 => 1 | 4 => 2 | n => n⟩
theorem Tryz.lays160 : Go.Proofs.Lays.n160 Tryz.prog Tryz.lays160_ren := {
  mixed := by kernel_rfl
  f119 := Tryz.func170.trans (congrArg some (by kernel_rfl))
  f120 := Tryz.func166.trans (congrArg some (by kernel_rfl))
  f137 := Tryz.func55.trans (congrArg some (by kernel_rfl))
  f151 := Tryz.func154.trans (congrArg some (by kernel_rfl))
  f152 := Tryz.func165.trans (congrArg some (by kernel_rfl))
  f160 := Tryz.func124.trans (congrArg some (by kernel_rfl))
  f197 := Tryz.func153.trans (congrArg some (by kernel_rfl))
  f217 := Tryz.func99.trans (congrArg some (by kernel_rfl))
  f224 := Tryz.func157.trans (congrArg some (by kernel_rfl))
  f225 := Tryz.func156.trans (congrArg some (by kernel_rfl))
  f227 := Tryz.func140.trans (congrArg some (by kernel_rfl))
  f228 := Tryz.func152.trans (congrArg some (by kernel_rfl))
  f231 := Tryz.func138.trans (congrArg some (by kernel_rfl))
  f232 := Tryz.func139.trans (congrArg some (by kernel_rfl))
  f233 := Tryz.func141.trans (congrArg some (by kernel_rfl))
  f234 := Tryz.func142.trans (congrArg some (by kernel_rfl))
  f235 := Tryz.func143.trans (congrArg some (by kernel_rfl))
  f236 := Tryz.func144.trans (congrArg some (by kernel_rfl))
  f260 := Tryz.func164.trans (congrArg some (by kernel_rfl))
  f266 := Tryz.func128.trans (congrArg some (by kernel_rfl))
  f271 := Tryz.func155.trans (congrArg some (by kernel_rfl))
  t0 := Tryz.underlying0
  a0 := Tryz.isAgg0
  z0 := Tryz.sizeOf0
  v0 := Tryz.zeroValue0
  t3 := Tryz.underlying3
  a3 := Tryz.isAgg3
  z3 := Tryz.sizeOf3
  v3 := Tryz.zeroValue3
  t4 := Tryz.underlying4
  a4 := Tryz.isAgg4
  z4 := Tryz.sizeOf4
  v4 := Tryz.zeroValue4
  t5 := Tryz.underlying5
  a5 := Tryz.isAgg5
  z5 := Tryz.sizeOf5
  v5 := Tryz.zeroValue5
  t9 := Tryz.underlying9
  a9 := Tryz.isAgg9
  z9 := Tryz.sizeOf9
  v9 := Tryz.zeroValue9
  t21 := Tryz.underlying21
  a21 := Tryz.isAgg21
  z21 := Tryz.sizeOf21
  v21 := Tryz.zeroValue21
  t46 := Tryz.underlying134
  a46 := Tryz.isAgg134
  z46 := Tryz.sizeOf134
  v46 := Tryz.zeroValue134
  t105 := Tryz.underlying160
  a105 := Tryz.isAgg160
  z105 := Tryz.sizeOf160
  v105 := Tryz.zeroValue160
  t116 := Tryz.underlying144
  a116 := Tryz.isAgg144
  z116 := Tryz.sizeOf144
  t117 := Tryz.underlying145
  a117 := Tryz.isAgg145
  z117 := Tryz.sizeOf145
  v117 := Tryz.zeroValue145
  t119 := Tryz.underlying174
  a119 := Tryz.isAgg174
  z119 := Tryz.sizeOf174
  t124 := Tryz.underlying148
  a124 := Tryz.isAgg148
  z124 := Tryz.sizeOf148
  v124 := Tryz.zeroValue148
  t138 := Tryz.underlying176
  a138 := Tryz.isAgg176
  z138 := Tryz.sizeOf176
  v138 := Tryz.zeroValue176
  t139 := Tryz.underlying177
  a139 := Tryz.isAgg177
  z139 := Tryz.sizeOf177
  v139 := Tryz.zeroValue177
  g3 := by kernel_rfl
  g4 := by kernel_rfl }
open Go.RowKit in
/-- strings.Trim: "Trim returns a slice of the string s with all leading and trailing Unicode code points contained in cutset removed.": AT A cutset OF ONE ASCII BYTE. THE WORLD BEHIND IT: as it was, or (where s is not empty) with ONE DRAW MORE off the tape: the statement 'return trimLeftByte(trimRightByte(s, c), c)' draws its order of evaluation. (LAID: no walk: one application.) -/
theorem Tryz.strings_Trim_one (s : ByteArray) (c : UInt8) (hc : c.toNat < 128) (w : World) (hs : s.size ≤ 9223372036854775807) :
    Calls Tryz.prog 124 #[.string s, .string ⟨#[c]⟩] w fun e w' => e = .returned (.string ⟨(Lib.trimB s.data.toList c).toArray⟩) ∧ (w' = w ∨ w' = w.drew) := Any.strings_Trim_one Tryz.lays160 s c hc w hs
def Tryz.lays119_ren : Go.Shelf.Ren := ⟨fun | 119 => 170 | n => n, fun | 21 => 21 | 4 => 4 | n => n, fun | n => n⟩
theorem Tryz.lays119 : Go.Proofs.Lays.n119 Tryz.prog Tryz.lays119_ren := {
  mixed := by kernel_rfl
  f119 := Tryz.func170.trans (congrArg some (by kernel_rfl))
  t4 := Tryz.underlying4
  a4 := Tryz.isAgg4
  z4 := Tryz.sizeOf4
  v4 := Tryz.zeroValue4
  t21 := Tryz.underlying21
  a21 := Tryz.isAgg21
  z21 := Tryz.sizeOf21
  v21 := Tryz.zeroValue21 }
/-- utf8.ValidRune: "ValidRune reports whether r can be legally encoded as UTF-8. Code points that are out of range or a surrogate half are illegal.": IT RETURNS 'Lib.validRune r'; the world is as it was. (LAID: no walk: one application.) -/
theorem Tryz.utf8_ValidRune (r : Int) (w : World) :
    Calls Tryz.prog 170 #[.int .i32 r] w fun e w' => e = .returned (.bool (Lib.validRune r)) ∧ w' = w := Any.utf8_ValidRune Tryz.lays119 r w
def Tryz.lays120_ren : Go.Shelf.Ren := ⟨fun | 120 => 166 | n => n, fun | 5 => 5 | 4 => 4 | n => n, fun | n => n⟩
theorem Tryz.lays120 : Go.Proofs.Lays.n120 Tryz.prog Tryz.lays120_ren := {
  mixed := by kernel_rfl
  f120 := Tryz.func166.trans (congrArg some (by kernel_rfl))
  t4 := Tryz.underlying4
  a4 := Tryz.isAgg4
  z4 := Tryz.sizeOf4
  v4 := Tryz.zeroValue4
  t5 := Tryz.underlying5
  a5 := Tryz.isAgg5
  z5 := Tryz.sizeOf5
  v5 := Tryz.zeroValue5 }
/-- utf8.RuneStart: "RuneStart reports whether the byte could be the first byte of an encoded, possibly invalid rune. Second and subsequent bytes always have the top two bits set to 10.": IT RETURNS 'Lib.runeStart b'; the world is as it was. ('h0', 'h1': b is a byte: a caller has it of every byte that it was handed.) (LAID: no walk: one application.) -/
theorem Tryz.utf8_RuneStart (b : Int) (w : World) (h0 : 0 ≤ b) (h1 : b < 256) :
    Calls Tryz.prog 166 #[.int .u8 b] w fun e w' => e = .returned (.bool (Lib.runeStart b)) ∧ w' = w := Any.utf8_RuneStart Tryz.lays120 b w h0 h1
def Tryz.lays137_ren : Go.Shelf.Ren := ⟨fun | 137 => 55 | 217 => 99 | 266 => 128 | n => n, fun | 9 => 9 | 5 => 5 | 3 => 3 | n => n, fun | n => n⟩
theorem Tryz.lays137 : Go.Proofs.Lays.n137 Tryz.prog Tryz.lays137_ren := {
  mixed := by kernel_rfl
  f137 := Tryz.func55.trans (congrArg some (by kernel_rfl))
  f217 := Tryz.func99.trans (congrArg some (by kernel_rfl))
  f266 := Tryz.func128.trans (congrArg some (by kernel_rfl))
  t3 := Tryz.underlying3
  a3 := Tryz.isAgg3
  z3 := Tryz.sizeOf3
  v3 := Tryz.zeroValue3
  t5 := Tryz.underlying5
  a5 := Tryz.isAgg5
  z5 := Tryz.sizeOf5
  v5 := Tryz.zeroValue5
  t9 := Tryz.underlying9
  a9 := Tryz.isAgg9
  z9 := Tryz.sizeOf9
  v9 := Tryz.zeroValue9 }
open Go.RowKit in
/-- strings.IndexByte: "IndexByte returns the index of the first instance of c in s, or -1 if c is not present in s.": IT RETURNS 'Lib.indexByte s c'; the world is as it was. (LAID: no walk: one application.) -/
theorem Tryz.strings_IndexByte (s : ByteArray) (c : Int) (w : World) :
    Calls Tryz.prog 55 #[.string s, .int .u8 c] w fun e w' => e = .returned (.int .i64 (Lib.indexByte s.data.toList c.toNat.toUInt8)) ∧ w' = w := Any.strings_IndexByte Tryz.lays137 s c w
open Go.RowKit in
/-- (*strings.Builder).Len: "Len returns the number of accumulated bytes; b.Len() == len(b.String()).": the world is as it was. (THE FORM '_f': 'Lib.IsBuilderF'.) (LAID: no walk: one application.) -/
theorem Tryz.Builder_Len_f (B b : Nat) (bs : List Value) (w : World) (h : Lib.IsBuilderF 153 5 B b bs w) :
    Calls Tryz.prog 150 #[.pointer (some ⟨b, 0, none⟩)] w fun e w' => e = .returned (.int .i64 bs.length) ∧ w' = w := Any.Builder_Len_f Tryz.lays170 B b bs w h
open Go.RowKit in
/-- (*strings.Builder).String: "String returns the accumulated string.": OF A BUILDER THAT HOLDS AT LEAST ONE BYTE. ✋ THE MODEL FREEZES THOSE BYTES IN THE BUFFER (unsafe.String): a later write INTO them ends the model's run without an answer; a later append BEHIND them goes on. The statement's order of evaluation is drawn: one draw. THE FORM '_f': IT SAYS BESIDES THAT THE BUILDER IS A BUILDER STILL ('Lib.IsBuilderF', the same bytes): SO IT CAN BE WRITTEN ON: 'b.WriteString(b.String()[:k])'. (LAID: no walk: one application.) -/
theorem Tryz.Builder_String_f (B b : Nat) (l : List UInt8) (w : World) (h : Lib.IsBuilderF 153 5 B b (Lib.byteCells l) w) (h0 : l ≠ []) :
    Calls Tryz.prog 151 #[.pointer (some ⟨b, 0, none⟩)] w fun e w' => e = .returned (.string ⟨l.toArray⟩) ∧ (Lib.IsBuilderF 153 5 B b (Lib.byteCells l) w' ∧ Below B w w') := Any.Builder_String_f Tryz.lays169 Tryz.Builder_Extra_169 B b l w h h0
open Go.RowKit in
/-- (*strings.Builder).String OF A BUILDER THAT HOLDS NO BYTE: the empty string; THE FORM '_f': a builder still. (LAID: no walk: one application.) -/
theorem Tryz.Builder_String_empty_f (B b : Nat) (w : World) (h : Lib.IsBuilderF 153 5 B b [] w) (hBw : B ≤ w.heap.size) :
    Calls Tryz.prog 151 #[.pointer (some ⟨b, 0, none⟩)] w fun e w' => e = .returned (.string ⟨#[]⟩) ∧ (Lib.IsBuilderF 153 5 B b [] w' ∧ Below B w w') := Any.Builder_String_empty_f Tryz.lays169 Tryz.Builder_Extra_169 B b w h hBw
open Go.RowKit in
/-- (*strings.Builder).String: "String returns the accumulated string.": WHATEVER THE BUILDER HOLDS; THE FORM '_f': OF A BUILDER THAT MAY HAVE BEEN READ BEFORE; AND IT IS A BUILDER STILL, holding the same bytes: it can be written on. (LAID: no walk: one application.) -/
theorem Tryz.Builder_String_any_f (B b : Nat) (l : List UInt8) (w : World) (h : Lib.IsBuilderF 153 5 B b (Lib.byteCells l) w) (hBw : B ≤ w.heap.size) :
    Calls Tryz.prog 151 #[.pointer (some ⟨b, 0, none⟩)] w fun e w' => e = .returned (.string ⟨l.toArray⟩) ∧ (Lib.IsBuilderF 153 5 B b (Lib.byteCells l) w' ∧ Below B w w') := Any.Builder_String_any_f Tryz.lays169 Tryz.Builder_Extra_169 B b l w h hBw
def Tryz.lays195_ren : Go.Shelf.Ren := ⟨fun | 195 => 125 | n => n, fun | 9 => 9 | 3 => 3 | 0 => 0 | 4 => 4 | n => n, fun | n => n⟩
theorem Tryz.lays195 : Go.Proofs.Lays.n195 Tryz.prog Tryz.lays195_ren := {
  mixed := by kernel_rfl
  f195 := Tryz.func125.trans (congrArg some (by kernel_rfl))
  t0 := Tryz.underlying0
  a0 := Tryz.isAgg0
  z0 := Tryz.sizeOf0
  v0 := Tryz.zeroValue0
  t3 := Tryz.underlying3
  a3 := Tryz.isAgg3
  z3 := Tryz.sizeOf3
  v3 := Tryz.zeroValue3
  t4 := Tryz.underlying4
  a4 := Tryz.isAgg4
  z4 := Tryz.sizeOf4
  v4 := Tryz.zeroValue4
  t9 := Tryz.underlying9
  a9 := Tryz.isAgg9
  z9 := Tryz.sizeOf9
  v9 := Tryz.zeroValue9 }
open Go.RowKit in
/-- unicode/utf8.RuneCountInString: "RuneCountInString is like RuneCount but its input is a string." ("RuneCount returns the number of runes in p. Erroneous and short encodings are treated as single runes of width 1 byte."): EVERY STRING, valid UTF-8 or not: 'Lib.runeCount s' (plain Lean over the model's own 'Utf8.decode'; 'Lib.runeCount_le': at most len(s); 'Lib.runeCount_ascii': on ASCII: len(s)). THE ONE CONDITION: len(s) below 2^63 - 1 (the counter does not wrap): the form's reach pays it. THE WORLD BEHIND THE CALL: ONE BLOCK MORE: the model's iterator over s, at its end: all else as it was. (LAID: no walk: one application.) -/
theorem Tryz.utf8_RuneCountInString (s : ByteArray) (w : World) (hs : s.size < 9223372036854775807) :
    Calls Tryz.prog 125 #[.string s] w fun e w' => e = .returned (.int .i64 (Lib.runeCount s)) ∧ ∃ pos, w' = w.iter s pos := Any.utf8_RuneCountInString Tryz.lays195 s w hs
def Tryz.lays217_ren : Go.Shelf.Ren := ⟨fun | 217 => 99 | 266 => 128 | n => n, fun | 9 => 9 | 5 => 5 | 3 => 3 | n => n, fun | n => n⟩
theorem Tryz.lays217 : Go.Proofs.Lays.n217 Tryz.prog Tryz.lays217_ren := {
  mixed := by kernel_rfl
  f217 := Tryz.func99.trans (congrArg some (by kernel_rfl))
  f266 := Tryz.func128.trans (congrArg some (by kernel_rfl))
  t3 := Tryz.underlying3
  a3 := Tryz.isAgg3
  z3 := Tryz.sizeOf3
  v3 := Tryz.zeroValue3
  t5 := Tryz.underlying5
  a5 := Tryz.isAgg5
  z5 := Tryz.sizeOf5
  v5 := Tryz.zeroValue5
  t9 := Tryz.underlying9
  a9 := Tryz.isAgg9
  z9 := Tryz.sizeOf9
  v9 := Tryz.zeroValue9 }
open Go.RowKit Go.Lib in
/-- internal/stringslite.IndexByte (what strings.IndexByte calls): IT RETURNS 'Lib.indexByte s c'; the world is as it was. (LAID: no walk: one application.) -/
theorem Tryz.stringslite_IndexByte (s : ByteArray) (c : Int) (w : World) :
    Calls Tryz.prog 99 #[.string s, .int .u8 c] w fun e w' => e = .returned (.int .i64 (Lib.indexByte s.data.toList c.toNat.toUInt8)) ∧ w' = w := Any.stringslite_IndexByte Tryz.lays217 s c w
def Tryz.lays224_ren : Go.Shelf.Ren := ⟨fun | 224 => 157 | n => n, fun | 3 => 3 | n => n, fun | n => n⟩
theorem Tryz.lays224 : Go.Proofs.Lays.n224 Tryz.prog Tryz.lays224_ren := {
  mixed := by kernel_rfl
  f224 := Tryz.func157.trans (congrArg some (by kernel_rfl))
  t3 := Tryz.underlying3
  a3 := Tryz.isAgg3
  z3 := Tryz.sizeOf3
  v3 := Tryz.zeroValue3 }
open Go.RowKit Go.Lib in
/-- internal/bytealg.Cutover: "Cutover reports the number of failures of IndexByte we should tolerate before switching over to Index. n is the number of bytes processed so far.": on amd64: (n + 16) / 8. (LAID: no walk: one application.) -/
theorem Tryz.bytealg_Cutover (n : Int) (h0 : 0 ≤ n) (h1 : n < 4611686018427387904) (w : World) :
    Calls Tryz.prog 157 #[.int .i64 n] w fun e w' => e = .returned (.int .i64 ((n + 16) / 8)) ∧ w' = w := Any.bytealg_Cutover Tryz.lays224 n h0 h1 w
def Tryz.lays314_ren : Go.Shelf.Ren := ⟨fun | 314 => 167 | n => n, fun | 9 => 9 | 51 => 163 | 3 => 3 | 4 => 4 | 5 => 5 | 46 => 134 | n => n, fun | n => n⟩
theorem Tryz.lays314 : Go.Proofs.Lays.n314 Tryz.prog Tryz.lays314_ren := {
  mixed := by kernel_rfl
  f314 := Tryz.func167.trans (congrArg some (by kernel_rfl))
  t3 := Tryz.underlying3
  a3 := Tryz.isAgg3
  z3 := Tryz.sizeOf3
  v3 := Tryz.zeroValue3
  t4 := Tryz.underlying4
  a4 := Tryz.isAgg4
  z4 := Tryz.sizeOf4
  v4 := Tryz.zeroValue4
  t5 := Tryz.underlying5
  a5 := Tryz.isAgg5
  z5 := Tryz.sizeOf5
  v5 := Tryz.zeroValue5
  t9 := Tryz.underlying9
  a9 := Tryz.isAgg9
  z9 := Tryz.sizeOf9
  v9 := Tryz.zeroValue9
  t46 := Tryz.underlying134
  a46 := Tryz.isAgg134
  z46 := Tryz.sizeOf134
  v46 := Tryz.zeroValue134
  t51 := Tryz.underlying163
  a51 := Tryz.isAgg163
  z51 := Tryz.sizeOf163
  v51 := Tryz.zeroValue163 }
open Go.RowKit Go.Lib in
/-- hashStr: "returns the hash and the appropriate multiplicative factor for use in Rabin-Karp algorithm": THE HASH OF ALL OF sep, AND 16777619 ^ len(sep), both in uint32. (LAID: no walk: one application.) -/
theorem Tryz.bytealg_hashStr (sep : ByteArray) (hs : sep.size < 4294967281) (w : World) :
    Calls Tryz.prog 167 #[.string sep] w fun e w' => e = .returned (.tuple #[.int .u32 (RK.H sep.data.toList % 4294967296), .int .u32 (16777619 ^ sep.size % 4294967296)]) ∧ w' = w := Any.bytealg_hashStr Tryz.lays314 sep hs w
def Tryz.lays267_ren : Go.Shelf.Ren := ⟨fun | 267 => 158 | 314 => 167 | n => n, fun | 9 => 9 | 3 => 3 | 146 => 164 | 51 => 163 | 4 => 4 | 5 => 5 | 46 => 134 | n => n, fun | n => n⟩
theorem Tryz.lays267 : Go.Proofs.Lays.n267 Tryz.prog Tryz.lays267_ren := {
  mixed := by kernel_rfl
  f267 := Tryz.func158.trans (congrArg some (by kernel_rfl))
  f314 := Tryz.func167.trans (congrArg some (by kernel_rfl))
  t3 := Tryz.underlying3
  a3 := Tryz.isAgg3
  z3 := Tryz.sizeOf3
  v3 := Tryz.zeroValue3
  t4 := Tryz.underlying4
  a4 := Tryz.isAgg4
  z4 := Tryz.sizeOf4
  v4 := Tryz.zeroValue4
  t5 := Tryz.underlying5
  a5 := Tryz.isAgg5
  z5 := Tryz.sizeOf5
  v5 := Tryz.zeroValue5
  t9 := Tryz.underlying9
  a9 := Tryz.isAgg9
  z9 := Tryz.sizeOf9
  v9 := Tryz.zeroValue9
  t46 := Tryz.underlying134
  a46 := Tryz.isAgg134
  z46 := Tryz.sizeOf134
  v46 := Tryz.zeroValue134
  t51 := Tryz.underlying163
  a51 := Tryz.isAgg163
  z51 := Tryz.sizeOf163
  v51 := Tryz.zeroValue163
  t146 := Tryz.underlying164
  a146 := Tryz.isAgg164
  z146 := Tryz.sizeOf164
  v146 := Tryz.zeroValue164 }
open Go.RowKit Go.Lib in
theorem Tryz.bytealg_IndexRabinKarp (s sep : ByteArray) (h1 : 1 ≤ sep.size) (h2 : sep.size ≤ s.size) (hs : s.size < 4294967281) (w : World) :
    Calls Tryz.prog 158 #[.string s, .string sep] w fun e w' => e = .returned (.int .i64 (Lib.index s.data.toList sep.data.toList)) ∧ w' = w := Any.bytealg_IndexRabinKarp Tryz.lays267 s sep h1 h2 hs w
def Tryz.lays219_ren : Go.Shelf.Ren := ⟨fun | 219 => 145 | 217 => 99 | 225 => 156 | 224 => 157 | 267 => 158 | 266 => 128 | 314 => 167 | n => n, fun | 9 => 9 | 3 => 3 | 4 => 4 | 5 => 5 | 46 => 134 | 146 => 164 | 51 => 163 | n => n, fun | 1 => 0 | n => n⟩
theorem Tryz.lays219 : Go.Proofs.Lays.n219 Tryz.prog Tryz.lays219_ren := {
  mixed := by kernel_rfl
  f217 := Tryz.func99.trans (congrArg some (by kernel_rfl))
  f219 := Tryz.func145.trans (congrArg some (by kernel_rfl))
  f224 := Tryz.func157.trans (congrArg some (by kernel_rfl))
  f225 := Tryz.func156.trans (congrArg some (by kernel_rfl))
  f266 := Tryz.func128.trans (congrArg some (by kernel_rfl))
  f267 := Tryz.func158.trans (congrArg some (by kernel_rfl))
  f314 := Tryz.func167.trans (congrArg some (by kernel_rfl))
  t3 := Tryz.underlying3
  a3 := Tryz.isAgg3
  z3 := Tryz.sizeOf3
  v3 := Tryz.zeroValue3
  t4 := Tryz.underlying4
  a4 := Tryz.isAgg4
  z4 := Tryz.sizeOf4
  v4 := Tryz.zeroValue4
  t5 := Tryz.underlying5
  a5 := Tryz.isAgg5
  z5 := Tryz.sizeOf5
  v5 := Tryz.zeroValue5
  t9 := Tryz.underlying9
  a9 := Tryz.isAgg9
  z9 := Tryz.sizeOf9
  v9 := Tryz.zeroValue9
  t46 := Tryz.underlying134
  a46 := Tryz.isAgg134
  z46 := Tryz.sizeOf134
  v46 := Tryz.zeroValue134
  t51 := Tryz.underlying163
  a51 := Tryz.isAgg163
  z51 := Tryz.sizeOf163
  v51 := Tryz.zeroValue163
  t146 := Tryz.underlying164
  a146 := Tryz.isAgg164
  z146 := Tryz.sizeOf164
  v146 := Tryz.zeroValue164
  g1 := by kernel_rfl }
open Go.RowKit Go.Lib in
/-- internal/stringslite.Index (what strings.Index calls) AT A substr OF ONE BYTE c: IT RETURNS 'Lib.indexByte s c'; the world is as it was. (LAID: no walk: one application.) -/
theorem Tryz.stringslite_Index_one (s : ByteArray) (c : UInt8) (w : World) :
    Calls Tryz.prog 145 #[.string s, .string ⟨#[c]⟩] w fun e w' => e = .returned (.int .i64 (Lib.indexByte s.data.toList c)) ∧ w' = w := Any.stringslite_Index_one Tryz.lays219 s c w
open Go.RowKit Go.Lib in
/-- internal/stringslite.Index (what strings.Index calls) AT A substr OF WHATEVER LENGTH: IT RETURNS 'Lib.index s substr'; the world is as it was. 'm': what internal/bytealg.MaxLen holds: whatever. (LAID: no walk: one application.) -/
theorem Tryz.stringslite_Index (s sub : ByteArray) (m : Int) (w : World) (hs : s.size < 4294967281) (hm : w.cell? ⟨0, 0, none⟩ = some (.int .i64 m)) :
    Calls Tryz.prog 145 #[.string s, .string sub] w fun e w' => e = .returned (.int .i64 (Lib.index s.data.toList sub.data.toList)) ∧ w' = w := Any.stringslite_Index Tryz.lays219 s sub m w hs hm
def Tryz.lays143_ren : Go.Shelf.Ren := ⟨fun | 143 => 127 | 219 => 145 | 217 => 99 | 225 => 156 | 224 => 157 | 267 => 158 | 266 => 128 | 314 => 167 | n => n, fun | 9 => 9 | 3 => 3 | 4 => 4 | 5 => 5 | 46 => 134 | 146 => 164 | 51 => 163 | n => n, fun | 1 => 0 | n => n⟩
theorem Tryz.lays143 : Go.Proofs.Lays.n143 Tryz.prog Tryz.lays143_ren := {
  mixed := by kernel_rfl
  f143 := Tryz.func127.trans (congrArg some (by kernel_rfl))
  f217 := Tryz.func99.trans (congrArg some (by kernel_rfl))
  f219 := Tryz.func145.trans (congrArg some (by kernel_rfl))
  f224 := Tryz.func157.trans (congrArg some (by kernel_rfl))
  f225 := Tryz.func156.trans (congrArg some (by kernel_rfl))
  f266 := Tryz.func128.trans (congrArg some (by kernel_rfl))
  f267 := Tryz.func158.trans (congrArg some (by kernel_rfl))
  f314 := Tryz.func167.trans (congrArg some (by kernel_rfl))
  t3 := Tryz.underlying3
  a3 := Tryz.isAgg3
  z3 := Tryz.sizeOf3
  v3 := Tryz.zeroValue3
  t4 := Tryz.underlying4
  a4 := Tryz.isAgg4
  z4 := Tryz.sizeOf4
  v4 := Tryz.zeroValue4
  t5 := Tryz.underlying5
  a5 := Tryz.isAgg5
  z5 := Tryz.sizeOf5
  v5 := Tryz.zeroValue5
  t9 := Tryz.underlying9
  a9 := Tryz.isAgg9
  z9 := Tryz.sizeOf9
  v9 := Tryz.zeroValue9
  t46 := Tryz.underlying134
  a46 := Tryz.isAgg134
  z46 := Tryz.sizeOf134
  v46 := Tryz.zeroValue134
  t51 := Tryz.underlying163
  a51 := Tryz.isAgg163
  z51 := Tryz.sizeOf163
  v51 := Tryz.zeroValue163
  t146 := Tryz.underlying164
  a146 := Tryz.isAgg164
  z146 := Tryz.sizeOf164
  v146 := Tryz.zeroValue164
  g1 := by kernel_rfl }
open Go.RowKit Go.Lib in
/-- strings.Index: "Index returns the index of the first instance of substr in s, or -1 if substr is not present in s.": AT A substr OF ONE BYTE c: IT RETURNS 'Lib.indexByte s c'; the world is as it was. (LAID: no walk: one application.) -/
theorem Tryz.strings_Index_one (s : ByteArray) (c : UInt8) (w : World) :
    Calls Tryz.prog 127 #[.string s, .string ⟨#[c]⟩] w fun e w' => e = .returned (.int .i64 (Lib.indexByte s.data.toList c)) ∧ w' = w := Any.strings_Index_one Tryz.lays143 s c w
open Go.RowKit Go.Lib in
/-- strings.Index: "Index returns the index of the first instance of substr in s, or -1 if substr is not present in s.": IT RETURNS 'Lib.index s substr'; the world is as it was. (LAID: no walk: one application.) -/
theorem Tryz.strings_Index (s sub : ByteArray) (m : Int) (w : World) (hs : s.size < 4294967281) (hm : w.cell? ⟨0, 0, none⟩ = some (.int .i64 m)) :
    Calls Tryz.prog 127 #[.string s, .string sub] w fun e w' => e = .returned (.int .i64 (Lib.index s.data.toList sub.data.toList)) ∧ w' = w := Any.strings_Index Tryz.lays143 s sub m w hs hm
def Tryz.lays144_ren : Go.Shelf.Ren := ⟨fun | 144 => 137 | 143 => 127 | 219 => 145 | 217 => 99 | 225 => 156 | 224 => 157 | 267 => 158 | 266 => 128 | 314 => 167 | n => n, fun | 9 => 9 | 4 => 4 | 3 => 3 | 5 => 5 | 46 => 134 | 146 => 164 | 51 => 163 | n => n, fun | 1 => 0 | n => n⟩
theorem Tryz.lays144 : Go.Proofs.Lays.n144 Tryz.prog Tryz.lays144_ren := {
  mixed := by kernel_rfl
  f143 := Tryz.func127.trans (congrArg some (by kernel_rfl))
  f144 := Tryz.func137.trans (congrArg some (by kernel_rfl))
  f217 := Tryz.func99.trans (congrArg some (by kernel_rfl))
  f219 := Tryz.func145.trans (congrArg some (by kernel_rfl))
  f224 := Tryz.func157.trans (congrArg some (by kernel_rfl))
  f225 := Tryz.func156.trans (congrArg some (by kernel_rfl))
  f266 := Tryz.func128.trans (congrArg some (by kernel_rfl))
  f267 := Tryz.func158.trans (congrArg some (by kernel_rfl))
  f314 := Tryz.func167.trans (congrArg some (by kernel_rfl))
  t3 := Tryz.underlying3
  a3 := Tryz.isAgg3
  z3 := Tryz.sizeOf3
  v3 := Tryz.zeroValue3
  t4 := Tryz.underlying4
  a4 := Tryz.isAgg4
  z4 := Tryz.sizeOf4
  v4 := Tryz.zeroValue4
  t5 := Tryz.underlying5
  a5 := Tryz.isAgg5
  z5 := Tryz.sizeOf5
  v5 := Tryz.zeroValue5
  t9 := Tryz.underlying9
  a9 := Tryz.isAgg9
  z9 := Tryz.sizeOf9
  v9 := Tryz.zeroValue9
  t46 := Tryz.underlying134
  a46 := Tryz.isAgg134
  z46 := Tryz.sizeOf134
  v46 := Tryz.zeroValue134
  t51 := Tryz.underlying163
  a51 := Tryz.isAgg163
  z51 := Tryz.sizeOf163
  v51 := Tryz.zeroValue163
  t146 := Tryz.underlying164
  a146 := Tryz.isAgg164
  z146 := Tryz.sizeOf164
  v146 := Tryz.zeroValue164
  g1 := by kernel_rfl }
open Go.RowKit Go.Lib in
/-- strings.Contains: "Contains reports whether substr is within s.": AT A substr OF ONE BYTE c: IT RETURNS 'decide (0 ≤ Lib.indexByte s c)'; the world is as it was. (LAID: no walk: one application.) -/
theorem Tryz.strings_Contains_one (s : ByteArray) (c : UInt8) (w : World) :
    Calls Tryz.prog 137 #[.string s, .string ⟨#[c]⟩] w fun e w' => e = .returned (.bool (decide (0 ≤ Lib.indexByte s.data.toList c))) ∧ w' = w := Any.strings_Contains_one Tryz.lays144 s c w
open Go.RowKit Go.Lib in
/-- strings.Contains: "Contains reports whether substr is within s.": IT RETURNS 'Lib.contains s substr'; the world is as it was. (LAID: no walk: one application.) -/
theorem Tryz.strings_Contains (s sub : ByteArray) (m : Int) (w : World) (hs : s.size < 4294967281) (hm : w.cell? ⟨0, 0, none⟩ = some (.int .i64 m)) :
    Calls Tryz.prog 137 #[.string s, .string sub] w fun e w' => e = .returned (.bool (Lib.contains s.data.toList sub.data.toList)) ∧ w' = w := Any.strings_Contains Tryz.lays144 s sub m w hs hm
def Tryz.lays138_ren : Go.Shelf.Ren := ⟨fun | 138 => 98 | 195 => 125 | 218 => 126 | 143 => 127 | 219 => 145 | 217 => 99 | 225 => 156 | 224 => 157 | 267 => 158 | 266 => 128 | 314 => 167 | n => n, fun | 9 => 9 | 3 => 3 | 4 => 4 | 5 => 5 | 0 => 0 | 46 => 134 | 146 => 164 | 51 => 163 | n => n, fun | 1 => 0 | n => n⟩
theorem Tryz.lays138 : Go.Proofs.Lays.n138 Tryz.prog Tryz.lays138_ren := {
  mixed := by kernel_rfl
  f138 := Tryz.func98.trans (congrArg some (by kernel_rfl))
  f143 := Tryz.func127.trans (congrArg some (by kernel_rfl))
  f195 := Tryz.func125.trans (congrArg some (by kernel_rfl))
  f217 := Tryz.func99.trans (congrArg some (by kernel_rfl))
  f218 := Tryz.func126.trans (congrArg some (by kernel_rfl))
  f219 := Tryz.func145.trans (congrArg some (by kernel_rfl))
  f224 := Tryz.func157.trans (congrArg some (by kernel_rfl))
  f225 := Tryz.func156.trans (congrArg some (by kernel_rfl))
  f266 := Tryz.func128.trans (congrArg some (by kernel_rfl))
  f267 := Tryz.func158.trans (congrArg some (by kernel_rfl))
  f314 := Tryz.func167.trans (congrArg some (by kernel_rfl))
  t0 := Tryz.underlying0
  a0 := Tryz.isAgg0
  z0 := Tryz.sizeOf0
  v0 := Tryz.zeroValue0
  t3 := Tryz.underlying3
  a3 := Tryz.isAgg3
  z3 := Tryz.sizeOf3
  v3 := Tryz.zeroValue3
  t4 := Tryz.underlying4
  a4 := Tryz.isAgg4
  z4 := Tryz.sizeOf4
  v4 := Tryz.zeroValue4
  t5 := Tryz.underlying5
  a5 := Tryz.isAgg5
  z5 := Tryz.sizeOf5
  v5 := Tryz.zeroValue5
  t9 := Tryz.underlying9
  a9 := Tryz.isAgg9
  z9 := Tryz.sizeOf9
  v9 := Tryz.zeroValue9
  t46 := Tryz.underlying134
  a46 := Tryz.isAgg134
  z46 := Tryz.sizeOf134
  v46 := Tryz.zeroValue134
  t51 := Tryz.underlying163
  a51 := Tryz.isAgg163
  z51 := Tryz.sizeOf163
  v51 := Tryz.zeroValue163
  t146 := Tryz.underlying164
  a146 := Tryz.isAgg164
  z146 := Tryz.sizeOf164
  v146 := Tryz.zeroValue164
  g1 := by kernel_rfl }
open Go.RowKit Go.Lib in
/-- strings.Count AT A substr OF ONE BYTE ('hp'): "Count counts the number of non-overlapping instances of substr in s.": IT RETURNS 'Lib.countByte s (that byte)'; the world is as it was. ✋ NO CONTRACT HERE YET at an empty substr (utf8.RuneCountInString) or at a longer one (a loop over strings.Index). (LAID: no walk: one application.) -/
theorem Tryz.strings_Count_one (s : ByteArray) (c : UInt8) (w : World) :
    Calls Tryz.prog 98 #[.string s, .string ⟨#[c]⟩] w fun e w' => e = .returned (.int .i64 (Lib.countByte s.data.toList c)) ∧ w' = w := Any.strings_Count_one Tryz.lays138 s c w
open Go.RowKit Go.Lib in
/-- strings.Count AT A substr OF TWO BYTES OR MORE: "Count counts the number of non-overlapping instances of substr in s.": IT RETURNS 'Lib.count s substr'; the world is as it was. (LAID: no walk: one application.) -/
theorem Tryz.strings_Count (s sub : ByteArray) (m : Int) (w : World) (hs : s.size < 4294967281) (hm : w.cell? ⟨0, 0, none⟩ = some (.int .i64 m)) (h2 : 2 ≤ sub.size) :
    Calls Tryz.prog 98 #[.string s, .string sub] w fun e w' => e = .returned (.int .i64 (Lib.countB s sub)) ∧ w' = w := Any.strings_Count Tryz.lays138 s sub m w hs hm h2
def Tryz.laysM219_ren : Go.Shelf.Ren := ⟨fun | 219 => 145 | 217 => 99 | 225 => 156 | 224 => 157 | 267 => 158 | 266 => 128 | 314 => 167 | n => n, fun | 9 => 9 | 3 => 3 | 4 => 4 | 5 => 5 | 46 => 134 | 146 => 164 | 51 => 163 | n => n, fun | 1 => 0 | n => n⟩
theorem Tryz.laysM219 : Go.Proofs.LaysM.n219 Tryz.prog Tryz.laysM219_ren := {
  mixed := by kernel_rfl
  f217 := Tryz.func99.trans (congrArg some (by kernel_rfl))
  f219 := Tryz.func145.trans (congrArg some (by kernel_rfl))
  f224 := Tryz.func157.trans (congrArg some (by kernel_rfl))
  f225 := Tryz.func156.trans (congrArg some (by kernel_rfl))
  f266 := Tryz.func128.trans (congrArg some (by kernel_rfl))
  f267 := Tryz.func158.trans (congrArg some (by kernel_rfl))
  f314 := Tryz.func167.trans (congrArg some (by kernel_rfl))
  t3 := Tryz.underlying3
  a3 := Tryz.isAgg3
  z3 := Tryz.sizeOf3
  v3 := Tryz.zeroValue3
  t4 := Tryz.underlying4
  a4 := Tryz.isAgg4
  z4 := Tryz.sizeOf4
  v4 := Tryz.zeroValue4
  t5 := Tryz.underlying5
  a5 := Tryz.isAgg5
  z5 := Tryz.sizeOf5
  v5 := Tryz.zeroValue5
  t9 := Tryz.underlying9
  a9 := Tryz.isAgg9
  z9 := Tryz.sizeOf9
  v9 := Tryz.zeroValue9
  t46 := Tryz.underlying134
  a46 := Tryz.isAgg134
  z46 := Tryz.sizeOf134
  v46 := Tryz.zeroValue134
  t51 := Tryz.underlying163
  a51 := Tryz.isAgg163
  z51 := Tryz.sizeOf163
  v51 := Tryz.zeroValue163
  t146 := Tryz.underlying164
  a146 := Tryz.isAgg164
  z146 := Tryz.sizeOf164
  v146 := Tryz.zeroValue164
  g1 := by kernel_rfl
  i3 := by kernel_rfl
  i4 := by kernel_rfl
  i5 := by kernel_rfl
  i9 := by kernel_rfl
  i46 := by kernel_rfl
  i51 := by kernel_rfl
  i146 := by kernel_rfl
  m1 := by kernel_rfl
  s1_3 := fun w h => Go.Proofs.cell_of_shapedOpen_int (zero := #[.int .i64 0]) (t := 3) h (of_decide_eq_true (by kernel_rfl)) (by kernel_rfl) rfl (by kernel_rfl) (by kernel_rfl) Tryz.underlying3 }
open Go.RowKit Go.Lib in
theorem Tryz.stringslite_Index_shaped (s sub : ByteArray) (w : World) (h : w.ShapedOpen Tryz.prog) (hs : s.size < 4294967281) :
    Calls Tryz.prog 145 #[.string s, .string sub] w fun e w' => e = .returned (.int .i64 (Lib.index s.data.toList sub.data.toList)) ∧ w' = w := Any.stringslite_Index_shaped Tryz.laysM219 s sub w h hs
def Tryz.laysM143_ren : Go.Shelf.Ren := ⟨fun | 143 => 127 | 219 => 145 | 217 => 99 | 225 => 156 | 224 => 157 | 267 => 158 | 266 => 128 | 314 => 167 | n => n, fun | 9 => 9 | 3 => 3 | 4 => 4 | 5 => 5 | 46 => 134 | 146 => 164 | 51 => 163 | n => n, fun | 1 => 0 | n => n⟩
theorem Tryz.laysM143 : Go.Proofs.LaysM.n143 Tryz.prog Tryz.laysM143_ren := {
  mixed := by kernel_rfl
  f143 := Tryz.func127.trans (congrArg some (by kernel_rfl))
  f217 := Tryz.func99.trans (congrArg some (by kernel_rfl))
  f219 := Tryz.func145.trans (congrArg some (by kernel_rfl))
  f224 := Tryz.func157.trans (congrArg some (by kernel_rfl))
  f225 := Tryz.func156.trans (congrArg some (by kernel_rfl))
  f266 := Tryz.func128.trans (congrArg some (by kernel_rfl))
  f267 := Tryz.func158.trans (congrArg some (by kernel_rfl))
  f314 := Tryz.func167.trans (congrArg some (by kernel_rfl))
  t3 := Tryz.underlying3
  a3 := Tryz.isAgg3
  z3 := Tryz.sizeOf3
  v3 := Tryz.zeroValue3
  t4 := Tryz.underlying4
  a4 := Tryz.isAgg4
  z4 := Tryz.sizeOf4
  v4 := Tryz.zeroValue4
  t5 := Tryz.underlying5
  a5 := Tryz.isAgg5
  z5 := Tryz.sizeOf5
  v5 := Tryz.zeroValue5
  t9 := Tryz.underlying9
  a9 := Tryz.isAgg9
  z9 := Tryz.sizeOf9
  v9 := Tryz.zeroValue9
  t46 := Tryz.underlying134
  a46 := Tryz.isAgg134
  z46 := Tryz.sizeOf134
  v46 := Tryz.zeroValue134
  t51 := Tryz.underlying163
  a51 := Tryz.isAgg163
  z51 := Tryz.sizeOf163
  v51 := Tryz.zeroValue163
  t146 := Tryz.underlying164
  a146 := Tryz.isAgg164
  z146 := Tryz.sizeOf164
  v146 := Tryz.zeroValue164
  g1 := by kernel_rfl
  i3 := by kernel_rfl
  i4 := by kernel_rfl
  i5 := by kernel_rfl
  i9 := by kernel_rfl
  i46 := by kernel_rfl
  i51 := by kernel_rfl
  i146 := by kernel_rfl
  m1 := by kernel_rfl
  s1_3 := fun w h => Go.Proofs.cell_of_shapedOpen_int (zero := #[.int .i64 0]) (t := 3) h (of_decide_eq_true (by kernel_rfl)) (by kernel_rfl) rfl (by kernel_rfl) (by kernel_rfl) Tryz.underlying3 }
open Go.RowKit Go.Lib in
theorem Tryz.strings_Index_shaped (s sub : ByteArray) (w : World) (h : w.ShapedOpen Tryz.prog) (hs : s.size < 4294967281) :
    Calls Tryz.prog 127 #[.string s, .string sub] w fun e w' => e = .returned (.int .i64 (Lib.index s.data.toList sub.data.toList)) ∧ w' = w := Any.strings_Index_shaped Tryz.laysM143 s sub w h hs
def Tryz.laysM144_ren : Go.Shelf.Ren := ⟨fun | 144 => 137 | 143 => 127 | 219 => 145 | 217 => 99 | 225 => 156 | 224 => 157 | 267 => 158 | 266 => 128 | 314 => 167 | n => n, fun | 9 => 9 | 4 => 4 | 3 => 3 | 5 => 5 | 46 => 134 | 146 => 164 | 51 => 163 | n => n, fun | 1 => 0 | n => n⟩
theorem Tryz.laysM144 : Go.Proofs.LaysM.n144 Tryz.prog Tryz.laysM144_ren := {
  mixed := by kernel_rfl
  f143 := Tryz.func127.trans (congrArg some (by kernel_rfl))
  f144 := Tryz.func137.trans (congrArg some (by kernel_rfl))
  f217 := Tryz.func99.trans (congrArg some (by kernel_rfl))
  f219 := Tryz.func145.trans (congrArg some (by kernel_rfl))
  f224 := Tryz.func157.trans (congrArg some (by kernel_rfl))
  f225 := Tryz.func156.trans (congrArg some (by kernel_rfl))
  f266 := Tryz.func128.trans (congrArg some (by kernel_rfl))
  f267 := Tryz.func158.trans (congrArg some (by kernel_rfl))
  f314 := Tryz.func167.trans (congrArg some (by kernel_rfl))
  t3 := Tryz.underlying3
  a3 := Tryz.isAgg3
  z3 := Tryz.sizeOf3
  v3 := Tryz.zeroValue3
  t4 := Tryz.underlying4
  a4 := Tryz.isAgg4
  z4 := Tryz.sizeOf4
  v4 := Tryz.zeroValue4
  t5 := Tryz.underlying5
  a5 := Tryz.isAgg5
  z5 := Tryz.sizeOf5
  v5 := Tryz.zeroValue5
  t9 := Tryz.underlying9
  a9 := Tryz.isAgg9
  z9 := Tryz.sizeOf9
  v9 := Tryz.zeroValue9
  t46 := Tryz.underlying134
  a46 := Tryz.isAgg134
  z46 := Tryz.sizeOf134
  v46 := Tryz.zeroValue134
  t51 := Tryz.underlying163
  a51 := Tryz.isAgg163
  z51 := Tryz.sizeOf163
  v51 := Tryz.zeroValue163
  t146 := Tryz.underlying164
  a146 := Tryz.isAgg164
  z146 := Tryz.sizeOf164
  v146 := Tryz.zeroValue164
  g1 := by kernel_rfl
  i3 := by kernel_rfl
  i4 := by kernel_rfl
  i5 := by kernel_rfl
  i9 := by kernel_rfl
  i46 := by kernel_rfl
  i51 := by kernel_rfl
  i146 := by kernel_rfl
  m1 := by kernel_rfl
  s1_3 := fun w h => Go.Proofs.cell_of_shapedOpen_int (zero := #[.int .i64 0]) (t := 3) h (of_decide_eq_true (by kernel_rfl)) (by kernel_rfl) rfl (by kernel_rfl) (by kernel_rfl) Tryz.underlying3 }
open Go.RowKit Go.Lib in
theorem Tryz.strings_Contains_shaped (s sub : ByteArray) (w : World) (h : w.ShapedOpen Tryz.prog) (hs : s.size < 4294967281) :
    Calls Tryz.prog 137 #[.string s, .string sub] w fun e w' => e = .returned (.bool (Lib.contains s.data.toList sub.data.toList)) ∧ w' = w := Any.strings_Contains_shaped Tryz.laysM144 s sub w h hs
def Tryz.laysM138_ren : Go.Shelf.Ren := ⟨fun | 138 => 98 | 195 => 125 | 218 => 126 | 143 => 127 | 219 => 145 | 217 => 99 | 225 => 156 | 224 => 157 | 267 => 158 | 266 => 128 | 314 => 167 | n => n, fun | 9 => 9 | 3 => 3 | 4 => 4 | 5 => 5 | 0 => 0 | 46 => 134 | 146 => 164 | 51 => 163 | n => n, fun | 1 => 0 | n => n⟩
theorem Tryz.laysM138 : Go.Proofs.LaysM.n138 Tryz.prog Tryz.laysM138_ren := {
  mixed := by kernel_rfl
  f138 := Tryz.func98.trans (congrArg some (by kernel_rfl))
  f143 := Tryz.func127.trans (congrArg some (by kernel_rfl))
  f195 := Tryz.func125.trans (congrArg some (by kernel_rfl))
  f217 := Tryz.func99.trans (congrArg some (by kernel_rfl))
  f218 := Tryz.func126.trans (congrArg some (by kernel_rfl))
  f219 := Tryz.func145.trans (congrArg some (by kernel_rfl))
  f224 := Tryz.func157.trans (congrArg some (by kernel_rfl))
  f225 := Tryz.func156.trans (congrArg some (by kernel_rfl))
  f266 := Tryz.func128.trans (congrArg some (by kernel_rfl))
  f267 := Tryz.func158.trans (congrArg some (by kernel_rfl))
  f314 := Tryz.func167.trans (congrArg some (by kernel_rfl))
  t0 := Tryz.underlying0
  a0 := Tryz.isAgg0
  z0 := Tryz.sizeOf0
  v0 := Tryz.zeroValue0
  t3 := Tryz.underlying3
  a3 := Tryz.isAgg3
  z3 := Tryz.sizeOf3
  v3 := Tryz.zeroValue3
  t4 := Tryz.underlying4
  a4 := Tryz.isAgg4
  z4 := Tryz.sizeOf4
  v4 := Tryz.zeroValue4
  t5 := Tryz.underlying5
  a5 := Tryz.isAgg5
  z5 := Tryz.sizeOf5
  v5 := Tryz.zeroValue5
  t9 := Tryz.underlying9
  a9 := Tryz.isAgg9
  z9 := Tryz.sizeOf9
  v9 := Tryz.zeroValue9
  t46 := Tryz.underlying134
  a46 := Tryz.isAgg134
  z46 := Tryz.sizeOf134
  v46 := Tryz.zeroValue134
  t51 := Tryz.underlying163
  a51 := Tryz.isAgg163
  z51 := Tryz.sizeOf163
  v51 := Tryz.zeroValue163
  t146 := Tryz.underlying164
  a146 := Tryz.isAgg164
  z146 := Tryz.sizeOf164
  v146 := Tryz.zeroValue164
  g1 := by kernel_rfl
  i0 := by kernel_rfl
  i3 := by kernel_rfl
  i4 := by kernel_rfl
  i5 := by kernel_rfl
  i9 := by kernel_rfl
  i46 := by kernel_rfl
  i51 := by kernel_rfl
  i146 := by kernel_rfl
  m1 := by kernel_rfl
  s1_3 := fun w h => Go.Proofs.cell_of_shapedOpen_int (zero := #[.int .i64 0]) (t := 3) h (of_decide_eq_true (by kernel_rfl)) (by kernel_rfl) rfl (by kernel_rfl) (by kernel_rfl) Tryz.underlying3 }
open Go.RowKit Go.Lib in
theorem Tryz.strings_Count_shaped (s sub : ByteArray) (w : World) (h : w.ShapedOpen Tryz.prog) (hs : s.size < 4294967281) (h2 : 2 ≤ sub.size) :
    Calls Tryz.prog 98 #[.string s, .string sub] w fun e w' => e = .returned (.int .i64 (Lib.countB s sub)) ∧ w' = w := Any.strings_Count_shaped Tryz.laysM138 s sub w h hs h2
def Tryz.lays206_ren : Go.Shelf.Ren := ⟨fun | 206 => 161 | n => n, fun | 9 => 9 | 4 => 4 | 3 => 3 | n => n, fun | n => n⟩
theorem Tryz.lays206 : Go.Proofs.Lays.n206 Tryz.prog Tryz.lays206_ren := {
  mixed := by kernel_rfl
  f206 := Tryz.func161.trans (congrArg some (by kernel_rfl))
  t3 := Tryz.underlying3
  a3 := Tryz.isAgg3
  z3 := Tryz.sizeOf3
  v3 := Tryz.zeroValue3
  t4 := Tryz.underlying4
  a4 := Tryz.isAgg4
  z4 := Tryz.sizeOf4
  v4 := Tryz.zeroValue4
  t9 := Tryz.underlying9
  a9 := Tryz.isAgg9
  z9 := Tryz.sizeOf9
  v9 := Tryz.zeroValue9 }
open Go.RowKit Go.Lib in
/-- internal/stringslite.HasPrefix (what strings.HasPrefix calls). (LAID: no walk: one application.) -/
theorem Tryz.stringslite_HasPrefix (s p : ByteArray) (w : World) :
    Calls Tryz.prog 161 #[.string s, .string p] w fun e w' => e = .returned (.bool (Lib.hasPrefix s.data.toList p.data.toList)) ∧ w' = w := Any.stringslite_HasPrefix Tryz.lays206 s p w
def Tryz.lays99_ren : Go.Shelf.Ren := ⟨fun | 99 => 147 | 206 => 161 | n => n, fun | 9 => 9 | 4 => 4 | 3 => 3 | n => n, fun | n => n⟩
theorem Tryz.lays99 : Go.Proofs.Lays.n99 Tryz.prog Tryz.lays99_ren := {
  mixed := by kernel_rfl
  f99 := Tryz.func147.trans (congrArg some (by kernel_rfl))
  f206 := Tryz.func161.trans (congrArg some (by kernel_rfl))
  t3 := Tryz.underlying3
  a3 := Tryz.isAgg3
  z3 := Tryz.sizeOf3
  v3 := Tryz.zeroValue3
  t4 := Tryz.underlying4
  a4 := Tryz.isAgg4
  z4 := Tryz.sizeOf4
  v4 := Tryz.zeroValue4
  t9 := Tryz.underlying9
  a9 := Tryz.isAgg9
  z9 := Tryz.sizeOf9
  v9 := Tryz.zeroValue9 }
open Go.RowKit Go.Lib in
/-- strings.HasPrefix: "HasPrefix reports whether the string s begins with prefix.": IT RETURNS 'Lib.hasPrefix s prefix'; the world is as it was. (LAID: no walk: one application.) -/
theorem Tryz.strings_HasPrefix (s p : ByteArray) (w : World) :
    Calls Tryz.prog 147 #[.string s, .string p] w fun e w' => e = .returned (.bool (Lib.hasPrefix s.data.toList p.data.toList)) ∧ w' = w := Any.strings_HasPrefix Tryz.lays99 s p w
open Go.RowKit Go.Lib in
/-- strings.Count at whatever sep that is not empty: the two roads under one statement. (LAID: no walk: one application.) -/
theorem Tryz.strings_Count_any (s sep : ByteArray) (m : Int) (w : World) (hs : s.size < 4294967281) (hm : w.cell? ⟨0, 0, none⟩ = some (.int .i64 m)) (h1 : 1 ≤ sep.size) :
    Calls Tryz.prog 98 #[.string s, .string sep] w fun e w' => e = .returned (.int .i64 (Lib.countB s sep)) ∧ w' = w := Any.strings_Count_any Tryz.lays138 s sep m w hs hm h1
def Tryz.lays197_ren : Go.Shelf.Ren := ⟨fun | 197 => 153 | 260 => 164 | n => n, fun | 9 => 9 | 21 => 21 | 3 => 3 | 4 => 4 | 5 => 5 | 105 => 160 | 119 => 174 | 0 => 0 | 46 => 134 | 139 => 177 | 138 => 176 | n => n, fun | 3 => 1 | 4 => 2 | n => n⟩
theorem Tryz.lays197 : Go.Proofs.Lays.n197 Tryz.prog Tryz.lays197_ren := {
  mixed := by kernel_rfl
  f197 := Tryz.func153.trans (congrArg some (by kernel_rfl))
  f260 := Tryz.func164.trans (congrArg some (by kernel_rfl))
  t0 := Tryz.underlying0
  a0 := Tryz.isAgg0
  z0 := Tryz.sizeOf0
  v0 := Tryz.zeroValue0
  t3 := Tryz.underlying3
  a3 := Tryz.isAgg3
  z3 := Tryz.sizeOf3
  v3 := Tryz.zeroValue3
  t4 := Tryz.underlying4
  a4 := Tryz.isAgg4
  z4 := Tryz.sizeOf4
  v4 := Tryz.zeroValue4
  t5 := Tryz.underlying5
  a5 := Tryz.isAgg5
  z5 := Tryz.sizeOf5
  v5 := Tryz.zeroValue5
  t9 := Tryz.underlying9
  a9 := Tryz.isAgg9
  z9 := Tryz.sizeOf9
  v9 := Tryz.zeroValue9
  t21 := Tryz.underlying21
  a21 := Tryz.isAgg21
  z21 := Tryz.sizeOf21
  v21 := Tryz.zeroValue21
  t46 := Tryz.underlying134
  a46 := Tryz.isAgg134
  z46 := Tryz.sizeOf134
  v46 := Tryz.zeroValue134
  t105 := Tryz.underlying160
  a105 := Tryz.isAgg160
  z105 := Tryz.sizeOf160
  v105 := Tryz.zeroValue160
  t119 := Tryz.underlying174
  a119 := Tryz.isAgg174
  z119 := Tryz.sizeOf174
  t138 := Tryz.underlying176
  a138 := Tryz.isAgg176
  z138 := Tryz.sizeOf176
  v138 := Tryz.zeroValue176
  t139 := Tryz.underlying177
  a139 := Tryz.isAgg177
  z139 := Tryz.sizeOf177
  v139 := Tryz.zeroValue177
  g3 := by kernel_rfl
  g4 := by kernel_rfl }
open Go.RowKit Go.Lib in
/-- unicode/utf8.DecodeRuneInString: "DecodeRuneInString is like DecodeRune but its input is a string.": ("DecodeRune unpacks the first UTF-8 encoding in p and returns the rune and its width in bytes."): WHERE s BEGINS WITH AN ASCII BYTE x: (x, 1). (LAID: no walk: one application.) -/
theorem Tryz.utf8_DecodeRuneInString_ascii (s : ByteArray) (x : UInt8) (w : World) (h0 : s.data.toList[0]? = some x) (hx : x.toNat < 128) :
    Calls Tryz.prog 153 #[.string s] w fun e w' => e = .returned (.tuple #[.int .i32 x.toNat, .int .i64 1]) ∧ w' = w := Any.utf8_DecodeRuneInString_ascii Tryz.lays197 s x w h0 hx
def Tryz.lays152_ren : Go.Shelf.Ren := ⟨fun | 152 => 165 | 137 => 55 | 119 => 170 | 224 => 157 | 225 => 156 | 217 => 99 | 266 => 128 | n => n, fun | 9 => 9 | 21 => 21 | 3 => 3 | 4 => 4 | 5 => 5 | 0 => 0 | 46 => 134 | n => n, fun | n => n⟩
theorem Tryz.lays152 : Go.Proofs.Lays.n152 Tryz.prog Tryz.lays152_ren := {
  mixed := by kernel_rfl
  f119 := Tryz.func170.trans (congrArg some (by kernel_rfl))
  f137 := Tryz.func55.trans (congrArg some (by kernel_rfl))
  f152 := Tryz.func165.trans (congrArg some (by kernel_rfl))
  f217 := Tryz.func99.trans (congrArg some (by kernel_rfl))
  f224 := Tryz.func157.trans (congrArg some (by kernel_rfl))
  f225 := Tryz.func156.trans (congrArg some (by kernel_rfl))
  f266 := Tryz.func128.trans (congrArg some (by kernel_rfl))
  t0 := Tryz.underlying0
  a0 := Tryz.isAgg0
  z0 := Tryz.sizeOf0
  v0 := Tryz.zeroValue0
  t3 := Tryz.underlying3
  a3 := Tryz.isAgg3
  z3 := Tryz.sizeOf3
  v3 := Tryz.zeroValue3
  t4 := Tryz.underlying4
  a4 := Tryz.isAgg4
  z4 := Tryz.sizeOf4
  v4 := Tryz.zeroValue4
  t5 := Tryz.underlying5
  a5 := Tryz.isAgg5
  z5 := Tryz.sizeOf5
  v5 := Tryz.zeroValue5
  t9 := Tryz.underlying9
  a9 := Tryz.isAgg9
  z9 := Tryz.sizeOf9
  v9 := Tryz.zeroValue9
  t21 := Tryz.underlying21
  a21 := Tryz.isAgg21
  z21 := Tryz.sizeOf21
  v21 := Tryz.zeroValue21
  t46 := Tryz.underlying134
  a46 := Tryz.isAgg134
  z46 := Tryz.sizeOf134
  v46 := Tryz.zeroValue134 }
open Go.RowKit Go.Lib in
theorem Tryz.strings_IndexRune_ascii (s : ByteArray) (r : Int) (w : World) (h0 : 0 ≤ r) (h1 : r < 128) :
    Calls Tryz.prog 165 #[.string s, .int .i32 r] w fun e w' => e = .returned (.int .i64 (Lib.indexByte s.data.toList r.toNat.toUInt8)) ∧ w' = w := Any.strings_IndexRune_ascii Tryz.lays152 s r w h0 h1
def Tryz.lays151_ren : Go.Shelf.Ren := ⟨fun | 151 => 154 | 152 => 165 | 137 => 55 | 119 => 170 | 224 => 157 | 225 => 156 | 217 => 99 | 266 => 128 | n => n, fun | 9 => 9 | 21 => 21 | 4 => 4 | 3 => 3 | 5 => 5 | 0 => 0 | 46 => 134 | n => n, fun | n => n⟩
theorem Tryz.lays151 : Go.Proofs.Lays.n151 Tryz.prog Tryz.lays151_ren := {
  mixed := by kernel_rfl
  f119 := Tryz.func170.trans (congrArg some (by kernel_rfl))
  f137 := Tryz.func55.trans (congrArg some (by kernel_rfl))
  f151 := Tryz.func154.trans (congrArg some (by kernel_rfl))
  f152 := Tryz.func165.trans (congrArg some (by kernel_rfl))
  f217 := Tryz.func99.trans (congrArg some (by kernel_rfl))
  f224 := Tryz.func157.trans (congrArg some (by kernel_rfl))
  f225 := Tryz.func156.trans (congrArg some (by kernel_rfl))
  f266 := Tryz.func128.trans (congrArg some (by kernel_rfl))
  t0 := Tryz.underlying0
  a0 := Tryz.isAgg0
  z0 := Tryz.sizeOf0
  v0 := Tryz.zeroValue0
  t3 := Tryz.underlying3
  a3 := Tryz.isAgg3
  z3 := Tryz.sizeOf3
  v3 := Tryz.zeroValue3
  t4 := Tryz.underlying4
  a4 := Tryz.isAgg4
  z4 := Tryz.sizeOf4
  v4 := Tryz.zeroValue4
  t5 := Tryz.underlying5
  a5 := Tryz.isAgg5
  z5 := Tryz.sizeOf5
  v5 := Tryz.zeroValue5
  t9 := Tryz.underlying9
  a9 := Tryz.isAgg9
  z9 := Tryz.sizeOf9
  v9 := Tryz.zeroValue9
  t21 := Tryz.underlying21
  a21 := Tryz.isAgg21
  z21 := Tryz.sizeOf21
  v21 := Tryz.zeroValue21
  t46 := Tryz.underlying134
  a46 := Tryz.isAgg134
  z46 := Tryz.sizeOf134
  v46 := Tryz.zeroValue134 }
open Go.RowKit Go.Lib in
theorem Tryz.strings_ContainsRune_ascii (s : ByteArray) (r : Int) (w : World) (h0 : 0 ≤ r) (h1 : r < 128) :
    Calls Tryz.prog 154 #[.string s, .int .i32 r] w fun e w' => e = .returned (.bool (decide (0 ≤ Lib.indexByte s.data.toList r.toNat.toUInt8))) ∧ w' = w := Any.strings_ContainsRune_ascii Tryz.lays151 s r w h0 h1
open Go.RowKit Go.Lib in
theorem Tryz.utf8_RuneCountInString_ascii (s : ByteArray) (w : World) (hs : s.size < 4294967281) (hascii : ∀ (j : Nat) b, s.data.toList[j]? = some b → b.toNat < 128) :
    Calls Tryz.prog 125 #[.string s] w fun e w' => e = .returned (.int .i64 s.size) ∧ w' = w.iter s s.size := Any.utf8_RuneCountInString_ascii Tryz.lays195 s w hs hascii
def Tryz.lays227_ren : Go.Shelf.Ren := ⟨fun | 227 => 140 | n => n, fun | 9 => 9 | 116 => 144 | 4 => 4 | 0 => 0 | 3 => 3 | 5 => 5 | n => n, fun | n => n⟩
theorem Tryz.lays227 : Go.Proofs.Lays.n227 Tryz.prog Tryz.lays227_ren := {
  mixed := by kernel_rfl
  f227 := Tryz.func140.trans (congrArg some (by kernel_rfl))
  t0 := Tryz.underlying0
  a0 := Tryz.isAgg0
  z0 := Tryz.sizeOf0
  v0 := Tryz.zeroValue0
  t3 := Tryz.underlying3
  a3 := Tryz.isAgg3
  z3 := Tryz.sizeOf3
  v3 := Tryz.zeroValue3
  t4 := Tryz.underlying4
  a4 := Tryz.isAgg4
  z4 := Tryz.sizeOf4
  v4 := Tryz.zeroValue4
  t5 := Tryz.underlying5
  a5 := Tryz.isAgg5
  z5 := Tryz.sizeOf5
  v5 := Tryz.zeroValue5
  t9 := Tryz.underlying9
  a9 := Tryz.isAgg9
  z9 := Tryz.sizeOf9
  v9 := Tryz.zeroValue9
  t116 := Tryz.underlying144
  a116 := Tryz.isAgg144
  z116 := Tryz.sizeOf144 }
open Go.RowKit Go.Lib in
theorem Tryz.strings_makeASCIISet (hv116 : ∀ w, (zeroValue 144).run Tryz.prog w = .ok (.agg (Array.replicate 256 (.bool false))) w) (chars : ByteArray) (w : World) (hs : chars.size < 4294967281) (hascii : ∀ (j : Nat) b, chars.data.toList[j]? = some b → b.toNat < 128) :
    Calls Tryz.prog 140 #[.string chars] w fun e w' => e = .returned (.tuple #[.agg (Lib.setCells chars.data.toList), .bool true]) ∧ w' = w.alloc (.cells (Lib.setCells chars.data.toList) 144) := Any.strings_makeASCIISet Tryz.lays227 hv116 (by kernel_rfl) chars w hs hascii
def Tryz.lays228_ren : Go.Shelf.Ren := ⟨fun | 228 => 152 | n => n, fun | 124 => 148 | 5 => 5 | 4 => 4 | 0 => 0 | 116 => 144 | n => n, fun | n => n⟩
theorem Tryz.lays228 : Go.Proofs.Lays.n228 Tryz.prog Tryz.lays228_ren := {
  mixed := by kernel_rfl
  f228 := Tryz.func152.trans (congrArg some (by kernel_rfl))
  t0 := Tryz.underlying0
  a0 := Tryz.isAgg0
  z0 := Tryz.sizeOf0
  v0 := Tryz.zeroValue0
  t4 := Tryz.underlying4
  a4 := Tryz.isAgg4
  z4 := Tryz.sizeOf4
  v4 := Tryz.zeroValue4
  t5 := Tryz.underlying5
  a5 := Tryz.isAgg5
  z5 := Tryz.sizeOf5
  v5 := Tryz.zeroValue5
  t116 := Tryz.underlying144
  a116 := Tryz.isAgg144
  z116 := Tryz.sizeOf144
  t124 := Tryz.underlying148
  a124 := Tryz.isAgg148
  z124 := Tryz.sizeOf148
  v124 := Tryz.zeroValue148 }
open Go.RowKit Go.Lib in
/-- '(as *asciiSet) contains(c)': 'as[c]': the set lies at block b, whole. (LAID: no walk: one application.) -/
theorem Tryz.asciiSet_contains (b : Nat) (x : UInt8) (v : Bool) (w : World) (hc : w.cell? ⟨b, x.toNat, none⟩ = some (.bool v)) :
    Calls Tryz.prog 152 #[.pointer (some ⟨b, 0, none⟩), .int .u8 x.toNat] w fun e w' => e = .returned (.bool v) ∧ w' = w := Any.asciiSet_contains Tryz.lays228 b x v w hc
def Tryz.lays264_ren : Go.Shelf.Ren := ⟨fun | 264 => 160 | n => n, fun | 53 => 70 | 46 => 134 | n => n, fun | n => n⟩
theorem Tryz.lays264 : Go.Proofs.Lays.n264 Tryz.prog Tryz.lays264_ren := {
  mixed := by kernel_rfl
  f264 := Tryz.func160.trans (congrArg some (by kernel_rfl))
  t46 := Tryz.underlying134
  a46 := Tryz.isAgg134
  z46 := Tryz.sizeOf134
  v46 := Tryz.zeroValue134
  t53 := Tryz.underlying70
  a53 := Tryz.isAgg70
  z53 := Tryz.sizeOf70
  v53 := Tryz.zeroValue70 }
open Go.RowKit Go.Lib in
theorem Tryz.bits_Mul64 (x y : Nat) (hx : x < 18446744073709551616) (hy : y < 18446744073709551616) (w : World) :
    Calls Tryz.prog 160 #[.int .u64 x, .int .u64 y] w fun e w' => e = .returned (.tuple #[.int .u64 ((x * y / 18446744073709551616 : Nat) : Int), .int .u64 ((x * y % 18446744073709551616 : Nat) : Int)]) ∧ w' = w := Any.bits_Mul64 Tryz.lays264 x y hx hy w
def Tryz.lays212_ren : Go.Shelf.Ren := ⟨fun | 212 => 146 | 263 => 159 | 264 => 160 | n => n, fun | 46 => 134 | 51 => 163 | 146 => 164 | 53 => 70 | 148 => 166 | n => n, fun | n => n⟩
theorem Tryz.lays212 : Go.Proofs.Lays.n212 Tryz.prog Tryz.lays212_ren := {
  mixed := by kernel_rfl
  f212 := Tryz.func146.trans (congrArg some (by kernel_rfl))
  f263 := Tryz.func159.trans (congrArg some (by kernel_rfl))
  f264 := Tryz.func160.trans (congrArg some (by kernel_rfl))
  t46 := Tryz.underlying134
  a46 := Tryz.isAgg134
  z46 := Tryz.sizeOf134
  v46 := Tryz.zeroValue134
  t51 := Tryz.underlying163
  a51 := Tryz.isAgg163
  z51 := Tryz.sizeOf163
  v51 := Tryz.zeroValue163
  t53 := Tryz.underlying70
  a53 := Tryz.isAgg70
  z53 := Tryz.sizeOf70
  v53 := Tryz.zeroValue70
  t146 := Tryz.underlying164
  a146 := Tryz.isAgg164
  z146 := Tryz.sizeOf164
  v146 := Tryz.zeroValue164
  t148 := Tryz.underlying166
  a148 := Tryz.isAgg166
  z148 := Tryz.sizeOf166
  v148 := Tryz.zeroValue166 }
open Go.RowKit Go.Lib in
/-- math/bits.Mul: "Mul returns the full-width product of x and y": on a machine of 64 bits: Mul64's. (LAID: no walk: one application.) -/
theorem Tryz.bits_Mul (x y : Nat) (hx : x < 18446744073709551616) (hy : y < 18446744073709551616) (w : World) :
    Calls Tryz.prog 146 #[.int .u64 x, .int .u64 y] w fun e w' => e = .returned (.tuple #[.int .u64 ((x * y / 18446744073709551616 : Nat) : Int), .int .u64 ((x * y % 18446744073709551616 : Nat) : Int)]) ∧ w' = w := Any.bits_Mul Tryz.lays212 x y hx hy w
def Tryz.lays105_ren : Go.Shelf.Ren := ⟨fun | 105 => 129 | 212 => 146 | 99 => 147 | 165 => 148 | 166 => 149 | 170 => 150 | 169 => 151 | 263 => 159 | 264 => 160 | 206 => 161 | 240 => 162 | 241 => 163 | 276 => 168 | 277 => 169 | n => n, fun | 9 => 9 | 3 => 3 | 4 => 4 | 20 => 20 | 0 => 0 | 46 => 134 | 109 => 149 | 5 => 5 | 72 => 153 | 76 => 157 | 51 => 163 | 146 => 164 | 53 => 70 | 148 => 166 | 70 => 151 | 37 => 22 | 75 => 156 | 127 => 168 | 164 => 171 | 80 => 76 | n => n, fun | n => n⟩
theorem Tryz.lays105 : Go.Proofs.Lays.n105 Tryz.prog Tryz.lays105_ren := {
  mixed := by kernel_rfl
  f99 := Tryz.func147.trans (congrArg some (by kernel_rfl))
  f105 := Tryz.func129.trans (congrArg some (by kernel_rfl))
  f165 := Tryz.func148.trans (congrArg some (by kernel_rfl))
  f166 := Tryz.func149.trans (congrArg some (by kernel_rfl))
  f169 := Tryz.func151.trans (congrArg some (by kernel_rfl))
  f170 := Tryz.func150.trans (congrArg some (by kernel_rfl))
  f206 := Tryz.func161.trans (congrArg some (by kernel_rfl))
  f212 := Tryz.func146.trans (congrArg some (by kernel_rfl))
  f240 := Tryz.func162.trans (congrArg some (by kernel_rfl))
  f241 := Tryz.func163.trans (congrArg some (by kernel_rfl))
  f263 := Tryz.func159.trans (congrArg some (by kernel_rfl))
  f264 := Tryz.func160.trans (congrArg some (by kernel_rfl))
  f276 := Tryz.func168.trans (congrArg some (by kernel_rfl))
  f277 := Tryz.func169.trans (congrArg some (by kernel_rfl))
  t0 := Tryz.underlying0
  a0 := Tryz.isAgg0
  z0 := Tryz.sizeOf0
  v0 := Tryz.zeroValue0
  t3 := Tryz.underlying3
  a3 := Tryz.isAgg3
  z3 := Tryz.sizeOf3
  v3 := Tryz.zeroValue3
  t4 := Tryz.underlying4
  a4 := Tryz.isAgg4
  z4 := Tryz.sizeOf4
  v4 := Tryz.zeroValue4
  t5 := Tryz.underlying5
  a5 := Tryz.isAgg5
  z5 := Tryz.sizeOf5
  v5 := Tryz.zeroValue5
  t9 := Tryz.underlying9
  a9 := Tryz.isAgg9
  z9 := Tryz.sizeOf9
  v9 := Tryz.zeroValue9
  t20 := Tryz.underlying20
  a20 := Tryz.isAgg20
  z20 := Tryz.sizeOf20
  v20 := Tryz.zeroValue20
  t37 := Tryz.underlying22
  a37 := Tryz.isAgg22
  z37 := Tryz.sizeOf22
  v37 := Tryz.zeroValue22
  t46 := Tryz.underlying134
  a46 := Tryz.isAgg134
  z46 := Tryz.sizeOf134
  v46 := Tryz.zeroValue134
  t51 := Tryz.underlying163
  a51 := Tryz.isAgg163
  z51 := Tryz.sizeOf163
  v51 := Tryz.zeroValue163
  t53 := Tryz.underlying70
  a53 := Tryz.isAgg70
  z53 := Tryz.sizeOf70
  v53 := Tryz.zeroValue70
  t70 := Tryz.underlying151
  a70 := Tryz.isAgg151
  z70 := Tryz.sizeOf151
  v70 := Tryz.zeroValue151
  t72 := Tryz.underlying153
  a72 := Tryz.isAgg153
  z72 := Tryz.sizeOf153
  v72 := Tryz.zeroValue153
  t75 := Tryz.underlying156
  a75 := Tryz.isAgg156
  z75 := Tryz.sizeOf156
  v75 := Tryz.zeroValue156
  t76 := Tryz.underlying157
  a76 := Tryz.isAgg157
  z76 := Tryz.sizeOf157
  v76 := Tryz.zeroValue157
  t109 := Tryz.underlying149
  a109 := Tryz.isAgg149
  z109 := Tryz.sizeOf149
  v109 := Tryz.zeroValue149
  t127 := Tryz.underlying168
  a127 := Tryz.isAgg168
  z127 := Tryz.sizeOf168
  v127 := Tryz.zeroValue168
  t146 := Tryz.underlying164
  a146 := Tryz.isAgg164
  z146 := Tryz.sizeOf164
  v146 := Tryz.zeroValue164
  t148 := Tryz.underlying166
  a148 := Tryz.isAgg166
  z148 := Tryz.sizeOf166
  v148 := Tryz.zeroValue166
  t164 := Tryz.underlying171
  a164 := Tryz.isAgg171
  z164 := Tryz.sizeOf171
  v164 := Tryz.zeroValue171 }
theorem Tryz.Builder_Extra_105 : Builder.Extra Tryz.prog Tryz.lays105_ren := {
  sizeBuilder := by kernel_rfl
  liesBuilder := by kernel_rfl
  t5 := Tryz.underlying5
  a5 := Tryz.isAgg5
  z5 := Tryz.sizeOf5
  v5 := Tryz.zeroValue5
  infoByte := by kernel_rfl
  cellsByte := by kernel_rfl
  sizeByte := by kernel_rfl
  neB5 := by decide }
open Go.RowKit Go.Lib in
/-- THE MAIN CASE: at least two copies of a string that is not empty. (LAID: no walk: one application.) -/
theorem Tryz.strings_Repeat_main (s : ByteArray) (c : Nat) (w : World) (hc2 : 2 ≤ c) (hc : c ≤ 9223372036854775807) (hlen : s.size * c ≤ 140737488355328) (h0 : 0 < s.size) :
    Calls Tryz.prog 129 #[.string s, .int .i64 c] w fun e w' => e = .returned (.string ⟨(Lib.repeatL s.data.toList c).toArray⟩) ∧ Below w.heap.size w w' := Any.strings_Repeat_main Tryz.lays105 Tryz.Builder_Extra_105 s c w hc2 hc hlen h0
open Go.RowKit Go.Lib in
theorem Tryz.strings_Repeat_zero (s : ByteArray) (w : World) :
    Calls Tryz.prog 129 #[.string s, .int .i64 0] w fun e w' => e = .returned (.string ⟨#[]⟩) ∧ w' = w := Any.strings_Repeat_zero Tryz.lays105 s w
open Go.RowKit Go.Lib in
theorem Tryz.strings_Repeat_one (s : ByteArray) (w : World) :
    Calls Tryz.prog 129 #[.string s, .int .i64 1] w fun e w' => e = .returned (.string s) ∧ w' = w := Any.strings_Repeat_one Tryz.lays105 s w
open Go.RowKit Go.Lib in
/-- Copies of the empty string. (LAID: no walk: one application.) -/
theorem Tryz.strings_Repeat_empty (s : ByteArray) (c : Nat) (w : World) (hc2 : 2 ≤ c) (hc : c ≤ 9223372036854775807) (h0 : s.size = 0) :
    Calls Tryz.prog 129 #[.string s, .int .i64 c] w fun e w' => e = .returned (.string ⟨#[]⟩) ∧ w' = w := Any.strings_Repeat_empty Tryz.lays105 s c w hc2 hc h0
open Go.RowKit Go.Lib in
/-- count < 0: "It panics if count is negative". (LAID: no walk: one application.) -/
theorem Tryz.strings_Repeat_negative (s : ByteArray) (c : Int) (w : World) (hc : c < 0) :
    Calls Tryz.prog 129 #[.string s, .int .i64 c] w fun e w' => e = .panicked [{ v := repeatPanic Tryz.lays105_ren "strings: negative Repeat count", recovered := false }] ∧ w' = w := Any.strings_Repeat_negative Tryz.lays105 s c w hc
open Go.RowKit Go.Lib in
/-- len(s) * count is no int: ".. or if the result of (len(s) * count) overflows". (LAID: no walk: one application.) -/
theorem Tryz.strings_Repeat_overflow (s : ByteArray) (c : Nat) (w : World) (hc : c ≤ 9223372036854775807) (hs : s.size ≤ 9223372036854775807) (hbig : 9223372036854775807 < s.size * c) :
    Calls Tryz.prog 129 #[.string s, .int .i64 c] w fun e w' => e = .panicked [{ v := repeatPanic Tryz.lays105_ren "strings: Repeat output length overflow", recovered := false }] ∧ w' = w := Any.strings_Repeat_overflow Tryz.lays105 s c w hc hs hbig
open Go.RowKit Go.Lib in
/-- **strings.Repeat: count ≥ 0, the result within one allocation: count copies of s.** (LAID: no walk: one application.) -/
theorem Tryz.strings_Repeat (s : ByteArray) (c : Nat) (w : World) (hc : c ≤ 9223372036854775807) (hlen : s.size * c ≤ 140737488355328) :
    Calls Tryz.prog 129 #[.string s, .int .i64 c] w fun e w' => e = .returned (.string ⟨(Lib.repeatL s.data.toList c).toArray⟩) ∧ Below w.heap.size w w' := Any.strings_Repeat Tryz.lays105 Tryz.Builder_Extra_105 s c w hc hlen
def Tryz.lays260_ren : Go.Shelf.Ren := ⟨fun | 260 => 164 | n => n, fun | 9 => 9 | 21 => 21 | 3 => 3 | 4 => 4 | 5 => 5 | 119 => 174 | 0 => 0 | 46 => 134 | 139 => 177 | 138 => 176 | n => n, fun | 3 => 1 | 4 => 2 | n => n⟩
theorem Tryz.lays260 : Go.Proofs.Lays.n260 Tryz.prog Tryz.lays260_ren := {
  mixed := by kernel_rfl
  f260 := Tryz.func164.trans (congrArg some (by kernel_rfl))
  t0 := Tryz.underlying0
  a0 := Tryz.isAgg0
  z0 := Tryz.sizeOf0
  v0 := Tryz.zeroValue0
  t3 := Tryz.underlying3
  a3 := Tryz.isAgg3
  z3 := Tryz.sizeOf3
  v3 := Tryz.zeroValue3
  t4 := Tryz.underlying4
  a4 := Tryz.isAgg4
  z4 := Tryz.sizeOf4
  v4 := Tryz.zeroValue4
  t5 := Tryz.underlying5
  a5 := Tryz.isAgg5
  z5 := Tryz.sizeOf5
  v5 := Tryz.zeroValue5
  t9 := Tryz.underlying9
  a9 := Tryz.isAgg9
  z9 := Tryz.sizeOf9
  v9 := Tryz.zeroValue9
  t21 := Tryz.underlying21
  a21 := Tryz.isAgg21
  z21 := Tryz.sizeOf21
  v21 := Tryz.zeroValue21
  t46 := Tryz.underlying134
  a46 := Tryz.isAgg134
  z46 := Tryz.sizeOf134
  v46 := Tryz.zeroValue134
  t119 := Tryz.underlying174
  a119 := Tryz.isAgg174
  z119 := Tryz.sizeOf174
  t138 := Tryz.underlying176
  a138 := Tryz.isAgg176
  z138 := Tryz.sizeOf176
  v138 := Tryz.zeroValue176
  t139 := Tryz.underlying177
  a139 := Tryz.isAgg177
  z139 := Tryz.sizeOf177
  v139 := Tryz.zeroValue177
  g3 := by kernel_rfl
  g4 := by kernel_rfl }
open Go.RowKit Go.Lib in
theorem Tryz.utf8_decodeRuneInStringSlow (s : ByteArray) (w : World) (hT : Lib.Utf8Tabs 1 2 w) :
    Calls Tryz.prog 164 #[.string s] w fun e w' => e = .returned (.tuple #[.int .i32 (Lib.decodeGo s).1, .int .i64 (Lib.decodeGo s).2]) ∧ Below w.heap.size w w' := Any.utf8_decodeRuneInStringSlow Tryz.lays260 s w hT
open Go.RowKit Go.Lib in
/-- **unicode/utf8.DecodeRuneInString AT EVERY STRING.** (LAID: no walk: one application.) -/
theorem Tryz.utf8_DecodeRuneInString (s : ByteArray) (w : World) (hT : Lib.Utf8Tabs 1 2 w) :
    Calls Tryz.prog 153 #[.string s] w fun e w' => e = .returned (.tuple #[.int .i32 (Lib.decodeGo s).1, .int .i64 (Lib.decodeGo s).2]) ∧ Below w.heap.size w w' := Any.utf8_DecodeRuneInString Tryz.lays197 s w hT
def Tryz.lays271_ren : Go.Shelf.Ren := ⟨fun | 271 => 155 | 120 => 166 | 197 => 153 | 260 => 164 | n => n, fun | 9 => 9 | 21 => 21 | 3 => 3 | 4 => 4 | 5 => 5 | 105 => 160 | 119 => 174 | 0 => 0 | 46 => 134 | 139 => 177 | 138 => 176 | n => n, fun | 3 => 1 | 4 => 2 | n => n⟩
theorem Tryz.lays271 : Go.Proofs.Lays.n271 Tryz.prog Tryz.lays271_ren := {
  mixed := by kernel_rfl
  f120 := Tryz.func166.trans (congrArg some (by kernel_rfl))
  f197 := Tryz.func153.trans (congrArg some (by kernel_rfl))
  f260 := Tryz.func164.trans (congrArg some (by kernel_rfl))
  f271 := Tryz.func155.trans (congrArg some (by kernel_rfl))
  t0 := Tryz.underlying0
  a0 := Tryz.isAgg0
  z0 := Tryz.sizeOf0
  v0 := Tryz.zeroValue0
  t3 := Tryz.underlying3
  a3 := Tryz.isAgg3
  z3 := Tryz.sizeOf3
  v3 := Tryz.zeroValue3
  t4 := Tryz.underlying4
  a4 := Tryz.isAgg4
  z4 := Tryz.sizeOf4
  v4 := Tryz.zeroValue4
  t5 := Tryz.underlying5
  a5 := Tryz.isAgg5
  z5 := Tryz.sizeOf5
  v5 := Tryz.zeroValue5
  t9 := Tryz.underlying9
  a9 := Tryz.isAgg9
  z9 := Tryz.sizeOf9
  v9 := Tryz.zeroValue9
  t21 := Tryz.underlying21
  a21 := Tryz.isAgg21
  z21 := Tryz.sizeOf21
  v21 := Tryz.zeroValue21
  t46 := Tryz.underlying134
  a46 := Tryz.isAgg134
  z46 := Tryz.sizeOf134
  v46 := Tryz.zeroValue134
  t105 := Tryz.underlying160
  a105 := Tryz.isAgg160
  z105 := Tryz.sizeOf160
  v105 := Tryz.zeroValue160
  t119 := Tryz.underlying174
  a119 := Tryz.isAgg174
  z119 := Tryz.sizeOf174
  t138 := Tryz.underlying176
  a138 := Tryz.isAgg176
  z138 := Tryz.sizeOf176
  v138 := Tryz.zeroValue176
  t139 := Tryz.underlying177
  a139 := Tryz.isAgg177
  z139 := Tryz.sizeOf177
  v139 := Tryz.zeroValue177
  g3 := by kernel_rfl
  g4 := by kernel_rfl }
open Go.RowKit Go.Lib in
/-- **unicode/utf8.DecodeLastRuneInString AT EVERY STRING.** (LAID: no walk: one application.) -/
theorem Tryz.utf8_DecodeLastRuneInString (s : ByteArray) (w : World) (hs : s.size ≤ 9223372036854775807) (hT : Lib.Utf8Tabs 1 2 w) :
    Calls Tryz.prog 155 #[.string s] w fun e w' => e = .returned (.tuple #[.int .i32 (Lib.decodeLastL s.data.toList).1, .int .i64 (Lib.decodeLastL s.data.toList).2]) ∧ Below w.heap.size w w' := Any.utf8_DecodeLastRuneInString Tryz.lays271 s w hs hT
end Go.Proofs

/- THE SEAT's contracts of strings, out of the shelf. -/
namespace Go.Proofs.YtejhhdpfndiliaaGreatDoor.Ab
open Go Go.RowKit Go.Shelf

section
variable {m : Emb} {args : Array Value}
theorem rel_two {x y : AV} (h : RelL F m [x, y] args.toList) : ∃ u v, args = #[u, v] ∧ RelV F m x u ∧ RelV F m y v := by
  simp only [RelL] at h
  obtain ⟨u, l, e1, h1, v, l2, rfl, h2, rfl⟩ := h
  exact ⟨u, v, by rw [← Array.toArray_toList (xs := args), e1], h1, h2⟩
end

theorem x_Contains : ExtAt Go.Proofs.Tryz.prog F 126 xContains := by
  intro xs r hr
  unfold xContains at hr
  split at hr
  · rename_i s c
    cases hr
    refine ⟨by decide +kernel, fun m w args hx => ?_⟩
    obtain ⟨u, v, rfl, h1, h2⟩ := rel_two hx
    rw [rel_str h1, rel_str h2]
    refine (Tryz.strings_Contains_one ⟨s.toArray⟩ c w).mono ?_
    rintro e w' ⟨rfl, rfl⟩
    exact ⟨_, rfl, by simp only [RelV], Below.refl _ _⟩
  · cases hr
theorem x_Trim : ExtAt Go.Proofs.Tryz.prog F 111 xTrim := by
  intro xs r hr
  unfold xTrim at hr
  split at hr
  · rename_i s c
    split at hr
    · rename_i hc
      obtain ⟨h1, h2, h3⟩ := hc
      cases hr
      refine ⟨by decide +kernel, fun m w args hx => ?_⟩
      obtain ⟨u, v, rfl, g1, g2⟩ := rel_two hx
      rw [rel_str g1, rel_str g2]
      have hsz : ∀ l : List UInt8, (⟨l.toArray⟩ : ByteArray).size = l.length := fun _ => rfl
      refine (Any.strings_Trim_laid Tryz.lays160 (by kernel_rfl) ⟨s.toArray⟩ ⟨c.toArray⟩ w (by rw [hsz]; omega) (by rw [hsz]; omega) ?_).mono ?_
      · intro j b hb
        have := List.all_eq_true.1 h3 b (List.mem_of_getElem? hb)
        simpa using this
      · rintro e w' ⟨rfl, hb⟩
        exact ⟨_, rfl, by simp only [RelV], hb⟩
    · cases hr
  · cases hr

theorem strs_rel {m : Emb} : ∀ {cs : List AV} {xs : List (List UInt8)} {vs : List Value}, strsOf cs = some xs → RelL F m cs vs → vs = xs.map fun s => Value.string ⟨s.toArray⟩
  | [], xs, vs, h, hr => by
    simp only [strsOf, Option.some.injEq] at h
    subst h
    simpa only [RelL, List.map_nil] using hr
  | .str s :: cs, xs, vs, h, hr => by
    simp only [strsOf, Option.map_eq_some_iff] at h
    obtain ⟨ys, hy, rfl⟩ := h
    simp only [RelL] at hr
    obtain ⟨v, vs', rfl, h1, h2⟩ := hr
    rw [rel_str h1, strs_rel hy h2]
    rfl
  | .int .. :: _, _, _, h, _ | .bool _ :: _, _, _, h, _ | .nilS :: _, _, _, h, _ | .empS :: _, _, _, h, _ | .slice .. :: _, _, _, h, _ | .nilP :: _, _, _, h, _ | .ptr .. :: _, _, _, h, _ | .nilM :: _, _, _, h, _ | .map _ :: _, _, _, h, _
  | .iter _ :: _, _, _, h, _ | .fn .. :: _, _, _, h, _ | .nilF :: _, _, _, h, _ | .agg _ :: _, _, _, h, _ | .tup _ :: _, _, _, h, _ | .nilI :: _, _, _, h, _ | .ifc :: _, _, _, h, _ | .undef :: _, _, _, h, _ => by simp [strsOf] at h
theorem x_Join : ExtAtH Go.Proofs.Tryz.prog F 255 xJoin := by
  intro xs h r hr
  unfold xJoin at hr
  split at hr
  · rename_i hh c k off len e sep
    split at hr
    · rename_i he
      subst he
      split at hr
      · rename_i cs hcs
        split at hr
        · rename_i ys hys
          split at hr
          · rename_i hb
            cases hr
            refine ⟨by decide +kernel, fun base m w args hrel hx => ?_⟩
            obtain ⟨u, v, rfl, g1, g2⟩ := rel_two hx
            rw [rel_str g2]
            simp only [RelV] at g1
            obtain ⟨p, o, cap, hp, rfl, hcap, hpl⟩ := g1
            have hlt := hrel.ltr c k p hp
            have hlenS : (ys.map fun s => (⟨s.toArray⟩ : ByteArray)).map (·.data.toList) = ys := by rw [List.map_map]; exact (List.map_congr_left (g := id) fun s _ => rfl).trans (List.map_id ys)
            have key : ys.length = len ∧ ∀ (j : Nat) x, (ys.map fun s => (⟨s.toArray⟩ : ByteArray))[j]? = some x → w.cell? ⟨p.blk, o + j, none⟩ = some (.string x) := by
              rcases hpl with rfl | ⟨h1, h2, h3, h4⟩
              · obtain rfl : len = 0 := by omega
                have : cs = [] := by
                  unfold rdRow at hcs
                  split at hcs
                  · split at hcs
                    · cases hcs; simp
                    · cases hcs
                  · cases hcs
                subst this
                simp only [strsOf, Option.some.injEq] at hys
                subst hys
                simp
              · obtain ⟨vs, k1, k2, k3⟩ := hrel.row_at hcs hp h1 (by omega)
                have k4 := strs_rel hys k1
                subst k4
                refine ⟨by simpa using k2, fun j x hx => ?_⟩
                rw [h2]
                apply k3
                rw [List.getElem?_map] at hx ⊢
                cases hj : ys[j]? with
                | none => rw [hj] at hx; cases hx
                | some s => rw [hj] at hx; cases hx; rfl
            obtain ⟨key1, key2⟩ := key
            have hl2 : (ys.map fun s => (⟨s.toArray⟩ : ByteArray)).length = len := by simpa using key1
            have := Tryz.strings_Join p.blk o cap (ys.map fun s => ⟨s.toArray⟩) ⟨sep.toArray⟩ w key2 hlt (by rw [hl2]; exact hb.2) (by rw [hl2]; exact hcap) (by rw [hlenS]; exact hb.1)
            rw [hl2, hlenS] at this
            refine this.mono ?_
            rintro e w' ⟨rfl, hb⟩
            exact ⟨_, rfl, by simp only [RelV], hb⟩
          · cases hr
        · cases hr
      · cases hr
    · cases hr
  · cases hr

theorem xok : ExtOk Go.Proofs.Tryz.prog F E := by
  refine ext_ok ?_ ?_ ?_
  · intro x hx
    simp only [xtab, List.mem_cons, List.not_mem_nil, or_false] at hx
    rcases hx with rfl | rfl | rfl
    · exact x_Trim.h
    · exact x_Contains.h
    · exact x_Join
  · intro x hx
    simp only [ytab, List.mem_cons, List.not_mem_nil, or_false] at hx
    all_goals cases hx
  · intro x hx
    simp only [ztab, List.mem_cons, List.not_mem_nil, or_false] at hx
    all_goals cases hx
/-- ALL OF IT: what the machine says, the program does. -/
theorem all_sound : ∀ n, Sound Go.Proofs.Tryz.prog F (evF T E n) := sound hT xok
end Go.Proofs.YtejhhdpfndiliaaGreatDoor.Ab

/- RULES for the simplifier: reckoning through a body. What is still to come is hidden from it behind a tag. -/
namespace Go.Proofs.YtejhhdpfndiliaaGreatDoor.Ab
open Go

inductive Tag {α : Sort _} (a : α) : Type
  | k

/-- A function's answer. -/
def S (f : Nat) (xs : List AV) (h : AH) (post : AV → AH → Prop) (_ : Tag post) : Prop := Spec T E f xs h post
def Cx (c : C) (e : Env) (h : AH) (R : X → Env → AH → Prop) (_ : Tag c) (_ : Tag R) : Prop := WC T E c e h R
def Rx (is : List I) (e : Env) (h : AH) (Q : Env → AH → Prop) (_ : Tag is) (_ : Tag Q) : Prop := WR T E is e h Q
def Ox (o : Option (AV × AH)) (K : AV → AH → Prop) (_ : Tag K) : Prop := WO o K
/-- A branch: not gone into before it is known. -/
def WB (v : AV) (K : Bool → Prop) (_ : Tag K) : Prop := match v with
  | .bool t => K t
  | _ => False
def WF (v : AV) (K : Nat → List AV → Prop) (_ : Tag K) : Prop := match v with
  | .fn f cap => K f cap
  | _ => False
def WI (t : Bool) (A B : Prop) (_ : Tag A) (_ : Tag B) : Prop := if t = true then A else B
abbrev k {α : Sort _} {a : α} : Tag a := Tag.k

theorem WB_true {K : Bool → Prop} : WB (.bool true) K k = K true := rfl
theorem WB_false {K : Bool → Prop} : WB (.bool false) K k = K false := rfl
theorem WI_true {A B : Prop} : WI true A B k k = A := by simp [WI]
theorem WI_false {A B : Prop} : WI false A B k k = B := by simp [WI]
theorem WF_fn {f : Nat} {cap : List AV} {K : Nat → List AV → Prop} : WF (.fn f cap) K k = K f cap := rfl
theorem beq_tt : (true == true) = true := rfl
theorem beq_ff : (false == false) = true := rfl
theorem beq_tf : (true == false) = false := rfl
theorem beq_ft : (false == true) = false := rfl
theorem WB_dec {p : Prop} [Decidable p] {K : Bool → Prop} (h1 : p → K true) (h2 : ¬ p → K false) : WB (.bool (decide p)) K k := by
  by_cases h : p
  · simp [h, WB]; exact h1 h
  · simp [h, WB]; exact h2 h
theorem WB_cases {b : Bool} {K : Bool → Prop} (h1 : b = true → K true) (h2 : b = false → K false) : WB (.bool b) K k := by
  cases b
  · exact h2 rfl
  · exact h1 rfl

section
variable {e : Env} {h : AH} {Q : Env → AH → Prop} {R : X → Env → AH → Prop}

theorem w_skip : Cx .skip e h R k k = R .normal e h := propext WC_skip
theorem w_ret : Cx .ret e h R k k = R .ret e h := propext WC_ret
theorem w_exit {i : Nat} : Cx (.exit i) e h R k k = R (.exit i) e h := propext WC_exit
theorem w_reg {is : List I} : Cx (.reg is) e h R k k = Rx is e h (R .normal) k k := propext WC_reg
theorem w_drw0 {is : List I} : Cx (.drw is []) e h R k k = Rx is e h (R .normal) k k := by
  have key : ∀ cf, evDraw cf is [] e h = evR cf is e h := fun cf => by
    unfold evDraw; rw [if_pos]; intro p hp; cases hp
  apply propext
  unfold Cx Rx WC WR
  simp only [evC, key]
  constructor
  · rintro ⟨n, x, e', h', hev, hq⟩
    simp only [Option.map_eq_some_iff, Prod.mk.injEq] at hev
    obtain ⟨⟨e1, h1⟩, hev, rfl, rfl, rfl⟩ := hev
    exact ⟨n, e1, h1, hev, hq⟩
  · rintro ⟨n, e', h', hev, hq⟩
    exact ⟨n, .normal, e', h', by rw [hev]; rfl, hq⟩
theorem w_kl {ts : List Nat} {c : C} : Cx (.kl ts c) e h R k k = Cx c (e.dels ts) h R k k := propext WC_kl
theorem w_seq {a b : C} : Cx (.seq a b) e h R k k = Cx a e h (then' (fun e' h' => Cx b e' h' R k k) R) k k := propext (WC_seq hE)
theorem w_blk {i : Nat} {c : C} : Cx (.blk i c) e h R k k = Cx c e h (inBlk i R) k k := propext WC_blk
theorem w_cond {x : Opd} {a b : C} : Cx (.cond x a b) e h R k k = WB (env e x) (fun t => WI t (Cx a e h R k k) (Cx b e h R k k) k k) k := by
  apply propext
  unfold Cx
  cases hx : env e x with
  | bool t => rw [WC_cond hx]; simp only [WB, WI]
  | _ =>
    simp only [WB, iff_false]
    rintro ⟨n, y, e', h', hev, _⟩
    simp [evC, hx] at hev
theorem w_loop {c : C} : Cx (.loop c) e h R k k = Cx c e h (then' (fun e' h' => Cx (.loop c) e' h' R k k) R) k k := propext (WC_loop hE)
theorem w_loopb {c d : C} (hd : d = c) : Cx (.loop c) e h R k k = Cx d e h (then' (fun e' h' => Cx (.loop c) e' h' R k k) R) k k := by subst hd; exact w_loop
theorem del_eq (e : Env) (t : Nat) : e.del t = e.filter fun x => x.1 != t := by
  induction e with
  | nil => rfl
  | cons x e ih =>
    obtain ⟨u, v⟩ := x
    simp only [Env.del, List.filter_cons, ih]
    by_cases h : u = t <;> simp [h]
theorem dels_eq : ∀ (ts : List Nat) (e : Env), e.dels ts = e.filter fun x => !ts.contains x.1
  | [], e => by
    simp only [Env.dels, List.contains_nil, Bool.not_false]
    exact (List.filter_eq_self.2 (fun _ _ => rfl)).symm
  | t :: ts, e => by
    rw [Env.dels, dels_eq ts, del_eq, List.filter_filter]
    congr 1
    funext x
    by_cases h : x.1 = t <;> simp [h]
theorem dels_dels (e : Env) (ts : List Nat) : (e.dels ts).dels ts = e.dels ts := by
  rw [dels_eq, dels_eq, List.filter_filter]; simp
/-- At a loop's head the dead slots go. -/
theorem w_loopn {c c' : C} {ts : List Nat} (hc : c = .kl ts c') : Cx (.loop c) e h R k k = Cx (.loop c) (e.dels ts) h R k k := by
  subst hc
  rw [w_loop, w_loop (e := e.dels ts), w_kl, w_kl, dels_dels]
theorem then_n {K : Env → AH → Prop} : then' K R .normal e h = K e h := rfl
theorem then_e {K : Env → AH → Prop} {i : Nat} : then' K R (.exit i) e h = R (.exit i) e h := rfl
theorem then_r {K : Env → AH → Prop} : then' K R .ret e h = R .ret e h := rfl
theorem blk_n {i : Nat} : inBlk i R .normal e h = R .normal e h := rfl
theorem blk_r {i : Nat} : inBlk i R .ret e h = R .ret e h := rfl
theorem blk_e {i j : Nat} : inBlk i R (.exit j) e h = WI (j == i) (R .normal e h) (R (.exit j) e h) k k := by simp [inBlk, WI]

theorem w_nil : Rx [] e h Q k k = Q e h := propext WR_nil
def WOp (d : Option Nat) (op : AOp) (is : List I) (e : Env) (h : AH) (Q : Env → AH → Prop) (_ : Tag is) (_ : Tag Q) : Prop := match op with
  | .call f xs => S f (xs.map (env e)) h (fun v h' => Rx is (put e d v) h' Q k k) k
  | .callv x xs => WF (env e x) (fun f cap => S f (xs.map (env e) ++ cap) h (fun v h' => Rx is (put e d v) h' Q k k) k) k
  | op => Ox (evOp noCall (env e) h op) (fun v h' => Rx is (put e d v) h' Q k k) k
theorem w_op {d : Option Nat} {op : AOp} {is : List I} : Rx (⟨d, op, none⟩ :: is) e h Q k k = WOp d op is e h Q k k := by
  apply propext
  unfold Rx
  cases op <;> first
    | exact WR_op rfl
    | exact WR_call hE
    | (rename_i x xs
       simp only [WOp]
       cases hx : env e x with
       | fn f cap => rw [WR_callv hE hx]; rfl
       | _ =>
         simp only [WF, iff_false]
         rintro ⟨n, e', h', hev, _⟩
         simp [evR, evI, evOp, hx] at hev)
/-- A guard: heard, not heard, or on what was not done. -/
def WG (v : AV) (K : Bool → Prop) (A : Prop) (_ : Tag K) (_ : Tag A) : Prop := match v with
  | .bool t => K t
  | .tup [] => A
  | _ => False
theorem WG_bool {b : Bool} {K : Bool → Prop} {A : Prop} : WG (.bool b) K A k k = WB (.bool b) K k := rfl
theorem WG_skp {K : Bool → Prop} {A : Prop} : WG (.tup []) K A k k = A := rfl
theorem w_grd {d : Option Nat} {op : AOp} {is : List I} {t : Nat} {want : Bool} : Rx (⟨d, op, some (t, want)⟩ :: is) e h Q k k = WG (e.get t) (fun b => WI (b == want) (Rx (⟨d, op, none⟩ :: is) e h Q k k) (Rx is (put e d (.tup [])) h Q k k) k k) (Rx is (put e d (.tup [])) h Q k k) k k := by
  apply propext
  unfold Rx
  have bad : (∀ b, e.get t ≠ .bool b) → e.get t ≠ .tup [] → ¬ WR T E (⟨d, op, some (t, want)⟩ :: is) e h Q := by
    rintro h1 h2 ⟨n, e', h', hev, _⟩
    simp only [evR, evI] at hev
    cases hev
  cases hx : e.get t with
  | bool b => rw [WR_grd hx]; simp only [WG, WI, beq_iff_eq]
  | tup l =>
    cases l with
    | nil => rw [WR_grd0 hx]; rfl
    | cons a l =>
      simp only [WG, iff_false]
      exact bad (by rw [hx]; intro b; simp) (by rw [hx]; simp)
  | _ =>
    simp only [WG, iff_false]
    exact bad (by rw [hx]; intro b; simp) (by rw [hx]; simp)

theorem O_some {v : AV} {h : AH} {K : AV → AH → Prop} : Ox (some (v, h)) K k = K v h := rfl
theorem O_map {β : Type} {f : β → AV × AH} {b : β} {K : AV → AH → Prop} : Ox ((some b).map f) K k = K (f b).1 (f b).2 := rfl
theorem O_if {c : Prop} [Decidable c] {x : Option (AV × AH)} {K : AV → AH → Prop} : Ox (if c then x else none) K k = (c ∧ Ox x K k) := by
  unfold Ox; split <;> simp [*, WO]
theorem O_mapif {β : Type} {c : Prop} [Decidable c] {f : β → AV × AH} {x : Option β} {K : AV → AH → Prop} : Ox ((if c then x else none).map f) K k = (c ∧ Ox (x.map f) K k) := by
  unfold Ox; split <;> simp [*, WO]
theorem O_ite {c : Prop} [Decidable c] {x y : Option (AV × AH)} {K : AV → AH → Prop} : Ox (if c then x else y) K k = if c then Ox x K k else Ox y K k := by
  split <;> rfl

/-- Into a function of the table. -/
theorem S_of {f : Nat} {xs : List AV} {post : AV → AH → Prop} {fi : FI} (hEf : E f = none) (hT : T f = some fi)
    (hw : Cx fi.body (Env.init 0 xs) h (fun x e' h' => (x = .normal ∨ x = .ret) ∧ ∃ r, resV e' h' fi.res = some r ∧ post r h') k k) : S f xs h post k := Spec_of hEf hT hw
theorem S_ext {f : Nat} {xs : List AV} {post : AV → AH → Prop} {G : List AV → AH → Option AV} {r : AV} (hEf : E f = some (pureX G)) (hG : G xs h = some r) (hp : post r h) : S f xs h post k := Spec_ext hEf 0 (by simp [pureX, hG]) hp
theorem S_mono {f : Nat} {xs : List AV} {post post' : AV → AH → Prop} (hs : S f xs h post k) (hp : ∀ r h', post r h' → post' r h') : S f xs h post' k := Spec.mono hs hp
theorem Cx_mono {c : C} {R' : X → Env → AH → Prop} (hs : Cx c e h R k k) (hp : ∀ x e' h', R x e' h' → R' x e' h') : Cx c e h R' k k := WC.mono hs hp
end

/- The rules above, in bundles. -/
theorem zP : type_of% @w_kl ∧ type_of% @w_seq ∧ type_of% @w_reg ∧ type_of% @w_drw0 ∧ type_of% @w_blk ∧ type_of% @then_n ∧ type_of% @then_e ∧ type_of% @then_r ∧ type_of% @blk_n ∧
   type_of% @blk_e ∧ type_of% @blk_r ∧ type_of% @List.map_cons.{0,0} ∧ type_of% @List.map_nil.{0,0} := ⟨@w_kl, @w_seq, @w_reg, @w_drw0, @w_blk, @then_n, @then_e, @then_r, @blk_n,
   @blk_e, @blk_r, @List.map_cons.{0,0}, @List.map_nil.{0,0}⟩
theorem zW : type_of% @w_op ∧ type_of% @w_nil ∧ type_of% @w_cond ∧ type_of% @w_skip ∧ type_of% @w_exit ∧ type_of% @w_ret ∧ type_of% @w_grd ∧ type_of% @WG_bool ∧ type_of% @WG_skp ∧
   type_of% @WB_true ∧ type_of% @WB_false ∧ type_of% @WI_true ∧ type_of% @WI_false ∧ type_of% @WF_fn ∧ type_of% @beq_tt ∧ type_of% @beq_ff ∧ type_of% @beq_tf ∧ type_of% @beq_ft ∧
   type_of% @O_some ∧ type_of% @O_if ∧ type_of% @O_mapif ∧ type_of% @O_map ∧ type_of% @List.nil_append.{0} ∧ type_of% @List.cons_append.{0} ∧ type_of% @List.append_nil.{0} ∧
   type_of% @if_true.{1} ∧ type_of% @if_false.{1} ∧ type_of% @Option.map_some.{0,0} ∧ type_of% @Option.map_none.{0,0} ∧ type_of% @Option.bind_some.{0,0} ∧ type_of%
   @Option.some.injEq.{0} ∧ type_of% @Bool.not_true ∧ type_of% @Bool.not_false ∧ type_of% @Bool.false_eq_true ∧ type_of% @Bool.true_eq_false ∧ type_of% @decide_true ∧ type_of%
   @decide_false ∧ type_of% @true_and ∧ type_of% @and_true ∧ type_of% @false_and ∧ type_of% @and_false ∧ type_of% @true_or ∧ type_of% @or_true ∧ type_of% @false_or ∧ type_of%
   @or_false ∧ type_of% @Int.lt_irrefl ∧ type_of% @List.getElem?_cons_zero.{0} ∧ type_of% @List.getElem?_cons_succ.{0} ∧ type_of% @exists_eq_left'.{1} ∧ type_of%
   @List.length_cons.{0} ∧ type_of% @List.length_nil.{0} ∧ type_of% @List.all_cons.{0} ∧ type_of% @List.all_nil.{0} ∧ type_of% @List.take_succ_cons.{0} ∧ type_of%
   @List.take_zero.{0} ∧ type_of% @List.take_nil.{0} ∧ type_of% @List.drop_succ_cons.{0} ∧ type_of% @List.drop_zero.{0} ∧ type_of% @List.drop_nil.{0} ∧ type_of% @Bool.and_true ∧
   type_of% @Bool.true_and ∧ type_of% @Bool.false_and ∧ type_of% @Bool.and_false ∧ type_of% @Bool.and_self ∧ type_of% @Nat.le_refl ∧ type_of% @and_self ∧ type_of% @Nat.zero_add ∧
   type_of% @Int.toNat_natCast ∧ type_of% @Int.natCast_nonneg := ⟨@w_op, @w_nil, @w_cond, @w_skip, @w_exit, @w_ret, @w_grd, @WG_bool, @WG_skp, @WB_true, @WB_false, @WI_true,
   @WI_false, @WF_fn, @beq_tt, @beq_ff, @beq_tf, @beq_ft, @O_some, @O_if, @O_mapif, @O_map, @List.nil_append.{0}, @List.cons_append.{0}, @List.append_nil.{0}, @if_true.{1},
   @if_false.{1}, @Option.map_some.{0,0}, @Option.map_none.{0,0}, @Option.bind_some.{0,0}, @Option.some.injEq.{0}, @Bool.not_true, @Bool.not_false, @Bool.false_eq_true,
   @Bool.true_eq_false, @decide_true, @decide_false, @true_and, @and_true, @false_and, @and_false, @true_or, @or_true, @false_or, @or_false, @Int.lt_irrefl,
   @List.getElem?_cons_zero.{0}, @List.getElem?_cons_succ.{0}, @exists_eq_left'.{1}, @List.length_cons.{0}, @List.length_nil.{0}, @List.all_cons.{0}, @List.all_nil.{0},
   @List.take_succ_cons.{0}, @List.take_zero.{0}, @List.take_nil.{0}, @List.drop_succ_cons.{0}, @List.drop_zero.{0}, @List.drop_nil.{0}, @Bool.and_true, @Bool.true_and,
   @Bool.false_and, @Bool.and_false, @Bool.and_self, @Nat.le_refl, @and_self, @Nat.zero_add, @Int.toNat_natCast, @Int.natCast_nonneg⟩
theorem zL : type_of% @true_and ∧ type_of% @Nat.le_refl ∧ type_of% @List.length_append.{0} ∧ type_of% @List.length_cons.{0} ∧ type_of% @List.length_nil.{0} ∧ type_of%
   @List.length_map.{0,0} ∧ type_of% @List.length_set.{0} ∧ type_of% @List.length_take.{0} ∧ type_of% @List.length_drop.{0} := ⟨@true_and, @Nat.le_refl, @List.length_append.{0},
   @List.length_cons.{0}, @List.length_nil.{0}, @List.length_map.{0,0}, @List.length_set.{0}, @List.length_take.{0}, @List.length_drop.{0}⟩
end Go.Proofs.YtejhhdpfndiliaaGreatDoor.Ab

/- FROM a function's answer in the abstract machine to what a row wants. -/
namespace Go.Proofs.YtejhhdpfndiliaaGreatDoor.Ab
open Go Go.RowKit Go.ChangeShapes

theorem keptBut_below {W W' : World} (hb : Go.RowKit.Below W.heap.size W W') (may : MemPlace → Prop) : W.keptBut W' may := by
  refine ⟨hb.os, hb.output, fun i hi => ?_⟩
  rw [hb.block i hi]
  cases W.heap[i]? with
  | none => trivial
  | some o =>
    cases o <;> first
      | exact ⟨rfl, rfl, rfl, fun _ _ => rfl⟩
      | exact .inr ⟨rfl, rfl⟩
      | rfl

theorem frozen_below {W W' : World} (hb : Go.RowKit.Below W.heap.size W W') (a : Addr) (ha : a.block < W.heap.size) : W'.frozen? a = W.frozen? a := by
  simp only [World.frozen?, hb.block a.block ha]

section
variable {H : Type} {enc : TypeId × Value → H} {P : Program}
/-- What a call leaves that turns nothing old. -/
theorem post_below {f : Func} {s : ChangeSpec} {apart fresh handsOn again : Bool} {W W' : World} {args : Array Value} {v : Value} {ds gs : List (DataW H)} {before pa pv : List MemPlace}
    (hW : DataW.Whole enc P f.params.toList s.vars apart W args.toList ds gs before)
    (hres : ∀ (b : Nat) (sp : Nat → Bool) (hd : Bool), DataW.TrodAll enc P W' b sp hd f.resultTypes.toList (v.resultList f.resultTypes.size) (s.fn H (ds ++ gs)).results [])
    (hargs : ∀ sp : Nat → Bool, (∀ p ∈ before, sp p.block = true) → DataW.TrodAll enc P W' 0 sp true f.params.toList args.toList (s.fn H (ds ++ gs)).args pa)
    (hvars : ∀ sp : Nat → Bool, (∀ p ∈ before, sp p.block = true) → DataW.TrodVars enc P W' sp s.vars (s.fn H (ds ++ gs)).vars pv)
    (hps : before = pa ++ pv) (hb : Go.RowKit.Below W.heap.size W W')
    (hok : ∀ (j : Nat) (t : TypeId) (r : Value), f.resultTypes[j]? = some t → (v.resultList f.resultTypes.size)[j]? = some r → Value.okWide P W' .any 0 t r) :
    s.post enc P f apart fresh handsOn again W args v W' := by
  have hold : ∀ p ∈ before, (fun b => decide (b < W.heap.size)) p.block = true := fun p hp => by simpa using hW.lt p hp
  have hlt := hW.lt
  refine ⟨ds, gs, before, [], pa, pv, hW, hres _ _ _, hargs _ hold, hvars _ hold, World.keptBut_mono (fun p hp => ⟨hp, ?_⟩) (keptBut_below hb (· ∈ before)), fun _ => ?_⟩
  · rw [hps, List.mem_append] at hp
    exact Or.inr hp
  · obtain ⟨_, _, _, _, _, hz, hn⟩ := hW
    refine ⟨hok, _, _, ([] ++ pa) ++ pv, ⟨[] ++ pa, pv, trodAll_append (hargs _ (fun _ _ => rfl)) (hres _ _ _), hvars _ (fun _ _ => rfl), rfl, ?_, ?_⟩, ?_⟩
    · intro b off hp
      have hin : MemPlace.cell b off ∈ before := by rw [hps]; simpa using hp
      rw [frozen_below hb _ (show b < W.heap.size from hlt _ hin)]
      exact hz b off (by rw [hps]; simpa using hp)
    · intro ha
      have := hn ha
      rw [hps] at this
      simpa using this
    · intro p hp _
      rw [hps]
      simpa using hp
end

/-- A law that answers true. -/
theorem law_calls {P : Program} {F : Nat → Nat} (hs : ∀ n, Sound P F (evF T E n)) {f : Nat} {xs : List AV} {h : AH} (hS : S f xs h (fun r _ => r = .bool true) k) {m : Emb} {W : World} {args : Array Value} (hr : RelH F W.heap.size m h W) (hx : RelL F m xs args.toList) :
    Calls P (F f) args W fun e w' => e = .returned (.bool true) ∧ Go.RowKit.Below W.heap.size W w' := by
  obtain ⟨n, r, h', hev, rfl⟩ := hS
  obtain ⟨_, hc⟩ := hs n f xs h _ h' hev
  refine (hc W.heap.size m W args hr hx).mono ?_
  rintro e w' ⟨v, m', rfl, hv, hst⟩
  exact ⟨by rw [rel_bool hv], hst.below (Nat.le_refl _)⟩

/-- Nothing is known of the heap. -/
theorem rel_nothing (F : Nat → Nat) (W : World) : RelH F W.heap.size ⟨fun _ _ => none, fun _ => none⟩ [] W where
  rowc := by intro c k p h; cases h
  objc := by intro c b h; cases h
  ob := by intro c o h; simp at h
  inj := by intro c k p c' k' p' h; cases h
  injo := by intro c c' b h; cases h
  injr := by intro c k p c' b h; cases h
  ltr := by intro c k p h; cases h
  lto := by intro c b h; cases h
  vers := by intro c cs ver fl ro k p h; simp at h
  le := Nat.le_refl _
end Go.Proofs.YtejhhdpfndiliaaGreatDoor.Ab

/- ARGUMENTS of a law: how they stand in the abstract machine's first state, and that they read as before behind the call. -/
namespace Go.Proofs.YtejhhdpfndiliaaGreatDoor.Ab
open Go Go.RowKit Go.ChangeShapes Go.WideShapes Go.Deep

/-- One row that is read alone. -/
def emb1 (p : Place) : Emb := ⟨fun c k => if c = 0 ∧ k = 0 then some p else none, fun _ => none⟩
theorem rel_row {F : Nat → Nat} {W : World} {p : Place} {cs : List AV} {C : Array Value} {e : TypeId} {fr : Nat × Nat} (hb : W.heap[p.blk]? = some (.cells C e fr)) (hs : C.size = p.siz) (hlo : p.lo = 0) (hext : p.ext = cs.length) (hle : p.base + p.ext ≤ p.siz)
    (hv : ∀ j x, cs[j]? = some x → ∃ v, C[p.base + j]? = some v ∧ RelV F (emb1 p) x v) : RelH F W.heap.size (emb1 p) [.row cs 0 0 true] W := by
  have hlt : p.blk < W.heap.size := (Array.getElem?_eq_some_iff.1 hb).1
  have key : ∀ c k q, (emb1 p).row c k = some q → c = 0 ∧ k = 0 ∧ q = p := by
    intro c k q h
    simp only [emb1] at h
    split at h
    · rename_i hh; cases h; exact ⟨hh.1, hh.2, rfl⟩
    · cases h
  refine ⟨?_, ?_, ?_, ?_, ?_, ?_, ?_, ?_, ?_, Nat.le_refl _⟩
  · intro c k q h; obtain ⟨rfl, rfl, rfl⟩ := key c k q h; exact ⟨_, rfl, rfl⟩
  · intro c b h; cases h
  · intro c o ho
    cases c with
    | succ c => simp at ho
    | zero =>
      simp at ho
      subst ho
      intro k q hq hk
      obtain ⟨_, rfl, rfl⟩ := key 0 k q hq
      refine ⟨Nat.le_refl _, by omega, fun _ => hext, (fun h => by cases h), C, e, fr, hb, hs, by omega, (fun h => by cases h), ?_⟩
      intro j h1 h2
      have hj : j < cs.length := by omega
      obtain ⟨v, h3, h4⟩ := hv j cs[j] (by simp)
      exact ⟨cs[j], v, by simp, by rw [hlo]; simpa using h3, h4⟩
  · intro c k q c' k' q' h1 h2 h3 _
    obtain ⟨rfl, rfl, rfl⟩ := key c k q h1
    exact absurd hlt (by omega)
  · intro c c' b h; cases h
  · intro c k q c' b _ h; cases h
  · intro c k q h; obtain ⟨rfl, rfl, rfl⟩ := key c k q h; exact hlt
  · intro c b h; cases h
  · intro c cs' ver fl ro k q h1 h2
    obtain ⟨rfl, rfl, rfl⟩ := key c k q h2
    exact Nat.zero_le _

section
variable {H : Type} {enc : TypeId × Value → H} {P : Program}
/-- All arguments read behind the call as before. -/
theorem trodAll_stays (hl : laidOutB P = true) {W W' : World} (hb : Go.RowKit.Below W.heap.size W W') {sp : Nat → Bool} : ∀ {ts : List TypeId} {vs : List Value} {ds : List (DataW H)} {ps : List MemPlace},
    (∀ t ∈ ts, P.readableRec t = true ∧ t < P.types.size) → DataW.TrodAll enc P W 0 (fun _ => true) true ts vs ds ps → (∀ p ∈ ps, p.block < W.heap.size) → (∀ p ∈ ps, sp p.block = true) → DataW.TrodAll enc P W' 0 sp true ts vs ds ps
  | [], [], [], ps, _, h, _, _ => h
  | t :: ts, v :: vs, d :: ds, ps, ht, h, hlt, hsp => by
    obtain ⟨p, q, h1, h2, rfl⟩ := h
    obtain ⟨ht1, ht2⟩ := ht t (by simp)
    exact ⟨p, q, WideElems.Trod_stays hl ht1 ht2 h1 (fun x hx => hb.same (hlt x (by simp [hx]))) (fun x hx => hsp x (by simp [hx])), trodAll_stays hl hb (fun t' ht' => ht t' (by simp [ht'])) h2 (fun x hx => hlt x (by simp [hx])) (fun x hx => hsp x (by simp [hx])), rfl⟩
  | [], _ :: _, _, _, _, h, _, _ => by cases h
  | [], [], _ :: _, _, _, h, _, _ => by cases h
  | _ :: _, [], _, _, _, h, _, _ => by cases h
  | _ :: _, _ :: _, [], _, _, h, _, _ => by cases h
end
end Go.Proofs.YtejhhdpfndiliaaGreatDoor.Ab
