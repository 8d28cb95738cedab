/- Part 2 of the proof of a law of the given program: the rules that it leans on, and what the functions that it reaches answer; the conditions stand with each theorem. -/
import Derived.Lib.Bytealg
import Derived.Lib.SlTrimSet
import Derived.Lib.Join
import Derived.Lib.Repeat
import Derived.WalkLawsBesides
import Derived.Lib.ConvBytes
import Derived.Laws.MakeOwn
import Derived.MapKept
import Derived.Laws.Tables
import Derived.Great.BuildSlice
import Derived.Laws.StructEq
import Derived.Laws.Cover3
import Derived.Laws.Pointers
import Derived.WideLaws
import Derived.Laws.AppendOwn
import Derived.Test.YtnamhjdfegohbaaGreatDoorQ0
set_option linter.unusedSimpArgs false
set_option linter.unusedVariables false
/- CONTRACTS outside the table of bodies: functions of strings, by what they answer. -/
namespace Go.Proofs.YtnamhjdfegohbaaGreatDoor.Ab
open Go

/-- Functions that turn nothing: of strings and numbers, or of what a slice holds. -/
def pureX (G : List AV → AH → Option AV) : CF → List AV → AH → Option (AV × AH) := fun _ xs h => (G xs h).map (·, h)
def low (s : List UInt8) : Bool := s.all fun b => decide (b.toNat < 128)
def xTrim : List AV → Option AV
  | [.str s, .str c] => if s.length ≤ 4294967280 ∧ c.length ≤ 4294967280 ∧ low c = true then some (.str (Go.Lib.trimS s c)) else none
  | _ => none
def xIndexByte : List AV → Option AV
  | [.str s, .int .u8 c] => some (.int .i64 (Go.Lib.indexByte s c.toNat.toUInt8))
  | _ => none
def xIndex : List AV → Option AV
  | [.str s, .str [c]] => some (.int .i64 (Go.Lib.indexByte s c))
  | _ => none
def xContains : List AV → Option AV
  | [.str s, .str [c]] => some (.bool (decide (0 ≤ Go.Lib.indexByte s c)))
  | _ => none
def xCount : List AV → Option AV
  | [.str s, .str [c]] => some (.int .i64 (Go.Lib.countByte s c))
  | _ => none

def strsOf : List AV → Option (List (List UInt8))
  | [] => some []
  | .str s :: l => (strsOf l).map (s :: ·)
  | _ :: _ => none
def xJoin : List AV → AH → Option AV
  | [.slice c k off len e, .str sep], h => if e = 1 then match rdRow h c k off len with
    | some cs => match strsOf cs with
      | some xs => if (Go.Lib.join xs sep).length ≤ 140737488355328 ∧ len ≤ 140737488355328 then some (.str (Go.Lib.join xs sep)) else none
      | none => none
    | none => none
    else none
  | _, _ => none
def xRepeat : List AV → Option AV
  | [.str s, .int .i64 n] => if 0 ≤ n ∧ n ≤ 9223372036854775807 ∧ s.length * n.toNat ≤ 140737488355328 then some (.str (Go.Lib.repeatL s n.toNat)) else none
  | _ => none

/-- What stands ahead of i and from j on, the rest laid to zero (elements of three numbers). -/
def xDelete3 : List AV → AH → Option (AV × AH)
  | [.slice c k off n e, .int .i64 i, .int .i64 j], h => if e = 3 ∧ 0 ≤ i ∧ i < j ∧ j ≤ (n : Int) ∧ n ≤ 1099511627776 then match rdRow h c k (off + j.toNat * 3) ((n - j.toNat) * 3) with
    | some cs => match wrRow h c k (off + i.toNat * 3) cs with
      | some h1 => match wrRow h1 c k (off + (i.toNat + (n - j.toNat)) * 3) (List.replicate ((j.toNat - i.toNat) * 3) (.int .i64 0)) with
        | some h2 => some (.slice c k off (n - (j.toNat - i.toNat)) 3, h2)
        | none => none
      | none => none
    | none => none
    else none
  | _, _ => none

/-- A slice of texts in order. -/
def xSortS : List AV → AH → Option (AV × AH)
  | [.nilS], h => some (.tup [], h)
  | [.empS], h => some (.tup [], h)
  | [.slice c k off n e], h => if e = 1 ∧ 1 ≤ n ∧ n ≤ 1099511627776 then match rdRow h c k off n with
    | some cs => match strsOf cs with
      | some ss => (wrRow h c k off ((ss.mergeSort fun x y => decide (x ≤ y)).map AV.str)).map fun h' => (.tup [], h')
      | none => none
    | none => none
    else none
  | _, _ => none

/-! ### Texts parted, a sign struck, moves put in order -/
def splA (c : UInt8) : List UInt8 → List UInt8 → List (List UInt8)
  | cur, [] => [cur]
  | cur, b :: s => if b = c then cur :: splA c [] s else splA c (cur ++ [b]) s
def xSplit : List AV → AH → Option (AV × AH)
  | [.str s, .str [c]], h => if s.length ≤ 4294967280 then some (.slice h.length 0 0 (splA c [] s).length 1, h ++ [.row ((splA c [] s).map AV.str) 0 0 false]) else none
  | _, _ => none
abbrev noB (c : UInt8) (s : List UInt8) : List UInt8 := s.filter fun b => !(b == c)
def xReplaceAll : List AV → Option AV
  | [.str s, .str [c], .str []] => if s.length ≤ 4294967280 then some (.str (noB c s)) else none
  | _ => none
abbrev Mo := Int × Int
def ltMo (a b : Mo) : Prop := a.1 < b.1 ∨ (a.1 = b.1 ∧ a.2 < b.2)
instance (a b : Mo) : Decidable (ltMo a b) := by unfold ltMo; infer_instance
/-- Sorted as the program sorts. -/
def srtMo (l : List Mo) : List Mo := l.mergeSort fun x y => !decide (ltMo y x)
def mosOf : List AV → Option (List Mo)
  | [] => some []
  | .int .i64 a :: .int .i64 b :: l => (mosOf l).map ((a, b) :: ·)
  | _ => none
abbrev moC (l : List Mo) : List AV := l.flatMap fun m => [.int .i64 m.1, .int .i64 m.2]
/-- A slice of moves in order, by the function f. -/
def xSortM (f : Nat) : List AV → AH → Option (AV × AH)
  | [.nilS, .fn g []], h => if g = f then some (.tup [], h) else none
  | [.empS, .fn g []], h => if g = f then some (.tup [], h) else none
  | [.slice c k off n e, .fn g []], h => if g = f ∧ n = 0 then some (.tup [], h) else if g = f ∧ e = 2 ∧ n ≤ 1099511627776 then match rdRow h c k off (n * 2) with
    | some cs => match mosOf cs with
      | some ms => (wrRow h c k off (moC (srtMo ms))).map fun h' => (.tup [], h')
      | none => none
    | none => none
    else none
  | _, _ => none

/-! ### Texts gathered from a map, whose order is not known -/
/-- impl.someReached: the code, its steps over the map left open. -/
def dSome3 : D := .kl [8, 21, 22, 23] (.c (.cond (.t 24) (.reg [⟨some 25, .mov (.t 6), none⟩, ⟨some 26, .mov (.t 7), none⟩, ⟨some 27, .lit 1 1 [.str []] [(0, 1, .t 26)], none⟩, ⟨some 28, .app 1 (.t 25) (.t 27), none⟩, ⟨some 6, .mov (.t 28), none⟩]) .skip))
def dSome2 : D := .seq (.c (.reg [⟨some 21, .mov (.t 1), none⟩, ⟨some 22, .mov (.t 7), none⟩, ⟨some 23, .mov (.t 8), none⟩, ⟨some 24, .callv (.t 21) [.t 22, .t 23], none⟩])) dSome3
def dSome1 : D := .seq (.c (.reg [⟨some 18, .ent (.t 15), none⟩, ⟨some 19, .prj 0 (.t 18), none⟩, ⟨some 20, .prj 1 (.t 18), none⟩, ⟨some 7, .mov (.t 19), none⟩, ⟨some 8, .mov (.t 20), none⟩])) (.kl [18, 19, 20] dSome2)
def dSomeL : D := .kl [7, 8, 16, 17, 18, 19, 20, 21, 22, 23, 24, 25, 26, 27, 28] (.seq (.nxt 15 16 17) (.kl [16] (.seq (.c (.cond (.t 17) .skip (.kl [1, 15, 17] (.exit 0)))) (.kl [17] (.blk 1 dSome1)))))
def dSomeT : D := .seq (.c (.reg [⟨some 29, .mov (.t 6), none⟩, ⟨some 30, .call 275 [.t 29], none⟩])) (.kl [29, 30] (.c (.seq (.reg [⟨some 31, .mov (.t 6), none⟩, ⟨some 4, .mov (.t 31), none⟩, ⟨some 5, .mov (.c (.bool true)), none⟩]) .ret)))
def dSomeM : D := .seq (.seq (.c (.reg [⟨some 13, .mov (.t 0), none⟩, ⟨some 14, .call 273 [.t 13], none⟩, ⟨some 15, .rngM (.t 14), none⟩])) (.kl [0, 13, 14] (.blk 0 (.loop dSomeL)))) dSomeT
def dSome : D :=
  .seq (.c (.reg [⟨some 4, .mov (.c .nilS), none⟩, ⟨some 5, .mov (.c (.bool false)), none⟩]))
  (.seq (.c (.seq (.reg [⟨some 9, .mov (.t 0), none⟩, ⟨some 10, .call 56 [.t 9], none⟩, ⟨some 11, .un .not (.t 10), none⟩]) (.kl [9, 10] (.cond (.t 11) (.seq (.reg [⟨some 4, .mov (.c .nilS), none⟩, ⟨some 5, .mov (.c (.bool false)), none⟩]) .ret) .skip))))
  (.kl [4, 5, 11] (.seq (.c (.reg [⟨some 12, .lit0, none⟩, ⟨some 6, .mov (.t 12), none⟩])) (.kl [12] dSomeM))))
/-- What comes of it: nil, or nothing, or a slice of one's own; a yes or no. -/
def FinR (ra rb : Nat) (h : AH) (q : Nat × Bool × List (List UInt8)) : RP := fun x e' h' => x = .ret ∧ e'.get rb = .bool q.2.1 ∧ (∀ i, i < h.length → h'[i]? = h[i]?) ∧
  ((q.1 = 0 ∧ q.2.2 = [] ∧ e'.get ra = .nilS) ∨ (q.1 = 1 ∧ q.2.2 = [] ∧ e'.get ra = .empS) ∨
   (q.1 = 2 ∧ ∃ r k off n cells fl, e'.get ra = .slice r k off n 1 ∧ h.length ≤ r ∧ h'[r]? = some (.row cells k fl false) ∧ fl ≤ k ∧ n = q.2.2.length ∧ 1 ≤ n ∧ off + n * 1 = cells.length ∧ cells.drop off = q.2.2.map AV.str))
theorem strs_inj : ∀ {a b : List (List UInt8)}, a.map AV.str = b.map AV.str → a = b
  | [], [], _ => rfl
  | [], _ :: _, h => by simp at h
  | _ :: _, [], h => by simp at h
  | x :: a, y :: b, h => by
    simp only [List.map_cons, List.cons.injEq, AV.str.injEq] at h
    rw [h.1, strs_inj h.2]
theorem FinR.uniq {ra rb : Nat} {h h' : AH} {q q' : Nat × Bool × List (List UInt8)} {x : X} {e' : Env} (a : FinR ra rb h q x e' h') (b : FinR ra rb h q' x e' h') : q = q' := by
  obtain ⟨q1, q2, q3⟩ := q
  obtain ⟨p1, p2, p3⟩ := q'
  obtain ⟨_, a1, _, a2⟩ := a
  obtain ⟨_, b1, _, b2⟩ := b
  simp only at a1 b1 a2 b2
  rw [a1] at b1
  simp only [AV.bool.injEq] at b1
  subst b1
  rcases a2 with ⟨rfl, rfl, a3⟩ | ⟨rfl, rfl, a3⟩ | ⟨rfl, r, k, off, n, cells, fl, a3, a4, a5, a6, a7, a8, a9, a10⟩ <;> rcases b2 with ⟨rfl, rfl, b3⟩ | ⟨rfl, rfl, b3⟩ | ⟨rfl, r', k', off', n', cells', fl', b3, b4, b5, b6, b7, b8, b9, b10⟩ <;> rw [a3] at b3 <;> first
    | rfl
    | (cases b3; done)
    | (simp only [AV.slice.injEq] at b3
       obtain ⟨rfl, rfl, rfl, rfl, _⟩ := b3
       rw [a5] at b5
       simp only [Option.some.injEq, AO.row.injEq] at b5
       obtain ⟨rfl, _⟩ := b5
       rw [a10] at b10
       rw [strs_inj b10])
def ansR (h : AH) (q : Nat × Bool × List (List UInt8)) : AV × AH := match q.1 with
  | 0 => (.tup [.nilS, .bool q.2.1], h)
  | 1 => (.tup [.empS, .bool q.2.1], h)
  | _ => (.tup [.slice h.length 0 0 q.2.2.length 1, .bool q.2.1], h ++ [.row (q.2.2.map AV.str) 0 0 false])
open Classical in
noncomputable def xGather (d : D) (ra rb : Nat) : CF → List AV → AH → Option (AV × AH) := fun cf xs h =>
  if H : ∃ q, dW (Wcf cf) d (Env.init 0 xs) h (FinR ra rb h q) then some (ansR h (Classical.choose H)) else none
noncomputable def xSome : CF → List AV → AH → Option (AV × AH) := xGather dSome 4 5

/-- impl.LinesHalfway: the code, its steps over the map left open. -/
def dHalfB : C := .seq (.cond (.t 29) (.skip) (.kl [8, 27, 29] (.exit 0))) (.kl [29] (.blk 1 (.seq (.reg [⟨some 30, .ent (.t 27), none⟩, ⟨some 31, .prj 0 (.t 30), none⟩, ⟨some 32, .prj 1 (.t 30), none⟩, ⟨some 11, .mov (.t 31), none⟩, ⟨some 12, .mov (.t 32), none⟩]) (.kl [30, 31, 32] (.seq (.reg [⟨some 33, .mov (.t 12), none⟩, ⟨some 34, .mov (.t 8), none⟩, ⟨some 35, .bin .quo (.t 34) (.c (.int .i64 2)), none⟩, ⟨some 36, .bin .eql (.t 33) (.t 35), none⟩]) (.kl [12, 33, 34, 35] (.cond (.t 36) (.kl [36] (.reg [⟨some 37, .mov (.t 10), none⟩, ⟨some 38, .mov (.t 11), none⟩, ⟨some 39, .lit 1 1 [.str []] [(0, 1, .t 38)], none⟩, ⟨some 40, .app 1 (.t 37) (.t 39), none⟩, ⟨some 10, .mov (.t 40), none⟩])) (.skip))))))))
def dHalfL : D := .kl [11, 36, 37, 38, 39, 40] (.seq (.nxt 27 28 29) (.kl [28] (.c dHalfB)))
def dHalfT : C := .seq (.reg [⟨some 41, .mov (.t 10), none⟩, ⟨some 42, .call 275 [.t 41], none⟩]) (.kl [41, 42] (.seq (.reg [⟨some 43, .mov (.t 10), none⟩, ⟨some 6, .mov (.t 43), none⟩, ⟨some 7, .mov (.c (.bool true)), none⟩]) (.kl [10, 43] (.ret))))
def dHalfM : D := .seq (.seq (.c (.reg [⟨some 23, .mov (.t 0), none⟩, ⟨some 24, .mov (.t 1), none⟩, ⟨some 25, .mov (.t 2), none⟩, ⟨some 26, .call 314 [.t 23, .t 24, .t 25], none⟩, ⟨some 27, .rngM (.t 26), none⟩])) (.kl [0, 1, 2, 23, 24, 25, 26] (.blk 0 (.loop dHalfL)))) (.c dHalfT)
def dHalf : D := .seq (.c (.reg [⟨some 6, .mov (.c (.nilS)), none⟩, ⟨some 7, .mov (.c (.bool false)), none⟩])) (.kl [6, 7] (.seq (.c (.reg [⟨some 14, .mov (.t 0), none⟩, ⟨some 15, .mov (.t 1), none⟩, ⟨some 16, .mov (.t 2), none⟩, ⟨some 17, .call 313 [.t 14, .t 15, .t 16], none⟩, ⟨some 13, .mov (.t 17), none⟩, ⟨some 18, .prj 0 (.t 13), none⟩, ⟨some 19, .prj 1 (.t 13), none⟩, ⟨some 8, .mov (.t 18), none⟩, ⟨some 9, .mov (.t 19), none⟩])) (.kl [13, 14, 15, 16, 17, 18, 19] (.seq (.c (.seq (.reg [⟨some 20, .mov (.t 9), none⟩, ⟨some 21, .un .not (.t 20), none⟩]) (.kl [9, 20] (.cond (.t 21) (.kl [0, 1, 2, 8, 21] (.seq (.reg [⟨some 6, .mov (.c (.nilS)), none⟩, ⟨some 7, .mov (.c (.bool false)), none⟩]) (.ret))) (.skip))))) (.kl [21] (.seq (.c (.reg [⟨some 22, .lit0, none⟩, ⟨some 10, .mov (.t 22), none⟩])) (.kl [22] dHalfM)))))))
noncomputable def xHalf : CF → List AV → AH → Option (AV × AH) := xGather dHalf 6 7

def xtab : List (Nat × (List AV → AH → Option AV)) := [(111, fun xs _ => xTrim xs), (190, fun xs _ => xIndexByte xs), (194, fun xs _ => xIndex xs), (126, fun xs _ => xContains xs), (131, fun xs _ => xCount xs)]
def ytab : List (Nat × (List AV → AH → Option (AV × AH))) := [(220, xDelete3)]
noncomputable def ztab : List (Nat × (CF → List AV → AH → Option (AV × AH))) := []
noncomputable def E : Ext := fun f => match xtab.find? fun x => x.1 == f with
  | some x => some (pureX x.2)
  | none => match ytab.find? fun x => x.1 == f with
    | some x => some fun _ xs h => x.2 xs h
    | none => (ztab.find? fun x => x.1 == f).map fun x => x.2
theorem ztab_mono : ∀ x ∈ ztab, ∀ cf cf' : CF, cf.le cf' → ∀ xs h r, x.2 cf xs h = some r → x.2 cf' xs h = some r := by
  intro x hx
  simp only [ztab, List.mem_cons, List.not_mem_nil, or_false] at hx
  all_goals cases hx
theorem hE : EMono E := by
  intro f G h cf cf' _ xs hh r hr
  unfold E at h
  split at h
  · cases h; exact hr
  · split at h
    · cases h; exact hr
    · simp only [Option.map_eq_some_iff] at h
      obtain ⟨x, hx, rfl⟩ := h
      exact ztab_mono x (List.mem_of_find?_eq_some hx) cf cf' ‹_› xs hh r hr
end Go.Proofs.YtnamhjdfegohbaaGreatDoor.Ab

/- THE RELATION between the abstract machine's states and the model's. -/
namespace Go.Proofs.YtnamhjdfegohbaaGreatDoor.Ab
open Go Go.RowKit

structure Place where
  blk : Nat
  base : Nat
  lo : Nat
  ext : Nat
  siz : Nat

structure Emb where
  row : Nat → Nat → Option Place
  obj : Nat → Option Nat

mutual
def RelV (F : Nat → Nat) (m : Emb) : AV → Value → Prop
  | .int k n, v => v = .int k n
  | .bool b, v => v = .bool b
  | .str s, v => v = .string ⟨s.toArray⟩
  | .nilS, v => v = .slice none 0 0
  | .empS, v => ∃ a, v = .slice (some a) 0 0
  | .slice c k off len esz, v => ∃ p o cap, m.row c k = some p ∧ v = .slice (some ⟨p.blk, o, none⟩) len cap ∧ len ≤ cap ∧
      (cap = 0 ∨ (p.lo ≤ off ∧ o = p.base + (off - p.lo) ∧ off + len * esz ≤ p.ext ∧ p.base + (off - p.lo) + cap * esz ≤ p.siz))
  | .nilP, v => v = .pointer none
  | .ptr c k off n, v => ∃ p, m.row c k = some p ∧ v = .pointer (some ⟨p.blk, p.base + (off - p.lo), none⟩) ∧ p.lo ≤ off ∧ off + n ≤ p.ext
  | .nilM, v => v = .map none
  | .map c, v => ∃ b, m.obj c = some b ∧ v = .map (some b)
  | .iter c, v => ∃ b, m.obj c = some b ∧ v = .pointer (some ⟨b, 0, none⟩)
  | .fn f cap, v => ∃ vs, v = .func (.func (F f)) #[] vs ∧ RelL F m cap vs.toList
  | .nilF, v => v = .nilFunc
  | .agg xs, v => ∃ vs, v = .agg vs ∧ RelL F m xs vs.toList
  | .tup xs, v => ∃ vs, v = .tuple vs ∧ RelL F m xs vs.toList
  | .nilI, v => v = .nilIface
  | .ifc, v => ∃ t u, v = .iface t u
  | .undef, _ => True
def RelL (F : Nat → Nat) (m : Emb) : List AV → List Value → Prop
  | [], l => l = []
  | x :: xs, l => ∃ v vs, l = v :: vs ∧ RelV F m x v ∧ RelL F m xs vs
end

def RelE (F : Nat → Nat) (m : Emb) : List (AV × AV) → List MapEntry → Prop
  | [], l => l = []
  | (k, v) :: es, l => ∃ e l', l = e :: l' ∧ RelV F m k e.key ∧ RelV F m v e.val ∧ RelE F m es l'

def Emb.le (m m' : Emb) : Prop := (∀ c k p, m.row c k = some p → m'.row c k = some p) ∧ ∀ c b, m.obj c = some b → m'.obj c = some b
theorem Emb.le_refl (m : Emb) : m.le m := ⟨fun _ _ _ h => h, fun _ _ h => h⟩
theorem Emb.le_trans {m m' m'' : Emb} (h : m.le m') (h' : m'.le m'') : m.le m'' := ⟨fun _ _ _ x => h'.1 _ _ _ (h.1 _ _ _ x), fun _ _ x => h'.2 _ _ (h.2 _ _ x)⟩

mutual
theorem RelV.mono {F : Nat → Nat} {m m' : Emb} (hm : m.le m') : ∀ (x : AV) (v : Value), RelV F m x v → RelV F m' x v
  | .int .., _, h | .bool _, _, h | .str _, _, h | .nilS, _, h | .empS, _, h | .nilP, _, h | .nilM, _, h | .nilF, _, h | .nilI, _, h | .ifc, _, h | .undef, _, h => by simp only [RelV] at h ⊢ <;> exact h
  | .slice .., _, h => by
    simp only [RelV] at h ⊢
    obtain ⟨p, o, cap, h1, h2⟩ := h
    exact ⟨p, o, cap, hm.1 _ _ _ h1, h2⟩
  | .ptr .., _, h => by
    simp only [RelV] at h ⊢
    obtain ⟨p, h1, h2⟩ := h
    exact ⟨p, hm.1 _ _ _ h1, h2⟩
  | .map _, _, h => by
    simp only [RelV] at h ⊢
    obtain ⟨b, h1, h2⟩ := h
    exact ⟨b, hm.2 _ _ h1, h2⟩
  | .iter _, _, h => by
    simp only [RelV] at h ⊢
    obtain ⟨b, h1, h2⟩ := h
    exact ⟨b, hm.2 _ _ h1, h2⟩
  | .fn _ cap, _, h => by
    simp only [RelV] at h ⊢
    obtain ⟨vs, h1, h2⟩ := h
    exact ⟨vs, h1, RelL.mono hm cap _ h2⟩
  | .agg xs, _, h => by
    simp only [RelV] at h ⊢
    obtain ⟨vs, h1, h2⟩ := h
    exact ⟨vs, h1, RelL.mono hm xs _ h2⟩
  | .tup xs, _, h => by
    simp only [RelV] at h ⊢
    obtain ⟨vs, h1, h2⟩ := h
    exact ⟨vs, h1, RelL.mono hm xs _ h2⟩
theorem RelL.mono {F : Nat → Nat} {m m' : Emb} (hm : m.le m') : ∀ (xs : List AV) (l : List Value), RelL F m xs l → RelL F m' xs l
  | [], _, h => by simpa only [RelL] using h
  | x :: xs, _, h => by
    simp only [RelL] at h ⊢
    obtain ⟨v, vs, h1, h2, h3⟩ := h
    exact ⟨v, vs, h1, RelV.mono hm x v h2, RelL.mono hm xs vs h3⟩
end

theorem RelE.mono {F : Nat → Nat} {m m' : Emb} (hm : m.le m') : ∀ (es : List (AV × AV)) (l : List MapEntry), RelE F m es l → RelE F m' es l
  | [], _, h => h
  | (k, v) :: es, l, h => by
    obtain ⟨e, l', h1, h2, h3, h4⟩ := h
    exact ⟨e, l', h1, RelV.mono hm _ _ h2, RelV.mono hm _ _ h3, RelE.mono hm es l' h4⟩

/-! ### Lists -/
theorem RelL.length {F : Nat → Nat} {m : Emb} : ∀ {xs : List AV} {l : List Value}, RelL F m xs l → l.length = xs.length
  | [], _, h => by simp only [RelL] at h; subst h; rfl
  | x :: xs, _, h => by
    simp only [RelL] at h
    obtain ⟨v, vs, rfl, _, h3⟩ := h
    simp [RelL.length h3]
theorem RelL.get {F : Nat → Nat} {m : Emb} : ∀ {xs : List AV} {l : List Value}, RelL F m xs l → ∀ (i : Nat) (x : AV), xs[i]? = some x → ∃ v, l[i]? = some v ∧ RelV F m x v
  | [], _, _, i, x, hx => by simp at hx
  | y :: xs, _, h, i, x, hx => by
    simp only [RelL] at h
    obtain ⟨v, vs, rfl, h2, h3⟩ := h
    cases i with
    | zero => simp at hx; subst hx; exact ⟨v, rfl, h2⟩
    | succ i => simp at hx; simpa using RelL.get h3 i x hx
theorem RelL.of {F : Nat → Nat} {m : Emb} : ∀ {xs : List AV} {l : List Value}, l.length = xs.length → (∀ (i : Nat) (x : AV) (v : Value), xs[i]? = some x → l[i]? = some v → RelV F m x v) → RelL F m xs l
  | [], l, hl, _ => by simp only [RelL]; exact List.eq_nil_of_length_eq_zero (by simpa using hl)
  | x :: xs, [], hl, _ => by simp at hl
  | x :: xs, v :: l, hl, h => by
    simp only [RelL]
    exact ⟨v, l, rfl, h 0 x v rfl rfl, RelL.of (by simpa using hl) fun i y u hy hu => h (i + 1) y u (by simpa using hy) (by simpa using hu)⟩
theorem RelL.append {F : Nat → Nat} {m : Emb} : ∀ {xs ys : List AV} {l l' : List Value}, RelL F m xs l → RelL F m ys l' → RelL F m (xs ++ ys) (l ++ l')
  | [], _, _, _, h, h' => by simp only [RelL] at h; subst h; simpa using h'
  | x :: xs, _, _, _, h, h' => by
    simp only [RelL] at h
    obtain ⟨v, vs, rfl, h2, h3⟩ := h
    simp only [List.cons_append, RelL]
    exact ⟨v, _, rfl, h2, h3.append h'⟩
theorem RelL.take {F : Nat → Nat} {m : Emb} (n : Nat) : ∀ {xs : List AV} {l : List Value}, RelL F m xs l → RelL F m (xs.take n) (l.take n)
  | [], _, h => by simp only [RelL] at h; subst h; simp [RelL]
  | x :: xs, _, h => by
    simp only [RelL] at h
    obtain ⟨v, vs, rfl, h2, h3⟩ := h
    cases n with
    | zero => simp [RelL]
    | succ n => simp only [List.take_succ_cons, RelL]; exact ⟨v, _, rfl, h2, h3.take n⟩
theorem RelL.drop {F : Nat → Nat} {m : Emb} (n : Nat) : ∀ {xs : List AV} {l : List Value}, RelL F m xs l → RelL F m (xs.drop n) (l.drop n)
  | [], _, h => by simp only [RelL] at h; subst h; simp [RelL]
  | x :: xs, _, h => by
    cases n with
    | zero => simpa using h
    | succ n =>
      simp only [RelL] at h
      obtain ⟨v, vs, rfl, h2, h3⟩ := h
      simpa using h3.drop n

/-- The cells of related values are related. -/
theorem RelV.cells {F : Nat → Nat} {m : Emb} {x : AV} {v : Value} (h : RelV F m x v) (hx : ∀ xs, x ≠ .tup xs) (hu : x ≠ .undef) : RelL F m x.cells v.cells.toList := by
  cases x <;> first
    | exact absurd rfl hu
    | exact absurd rfl (hx _)
    | (simp only [RelV] at h; obtain ⟨vs, rfl, h2⟩ := h; exact h2)
    | (have h' := h; simp only [RelV] at h'
       first
         | (subst h'; simp only [AV.cells, Value.cells, RelL]; exact ⟨_, _, rfl, h, rfl⟩)
         | (obtain ⟨a, rfl⟩ := h'; simp only [AV.cells, Value.cells, RelL]; exact ⟨_, _, rfl, h, rfl⟩)
         | (obtain ⟨a, b, rfl⟩ := h'; simp only [AV.cells, Value.cells, RelL]; exact ⟨_, _, rfl, h, rfl⟩)
         | (obtain ⟨a, h1, rfl⟩ := h'; simp only [AV.cells, Value.cells, RelL]; exact ⟨_, _, rfl, h, rfl⟩)
         | (obtain ⟨a, rfl, h1⟩ := h'; simp only [AV.cells, Value.cells, RelL]; exact ⟨_, _, rfl, h, rfl⟩)
         | (obtain ⟨a, h1, rfl, h2⟩ := h'; simp only [AV.cells, Value.cells, RelL]; exact ⟨_, _, rfl, h, rfl⟩)
         | (obtain ⟨a, b, c, h1, rfl, h2⟩ := h'; simp only [AV.cells, Value.cells, RelL]; exact ⟨_, _, rfl, h, rfl⟩))

theorem RelV.one {F : Nat → Nat} {m : Emb} {x : AV} {v : Value} (h : RelV F m x v) (hx : x.sc = true) : v.oneCell' = true := by
  cases x <;> simp only [AV.sc] at hx <;> first
    | (cases hx; done)
    | (simp only [RelV] at h
       first
         | (subst h; rfl)
         | (obtain ⟨a, rfl⟩ := h; rfl)
         | (obtain ⟨a, b, rfl⟩ := h; rfl)
         | (obtain ⟨a, h1, rfl⟩ := h; rfl)
         | (obtain ⟨a, rfl, h1⟩ := h; rfl)
         | (obtain ⟨a, h1, rfl, h2⟩ := h; rfl)
         | (obtain ⟨a, b, c, h1, rfl, h2⟩ := h; rfl))

/-! ### Heaps -/
def ObjRel (F : Nat → Nat) (base : Nat) (m : Emb) (w : World) (c : Nat) : AO → Prop
  | .row cs ver fl ro => ∀ k p, m.row c k = some p → fl ≤ k → k ≤ ver ∧ p.ext ≤ cs.length ∧ (k = ver → p.ext = cs.length) ∧ (ro = false → base ≤ p.blk) ∧
      ∃ C e fr, w.heap[p.blk]? = some (.cells C e fr) ∧ C.size = p.siz ∧ p.base + (p.ext - p.lo) ≤ p.siz ∧ (ro = false → p.siz ≤ fr.1 ∨ fr.2 ≤ fr.1) ∧
        ∀ j, p.lo ≤ j → j < p.ext → ∃ x v, cs[j]? = some x ∧ C[p.base + (j - p.lo)]? = some v ∧ RelV F m x v
  | .map es => ∀ b, m.obj c = some b → base ≤ b ∧ ∃ E clk, w.heap[b]? = some (.map E clk) ∧ RelE F m es E.toList ∧ clk = E.size ∧ ∀ (i : Nat) (e : MapEntry), E[i]? = some e → e.born = i
  | .iter s pos => ∀ b, m.obj c = some b → base ≤ b ∧ w.heap[b]? = some (.stringIter ⟨s.toArray⟩ pos)
  | .mit cm since seen => ∀ b, m.obj c = some b → base ≤ b ∧ ∃ bm sn, m.obj cm = some bm ∧ w.heap[b]? = some (.mapIter (some bm) since sn since) ∧ sn.toList = seen

def AO.isRow : AO → Bool
  | .row .. => true
  | _ => false

structure RelH (F : Nat → Nat) (base : Nat) (m : Emb) (h : AH) (w : World) : Prop where
  rowc : ∀ c k p, m.row c k = some p → ∃ o, h[c]? = some o ∧ o.isRow = true
  objc : ∀ c b, m.obj c = some b → ∃ o, h[c]? = some o ∧ o.isRow = false
  ob : ∀ c o, h[c]? = some o → ObjRel F base m w c o
  inj : ∀ c k p c' k' p', m.row c k = some p → m.row c' k' = some p' → base ≤ p.blk → p.blk = p'.blk → c = c' ∧ p.base + p'.lo = p'.base + p.lo ∧ p.siz = p'.siz
  injo : ∀ c c' b, m.obj c = some b → m.obj c' = some b → c = c'
  injr : ∀ c k p c' b, m.row c k = some p → m.obj c' = some b → p.blk ≠ b
  ltr : ∀ c k p, m.row c k = some p → p.blk < w.heap.size
  lto : ∀ c b, m.obj c = some b → b < w.heap.size
  vers : ∀ c cs ver fl ro k p, h[c]? = some (.row cs ver fl ro) → m.row c k = some p → k ≤ ver
  le : base ≤ w.heap.size

def Emb.has (m : Emb) (b : Nat) : Prop := (∃ c k p, m.row c k = some p ∧ p.blk = b) ∨ ∃ c, m.obj c = some b
def Emb.placed (m : Emb) (c : Nat) : Prop := (∃ k p, m.row c k = some p) ∨ ∃ b, m.obj c = some b

/-- What a piece of the run does. -/
structure StepR (F : Nat → Nat) (base : Nat) (m : Emb) (h : AH) (w : World) (m' : Emb) (h' : AH) (w' : World) : Prop where
  le : m.le m'
  rel : RelH F base m' h' w'
  os : w'.os = w.os
  tape : w'.tape = w.tape
  out : w'.output = w.output
  size : w.heap.size ≤ w'.heap.size
  frame : ∀ b, b < w.heap.size → (b < base ∨ ¬ m.has b) → w'.heap[b]? = w.heap[b]?
  newr : ∀ c k p, m'.row c k = some p → m.row c k = some p ∨ ((h.length ≤ c ∨ ∃ k0 p0, m.row c k0 = some p0) ∧ (w.heap.size ≤ p.blk ∨ ∃ k0 p0, m.row c k0 = some p0 ∧ p0.blk = p.blk))
  newo : ∀ c b, m'.obj c = some b → m.obj c = some b ∨ (h.length ≤ c ∧ w.heap.size ≤ b)
  unpl : ∀ c, c < h.length → ¬ m.placed c → h'[c]? = h[c]?
  len : h.length ≤ h'.length

theorem StepR.refl {F : Nat → Nat} {base : Nat} {m : Emb} {h : AH} {w : World} (hr : RelH F base m h w) : StepR F base m h w m h w :=
  ⟨Emb.le_refl m, hr, rfl, rfl, rfl, Nat.le_refl _, fun _ _ _ => rfl, fun _ _ _ h => .inl h, fun _ _ h => .inl h, fun _ _ _ => rfl, Nat.le_refl _⟩

theorem StepR.trans {F : Nat → Nat} {base : Nat} {m m' m'' : Emb} {h h' h'' : AH} {w w' w'' : World} (a : StepR F base m h w m' h' w') (b : StepR F base m' h' w' m'' h'' w'') :
    StepR F base m h w m'' h'' w'' where
  le := Emb.le_trans a.le b.le
  rel := b.rel
  os := b.os.trans a.os
  tape := b.tape.trans a.tape
  out := b.out.trans a.out
  size := Nat.le_trans a.size b.size
  frame := by
    intro i hi hb
    rw [b.frame i (Nat.lt_of_lt_of_le hi a.size) ?_, a.frame i hi hb]
    rcases hb with hb | hb
    · exact .inl hb
    · refine .inr fun hh => hb ?_
      rcases hh with ⟨c, k, p, h1, h2⟩ | ⟨c, h1⟩
      · rcases a.newr c k p h1 with h3 | ⟨_, h3 | ⟨k0, p0, h3, h4⟩⟩
        · exact .inl ⟨c, k, p, h3, h2⟩
        · omega
        · exact .inl ⟨c, k0, p0, h3, h4.trans h2⟩
      · rcases a.newo c i h1 with h3 | ⟨_, h3⟩
        · exact .inr ⟨c, h3⟩
        · omega
  newr := by
    intro c k p h1
    rcases b.newr c k p h1 with h2 | ⟨h2, h3⟩
    · exact a.newr c k p h2
    · refine .inr ⟨?_, ?_⟩
      · rcases h2 with h2 | ⟨k0, p0, h2⟩
        · exact .inl (Nat.le_trans a.len h2)
        · rcases a.newr c k0 p0 h2 with h4 | ⟨h4, _⟩
          · exact .inr ⟨k0, p0, h4⟩
          · exact h4
      · rcases h3 with h3 | ⟨k0, p0, h3, h4⟩
        · exact .inl (Nat.le_trans a.size h3)
        · rcases a.newr c k0 p0 h3 with h5 | ⟨_, h5 | ⟨k1, p1, h5, h6⟩⟩
          · exact .inr ⟨k0, p0, h5, h4⟩
          · exact .inl (h4 ▸ h5)
          · exact .inr ⟨k1, p1, h5, h6.trans h4⟩
  newo := by
    intro c i h1
    rcases b.newo c i h1 with h2 | ⟨h2, h3⟩
    · exact a.newo c i h2
    · exact .inr ⟨Nat.le_trans a.len h2, Nat.le_trans a.size h3⟩
  unpl := by
    intro c hc hn
    rw [b.unpl c (Nat.lt_of_lt_of_le hc a.len) ?_, a.unpl c hc hn]
    rintro (⟨k, p, h1⟩ | ⟨i, h1⟩)
    · rcases a.newr c k p h1 with h2 | ⟨h2 | ⟨k0, p0, h2⟩, _⟩
      · exact hn (.inl ⟨k, p, h2⟩)
      · omega
      · exact hn (.inl ⟨k0, p0, h2⟩)
    · rcases a.newo c i h1 with h2 | ⟨h2, _⟩
      · exact hn (.inr ⟨i, h2⟩)
      · omega
  len := Nat.le_trans a.len b.len

theorem StepR.below {F : Nat → Nat} {base : Nat} {m m' : Emb} {h h' : AH} {w w' : World} (a : StepR F base m h w m' h' w') (hb : base ≤ w.heap.size) : Below base w w' :=
  ⟨a.os, a.tape, a.out, a.size, fun i hi => a.frame i (Nat.lt_of_lt_of_le hi hb) (.inl hi)⟩

/-! ### Environments -/
def RelEnv (F : Nat → Nat) (m : Emb) (e : Env) (tmps : Array Value) : Prop := ∀ t, RelV F m (e.get t) (tmps.getD t undef)
theorem RelEnv.mono {F : Nat → Nat} {m m' : Emb} {e : Env} {tmps : Array Value} (hm : m.le m') (h : RelEnv F m e tmps) : RelEnv F m' e tmps := fun t => RelV.mono hm _ _ (h t)
theorem Env.get_set (e : Env) (t u : Nat) (v : AV) : (e.set t v).get u = if t = u then v else e.get u := by
  induction e with
  | nil => simp only [Env.set, Env.get]
  | cons x e ih =>
    obtain ⟨k, y⟩ := x
    simp only [Env.set]
    by_cases h : k = t
    · simp only [if_pos h, Env.get]; subst h; split <;> rfl
    · simp only [if_neg h]
      split
      · simp only [Env.get]
      · simp only [Env.get, ih]
        by_cases h1 : k = u
        · simp only [if_pos h1]; rw [if_neg]; omega
        · simp only [if_neg h1]
theorem Env.get_del (e : Env) (t u : Nat) : (e.del t).get u = if t = u then .undef else e.get u := by
  induction e with
  | nil => simp [Env.del, Env.get]
  | cons x e ih =>
    obtain ⟨k, y⟩ := x
    simp only [Env.del]
    by_cases h : k = t
    · simp only [if_pos h, ih, Env.get]; subst h; split <;> rfl
    · simp only [if_neg h, Env.get, ih]
      by_cases h1 : k = u
      · simp only [if_pos h1]; rw [if_neg]; omega
      · simp only [if_neg h1]
theorem RelEnv.del {F : Nat → Nat} {m : Emb} {e : Env} {tmps : Array Value} (h : RelEnv F m e tmps) (t : Nat) : RelEnv F m (e.del t) tmps := by
  intro u
  rw [Env.get_del]
  split
  · simp only [RelV]
  · exact h u
theorem RelEnv.dels {F : Nat → Nat} {m : Emb} {tmps : Array Value} : ∀ (ts : List Nat) {e : Env}, RelEnv F m e tmps → RelEnv F m (e.dels ts) tmps
  | [], _, h => h
  | t :: ts, _, h => RelEnv.dels ts (h.del t)
theorem getD_set (tmps : Array Value) (t u : Nat) (v : Value) : (tmps.setIfInBounds t v).getD u undef = if t = u ∧ t < tmps.size then v else tmps.getD u undef := by
  simp only [Array.getD_eq_getD_getElem?, Array.getElem?_setIfInBounds]
  by_cases h : t = u
  · subst h
    by_cases h2 : t < tmps.size <;> simp [h2]
  · simp [h]
theorem RelEnv.put {F : Nat → Nat} {m : Emb} {e : Env} {a : Act} (h : RelEnv F m e a.tmps) {r : AV} {v : Value} (hv : RelV F m r v) (d : Option Nat) (hd : ∀ t, d = some t → t < a.tmps.size) :
    RelEnv F m (Ab.put e d r) (a.put d v).tmps := by
  cases d with
  | none => exact h
  | some t =>
    intro u
    simp only [Ab.put, Act.put, Env.get_set]
    rw [getD_set]
    have := hd t rfl
    by_cases h1 : t = u
    · simp only [if_pos h1, if_pos (And.intro h1 this)]; exact hv
    · simp only [if_neg h1, h1, false_and, if_false]; exact h u
theorem init_get : ∀ (xs : List AV) (i t : Nat), (Env.init i xs).get t = if i ≤ t ∧ t < i + xs.length then xs.getD (t - i) .undef else .undef
  | [], i, t => by simp [Env.init, Env.get]
  | x :: xs, i, t => by
    simp only [Env.init, Env.get, init_get xs (i + 1) t, List.length_cons]
    by_cases h : i = t
    · subst h; simp
    · simp only [if_neg h]
      by_cases h1 : i + 1 ≤ t ∧ t < i + 1 + xs.length
      · rw [if_pos h1, if_pos (by omega)]
        obtain ⟨d, rfl⟩ : ∃ d, t = i + 1 + d := ⟨t - (i + 1), by omega⟩
        rw [show i + 1 + d - i = d + 1 by omega, show i + 1 + d - (i + 1) = d by omega]; simp
      · rw [if_neg h1, if_neg (by omega)]

end Go.Proofs.YtnamhjdfegohbaaGreatDoor.Ab

/- THE CHECKER: is a compact literal the model's code? Evaluated by the kernel. -/
namespace Go.Proofs.YtnamhjdfegohbaaGreatDoor.Ab
open Go

def nilSv : Value → Bool
  | .slice none 0 0 => true
  | _ => false
def nilPv : Value → Bool
  | .pointer none => true
  | _ => false
def nilMv : Value → Bool
  | .map none => true
  | _ => false
theorem nilSv_eq {v : Value} (h : nilSv v = true) : v = .slice none 0 0 := by
  unfold nilSv at h; split at h
  · rfl
  · cases h
theorem nilPv_eq {v : Value} (h : nilPv v = true) : v = .pointer none := by
  unfold nilPv at h; split at h
  · rfl
  · cases h
theorem nilMv_eq {v : Value} (h : nilMv v = true) : v = .map none := by
  unfold nilMv at h; split at h
  · rfl
  · cases h

mutual
def chkV (F : Nat → Nat) : AV → Value → Bool
  | .int k n, .int k' n' => decide (k = k') && decide (n = n')
  | .bool b, .bool b' => b == b'
  | .str s, .string t => decide (t.data.toList = s)
  | .nilS, v => nilSv v
  | .nilP, v => nilPv v
  | .nilM, v => nilMv v
  | .nilF, .nilFunc => true
  | .nilI, .nilIface => true
  | .agg xs, .agg vs => chkVs F xs vs.toList
  | .tup xs, .tuple vs => chkVs F xs vs.toList
  | _, _ => false
def chkVs (F : Nat → Nat) : List AV → List Value → Bool
  | [], [] => true
  | x :: xs, v :: vs => chkV F x v && chkVs F xs vs
  | _, _ => false
end

def chkO (F : Nat → Nat) : Operand → Opd → Bool
  | .tmp t, .t n => decide (t = n)
  | .const v, .c x => chkV F x v
  | .func f, .c (.fn g []) => decide (F g = f)
  | _, _ => false
def chkOs (F : Nat → Nat) : List Operand → List Opd → Bool
  | [], [] => true
  | x :: xs, y :: ys => chkO F x y && chkOs F xs ys
  | _, _ => false
def chkOo (F : Nat → Nat) : Option Operand → Option Opd → Bool
  | none, none => true
  | some x, some y => chkO F x y
  | _, _ => false

section
variable (P : Program) (F : Nat → Nat)
def isB (t : TypeId) : Bool := match P.underlying t with | some .bool => true | _ => false
def isI (t : TypeId) (k : IntKind) : Bool := match P.underlying t with | some (.int k') => decide (k' = k) | _ => false
def isS (t : TypeId) : Bool := match P.underlying t with | some .string => true | _ => false
def isM (t : TypeId) : Bool := match P.underlying t with | some (.map ..) => true | _ => false
def sz (t : TypeId) (n : Nat) : Bool := match P.info? t with | some i => decide (i.size = n) | none => false
def by64 (t : TypeId) : Bool := match P.info? t with | some i => decide (i.bytes ≤ 64) | none => false
def zer (t : TypeId) (z : List AV) : Bool := match P.info? t with
  | some i => match i.zero with
    | some v => chkVs F z v.cells.toList && z.all AV.sc
    | none => false
  | none => false
def isAg (t : TypeId) (agg : Bool) : Bool := match P.underlying t with
  | some (.struct _) | some (.array _ _) => agg
  | some _ => !agg
  | none => false
/-- a type's value: aggregate or not, so many cells -/
def shp (t : TypeId) (agg : Bool) (n : Nat) : Bool := isAg P t agg && sz P t n && (agg || decide (n = 1))
def hasT (t : TypeId) : Bool := (P.underlying t).isSome
def sliceOf (t : TypeId) (esz : Nat) : Bool := match P.underlying t with | some (.slice e) => sz P e esz | _ => false
def arrOf (t : TypeId) (len esz : Nat) : Bool := match P.underlying t with | some (.array n e) => decide (n = len) && sz P e esz | _ => false
def placesF (fs : Array Field) : List (Nat × Operand) → List (Nat × Nat × Opd) → Bool
  | [], [] => true
  | (i, x) :: ps, (off, n, y) :: qs => (match fs[i]? with | some f => decide (f.offset = off) && sz P f.type n | none => false) && chkO F x y && placesF fs ps qs
  | _, _ => false
def placesA (esz : Nat) : List (Nat × Operand) → List (Nat × Nat × Opd) → Bool
  | [], [] => true
  | (i, x) :: ps, (off, n, y) :: qs => decide (i * esz = off) && decide (n = esz) && chkO F x y && placesA esz ps qs
  | _, _ => false
def szAll (fs : Array Field) : Bool := fs.toList.all fun f => (P.info? f.type).isSome
def nilT (t : TypeId) (kd : Nat) : Operand → Bool
  | .const v => match P.underlying t with
    | some (.slice _) => decide (kd = 0) && nilSv v
    | some (.pointer _) => decide (kd = 1) && nilPv v
    | some (.map _ _) => decide (kd = 2) && nilMv v
    | some (.func _ _ _) => decide (kd = 3) && (match v with | .nilFunc => true | _ => false)
    | some (.interface _) => decide (kd = 4) && (match v with | .nilIface => true | _ => false)
    | _ => false
  | _ => false
def keyD (kd : Nat) : TypeDesc → Bool
  | .int _ => decide (kd = 0)
  | .string => decide (kd = 1)
  | .bool => decide (kd = 2)
  | _ => false
/-- a struct all of whose fields are numbers, bools and strings, each in its cell -/
def flatFs : List Field → Nat → List Nat → Bool
  | [], _, [] => true
  | f :: fs, i, kd :: kds => decide (f.offset = i) && (match P.underlying f.type with | some d => keyD kd d | none => false) && sz P f.type 1 && decide (f.name ≠ "_") && flatFs fs (i + 1) kds
  | _, _, _ => false
def flatAgg (t : TypeId) (kds : List Nat) : Bool := match P.underlying t with
  | some (.struct fs) => flatFs P fs.toList 0 kds && !P.stoodInHeld t && !P.eqGuardType P.depth t
  | _ => false
def keyT (kd : Nat) (t : TypeId) : Bool := match P.underlying t with
  | some (.map k _) => match P.underlying k with
    | some d => keyD kd d
    | none => false
  | _ => false
def fnOk (f : FuncId) : Bool := match P.funcs[f]? with
  | some fn => fn.body.isSome && !(fn.name == "runtime.NumGoroutine")
  | none => false
def seqT (t : TypeId) : Bool := match P.underlying t with | some (.slice _) | some .string => true | _ => false

def zerN (t : TypeId) (n : Nat) : Bool := match P.info? t with
  | some i => match i.zero with
    | some v => decide (v.cells.size = n)
    | none => false
  | none => false
def chkCall (c : Call) : AOp → Bool
  | .call g xs => match c.callee with
    | .value (.func f) => decide (F g = f) && chkOs F c.args.toList xs
    | _ => false
  | .callv x xs => match c.callee with
    | .value y => chkO F y x && chkOs F c.args.toList xs
    | _ => false
  | .lenS x => match c.callee with
    | .builtin .len => match c.argTypes[0]?, c.args.toList with
      | some t, [y] => isS P t && chkO F y x
      | _, _ => false
    | _ => false
  | .lenV x => match c.callee with
    | .builtin .len => match c.argTypes[0]?, c.args.toList with
      | some t, [y] => (match P.underlying t with | some (.slice _) => true | _ => false) && chkO F y x
      | _, _ => false
    | _ => false
  | .mlen x => match c.callee with
    | .builtin .len => match c.argTypes[0]?, c.args.toList with
      | some t, [y] => (match P.underlying t with | some (.map _ _) => true | _ => false) && chkO F y x
      | _, _ => false
    | _ => false
  | .app esz s x => match c.callee with
    | .builtin .append => match c.argTypes[0]?, c.argTypes[1]?, c.args.toList with
      | some t, some t2, [y, z] => (match P.underlying t with | some (.slice e) => sz P e esz && by64 P e && zerN P e esz | _ => false) && seqT P t2 && chkO F y s && chkO F z x
      | _, _, _ => false
    | _ => false
  | .appS s x => match c.callee with
    | .builtin .append => match c.argTypes[0]?, c.argTypes[1]?, c.args.toList with
      | some t, some t2, [y, z] => (match P.underlying t with | some (.slice e) => sz P e 1 && by64 P e && zerN P e 1 | _ => false) && seqT P t2 && chkO F y s && chkO F z x
      | _, _, _ => false
    | _ => false
  | .copy esz s x => match c.callee with
    | .builtin .copy => match c.argTypes[0]?, c.args.toList with
      | some t, [y, z] => sliceOf P t esz && chkO F y s && chkO F z x
      | _, _ => false
    | _ => false
  | .clr z x => match c.callee with
    | .builtin .clear => match c.argTypes[0]?, c.args.toList with
      | some t, [y] => (match P.underlying t with | some (.slice e) => zer P F e z && decide (0 < z.length) | _ => false) && chkO F y x
      | _, _ => false
    | _ => false
  | .mmx mx x y => match c.callee with
    | .builtin b => (match b, mx with | .max, true | .min, false => true | _, _ => false) && chkOs F c.args.toList [x, y]
    | _ => false
  | _ => false

def chkOp : Op → AOp → Bool
  | .move x, .mov y | .assign x, .mov y => chkO F x y
  | .pick a b c, .pick x y z => chkO F a x && chkO F b y && chkO F c z
  | .binOp op _ a b _, .bin op' x y => decide (op = op') && chkO F a x && chkO F b y
  | .binOp op t a b _, .beq neg x y => decide (op = if neg then .neq else .eql) && isB P t && chkO F a x && chkO F b y
  | .binOp op t a b _, .aeq neg n x y => decide (op = if neg then .neq else .eql) && flatAgg P t n && chkO F a x && chkO F b y
  | .binOp op t a b _, .niq neg kd x => decide (op = if neg then .neq else .eql) && nilT P t kd b && chkO F a x
  | .unOp op _ a, .un op' x => decide (op = op') && chkO F a x
  | .convert s d a, .conv k x => hasT P s && isI P d k && chkO F a x
  | .convert s d a, .toB x => hasT P s && (match P.underlying d with | some (.slice e) => isI P e .u8 | _ => false) && chkO F a x
  | .convert s d a, .ofB x => (match P.underlying s with | some (.slice e) => isI P e .u8 | _ => false) && isS P d && chkO F a x
  | .convert s d a, .ofR x => hasT P s && isS P d && chkO F a x
  | .alloc t, .new z => zer P F t z
  | .box _ a, .box x => chkO F a x
  | .build t ps, .build z qs => zer P F t z && (match P.underlying t with
      | some (.struct fs) => szAll P fs && placesF P F fs ps.toList qs
      | some (.array _ e) => (match P.info? e with | some i => placesA F i.size ps.toList qs | none => false)
      | _ => false)
  | .buildSlice t n ps, .lit esz n' z qs => decide (n = n') && (match P.underlying t with
      | some (.slice e) => sz P e esz && decide (0 < esz) && decide (n * esz ≤ 2 ^ 24) && (match P.info? e with
        | some i => (match i.zero with | some v => chkVs F z ((Array.range (n * esz)).map (v.cells[· % v.cells.size]!)).toList && z.all AV.sc && decide (0 < n) | none => false)
        | none => false) && placesA F esz ps.toList qs
      | _ => false)
  | .buildSlice t 0 ps, .lit0 => ps.isEmpty && (match P.underlying t with
      | some (.slice e) => (P.info? e).isSome
      | _ => false)
  | .load t a, .load agg n x => shp P t agg n && chkO F a x
  | .store t a v, .store n x y => sz P t n && chkO F a x && chkO F v y
  | .nilCheck a, .nck x => chkO F a x
  | .fieldAddr t a f, .faddr off n x => (match P.underlying t with
      | some (.struct fs) => (match fs[f]? with | some g => decide (g.offset = off) && sz P g.type n && decide (0 < n) | none => false)
      | _ => false) && chkO F a x
  | .field t a f, .fld agg off n x => (match P.underlying t with
      | some (.struct fs) => (match fs[f]? with | some g => decide (g.offset = off) && shp P g.type agg n | none => false)
      | _ => false) && chkO F a x
  | .indexAddr t a i, .iaddr esz x y => sliceOf P t esz && chkO F a x && chkO F i y
  | .indexAddr t a i, .iaddrA len esz x y => arrOf P t len esz && chkO F a x && chkO F i y
  | .index t a i, .idx agg len esz x y => (match P.underlying t with | some (.array n e) => decide (n = len) && shp P e agg esz | _ => false) && chkO F a x && chkO F i y
  | .index t a i, .idxS x y => isS P t && chkO F a x && chkO F i y
  | .slice t a lo hi none, .sub esz x lo' hi' => sliceOf P t esz && decide (0 < esz) && chkO F a x && chkOo F lo lo' && chkOo F hi hi'
  | .slice t a none (some hi) (some mx), .sub0 x hi' mx' => (match P.underlying t with | some (.slice e) => (P.info? e).isSome | _ => false) && chkO F a x && chkO F hi hi' && chkO F mx mx'
  | .slice t a lo hi none, .subS x lo' hi' => isS P t && chkO F a x && chkOo F lo lo' && chkOo F hi hi'
  | .slice t a lo hi none, .subA len esz x lo' hi' => arrOf P t len esz && decide (0 < esz) && chkO F a x && chkOo F lo lo' && chkOo F hi hi'
  | .makeSlice t a b, .make esz z x y => (match P.underlying t with | some (.slice e) => sz P e esz && by64 P e && zer P F e z && decide (0 < esz) | _ => false) && chkO F a x && chkO F b y
  | .makeMap _ none, .mkmap => true
  | .makeMap t (some (.const (.int _ _))), .mkmap => (match P.underlying t with | some (.map _ _) => true | _ => false)
  | .makeFunc (.func f) first caps, .mkfn g ys => first.isEmpty && decide (F g = f) && chkOs F caps.toList ys
  | .lookup t a k ok, .look kd z ok' x y => decide (ok = ok') && keyT P kd t && (match P.underlying t with
      | some (.map _ e) => (match P.info? e with
        | some i => (match i.zero with | some v => chkV F z v | none => false)
        | none => false)
      | _ => false) && chkO F a x && chkO F k y
  | .mapUpdate t a k v, .mset kd x y z | .insert t a k v, .mset kd x y z => keyT P kd t && chkO F a x && chkO F k y && chkO F v z
  | .range t a, .rng x => isS P t && chkO F a x
  | .range t a, .rngM x => isM P t && chkO F a x
  | .entry a, .ent x => chkO F a x
  | .next a s, .nxt x => s && chkO F a x
  | .extract a i, .prj j x => decide (i = j) && chkO F a x
  | .call c, ao => chkCall P F c ao
  | _, _ => false

def chkG (ops : Array Oper) (o : Oper) (i : I) : Bool :=
  match o.guard, i.grd with
  | none, none => true
  | some (j, want), some (t, want') => decide (want = want') && decide ((ops[j]?).bind (·.dst) = some t)
  | _, _ => false
def chkD (nt : Nat) (d d' : Option Nat) : Bool := decide (d = d') && (match d with | some t => decide (t < nt) | none => true)
def chkI (nt : Nat) (ops : Array Oper) (o : Oper) (i : I) : Bool := chkD nt o.dst i.dst && chkG ops o i && chkOp P F o.op i.op
def chkIs (nt : Nat) (ops : Array Oper) : List Oper → List I → Bool
  | [], [] => true
  | o :: os, i :: is => chkI P F nt ops o i && chkIs nt ops os is
  | _, _ => false
end

end Go.Proofs.YtnamhjdfegohbaaGreatDoor.Ab

/- MEMORY: what loads, stores, new rows, appends, maps and iterators do to the relation. -/
namespace Go.Proofs.YtnamhjdfegohbaaGreatDoor.Ab
open Go Go.RowKit

theorem splice_length {α : Type} {l : List α} {o : Nat} {vs : List α} (h : o + vs.length ≤ l.length) : (splice l o vs).length = l.length := by
  simp only [splice, List.length_append, List.length_take, List.length_drop]; omega
theorem splice_get {α : Type} {l : List α} {o : Nat} {vs : List α} (h : o + vs.length ≤ l.length) (j : Nat) : (splice l o vs)[j]? = if j < o then l[j]? else if j < o + vs.length then vs[j - o]? else l[j]? := by
  unfold splice
  by_cases h1 : j < o
  · rw [if_pos h1, List.append_assoc, List.getElem?_append_left (by simp only [List.length_take]; omega), List.getElem?_take_of_lt h1]
  · rw [if_neg h1]
    by_cases h2 : j < o + vs.length
    · rw [if_pos h2, List.append_assoc, List.getElem?_append_right (by simp only [List.length_take]; omega), List.getElem?_append_left (by simp only [List.length_take]; omega)]
      congr 1
      simp only [List.length_take]; omega
    · rw [if_neg h2, List.getElem?_append_right (by simp only [List.length_append, List.length_take]; omega), List.getElem?_drop]
      congr 1
      simp only [List.length_append, List.length_take]; omega
theorem splice_cons {α : Type} (l : List α) (o : Nat) (v : α) (vs : List α) (h : o < l.length) : splice (l.set o v) (o + 1) vs = splice l o (v :: vs) := by
  apply List.ext_getElem?
  intro j
  unfold splice
  simp only [List.take_set, List.drop_set, List.length_cons, List.append_assoc]
  rw [if_pos (by omega), List.take_add_one]
  rw [show o + (vs.length + 1) = o + 1 + vs.length by omega]
  have : (List.take o l ++ l[o]?.toList).set o v = List.take o l ++ [v] := by
    rw [List.set_append_right _ _ (by simp only [List.length_take]; omega)]
    simp [List.getElem?_eq_getElem h, Nat.min_eq_left (Nat.le_of_lt h)]
  rw [this]
  simp

/-! ### The world -/
theorem addr_add (b o j : Nat) : (⟨b, o, none⟩ : Addr).add j = ⟨b, o + j, none⟩ := by unfold Addr.add; split <;> simp_all
theorem cell_at {w : World} {b i : Nat} {C : Array Value} {e : TypeId} {fr : Nat × Nat} (hg : w.heap[b]? = some (.cells C e fr)) : w.cell? ⟨b, i, none⟩ = C[i]? := by simp [World.cell?, hg]
def putRow (w : World) (b : Nat) (C : List Value) (e : TypeId) (fr : Nat × Nat) : World := { w with heap := w.heap.setIfInBounds b (.cells C.toArray e fr) }
theorem heap_lt {w : World} {b : Nat} {o : Obj} (h : w.heap[b]? = some o) : b < w.heap.size := (Array.getElem?_eq_some_iff.1 h).1
theorem setCell_put {w : World} {b i : Nat} {C : Array Value} {e : TypeId} {fr : Nat × Nat} {v : Value} (hg : w.heap[b]? = some (.cells C e fr)) : w.setCell ⟨b, i, none⟩ v = putRow w b (C.toList.set i v) e fr := by
  have hlt := heap_lt hg
  unfold World.setCell putRow
  congr 1
  apply Array.ext_getElem?
  intro j
  rw [Array.getElem?_modify, Array.getElem?_setIfInBounds]
  by_cases h : b = j
  · subst h
    rw [if_pos rfl, if_pos rfl, if_pos hlt, hg]
    simp only [Option.map_some, Option.some.injEq, Obj.cells.injEq, and_true, Option.isSome_none, Bool.false_eq_true, if_false]
    apply Array.ext'; simp
  · rw [if_neg h, if_neg h]
theorem putRow_get {w : World} {b : Nat} {C : List Value} {e : TypeId} {fr : Nat × Nat} (h : b < w.heap.size) (j : Nat) : (putRow w b C e fr).heap[j]? = if j = b then some (.cells C.toArray e fr) else w.heap[j]? := by
  unfold putRow
  simp only [Array.getElem?_setIfInBounds]
  by_cases h1 : b = j
  · subst h1; simp [h]
  · rw [if_neg h1, if_neg (Ne.symm h1)]
theorem putRow_put {w : World} {b : Nat} {C C' : List Value} {e : TypeId} {fr : Nat × Nat} : putRow (putRow w b C e fr) b C' e fr = putRow w b C' e fr := by
  unfold putRow
  congr 1
  simp

theorem run_stores {P : Program} (b o : Nat) (e : TypeId) (fr : Nat × Nat) : ∀ (vs : List Value) (i : Nat) (w : World) (C : List Value), w.heap[b]? = some (.cells C.toArray e fr) → o + i + vs.length ≤ C.length →
    (C.length ≤ fr.1 ∨ fr.2 ≤ fr.1) → (∀ v ∈ vs, v.oneCell' = true) → (storeCells ⟨b, o, none⟩ vs i).run P w = .ok () (putRow w b (splice C (o + i) vs) e fr)
  | [], i, w, C, hg, hl, hf, hv => by
    have hlt := heap_lt hg
    simp only [storeCells, Sem.run_pure, splice, List.length_nil, Nat.add_zero, List.append_nil, List.take_append_drop]
    congr 1
    unfold putRow
    have : w.heap.setIfInBounds b (.cells C.toArray e fr) = w.heap := by
      apply Array.ext_getElem?
      intro j
      rw [Array.getElem?_setIfInBounds]
      by_cases h : b = j
      · subst h; rw [if_pos rfl, if_pos hlt, hg]
      · rw [if_neg h]
    rw [this]
  | v :: vs, i, w, C, hg, hl, hf, hv => by
    have hlt := heap_lt hg
    simp only [List.length_cons] at hl
    have hc : w.cell? ⟨b, o + i, none⟩ = some C[o + i] := by rw [cell_at hg]; simp
    have hfz : w.frozen? ⟨b, o + i, none⟩ = false := by simp [World.frozen?, hg]; omega
    simp only [storeCells, Sem.run_bind, addr_add, run_store P w _ v .plain (hv v (by simp)), hc, hfz, Result.andThen, Bool.false_eq_true, if_false]
    rw [setCell_put hg]
    have ih := run_stores (P := P) b o e fr vs (i + 1) (putRow w b (C.set (o + i) v) e fr) (C.set (o + i) v) (by rw [putRow_get hlt, if_pos rfl]) (by simp; omega) (by simpa using hf) (fun u hu => hv u (by simp [hu]))
    simp only [List.toList_toArray] at ih ⊢
    rw [ih, putRow_put, ← Nat.add_assoc, splice_cons _ _ _ _ (by omega)]

/-! ### Loads -/
theorem RelH.row_at {F : Nat → Nat} {base : Nat} {m : Emb} {h : AH} {w : World} (hr : RelH F base m h w) {c k off n : Nat} {cs : List AV} (hrd : rdRow h c k off n = some cs) {p : Place} (hp : m.row c k = some p) (hlo : p.lo ≤ off) (hext : off + n ≤ p.ext) :
    ∃ vs : List Value, RelL F m cs vs ∧ vs.length = n ∧ ∀ j v, vs[j]? = some v → w.cell? ⟨p.blk, p.base + (off - p.lo) + j, none⟩ = some v := by
  unfold rdRow at hrd
  split at hrd
  · rename_i cells ver fl ro hc
    split at hrd
    · rename_i hcond
      obtain ⟨h1, h2, h3⟩ := hcond
      simp only [Option.some.injEq] at hrd
      subst hrd
      obtain ⟨_, _, _, _, C, e, fr, hg, hsz, hbs, _, hcell⟩ := hr.ob c _ hc k p hp h1
      refine ⟨(C.toList.drop (p.base + (off - p.lo))).take n, ?_, ?_, ?_⟩
      · refine RelL.of ?_ ?_
        · simp only [List.length_take, List.length_drop, Array.length_toList]; omega
        · intro i x v hx hv
          have hi : i < n := by
            by_cases hi : i < n
            · exact hi
            · rw [List.getElem?_take_eq_none (by omega)] at hx; cases hx
          rw [List.getElem?_take_of_lt hi, List.getElem?_drop] at hx hv
          obtain ⟨x', v', hx', hv', hxv⟩ := hcell (off + i) (by omega) (by omega)
          rw [hx'] at hx
          rw [Array.getElem?_toList, show p.base + (off - p.lo) + i = p.base + (off + i - p.lo) by omega, hv'] at hv
          cases hx; cases hv; exact hxv
      · simp only [List.length_take, List.length_drop, Array.length_toList]; omega
      · intro j v hv
        have hj : j < n := by
          by_cases hj : j < n
          · exact hj
          · rw [List.getElem?_take_eq_none (by omega)] at hv; cases hv
        rw [List.getElem?_take_of_lt hj, List.getElem?_drop, Array.getElem?_toList] at hv
        rw [cell_at hg, hv]
    · cases hrd
  · cases hrd

theorem RelH.siz {F : Nat → Nat} {base : Nat} {m : Emb} {h : AH} {w : World} (hr : RelH F base m h w) {c k off n : Nat} (hrd : (rdRow h c k off n).isSome = true) {p : Place} (hp : m.row c k = some p) : p.base + (p.ext - p.lo) ≤ p.siz := by
  unfold rdRow at hrd
  split at hrd
  · rename_i cells ver fl ro hc
    split at hrd
    · rename_i hcond
      obtain ⟨_, _, _, _, C, e, fr, hg, hsz, hbs, _⟩ := hr.ob c _ hc k p hp hcond.1
      exact hbs
    · cases hrd
  · cases hrd
theorem RelH.loads {P : Program} {F : Nat → Nat} {base : Nat} {m : Emb} {h : AH} {w : World} (hr : RelH F base m h w) {c k off n : Nat} {cs : List AV} (hrd : rdRow h c k off n = some cs) {p : Place} (hp : m.row c k = some p) (hlo : p.lo ≤ off) (hext : off + n ≤ p.ext) :
    ∃ vs : List Value, RelL F m cs vs ∧ vs.length = n ∧ (loadCells ⟨p.blk, p.base + (off - p.lo), none⟩ n).run P w = .ok vs.toArray w := by
  obtain ⟨vs, h1, h2, h3⟩ := hr.row_at hrd hp hlo hext
  refine ⟨vs, h1, h2, ?_⟩
  have := run_loadCells_list (P := P) w ⟨p.blk, p.base + (off - p.lo), none⟩ vs (fun j v hv => by rw [addr_add]; exact h3 j v hv)
  rwa [h2] at this

/-! ### The same heap, the world but for its draws -/
theorem ObjRel.congr {F : Nat → Nat} {base : Nat} {m : Emb} {w w' : World} {c : Nat} {o : AO} (hw : ∀ b : Nat, w'.heap[b]? = w.heap[b]?) (h : ObjRel F base m w c o) : ObjRel F base m w' c o := by
  cases o <;> simp only [ObjRel] at h ⊢ <;> simp only [hw] <;> exact h
theorem RelH.congr {F : Nat → Nat} {base : Nat} {m : Emb} {h : AH} {w w' : World} (hr : RelH F base m h w) (hw : w'.heap = w.heap) : RelH F base m h w' :=
  ⟨hr.rowc, hr.objc, fun c o ho => ObjRel.congr (fun b => by rw [hw]) (hr.ob c o ho), hr.inj, hr.injo, hr.injr, fun c k p h => by rw [hw]; exact hr.ltr c k p h, fun c b h => by rw [hw]; exact hr.lto c b h, hr.vers, by rw [hw]; exact hr.le⟩
theorem StepR.draw {F : Nat → Nat} {base : Nat} {m : Emb} {h : AH} {w w' : World} (hr : RelH F base m h w) (hh : w'.heap = w.heap) (ho : w'.os = w.os) (ht : w'.tape = w.tape) (hu : w'.output = w.output) : StepR F base m h w m h w' :=
  ⟨Emb.le_refl m, hr.congr hh, ho, ht, hu, by rw [hh]; exact Nat.le_refl _, fun _ _ _ => by rw [hh], fun _ _ _ h => .inl h, fun _ _ h => .inl h, fun _ _ _ => rfl, Nat.le_refl _⟩

/-! ### A new row -/
def Emb.addRow (m : Emb) (c k : Nat) (p : Place) : Emb := { m with row := fun c' k' => if c' = c ∧ k' = k then some p else m.row c' k' }
def Emb.addObj (m : Emb) (c b : Nat) : Emb := { m with obj := fun c' => if c' = c then some b else m.obj c' }
theorem Emb.addRow_at (m : Emb) (c k : Nat) (p : Place) : (m.addRow c k p).row c k = some p := by simp [Emb.addRow]
theorem Emb.addRow_inv {m : Emb} {c k c' k' : Nat} {p p' : Place} (h : (m.addRow c k p).row c' k' = some p') : (c' = c ∧ k' = k ∧ p' = p) ∨ m.row c' k' = some p' := by
  simp only [Emb.addRow] at h
  split at h
  · rename_i hh; cases h; exact .inl ⟨hh.1, hh.2, rfl⟩
  · exact .inr h
theorem Emb.addObj_inv {m : Emb} {c b c' b' : Nat} (h : (m.addObj c b).obj c' = some b') : (c' = c ∧ b' = b) ∨ m.obj c' = some b' := by
  simp only [Emb.addObj] at h
  split at h
  · rename_i hh; cases h; exact .inl ⟨hh, rfl⟩
  · exact .inr h
theorem Emb.le_addRow {m : Emb} {c k : Nat} {p : Place} (h : m.row c k = none) : m.le (m.addRow c k p) :=
  ⟨fun c' k' p' h' => by
    simp only [Emb.addRow]
    split
    · rename_i hh; obtain ⟨rfl, rfl⟩ := hh; rw [h] at h'; cases h'
    · exact h', fun _ _ h => h⟩
theorem Emb.le_addObj {m : Emb} {c b : Nat} (h : m.obj c = none) : m.le (m.addObj c b) :=
  ⟨fun _ _ _ h => h, fun c' b' h' => by
    simp only [Emb.addObj]
    split
    · rename_i hh; subst hh; rw [h] at h'; cases h'
    · exact h'⟩

/-- An object that lies as it lay, in a greater embedding that has nothing new of it. -/
theorem ObjRel.keep {F : Nat → Nat} {base : Nat} {m m' : Emb} {w w' : World} {c : Nat} {o : AO} (h : ObjRel F base m w c o) (hm : m.le m') (hrow : ∀ k p, m'.row c k = some p → m.row c k = some p) (hobj : ∀ b, m'.obj c = some b → m.obj c = some b)
    (hwr : ∀ k p, m.row c k = some p → w'.heap[p.blk]? = w.heap[p.blk]?) (hwo : ∀ b, m.obj c = some b → w'.heap[b]? = w.heap[b]?) : ObjRel F base m' w' c o := by
  cases o with
  | row cs ver fl ro =>
    intro k p hp hk
    obtain ⟨h1, h2, h3, h4, C, e, fr, hg, hs, hb, hf, hc⟩ := h k p (hrow k p hp) hk
    refine ⟨h1, h2, h3, h4, C, e, fr, by rw [hwr k p (hrow k p hp), hg], hs, hb, hf, fun j hj1 hj2 => ?_⟩
    obtain ⟨x, v, hx, hv, hxv⟩ := hc j hj1 hj2
    exact ⟨x, v, hx, hv, RelV.mono hm _ _ hxv⟩
  | map es =>
    intro b hb
    obtain ⟨h1, E, clk, hg, hE, hst⟩ := h b (hobj b hb)
    exact ⟨h1, E, clk, by rw [hwo b (hobj b hb), hg], RelE.mono hm _ _ hE, hst⟩
  | iter s pos =>
    intro b hb
    obtain ⟨h1, hg⟩ := h b (hobj b hb)
    exact ⟨h1, by rw [hwo b (hobj b hb), hg]⟩
  | mit cm since seen =>
    intro b hb
    obtain ⟨h1, bm, sn, h2, hg, h3⟩ := h b (hobj b hb)
    exact ⟨h1, bm, sn, hm.2 _ _ h2, by rw [hwo b (hobj b hb), hg], h3⟩

theorem newRow_step {F : Nat → Nat} {base : Nat} {m : Emb} {h : AH} {w w' : World} (hr : RelH F base m h w) {cs : List AV} {c : Nat} {h' : AH} (hn : newRow h cs = some (c, h')) {vs rest : List Value} (hvs : RelL F m cs vs) {t : TypeId} {fr : Nat × Nat}
    (hfr : vs.length + rest.length ≤ fr.1 ∨ fr.2 ≤ fr.1) (hh : w'.heap = w.heap.push (.cells (vs ++ rest).toArray t fr)) (ho : w'.os = w.os) (ht : w'.tape = w.tape) (hu : w'.output = w.output) :
    c = h.length ∧ StepR F base m h w (m.addRow h.length 0 ⟨w.heap.size, 0, 0, cs.length, vs.length + rest.length⟩) h' w' := by
  unfold newRow at hn
  split at hn
  · rename_i hsc
    simp only [Option.some.injEq, Prod.mk.injEq] at hn
    obtain ⟨rfl, rfl⟩ := hn
    refine ⟨rfl, ?_⟩
    have hnone : ∀ k, m.row h.length k = none := by
      intro k
      cases hk : m.row h.length k with
      | none => rfl
      | some p => obtain ⟨o, ho, _⟩ := hr.rowc _ _ _ hk; simp at ho
    have hnone2 : m.obj h.length = none := by
      cases hk : m.obj h.length with
      | none => rfl
      | some p => obtain ⟨o, ho, _⟩ := hr.objc _ _ hk; simp at ho
    have hm : m.le (m.addRow h.length 0 ⟨w.heap.size, 0, 0, cs.length, vs.length + rest.length⟩) := Emb.le_addRow (hnone 0)
    have hold : ∀ b, b < w.heap.size → w'.heap[b]? = w.heap[b]? := by
      intro b hb
      rw [hh, Array.getElem?_push, if_neg (by omega)]
    have hlen := hvs.length
    refine ⟨hm, ?_, ho, ht, hu, by rw [hh]; simp, fun b hb _ => hold b hb, ?_, fun c b h => .inl h, ?_, by simp⟩
    · refine ⟨?_, ?_, ?_, ?_, hr.injo, ?_, ?_, ?_, ?_, by rw [hh]; have := hr.le; simp; omega⟩
      · intro c k p hp
        rcases Emb.addRow_inv hp with ⟨rfl, _, _⟩ | hp
        · exact ⟨.row cs 0 0 false, by simp, rfl⟩
        · obtain ⟨o, ho, hi⟩ := hr.rowc c k p hp
          exact ⟨o, by rw [List.getElem?_append_left (by have := List.getElem?_eq_some_iff.1 ho; exact this.1)]; exact ho, hi⟩
      · intro c b hb
        obtain ⟨o, ho, hi⟩ := hr.objc c b hb
        exact ⟨o, by rw [List.getElem?_append_left (by have := List.getElem?_eq_some_iff.1 ho; exact this.1)]; exact ho, hi⟩
      · intro c o hc
        by_cases hlt : c < h.length
        · rw [List.getElem?_append_left hlt] at hc
          refine ObjRel.keep (hr.ob c o hc) hm ?_ (fun b hb => hb) (fun k p hp => hold _ (hr.ltr c k p hp)) (fun b hb => hold _ (hr.lto c b hb))
          intro k p hp
          rcases Emb.addRow_inv hp with ⟨rfl, _, _⟩ | hp
          · omega
          · exact hp
        · rw [List.getElem?_append_right (by omega)] at hc
          have hce : c = h.length := by
            by_cases he : c = h.length
            · exact he
            · rw [List.getElem?_eq_none (by simp; omega)] at hc; cases hc
          subst hce
          simp only [Nat.sub_self, List.getElem?_cons_zero, Option.some.injEq] at hc
          subst hc
          intro k p hp _
          rcases Emb.addRow_inv hp with ⟨_, rfl, rfl⟩ | hp
          · refine ⟨Nat.le_refl _, Nat.le_refl _, fun _ => rfl, fun _ => hr.le, (vs ++ rest).toArray, t, fr, by rw [hh]; simp, by simp, by simp; omega, fun _ => hfr, ?_⟩
            intro j _ hj
            obtain ⟨x, hx⟩ : ∃ x, cs[j]? = some x := ⟨cs[j], by simp [hj]⟩
            obtain ⟨v, hv, hxv⟩ := hvs.get j x hx
            refine ⟨x, v, hx, ?_, RelV.mono hm _ _ hxv⟩
            simp only [Nat.zero_add, Nat.sub_zero, List.getElem?_toArray]
            rw [List.getElem?_append_left (by simp only at hj; omega)]; exact hv
          · rw [hnone k] at hp; cases hp
      · intro c k p c' k' p' hp hp' hb he
        rcases Emb.addRow_inv hp with ⟨rfl, rfl, rfl⟩ | hp <;> rcases Emb.addRow_inv hp' with ⟨rfl, rfl, rfl⟩ | hp'
        · exact ⟨rfl, rfl, rfl⟩
        · have := hr.ltr _ _ _ hp'; simp only at he; omega
        · have := hr.ltr _ _ _ hp; simp only at he; omega
        · exact hr.inj c k p c' k' p' hp hp' hb he
      · intro c k p c' b hp hb
        rcases Emb.addRow_inv hp with ⟨rfl, rfl, rfl⟩ | hp
        · have := hr.lto c' b hb; simp only; omega
        · exact hr.injr c k p c' b hp hb
      · intro c k p hp
        rw [hh]
        rcases Emb.addRow_inv hp with ⟨rfl, rfl, rfl⟩ | hp
        · simp
        · have := hr.ltr c k p hp; simp; omega
      · intro c b hb
        rw [hh]; have := hr.lto c b hb; simp; omega
      · intro c cs' ver fl ro k p hc hp
        rcases Emb.addRow_inv hp with ⟨_, rfl, _⟩ | hp
        · omega
        · obtain ⟨o, ho, _⟩ := hr.rowc c k p hp
          have hlt := (List.getElem?_eq_some_iff.1 ho).1
          rw [List.getElem?_append_left hlt] at hc
          exact hr.vers c cs' ver fl ro k p hc hp
    · intro c k p hp
      rcases Emb.addRow_inv hp with ⟨rfl, rfl, rfl⟩ | hp
      · exact .inr ⟨.inl (Nat.le_refl _), .inl (Nat.le_refl _)⟩
      · exact .inl hp
    · intro c hc _
      rw [List.getElem?_append_left hc]
  · cases hn

end Go.Proofs.YtnamhjdfegohbaaGreatDoor.Ab

/- MEMORY, second part: writes, appends, maps and iterators. -/
namespace Go.Proofs.YtnamhjdfegohbaaGreatDoor.Ab
open Go Go.RowKit

theorem set_get {α : Type} {l : List α} {i : Nat} {v : α} (h : i < l.length) (j : Nat) : (l.set i v)[j]? = if j = i then some v else l[j]? := by
  rw [List.getElem?_set]
  by_cases h1 : i = j
  · subst h1; simp [h]
  · rw [if_neg h1, if_neg (Ne.symm h1)]

/-- One block is written, of one class; all else lies as it lay. -/
structure OneW (w w' : World) (b : Nat) : Prop where
  os : w'.os = w.os
  tape : w'.tape = w.tape
  out : w'.output = w.output
  size : w'.heap.size = w.heap.size
  other : ∀ j, j ≠ b → w'.heap[j]? = w.heap[j]?

theorem OneW.put {w : World} {b : Nat} {C : List Value} {e : TypeId} {fr : Nat × Nat} (h : b < w.heap.size) : OneW w (putRow w b C e fr) b :=
  ⟨rfl, rfl, rfl, by simp [putRow], fun j hj => by rw [putRow_get h, if_neg hj]⟩

/-- A class's object is replaced; the embedding gets at most one version more of it. -/
theorem set_step {F : Nat → Nat} {base : Nat} {m m' : Emb} {h : AH} {w w' : World} (hr : RelH F base m h w) {c b : Nat} {o o' : AO} (hc : h[c]? = some o) (hk : o'.isRow = o.isRow) (hm : m.le m')
    (hmr : ∀ c' k p, m'.row c' k = some p → m.row c' k = some p ∨ (c' = c ∧ ∃ k0 p0, m.row c k0 = some p0 ∧ p0.blk = p.blk ∧ p0.base + p.lo = p.base + p0.lo ∧ p0.siz = p.siz))
    (hmo : m'.obj = m.obj) (hone : OneW w w' b) (hbase : base ≤ b) (hbc : ∀ c' k p, m.row c' k = some p → p.blk = b → c' = c) (hbo : ∀ c', m.obj c' = some b → c' = c) (hhas : m.has b)
    (hob : ObjRel F base m' w' c o') (hv : ∀ cs ver fl ro k p, o' = .row cs ver fl ro → m'.row c k = some p → k ≤ ver) : StepR F base m h w m' (h.set c o') w' := by
  have hlt := (List.getElem?_eq_some_iff.1 hc).1
  have hget : ∀ j, (h.set c o')[j]? = if j = c then some o' else h[j]? := set_get hlt
  have old : ∀ c' k p, m'.row c' k = some p → ∃ k0 p0, m.row c' k0 = some p0 ∧ p0.blk = p.blk ∧ p0.base + p.lo = p.base + p0.lo ∧ p0.siz = p.siz := by
    intro c' k p hp
    rcases hmr c' k p hp with hp | ⟨rfl, k0, p0, h1⟩
    · exact ⟨k, p, hp, rfl, rfl, rfl⟩
    · exact ⟨k0, p0, h1⟩
  refine ⟨hm, ?_, hone.os, hone.tape, hone.out, by rw [hone.size]; exact Nat.le_refl _, ?_, ?_, ?_, ?_, by simp⟩
  · refine ⟨?_, ?_, ?_, ?_, ?_, ?_, ?_, ?_, ?_, by rw [hone.size]; exact hr.le⟩
    · intro c' k p hp
      obtain ⟨k0, p0, h1, _⟩ := old c' k p hp
      obtain ⟨u, hu, hi⟩ := hr.rowc c' k0 p0 h1
      rw [hget]
      by_cases he : c' = c
      · subst he
        rw [hc] at hu; cases hu
        exact ⟨o', if_pos rfl, hk.trans hi⟩
      · exact ⟨u, by rw [if_neg he]; exact hu, hi⟩
    · intro c' i hi
      rw [hmo] at hi
      obtain ⟨u, hu, hi⟩ := hr.objc c' i hi
      rw [hget]
      by_cases he : c' = c
      · subst he
        rw [hc] at hu; cases hu
        exact ⟨o', if_pos rfl, hk.trans hi⟩
      · exact ⟨u, by rw [if_neg he]; exact hu, hi⟩
    · intro c' u hu
      rw [hget] at hu
      by_cases he : c' = c
      · subst he; rw [if_pos rfl] at hu; cases hu; exact hob
      · rw [if_neg he] at hu
        refine ObjRel.keep (hr.ob c' u hu) hm ?_ (fun i hi => by rw [hmo] at hi; exact hi) ?_ ?_
        · intro k p hp
          rcases hmr c' k p hp with hp | ⟨h1, _⟩
          · exact hp
          · exact absurd h1 he
        · intro k p hp
          exact hone.other _ fun hb => he (hbc c' k p hp hb)
        · intro i hi
          exact hone.other _ fun hb => he (hbo c' (hb ▸ hi))
    · intro c1 k1 p1 c2 k2 p2 hp1 hp2 hb hbe
      obtain ⟨k3, p3, h3, e3, f3, g3⟩ := old c1 k1 p1 hp1
      obtain ⟨k4, p4, h4, e4, f4, g4⟩ := old c2 k2 p2 hp2
      obtain ⟨r1, r2, r3⟩ := hr.inj c1 k3 p3 c2 k4 p4 h3 h4 (by omega) (by omega)
      exact ⟨r1, by omega, by omega⟩
    · rw [hmo]; exact hr.injo
    · intro c1 k1 p1 c2 i hp1 hi
      rw [hmo] at hi
      obtain ⟨k3, p3, h3, e3, _⟩ := old c1 k1 p1 hp1
      rw [← e3]; exact hr.injr c1 k3 p3 c2 i h3 hi
    · intro c1 k1 p1 hp1
      obtain ⟨k3, p3, h3, e3, _⟩ := old c1 k1 p1 hp1
      rw [hone.size, ← e3]; exact hr.ltr c1 k3 p3 h3
    · rw [hmo, hone.size]; exact hr.lto
    · intro c1 cs ver fl ro k p hu hp
      rw [hget] at hu
      by_cases he : c1 = c
      · subst he; rw [if_pos rfl] at hu; cases hu; exact hv _ _ _ _ _ _ rfl hp
      · rw [if_neg he] at hu
        rcases hmr c1 k p hp with hp | ⟨h1, _⟩
        · exact hr.vers c1 cs ver fl ro k p hu hp
        · exact absurd h1 he
  · intro i hi hb
    refine hone.other i fun he => ?_
    rcases hb with hb | hb
    · omega
    · exact hb (he ▸ hhas)
  · intro c1 k1 p1 hp1
    rcases hmr c1 k1 p1 hp1 with hp | ⟨rfl, k0, p0, h1, h2, _⟩
    · exact .inl hp
    · exact .inr ⟨.inr ⟨k0, p0, h1⟩, .inr ⟨k0, p0, h1, h2⟩⟩
  · intro c1 i hi; rw [hmo] at hi; exact .inl hi
  · intro c1 hc1 hnp
    rw [hget, if_neg]
    rintro rfl
    rcases hhas with ⟨c2, k, p, hp, hb⟩ | ⟨c2, hb⟩
    · have := hbc c2 k p hp hb; subst this; exact hnp (.inl ⟨k, p, hp⟩)
    · have := hbo c2 hb; subst this; exact hnp (.inr ⟨b, hb⟩)

theorem RelH.one_row {F : Nat → Nat} {base : Nat} {m : Emb} {h : AH} {w : World} (hr : RelH F base m h w) {c k : Nat} {p : Place} (hp : m.row c k = some p) (hb : base ≤ p.blk) : (∀ c' k' p', m.row c' k' = some p' → p'.blk = p.blk → c' = c) ∧ (∀ c', m.obj c' = some p.blk → c' = c) :=
  ⟨fun c' k' p' hp' he => ((hr.inj c k p c' k' p' hp hp' hb he.symm).1).symm, fun c' ho => absurd rfl (hr.injr c k p c' p.blk hp ho)⟩

/-- Cells are written. -/
theorem wr_step {P : Program} {F : Nat → Nat} {base : Nat} {m : Emb} {h : AH} {w : World} (hr : RelH F base m h w) {c k off : Nat} {xs : List AV} {h' : AH} (hw : wrRow h c k off xs = some h') {p : Place} (hp : m.row c k = some p) (hlo : p.lo ≤ off) (hext : off + xs.length ≤ p.ext) {vs : List Value} (hvs : RelL F m xs vs) :
    ∃ w', (storeCells ⟨p.blk, p.base + (off - p.lo), none⟩ vs).run P w = .ok () w' ∧ StepR F base m h w m h' w' := by
  unfold wrRow at hw
  split at hw
  · rename_i cs ver fl hc
    split at hw
    · rename_i hcond
      obtain ⟨rfl, hfl, hl, hsc⟩ := hcond
      simp only [Option.some.injEq] at hw
      subst hw
      obtain ⟨_, h2, h3, h4, C, e, fr, hg, hs, hb, hf, hcell⟩ := hr.ob c _ hc k p hp hfl
      have hlen := hvs.length
      have hbase := h4 rfl
      have hone : ∀ v ∈ vs, v.oneCell' = true := by
        intro v hv
        obtain ⟨i, hi⟩ := List.mem_iff_getElem?.1 hv
        have hlt := (List.getElem?_eq_some_iff.1 hi).1
        obtain ⟨v', hv', hx⟩ := hvs.get i xs[i] (by simp)
        rw [hi] at hv'; cases hv'
        exact hx.one (List.all_eq_true.1 hsc _ (by simp))
      have hrun := run_stores (P := P) p.blk (p.base + (off - p.lo)) e fr vs 0 w C.toList (by simpa using hg) (by simp; omega) (by simp only [Array.length_toList, hs]; exact hf rfl) hone
      refine ⟨_, hrun, ?_⟩
      obtain ⟨o1, o2⟩ := hr.one_row hp hbase
      refine set_step hr hc rfl (Emb.le_refl m) (fun _ _ _ h => .inl h) rfl (OneW.put (heap_lt hg)) hbase o1 o2 (.inl ⟨c, k, p, hp, rfl⟩) ?_ ?_
      · intro k' p' hp' hk'
        have := hr.vers c _ _ _ _ k' p' hc hp'
        obtain rfl : k' = k := by omega
        rw [hp] at hp'; cases hp'
        refine ⟨Nat.le_refl _, ?_, fun _ => ?_, fun _ => hbase, (splice C.toList (p.base + (off - p.lo) + 0) vs).toArray, e, fr, by rw [putRow_get (heap_lt hg), if_pos rfl], ?_, hb, fun _ => hf rfl, ?_⟩
        · rw [splice_length hl]; exact h2
        · rw [splice_length hl]; exact h3 rfl
        · rw [← hs]; simp only [List.size_toArray]; rw [splice_length (by simp; omega)]; simp
        · intro j hj1 hj2
          obtain ⟨x, v, hx, hv, hxv⟩ := hcell j hj1 hj2
          rw [splice_get hl, List.getElem?_toArray, splice_get (by simp; omega)]
          by_cases g1 : j < off
          · exact ⟨x, v, by rw [if_pos g1]; exact hx, by rw [if_pos (by omega)]; simpa using hv, hxv⟩
          · by_cases g2 : j < off + xs.length
            · obtain ⟨y, hy⟩ : ∃ y, xs[j - off]? = some y := ⟨xs[j - off], by simp⟩
              obtain ⟨u, hu, hyu⟩ := hvs.get _ y hy
              refine ⟨y, u, by rw [if_neg g1, if_pos g2]; exact hy, ?_, hyu⟩
              rw [if_neg (by omega), if_pos (by omega)]
              rw [show p.base + (j - p.lo) - (p.base + (off - p.lo) + 0) = j - off by omega]; exact hu
            · exact ⟨x, v, by rw [if_neg g1, if_neg g2]; exact hx, by rw [if_neg (by omega), if_neg (by omega)]; simpa using hv, hxv⟩
      · intro cs' ver' fl' ro' k' p' he hp'
        cases he
        exact hr.vers c _ _ _ _ k' p' hc hp'
    · cases hw
  · cases hw

end Go.Proofs.YtnamhjdfegohbaaGreatDoor.Ab

/- MEMORY, third part: append; new maps and iterators, and their turns. -/
namespace Go.Proofs.YtnamhjdfegohbaaGreatDoor.Ab
open Go Go.RowKit

/-- A class gets a new home, in a new block. -/
theorem grow_step {F : Nat → Nat} {base : Nat} {m : Emb} {h : AH} {w w' : World} (hr : RelH F base m h w) {c ver fl off : Nat} {cs xs : List AV} (hc : h[c]? = some (.row cs ver fl false)) (hoff : off ≤ cs.length)
    {vs rest : List Value} (hvs : RelL F m (cs.drop off ++ xs) vs) (hsc : xs.all AV.sc = true) {t : TypeId} (hh : w'.heap = w.heap.push (.cells (vs ++ rest).toArray t (0, 0))) (ho : w'.os = w.os) (ht : w'.tape = w.tape) (hu : w'.output = w.output) :
    StepR F base m h w (m.addRow c (ver + 1) ⟨w.heap.size, 0, off, cs.length + xs.length, vs.length + rest.length⟩) (h.set c (.row (cs ++ xs) (ver + 1) fl false)) w' ∨ ¬ m.placed c := by
  by_cases hpl : m.placed c
  case neg => exact .inr hpl
  refine .inl ?_
  have hlt := (List.getElem?_eq_some_iff.1 hc).1
  have hget : ∀ j, (h.set c (.row (cs ++ xs) (ver + 1) fl false))[j]? = if j = c then some (.row (cs ++ xs) (ver + 1) fl false) else h[j]? := set_get hlt
  have hnone : m.row c (ver + 1) = none := by
    cases hk : m.row c (ver + 1) with
    | none => rfl
    | some p => have := hr.vers c _ _ _ _ _ p hc hk; omega
  have hm := Emb.le_addRow (p := ⟨w.heap.size, 0, off, cs.length + xs.length, vs.length + rest.length⟩) hnone
  have hold : ∀ b : Nat, b < w.heap.size → w'.heap[b]? = w.heap[b]? := by
    intro b hb
    rw [hh, Array.getElem?_push, if_neg (by omega)]
  have hlen := hvs.length
  simp only [List.length_append, List.length_drop] at hlen
  obtain ⟨k0, p0, hp0⟩ : ∃ k p, m.row c k = some p := by
    rcases hpl with h1 | ⟨b, hb⟩
    · exact h1
    · obtain ⟨o, ho, hi⟩ := hr.objc c b hb; rw [hc] at ho; cases ho; cases hi
  refine ⟨hm, ?_, ho, ht, hu, by rw [hh]; simp, fun b hb _ => hold b hb, ?_, fun c b h => .inl h, ?_, by simp⟩
  · refine ⟨?_, ?_, ?_, ?_, hr.injo, ?_, ?_, ?_, ?_, by rw [hh]; have := hr.le; simp; omega⟩
    · intro c' k p hp
      rw [hget]
      by_cases he : c' = c
      · exact ⟨_, if_pos he, rfl⟩
      · rw [if_neg he]
        rcases Emb.addRow_inv hp with ⟨h1, _, _⟩ | hp
        · exact absurd h1 he
        · exact hr.rowc c' k p hp
    · intro c' b hb
      obtain ⟨o, ho, hi⟩ := hr.objc c' b hb
      rw [hget]
      by_cases he : c' = c
      · subst he; rw [hc] at ho; cases ho; cases hi
      · rw [if_neg he]; exact ⟨o, ho, hi⟩
    · intro c' o hc'
      rw [hget] at hc'
      by_cases he : c' = c
      · subst he
        rw [if_pos rfl] at hc'; cases hc'
        intro k p hp hk
        rcases Emb.addRow_inv hp with ⟨_, rfl, rfl⟩ | hp
        · refine ⟨Nat.le_refl _, by simp, fun _ => by simp, fun _ => hr.le, (vs ++ rest).toArray, t, (0, 0), by rw [hh]; simp, by simp, by simp; omega, fun _ => .inr (Nat.le_refl _), ?_⟩
          intro j hj1 hj2
          simp only at hj1 hj2
          obtain ⟨x, hx⟩ : ∃ x, (cs ++ xs)[j]? = some x := ⟨(cs ++ xs)[j]'(by simp; omega), by simp⟩
          have hx' : (cs.drop off ++ xs)[j - off]? = some x := by
            rw [← hx]
            by_cases g : j < cs.length
            · rw [List.getElem?_append_left (by simp; omega), List.getElem?_append_left g, List.getElem?_drop]; congr 1; omega
            · rw [List.getElem?_append_right (by simp; omega), List.getElem?_append_right (by omega)]; congr 1; simp; omega
          obtain ⟨v, hv, hxv⟩ := hvs.get _ x hx'
          refine ⟨x, v, hx, ?_, RelV.mono hm _ _ hxv⟩
          simp only [Nat.zero_add, List.getElem?_toArray]
          rw [List.getElem?_append_left (by omega)]; exact hv
        · obtain ⟨h1, h2, h3, h4, C, e, fr, hg, hs, hb, hf, hcell⟩ := hr.ob c' _ hc k p hp hk
          refine ⟨by omega, by simp; omega, fun he => by omega, h4, C, e, fr, by rw [hold _ (hr.ltr c' k p hp), hg], hs, hb, hf, fun j hj1 hj2 => ?_⟩
          obtain ⟨x, v, hx, hv, hxv⟩ := hcell j hj1 hj2
          exact ⟨x, v, by rw [List.getElem?_append_left (by omega)]; exact hx, hv, RelV.mono hm _ _ hxv⟩
      · rw [if_neg he] at hc'
        refine ObjRel.keep (hr.ob c' o hc') hm ?_ (fun b hb => hb) (fun k p hp => hold _ (hr.ltr c' k p hp)) (fun b hb => hold _ (hr.lto c' b hb))
        intro k p hp
        rcases Emb.addRow_inv hp with ⟨h1, _, _⟩ | hp
        · exact absurd h1 he
        · exact hp
    · intro c1 k p c2 k' p' hp hp' hb he
      rcases Emb.addRow_inv hp with ⟨e1, e2, e3⟩ | hq <;> rcases Emb.addRow_inv hp' with ⟨e4, e5, e6⟩ | hq'
      · subst e1 e2 e3 e4 e5 e6; exact ⟨rfl, rfl, rfl⟩
      · have := hr.ltr _ _ _ hq'; rw [e3] at he; simp only at he; omega
      · have := hr.ltr _ _ _ hq; rw [e6] at he; simp only at he; omega
      · exact hr.inj c1 k p c2 k' p' hq hq' hb he
    · intro c1 k p c2 b hp hb
      rcases Emb.addRow_inv hp with ⟨rfl, rfl, rfl⟩ | hp
      · have := hr.lto c2 b hb; simp only; omega
      · exact hr.injr c1 k p c2 b hp hb
    · intro c1 k p hp
      rw [hh]
      rcases Emb.addRow_inv hp with ⟨rfl, rfl, rfl⟩ | hp
      · simp
      · have := hr.ltr c1 k p hp; simp; omega
    · intro c1 b hb
      rw [hh]; have := hr.lto c1 b hb; simp; omega
    · intro c1 cs' ver' fl' ro k p hc1 hp
      rw [hget] at hc1
      by_cases he : c1 = c
      · subst he
        rw [if_pos rfl] at hc1; cases hc1
        rcases Emb.addRow_inv hp with ⟨_, rfl, _⟩ | hp
        · exact Nat.le_refl _
        · have := hr.vers c1 _ _ _ _ k p hc hp; omega
      · rw [if_neg he] at hc1
        rcases Emb.addRow_inv hp with ⟨h1, _, _⟩ | hp
        · exact absurd h1 he
        · exact hr.vers c1 cs' ver' fl' ro k p hc1 hp
  · intro c1 k p hp
    rcases Emb.addRow_inv hp with ⟨rfl, rfl, rfl⟩ | hp
    · exact .inr ⟨.inr ⟨k0, p0, hp0⟩, .inl (Nat.le_refl _)⟩
    · exact .inl hp
  · intro c1 _ hn
    rw [hget, if_neg]
    rintro rfl
    exact hn hpl

/-- An append in place. -/
theorem place_step {P : Program} {F : Nat → Nat} {base : Nat} {m : Emb} {h : AH} {w : World} (hr : RelH F base m h w) {c ver fl : Nat} {cs xs : List AV} (hc : h[c]? = some (.row cs ver fl false)) (hfl : fl ≤ ver) {p : Place} (hp : m.row c ver = some p)
    {vs : List Value} (hvs : RelL F m xs vs) (hsc : xs.all AV.sc = true) (hfit : p.base + (p.ext - p.lo) + xs.length ≤ p.siz) (hlo : p.lo ≤ p.ext ∨ xs.length = 0) :
    ∃ w', (storeCells ⟨p.blk, p.base + (p.ext - p.lo), none⟩ vs).run P w = .ok () w' ∧
      StepR F base m h w (m.addRow c (ver + 1) ⟨p.blk, p.base, p.lo, p.ext + xs.length, p.siz⟩) (h.set c (.row (cs ++ xs) (ver + 1) fl false)) w' := by
  obtain ⟨_, h2, h3, h4, C, e, fr, hg, hs, hb, hf, hcell⟩ := hr.ob c _ hc ver p hp hfl
  have hlen := hvs.length
  have hbase := h4 rfl
  have hext := h3 rfl
  have hone : ∀ v ∈ vs, v.oneCell' = true := by
    intro v hv
    obtain ⟨i, hi⟩ := List.mem_iff_getElem?.1 hv
    have hlt := (List.getElem?_eq_some_iff.1 hi).1
    obtain ⟨v', hv', hx⟩ := hvs.get i xs[i] (by simp)
    rw [hi] at hv'; cases hv'
    exact hx.one (List.all_eq_true.1 hsc _ (by simp))
  have hrun := run_stores (P := P) p.blk (p.base + (p.ext - p.lo)) e fr vs 0 w C.toList (by simpa using hg) (by simp; omega) (by simp only [Array.length_toList, hs]; exact hf rfl) hone
  refine ⟨_, hrun, ?_⟩
  have hnone : m.row c (ver + 1) = none := by
    cases hk : m.row c (ver + 1) with
    | none => rfl
    | some p => have := hr.vers c _ _ _ _ _ p hc hk; omega
  have hm := Emb.le_addRow (p := ⟨p.blk, p.base, p.lo, p.ext + xs.length, p.siz⟩) hnone
  obtain ⟨o1, o2⟩ := hr.one_row hp hbase
  have hsplice : (splice C.toList (p.base + (p.ext - p.lo) + 0) vs).length = C.toList.length := splice_length (by simp; omega)
  refine set_step hr hc rfl hm ?_ rfl (OneW.put (heap_lt hg)) hbase o1 o2 (.inl ⟨c, ver, p, hp, rfl⟩) ?_ ?_
  · intro c' k p' hp'
    rcases Emb.addRow_inv hp' with ⟨rfl, rfl, rfl⟩ | hp'
    · exact .inr ⟨rfl, ver, p, hp, rfl, rfl, rfl⟩
    · exact .inl hp'
  · intro k p' hp' hk
    rcases Emb.addRow_inv hp' with ⟨_, rfl, rfl⟩ | hp'
    · refine ⟨Nat.le_refl _, by simp; omega, fun _ => by simp; omega, fun _ => hbase, (splice C.toList (p.base + (p.ext - p.lo) + 0) vs).toArray, e, fr, by rw [putRow_get (heap_lt hg), if_pos rfl], by simp only [List.size_toArray]; rw [hsplice]; simpa using hs, by simp only; omega, fun _ => hf rfl, ?_⟩
      intro j hj1 hj2
      simp only at hj1 hj2
      rw [List.getElem?_toArray, splice_get (by simp; omega)]
      by_cases g : j < p.ext
      · obtain ⟨x, v, hx, hv, hxv⟩ := hcell j hj1 g
        exact ⟨x, v, by rw [List.getElem?_append_left (by omega)]; exact hx, by rw [if_pos (by simp only; omega)]; simpa using hv, RelV.mono hm _ _ hxv⟩
      · obtain ⟨y, hy⟩ : ∃ y, xs[j - p.ext]? = some y := ⟨xs[j - p.ext]'(by omega), by simp⟩
        obtain ⟨u, hu, hyu⟩ := hvs.get _ y hy
        refine ⟨y, u, by rw [List.getElem?_append_right (by omega), ← hext]; exact hy, ?_, RelV.mono hm _ _ hyu⟩
        rw [if_neg (by simp only; omega), if_pos (by simp only; omega)]
        simp only
        rw [show p.base + (j - p.lo) - (p.base + (p.ext - p.lo) + 0) = j - p.ext by omega]; exact hu
    · obtain ⟨g1, g2, g3, g4, C', e', fr', hg', hs', hb', hf', hcell'⟩ := hr.ob c _ hc k p' hp' hk
      by_cases hbl : p'.blk = p.blk
      · obtain ⟨_, a2, a3⟩ := hr.inj c ver p c k p' hp hp' hbase hbl.symm
        rw [hbl, hg] at hg'; cases hg'
        refine ⟨by omega, by simp; omega, fun he => by omega, g4, (splice C.toList (p.base + (p.ext - p.lo) + 0) vs).toArray, e, fr, by rw [hbl, putRow_get (heap_lt hg), if_pos rfl], by simp only [List.size_toArray]; rw [hsplice]; simp; omega, hb', hf', ?_⟩
        intro j hj1 hj2
        obtain ⟨x, v, hx, hv, hxv⟩ := hcell' j hj1 hj2
        refine ⟨x, v, by rw [List.getElem?_append_left (by omega)]; exact hx, ?_, RelV.mono hm _ _ hxv⟩
        rw [List.getElem?_toArray, splice_get (by simp; omega), if_pos (by omega)]; simpa using hv
      · refine ⟨by omega, by simp; omega, fun he => by omega, g4, C', e', fr', by rw [putRow_get (heap_lt hg), if_neg hbl, hg'], hs', hb', hf', ?_⟩
        intro j hj1 hj2
        obtain ⟨x, v, hx, hv, hxv⟩ := hcell' j hj1 hj2
        exact ⟨x, v, by rw [List.getElem?_append_left (by omega)]; exact hx, hv, RelV.mono hm _ _ hxv⟩
  · intro cs' ver' fl' ro' k p' he hp'
    cases he
    rcases Emb.addRow_inv hp' with ⟨_, rfl, _⟩ | hp'
    · exact Nat.le_refl _
    · have := hr.vers c _ _ _ _ k p' hc hp'; omega

/-! ### New maps and iterators -/
theorem newObj_step {F : Nat → Nat} {base : Nat} {m : Emb} {h : AH} {w w' : World} (hr : RelH F base m h w) {o : AO} {ob : Obj} (ho : o.isRow = false) (hh : w'.heap = w.heap.push ob) (hos : w'.os = w.os) (ht : w'.tape = w.tape) (hu : w'.output = w.output)
    (hob : ObjRel F base (m.addObj h.length w.heap.size) w' h.length o) : StepR F base m h w (m.addObj h.length w.heap.size) (h ++ [o]) w' := by
  have hnone : ∀ k, m.row h.length k = none := by
    intro k
    cases hk : m.row h.length k with
    | none => rfl
    | some p => obtain ⟨o, ho, _⟩ := hr.rowc _ _ _ hk; simp at ho
  have hnone2 : m.obj h.length = none := by
    cases hk : m.obj h.length with
    | none => rfl
    | some p => obtain ⟨o, ho, _⟩ := hr.objc _ _ hk; simp at ho
  have hm : m.le (m.addObj h.length w.heap.size) := Emb.le_addObj hnone2
  have hold : ∀ b : Nat, b < w.heap.size → w'.heap[b]? = w.heap[b]? := by
    intro b hb
    rw [hh, Array.getElem?_push, if_neg (by omega)]
  refine ⟨hm, ?_, hos, ht, hu, by rw [hh]; simp, fun b hb _ => hold b hb, fun c k p h => .inl h, ?_, ?_, by simp⟩
  · refine ⟨?_, ?_, ?_, hr.inj, ?_, ?_, ?_, ?_, ?_, by rw [hh]; have := hr.le; simp; omega⟩
    · intro c k p hp
      obtain ⟨o, ho, hi⟩ := hr.rowc c k p hp
      exact ⟨o, by rw [List.getElem?_append_left (List.getElem?_eq_some_iff.1 ho).1]; exact ho, hi⟩
    · intro c b hb
      rcases Emb.addObj_inv hb with ⟨rfl, _⟩ | hb
      · exact ⟨o, by simp, ho⟩
      · obtain ⟨o, ho, hi⟩ := hr.objc c b hb
        exact ⟨o, by rw [List.getElem?_append_left (List.getElem?_eq_some_iff.1 ho).1]; exact ho, hi⟩
    · intro c u hc
      by_cases hlt : c < h.length
      · rw [List.getElem?_append_left hlt] at hc
        refine ObjRel.keep (hr.ob c u hc) hm (fun k p hp => hp) ?_ (fun k p hp => hold _ (hr.ltr c k p hp)) (fun b hb => hold _ (hr.lto c b hb))
        intro b hb
        rcases Emb.addObj_inv hb with ⟨rfl, _⟩ | hb
        · omega
        · exact hb
      · rw [List.getElem?_append_right (by omega)] at hc
        have hce : c = h.length := by
          by_cases he : c = h.length
          · exact he
          · rw [List.getElem?_eq_none (by simp; omega)] at hc; cases hc
        subst hce
        simp only [Nat.sub_self, List.getElem?_cons_zero, Option.some.injEq] at hc
        subst hc
        exact hob
    · intro c c' b h1 h2
      rcases Emb.addObj_inv h1 with ⟨rfl, rfl⟩ | h1 <;> rcases Emb.addObj_inv h2 with ⟨rfl, h3⟩ | h2
      · rfl
      · have := hr.lto _ _ h2; omega
      · have := hr.lto _ _ h1; omega
      · exact hr.injo c c' b h1 h2
    · intro c k p c' b hp hb
      rcases Emb.addObj_inv hb with ⟨rfl, rfl⟩ | hb
      · have := hr.ltr c k p hp; omega
      · exact hr.injr c k p c' b hp hb
    · intro c k p hp
      rw [hh]; have := hr.ltr c k p hp; simp; omega
    · intro c b hb
      rw [hh]
      rcases Emb.addObj_inv hb with ⟨rfl, rfl⟩ | hb
      · simp
      · have := hr.lto c b hb; simp; omega
    · intro c cs ver fl ro k p hc hp
      obtain ⟨o, ho, _⟩ := hr.rowc c k p hp
      rw [List.getElem?_append_left (List.getElem?_eq_some_iff.1 ho).1] at hc
      exact hr.vers c cs ver fl ro k p hc hp
  · intro c b hb
    rcases Emb.addObj_inv hb with ⟨rfl, rfl⟩ | hb
    · exact .inr ⟨Nat.le_refl _, Nat.le_refl _⟩
    · exact .inl hb
  · intro c hc _
    rw [List.getElem?_append_left hc]

/-- A map or an iterator is turned. -/
theorem setObj_step {F : Nat → Nat} {base : Nat} {m : Emb} {h : AH} {w : World} (hr : RelH F base m h w) {c b : Nat} {o o' : AO} {ob : Obj} (hc : h[c]? = some o) (hk : o.isRow = false) (hk' : o'.isRow = false) (hb : m.obj c = some b) (hbase : base ≤ b)
    (hob : ObjRel F base m { w with heap := w.heap.setIfInBounds b ob } c o') : StepR F base m h w m (h.set c o') { w with heap := w.heap.setIfInBounds b ob } := by
  have hlt := hr.lto c b hb
  refine set_step hr hc (by rw [hk, hk']) (Emb.le_refl m) (fun _ _ _ h => .inl h) rfl (b := b) ⟨rfl, rfl, rfl, by simp, fun j hj => ?_⟩ hbase ?_ (fun c' h' => hr.injo c' c b h' hb) (.inr ⟨c, hb⟩) hob ?_
  · show (w.heap.setIfInBounds b ob)[j]? = _
    rw [Array.getElem?_setIfInBounds, if_neg (Ne.symm hj)]
  · intro c' k p hp he
    exact absurd he (hr.injr c' k p c b hp hb)
  · intro cs ver fl ro k p he _
    subst he; cases hk'

end Go.Proofs.YtnamhjdfegohbaaGreatDoor.Ab

/- OPERATIONS that turn no memory. -/
namespace Go.Proofs.YtnamhjdfegohbaaGreatDoor.Ab
open Go Go.RowKit

def Good (P : Program) (F : Nat → Nat) (base : Nat) (o : Oper) (a : Act) (m : Emb) (h : AH) (w : World) (r : AV) (h' : AH) : Prop :=
  ∀ Q, o.wp P a w (fun a' w' => ∃ v m', a' = a.put o.dst v ∧ RelV F m' r v ∧ StepR F base m h w m' h' w') Q

section
variable {P : Program} {F : Nat → Nat} {base : Nat} {o : Oper} {a : Act} {m m' : Emb} {h h' : AH} {w w' : World} {r : AV}

theorem good_value {v : Value} (hrun : (execOp a.eval o).run P w = .ok (.value v) w') (hv : RelV F m' r v) (hs : StepR F base m h w m' h' w') : Good P F base o a m h w r h' := by
  intro Q
  unfold Oper.wp
  rw [hrun]
  exact ⟨v, m', rfl, hv, hs⟩
theorem good_skip (hrun : (execOp a.eval o).run P w = .ok .skip w') (hs : StepR F base m h w m' h' w') : Good P F base o a m h w .undef h' := by
  intro Q
  unfold Oper.wp
  rw [hrun]
  exact ⟨undef, m', rfl, by simp only [RelV], hs⟩
/-- A value, the world as it was. -/
theorem good_pure {v : Value} (hr : RelH F base m h w) (hrun : (execOp a.eval o).run P w = .ok (.value v) w) (hv : RelV F m r v) : Good P F base o a m h w r h := good_value hrun hv (StepR.refl hr)

theorem good_after {m1 : Emb} {h1 : AH} (hst : StepR F base m h w m1 h1 w) (hg : Good P F base o a m1 h1 w r h') : Good P F base o a m h w r h' := by
  intro Q
  refine Oper.wp_mono ?_ (hg Q)
  rintro a' w' ⟨v, m', h1, h2, h3⟩
  exact ⟨v, m', h1, h2, hst.trans h3⟩

/-! ### Constants -/
mutual
theorem chkV_rel : ∀ (x : AV) (v : Value), chkV F x v = true → RelV F m x v
  | .int .., v, h => by cases v <;> simp [chkV] at h; obtain ⟨rfl, rfl⟩ := h; simp only [RelV]
  | .bool _, v, h => by cases v <;> simp [chkV] at h; subst h; simp only [RelV]
  | .str _, v, h => by cases v <;> simp [chkV] at h; subst h; simp only [RelV]
  | .nilS, v, h => by simp only [chkV] at h; simp only [RelV]; exact nilSv_eq h
  | .nilP, v, h => by simp only [chkV] at h; simp only [RelV]; exact nilPv_eq h
  | .nilM, v, h => by simp only [chkV] at h; simp only [RelV]; exact nilMv_eq h
  | .nilF, v, h => by cases v <;> simp [chkV] at h; simp only [RelV]
  | .nilI, v, h => by cases v <;> simp [chkV] at h; simp only [RelV]
  | .agg xs, v, h => by
    cases v <;> simp [chkV] at h
    rename_i vs
    simp only [RelV]; exact ⟨vs, rfl, chkVs_rel xs _ h⟩
  | .tup xs, v, h => by
    cases v <;> simp [chkV] at h
    rename_i vs
    simp only [RelV]; exact ⟨vs, rfl, chkVs_rel xs _ h⟩
  | .empS, v, h => by cases v <;> simp [chkV] at h
  | .slice .., v, h => by cases v <;> simp [chkV] at h
  | .ptr .., v, h => by cases v <;> simp [chkV] at h
  | .map _, v, h => by cases v <;> simp [chkV] at h
  | .iter _, v, h => by cases v <;> simp [chkV] at h
  | .fn .., v, h => by cases v <;> simp [chkV] at h
  | .ifc, v, h => by cases v <;> simp [chkV] at h
  | .undef, v, h => by simp only [RelV]
theorem chkVs_rel : ∀ (xs : List AV) (l : List Value), chkVs F xs l = true → RelL F m xs l
  | [], [], _ => by simp only [RelL]
  | [], _ :: _, h => by simp [chkVs] at h
  | _ :: _, [], h => by simp [chkVs] at h
  | x :: xs, v :: l, h => by
    simp only [chkVs, Bool.and_eq_true] at h
    simp only [RelL]
    exact ⟨v, l, rfl, chkV_rel x v h.1, chkVs_rel xs l h.2⟩
end

theorem chkO_rel {e : Env} (he : RelEnv F m e a.tmps) {x : Operand} {y : Opd} (hc : chkO F x y = true) : RelV F m (env e y) (a.eval x) := by
  unfold chkO at hc
  split at hc
  · have hc := of_decide_eq_true hc; subst hc
    exact he _
  · exact chkV_rel _ _ hc
  · have hc := of_decide_eq_true hc; subst hc
    simp only [env, RelV, Act.eval]
    exact ⟨#[], rfl, rfl⟩
  · cases hc

/-! ### Inversions of the relation -/
theorem rel_int {k : IntKind} {n : Int} {v : Value} (h : RelV F m (.int k n) v) : v = .int k n := by simpa only [RelV] using h
theorem rel_bool {b : Bool} {v : Value} (h : RelV F m (.bool b) v) : v = .bool b := by simpa only [RelV] using h
theorem rel_str {s : List UInt8} {v : Value} (h : RelV F m (.str s) v) : v = .string ⟨s.toArray⟩ := by simpa only [RelV] using h
theorem rel_agg {xs : List AV} {v : Value} (h : RelV F m (.agg xs) v) : ∃ vs, v = .agg vs ∧ RelL F m xs vs.toList := by simpa only [RelV] using h
theorem rel_tup {xs : List AV} {v : Value} (h : RelV F m (.tup xs) v) : ∃ vs, v = .tuple vs ∧ RelL F m xs vs.toList := by simpa only [RelV] using h
theorem rel_ptr {c k off n : Nat} {v : Value} (h : RelV F m (.ptr c k off n) v) : ∃ p, m.row c k = some p ∧ v = .pointer (some ⟨p.blk, p.base + (off - p.lo), none⟩) ∧ p.lo ≤ off ∧ off + n ≤ p.ext := by simpa only [RelV] using h
theorem rel_slice {c k off len esz : Nat} {v : Value} (h : RelV F m (.slice c k off len esz) v) : ∃ p o cap, m.row c k = some p ∧ v = .slice (some ⟨p.blk, o, none⟩) len cap ∧ len ≤ cap ∧
      (cap = 0 ∨ (p.lo ≤ off ∧ o = p.base + (off - p.lo) ∧ off + len * esz ≤ p.ext ∧ p.base + (off - p.lo) + cap * esz ≤ p.siz)) := by simpa only [RelV] using h
theorem rel_fn {f : Nat} {cap : List AV} {v : Value} (h : RelV F m (.fn f cap) v) : ∃ vs, v = .func (.func (F f)) #[] vs ∧ RelL F m cap vs.toList := by simpa only [RelV] using h

theorem bytes_toList (s : List UInt8) : (⟨s.toArray⟩ : ByteArray).toList = s := by
  rw [ByteArray.toList_eq]
theorem bytes_size (s : List UInt8) : (⟨s.toArray⟩ : ByteArray).size = s.length := rfl

/-! ### The operations -/
variable {ρ : Opd → AV}

theorem s_mov {x : Operand} {y : Opd} (hr : RelH F base m h w) (hop : o.op = .move x ∨ o.op = .assign x) (hx : RelV F m (ρ y) (a.eval x)) : Good P F base o a m h w (ρ y) h := by
  refine good_pure (v := a.eval x) hr ?_ hx
  rcases hop with hop | hop <;> simp [execOp, hop]

theorem s_pick {x y z : Operand} {x' y' z' : Opd} (hr : RelH F base m h w) (hop : o.op = .pick x y z) (hx : RelV F m (ρ x') (a.eval x)) (hy : RelV F m (ρ y') (a.eval y)) (hz : RelV F m (ρ z') (a.eval z))
    {cf : CF} (hev : evOp cf ρ h (.pick x' y' z') = some (r, h')) : Good P F base o a m h w r h' := by
  simp only [evOp] at hev
  split at hev
  · rename_i t ht
    simp only [Option.some.injEq, Prod.mk.injEq] at hev
    obtain ⟨rfl, rfl⟩ := hev
    rw [ht] at hx
    have hx := rel_bool hx
    refine good_pure (v := if t then a.eval y else a.eval z) hr ?_ ?_
    · simp [execOp, hop, hx, asBool]
    · cases t
      · exact hz
      · exact hy
  · cases hev

theorem s_bin {op : BinOp} {t t2 : TypeId} {x y : Operand} {x' y' : Opd} (hr : RelH F base m h w) (hop : o.op = .binOp op t x y t2) (hx : RelV F m (ρ x') (a.eval x)) (hy : RelV F m (ρ y') (a.eval y))
    {cf : CF} (hev : evOp cf ρ h (.bin op x' y') = some (r, h')) : Good P F base o a m h w r h' := by
  simp only [evOp, Option.map_eq_some_iff, Prod.mk.injEq] at hev
  obtain ⟨u, hu, rfl, rfl⟩ := hev
  cases hX : ρ x' <;> cases hY : ρ y' <;> rw [hX, hY] at hu <;> simp only [evBin] at hu <;> try (cases hu; done)
  · rw [hX] at hx; rw [hY] at hy
    replace hx := rel_int hx; replace hy := rel_int hy
    cases op <;> simp only at hu <;> first
      | (split at hu
         · rename_i hk
           subst hk
           simp only [binI] at hu
           first
             | (cases hu
                refine good_pure hr (v := _) ?_ (by simp only [RelV]; rfl)
                simp [execOp, hop, hx, hy, eqGuard, binOp, Op.intArith, Op.intCmp, Op.intBits, bits]
                done)
             | (split at hu
                · cases hu
                · rename_i hz
                  cases hu
                  refine good_pure hr (v := _) ?_ (by simp only [RelV]; rfl)
                  simp [execOp, hop, hx, hy, eqGuard, binOp, Op.intDiv, hz]
                  done)
         · cases hu)
      | (simp only [binSh] at hu
         split at hu
         · cases hu
         · rename_i hz
           cases hu
           refine good_pure hr (v := _) ?_ (by simp only [RelV]; rfl)
           simp [execOp, hop, hx, hy, eqGuard, binOp, Op.shift, hz])
  · rw [hX] at hx; rw [hY] at hy
    replace hx := rel_str hx; replace hy := rel_str hy
    rename_i s s'
    cases op <;> simp only [binS] at hu <;> first
      | (cases hu; done)
      | (cases hu
         refine good_pure hr (v := _) ?_ (by simp only [RelV]; rfl)
         simp [execOp, hop, hx, hy, eqGuard, binOp, Op.stringOp, bytes_toList]
         done)
      | (split at hu
         · rename_i hl
           cases hu
           refine good_pure hr (v := .string (⟨s.toArray⟩ ++ ⟨s'.toArray⟩)) ?_ ?_
           · have : ¬ (IntKind.i64.max < ((s.length : Int) + (s'.length : Int))) := by
               have hm : IntKind.i64.max = 9223372036854775807 := by decide
               rw [hm]; unfold two63 at hl; omega
             simp [execOp, hop, hx, hy, eqGuard, binOp, Op.stringOp, bytes_size, this]
             unfold two63 at hl; omega
           · simp only [RelV]
             congr 1
         · cases hu)


theorem und_bool {t : TypeId} (h : isB P t = true) : P.underlying t = some .bool := by
  unfold isB at h; split at h
  · assumption
  · cases h
theorem und_str {t : TypeId} (h : isS P t = true) : P.underlying t = some .string := by
  unfold isS at h; split at h
  · assumption
  · cases h
theorem und_mapM {t : TypeId} (h : isM P t = true) : ∃ k e, P.underlying t = some (.map k e) := by
  unfold isM at h; split at h
  · rename_i k e hk; exact ⟨k, e, hk⟩
  · cases h
theorem und_int {t : TypeId} {k : IntKind} (h : isI P t k = true) : P.underlying t = some (.int k) := by
  unfold isI at h; split at h
  · rename_i k' hk; have := of_decide_eq_true h; subst this; exact hk
  · cases h
theorem sz_eq {t : TypeId} {n : Nat} (h : sz P t n = true) : ∃ i, P.info? t = some i ∧ i.size = n := by
  unfold sz at h; split at h
  · rename_i i hi; exact ⟨i, hi, of_decide_eq_true h⟩
  · cases h
theorem run_sz {t : TypeId} {n : Nat} (h : sz P t n = true) (w : World) : (sizeOf t).run P w = .ok n w := by
  obtain ⟨i, hi, hn⟩ := sz_eq h
  simp [sizeOf, typeInfo, hi, hn]
theorem run_isAg {t : TypeId} {b : Bool} (h : isAg P t b = true) (w : World) : (isAgg t).run P w = .ok b w := by
  unfold isAg at h
  split at h
  · rename_i hu; simp [isAgg, run_underlying hu, h]
  · rename_i hu; simp [isAgg, run_underlying hu, h]
  · rename_i d h1 h2 hu
    have hb : b = false := by simpa using h
    subst hb
    simp only [isAgg, Sem.run_bind, run_underlying hu, Result.andThen]
    cases d <;> simp_all
  · cases h
theorem mkv_rel {agg : Bool} {cs : List AV} {vs : List Value} (hm : mkv agg cs = some r) (hr : RelL F m cs vs) : (agg = true ∧ RelV F m r (.agg vs.toArray)) ∨ (agg = false ∧ ∃ v, vs = [v] ∧ RelV F m r v) := by
  unfold mkv at hm
  split at hm
  · rename_i h; cases hm
    refine .inl ⟨h, ?_⟩
    simp only [RelV]; exact ⟨_, rfl, by simpa using hr⟩
  · rename_i h
    split at hm
    · cases hm
      simp only [RelL] at hr
      obtain ⟨v, l, rfl, h1, rfl⟩ := hr
      exact .inr ⟨by simpa using h, v, rfl, h1⟩
    · cases hm
/-- part: cells out of a value's cells -/
theorem run_part {t : TypeId} {agg : Bool} {n off : Nat} {xs : List AV} {vs : Array Value} (hs : shp P t agg n = true) (hl : off + n ≤ xs.length) (hx : RelL F m xs vs.toList) (hm : mkv agg ((xs.drop off).take n) = some r) :
    ∃ v, (part t vs off).run P w = .ok v w ∧ RelV F m r v := by
  simp only [shp, Bool.and_eq_true, Bool.or_eq_true] at hs
  obtain ⟨⟨h1, h2⟩, h3⟩ := hs
  rcases mkv_rel hm ((hx.drop off).take n) with ⟨rfl, hv⟩ | ⟨rfl, v, hv, hrv⟩
  · refine ⟨_, ?_, hv⟩
    simp only [part, Sem.run_bind, run_isAg h1, Result.andThen, if_true, run_sz h2, Sem.run_pure]
    congr 2
    apply Array.ext'
    simp [List.take_drop]
  · have hn : n = 1 := by simpa using h3
    subst hn
    have hg : vs[off]? = some v := by
      have : (vs.toList.drop off).take 1 = [v] := hv
      have h0 : ((vs.toList.drop off).take 1)[0]? = some v := by rw [this]; rfl
      rw [List.getElem?_take_of_lt (by omega), List.getElem?_drop, Array.getElem?_toList] at h0
      simpa using h0
    exact ⟨v, by simp [part, run_isAg h1, hg], hrv⟩

theorem run_equal_bool {t : TypeId} (ht : P.underlying t = some .bool) (b c : Bool) (w : World) : (Op.equal t (.bool b) (.bool c)).run P w = .ok (b == c) w := by
  unfold Op.equal Op.maxDepth
  rw [show (10000 : Nat) = 9999 + 1 from rfl]
  unfold Op.equalIn
  simp only [Sem.run_bind, run_underlying ht, Result.andThen, Sem.run_pure]

theorem s_beq {op : BinOp} {t t2 : TypeId} {x y : Operand} {neg : Bool} {x' y' : Opd} (hr : RelH F base m h w) (hop : o.op = .binOp op t x y t2) (hb : op = if neg then .neq else .eql) (ht : isB P t = true) (hx : RelV F m (ρ x') (a.eval x)) (hy : RelV F m (ρ y') (a.eval y))
    {cf : CF} (hev : evOp cf ρ h (.beq neg x' y') = some (r, h')) : Good P F base o a m h w r h' := by
  simp only [evOp] at hev
  split at hev
  · rename_i u v hu hv
    rw [hu] at hx; rw [hv] at hy
    replace hx := rel_bool hx; replace hy := rel_bool hy
    cases hev
    refine good_pure hr (v := _) ?_ (by simp only [RelV]; rfl)
    cases neg <;> simp at hb <;> subst hb <;> simp [execOp, hop, hx, hy, eqGuard, binOp, run_equal_bool (und_bool ht)]
  · cases hev

theorem s_un {op : UnOp} {t : TypeId} {x : Operand} {x' : Opd} (hr : RelH F base m h w) (hop : o.op = .unOp op t x) (hx : RelV F m (ρ x') (a.eval x))
    {cf : CF} (hev : evOp cf ρ h (.un op x') = some (r, h')) : Good P F base o a m h w r h' := by
  simp only [evOp] at hev
  split at hev
  · rename_i k n hk
    rw [hk] at hx
    replace hx := rel_int hx
    cases hev
    refine good_pure hr (v := _) ?_ (by simp only [RelV]; rfl)
    simp [execOp, hop, hx, Op.unary, Op.intArith]
  · rename_i b hb
    rw [hb] at hx
    replace hx := rel_bool hx
    cases hev
    refine good_pure hr (v := _) ?_ (by simp only [RelV]; rfl)
    simp [execOp, hop, hx, Op.unary]
  · cases hev

theorem s_conv {s d : TypeId} {x : Operand} {k : IntKind} {x' : Opd} (hr : RelH F base m h w) (hop : o.op = .convert s d x) (hs : hasT P s = true) (hd : isI P d k = true) (hx : RelV F m (ρ x') (a.eval x))
    {cf : CF} (hev : evOp cf ρ h (.conv k x') = some (r, h')) : Good P F base o a m h w r h' := by
  simp only [evOp] at hev
  split at hev
  · rename_i k' n hk
    rw [hk] at hx
    replace hx := rel_int hx
    cases hev
    obtain ⟨u, hu⟩ := Option.isSome_iff_exists.1 hs
    refine good_pure hr (v := _) ?_ (by simp only [RelV]; rfl)
    simp [execOp, hop, hx, convert, run_underlying hu, run_underlying (und_int hd), Conv.intToInt]
  · cases hev

theorem s_ofR {s d : TypeId} {x : Operand} {x' : Opd} (hr : RelH F base m h w) (hop : o.op = .convert s d x) (hs : hasT P s = true) (hd : isS P d = true) (hx : RelV F m (ρ x') (a.eval x))
    {cf : CF} (hev : evOp cf ρ h (.ofR x') = some (r, h')) : Good P F base o a m h w r h' := by
  simp only [evOp] at hev
  split at hev
  · rename_i k' n hk
    rw [hk] at hx
    replace hx := rel_int hx
    cases hev
    obtain ⟨u, hu⟩ := Option.isSome_iff_exists.1 hs
    refine good_pure hr (v := .string (Utf8.encode n)) ?_ (by simp only [RelV])
    simp [execOp, hop, hx, convert, run_underlying hu, run_underlying (und_str hd), Conv.intToString]
  · cases hev

theorem s_nck {x : Operand} {x' : Opd} (hr : RelH F base m h w) (hop : o.op = .nilCheck x) (hx : RelV F m (ρ x') (a.eval x))
    {cf : CF} (hev : evOp cf ρ h (.nck x') = some (r, h')) : Good P F base o a m h w r h' := by
  simp only [evOp] at hev
  split at hev
  · rename_i c k off n hk
    rw [hk] at hx
    cases hev
    obtain ⟨p, hp, hv, _⟩ := rel_ptr hx
    refine good_pure hr (v := a.eval x) ?_ hx
    simp [execOp, hop, hv]
  · rename_i f cs hk
    rw [hk] at hx
    cases hev
    obtain ⟨vs, hv, _⟩ := rel_fn hx
    refine good_pure hr (v := a.eval x) ?_ hx
    simp [execOp, hop, hv]
  · cases hev

theorem s_prj {x : Operand} {i : Nat} {x' : Opd} (hr : RelH F base m h w) (hop : o.op = .extract x i) (hx : RelV F m (ρ x') (a.eval x))
    {cf : CF} (hev : evOp cf ρ h (.prj i x') = some (r, h')) : Good P F base o a m h w r h' := by
  simp only [evOp] at hev
  split at hev
  · rename_i vs hk
    rw [hk] at hx
    obtain ⟨us, hv, hl⟩ := rel_tup hx
    simp only [Option.map_eq_some_iff, Prod.mk.injEq] at hev
    obtain ⟨y, hy, rfl, rfl⟩ := hev
    obtain ⟨u, hu, hyu⟩ := hl.get i y hy
    refine good_pure hr (v := u) ?_ hyu
    rw [Array.getElem?_toList] at hu
    simp [execOp, hop, hv, Instr.extract, hu]
  · cases hev

theorem RelL.map {cs : List Operand} {xs : List Opd} (hx : ∀ x y, x ∈ cs → chkO F x y = true → RelV F m (ρ y) (a.eval x)) (hc : chkOs F cs xs = true) : RelL F m (xs.map ρ) (cs.map a.eval) := by
  induction cs generalizing xs with
  | nil => cases xs <;> simp [chkOs] at hc; simp [RelL]
  | cons c cs ih =>
    cases xs with
    | nil => simp [chkOs] at hc
    | cons x xs =>
      simp only [chkOs, Bool.and_eq_true] at hc
      simp only [List.map_cons, RelL]
      exact ⟨_, _, rfl, hx c x (by simp) hc.1, ih (fun u v hu hv => hx u v (by simp [hu]) hv) hc.2⟩

theorem s_mkfn {f g : Nat} {first caps : Array Operand} {ys : List Opd} (hr : RelH F base m h w) (hop : o.op = .makeFunc (.func f) first caps) (h1 : first.isEmpty = true) (hf : F g = f) (hc : chkOs F caps.toList ys = true)
    (hx : ∀ x y, x ∈ caps.toList → chkO F x y = true → RelV F m (ρ y) (a.eval x)) {cf : CF} (hev : evOp cf ρ h (.mkfn g ys) = some (r, h')) : Good P F base o a m h w r h' := by
  simp only [evOp] at hev
  cases hev
  have he : first = #[] := by simpa using h1
  subst he
  refine good_pure hr (v := .func (.func f) #[] (caps.map a.eval)) (by simp [execOp, hop, Instr.makeFunc]) ?_
  simp only [RelV]
  exact ⟨_, by rw [hf], by simpa using RelL.map hx hc⟩

end
end Go.Proofs.YtnamhjdfegohbaaGreatDoor.Ab

/- OPERATIONS, second part: addresses, indexes, slices, comparisons. -/
namespace Go.Proofs.YtnamhjdfegohbaaGreatDoor.Ab
open Go Go.RowKit

section
variable {P : Program} {F : Nat → Nat} {base : Nat} {o : Oper} {a : Act} {m m' : Emb} {h h' : AH} {w w' : World} {r : AV} {ρ : Opd → AV} {cf : CF}

theorem s_faddr {t : TypeId} {x : Operand} {f off n : Nat} {x' : Opd} (hr : RelH F base m h w) (hop : o.op = .fieldAddr t x f) {fs : Array Field} {g : Field} (hu : P.underlying t = some (.struct fs)) (hg : fs[f]? = some g) (ho : g.offset = off) (hs : sz P g.type n = true) (hn : 0 < n)
    (hx : RelV F m (ρ x') (a.eval x)) (hev : evOp cf ρ h (.faddr off n x') = some (r, h')) : Good P F base o a m h w r h' := by
  simp only [evOp] at hev
  split at hev
  · rename_i c k of' q hk
    rw [hk] at hx
    obtain ⟨p, hp, hv, hlo, hext⟩ := rel_ptr hx
    split at hev
    · rename_i hle
      cases hev
      refine good_pure hr (v := .pointer (some ⟨p.blk, p.base + (of' - p.lo) + off, none⟩)) ?_ ?_
      · have hn0 : ¬ n = 0 := by omega
        simp [execOp, hop, hv, Instr.fieldAt, run_underlying hu, hg, Instr.sureAddr, fieldPlace, run_sz hs, hn0, ho, addr_add]
      · simp only [RelV]
        exact ⟨p, hp, by congr 3; omega, by omega, by omega⟩
    · cases hev
  · cases hev

theorem s_fld {t : TypeId} {x : Operand} {f off n : Nat} {agg : Bool} {x' : Opd} (hr : RelH F base m h w) (hop : o.op = .field t x f) {fs : Array Field} {g : Field} (hu : P.underlying t = some (.struct fs)) (hg : fs[f]? = some g) (ho : g.offset = off) (hs : shp P g.type agg n = true)
    (hx : RelV F m (ρ x') (a.eval x)) (hev : evOp cf ρ h (.fld agg off n x') = some (r, h')) : Good P F base o a m h w r h' := by
  simp only [evOp] at hev
  split at hev
  · rename_i xs hk
    rw [hk] at hx
    obtain ⟨vs, hv, hl⟩ := rel_agg hx
    split at hev
    · rename_i hle
      simp only [Option.map_eq_some_iff, Prod.mk.injEq] at hev
      obtain ⟨y, hy, rfl, rfl⟩ := hev
      obtain ⟨v, hrun, hrv⟩ := run_part (P := P) (w := w) hs hle hl hy
      refine good_pure hr (v := v) ?_ hrv
      simp [execOp, hop, hv, Instr.field, run_underlying hu, hg, asAgg, ho, hrun]
    · cases hev
  · cases hev

theorem s_iaddr {t e : TypeId} {x i : Operand} {esz : Nat} {x' i' : Opd} (hr : RelH F base m h w) (hop : o.op = .indexAddr t x i) (hu : P.underlying t = some (.slice e)) (hs : sz P e esz = true)
    (hx : RelV F m (ρ x') (a.eval x)) (hi : RelV F m (ρ i') (a.eval i)) (hev : evOp cf ρ h (.iaddr esz x' i') = some (r, h')) : Good P F base o a m h w r h' := by
  simp only [evOp] at hev
  split at hev
  · rename_i c k off len e' kk j hk hj
    rw [hk] at hx; rw [hj] at hi
    replace hi := rel_int hi
    obtain ⟨p, of', cap, hp, hv, hlc, hcap⟩ := rel_slice hx
    split at hev
    · rename_i hc
      obtain ⟨rfl, h0, h1⟩ := hc
      cases hev
      have hcap' := hcap.resolve_left (by omega)
      obtain ⟨g1, rfl, g3, g4⟩ := hcap'
      have hjl : j.toNat * e' + e' ≤ len * e' := by
        have : (j.toNat + 1) * e' ≤ len * e' := Nat.mul_le_mul_right _ (by omega)
        rwa [Nat.succ_mul] at this
      refine good_pure hr (v := .pointer (some ⟨p.blk, p.base + (off - p.lo) + j.toNat * e', none⟩)) ?_ ?_
      · simp [execOp, hop, hv, hi, Instr.indexAt, asIntOf, run_underlying hu, h0, h1, run_sz hs, addr_add]
      · simp only [RelV]
        exact ⟨p, hp, by congr 3; omega, by omega, by omega⟩
    · cases hev
  · cases hev

theorem s_iaddrA {t e : TypeId} {x i : Operand} {len esz : Nat} {x' i' : Opd} (hr : RelH F base m h w) (hop : o.op = .indexAddr t x i) (hu : P.underlying t = some (.array len e)) (hs : sz P e esz = true)
    (hx : RelV F m (ρ x') (a.eval x)) (hi : RelV F m (ρ i') (a.eval i)) (hev : evOp cf ρ h (.iaddrA len esz x' i') = some (r, h')) : Good P F base o a m h w r h' := by
  simp only [evOp] at hev
  split at hev
  · rename_i c k off n kk j hk hj
    rw [hk] at hx; rw [hj] at hi
    replace hi := rel_int hi
    obtain ⟨p, hp, hv, hlo, hext⟩ := rel_ptr hx
    split at hev
    · rename_i hc
      obtain ⟨hle, h0, h1⟩ := hc
      cases hev
      have hjl : j.toNat * esz + esz ≤ len * esz := by
        have : (j.toNat + 1) * esz ≤ len * esz := Nat.mul_le_mul_right _ (by omega)
        rwa [Nat.succ_mul] at this
      refine good_pure hr (v := .pointer (some ⟨p.blk, p.base + (off - p.lo) + j.toNat * esz, none⟩)) ?_ ?_
      · simp [execOp, hop, hv, hi, Instr.indexAt, Instr.sureAddr, asIntOf, run_underlying hu, h0, h1, run_sz hs, addr_add]
      · simp only [RelV]
        exact ⟨p, hp, by congr 3; omega, by omega, by omega⟩
    · cases hev
  · cases hev

theorem s_idx {t e : TypeId} {x i : Operand} {agg : Bool} {len esz : Nat} {x' i' : Opd} (hr : RelH F base m h w) (hop : o.op = .index t x i) (hu : P.underlying t = some (.array len e)) (hs : shp P e agg esz = true)
    (hx : RelV F m (ρ x') (a.eval x)) (hi : RelV F m (ρ i') (a.eval i)) (hev : evOp cf ρ h (.idx agg len esz x' i') = some (r, h')) : Good P F base o a m h w r h' := by
  simp only [evOp] at hev
  split at hev
  · rename_i xs kk j hk hj
    rw [hk] at hx; rw [hj] at hi
    replace hi := rel_int hi
    obtain ⟨vs, hv, hl⟩ := rel_agg hx
    split at hev
    · rename_i hc
      obtain ⟨hle, h0, h1⟩ := hc
      simp only [Option.map_eq_some_iff, Prod.mk.injEq] at hev
      obtain ⟨y, hy, rfl, rfl⟩ := hev
      have hjl : j.toNat * esz + esz ≤ len * esz := by
        have : (j.toNat + 1) * esz ≤ len * esz := Nat.mul_le_mul_right _ (by omega)
        rwa [Nat.succ_mul] at this
      obtain ⟨v, hrun, hrv⟩ := run_part (P := P) (w := w) hs (by omega) hl hy
      refine good_pure hr (v := v) ?_ hrv
      have hs' := hs
      simp only [shp, Bool.and_eq_true] at hs'
      simp [execOp, hop, hv, hi, Instr.index, asIntOf, run_underlying hu, h0, h1, run_sz hs'.1.2, hrun]
    · cases hev
  · cases hev

theorem s_idxS {t : TypeId} {x i : Operand} {x' i' : Opd} (hr : RelH F base m h w) (hop : o.op = .index t x i) (hu : P.underlying t = some .string)
    (hx : RelV F m (ρ x') (a.eval x)) (hi : RelV F m (ρ i') (a.eval i)) (hev : evOp cf ρ h (.idxS x' i') = some (r, h')) : Good P F base o a m h w r h' := by
  simp only [evOp] at hev
  split at hev
  · rename_i s kk j hk hj
    rw [hk] at hx; rw [hj] at hi
    replace hi := rel_int hi
    replace hx := rel_str hx
    split at hev
    · rename_i hc
      obtain ⟨h0, h1⟩ := hc
      cases hev
      refine good_pure hr (v := _) ?_ (by simp only [RelV]; rfl)
      have hlt : j.toNat < s.length := by omega
      have hget : (⟨s.toArray⟩ : ByteArray)[j.toNat]? = some s[j.toNat] := by
        show ((⟨s.toArray⟩ : ByteArray)[j.toNat]? : Option UInt8) = _
        rw [getElem?_pos _ _ (by exact hlt)]
        rfl
      simp [execOp, hop, hx, hi, Instr.index, asIntOf, run_underlying hu, h0, hget, hlt]
    · cases hev
  · cases hev

/-! ### Slicing -/
theorem bnd_inv {x : Option Operand} {x' : Option Opd} {d top b : Nat} (hx : ∀ y z, x = some y → x' = some z → RelV F m (ρ z) (a.eval y)) (hc : chkOo F x x' = true) (hb : bnd (optv ρ x') d top = some b) :
    (x = none ∧ b = d) ∨ ∃ y k i, x = some y ∧ a.eval y = .int k i ∧ 0 ≤ i ∧ i ≤ top ∧ b = i.toNat := by
  cases x with
  | none =>
    cases x' with
    | none => simp only [optv, bnd, Option.some.injEq] at hb; exact .inl ⟨rfl, hb.symm⟩
    | some z => simp [chkOo] at hc
  | some y =>
    cases x' with
    | none => simp [chkOo] at hc
    | some z =>
      have hz := hx y z rfl rfl
      simp only [optv] at hb
      cases e1 : ρ z <;> rw [e1] at hb hz <;> simp only [bnd] at hb <;> try (cases hb; done)
      rename_i k i
      split at hb
      · rename_i hi
        cases hb
        exact .inr ⟨y, k, i, rfl, rel_int hz, hi.1, hi.2, rfl⟩
      · cases hb

theorem bounds_run {lo hi : Option Operand} {lo' hi' : Option Opd} {isS : Bool} {len cap la lb : Nat} (hlo : ∀ y z, lo = some y → lo' = some z → RelV F m (ρ z) (a.eval y)) (hhi : ∀ y z, hi = some y → hi' = some z → RelV F m (ρ z) (a.eval y))
    (cl : chkOo F lo lo' = true) (ch : chkOo F hi hi' = true) (hb : bnd (optv ρ hi') len len = some lb) (ha : bnd (optv ρ lo') 0 lb = some la) (hlc : len ≤ cap) (w : World) :
    (Instr.sliceBounds isS len cap (lo.map a.eval) (hi.map a.eval) none).run P w = .ok (la, lb, cap) w ∧ la ≤ lb ∧ lb ≤ len := by
  have hB := bnd_inv hhi ch hb
  have hA := bnd_inv hlo cl ha
  have hle : lb ≤ len := by
    rcases hB with ⟨_, h1⟩ | ⟨_, _, _, _, _, h1, h2, h3⟩ <;> omega
  have hla : la ≤ lb := by
    rcases hA with ⟨_, h1⟩ | ⟨_, _, _, _, _, h1, h2, h3⟩ <;> omega
  refine ⟨?_, hla, hle⟩
  rcases hA with ⟨rfl, rfl⟩ | ⟨y, k, i, rfl, e1, e2, e3, rfl⟩ <;> rcases hB with ⟨rfl, rfl⟩ | ⟨z, k', j, rfl, f1, f2, f3, rfl⟩
  · simp [Instr.sliceBounds]
  · have : j ≤ (cap : Int) := by omega
    simp [Instr.sliceBounds, Instr.sliceBound, f1, asIntOf, f2, this]
  · simp [Instr.sliceBounds, Instr.sliceBound, e1, asIntOf, e2, e3]
  · have : j ≤ (cap : Int) := by omega
    have h2 : i ≤ ((j.toNat : Nat) : Int) := e3
    simp [Instr.sliceBounds, Instr.sliceBound, e1, f1, asIntOf, e2, f2, this, h2]
    intro; omega

theorem s_subS {t : TypeId} {x : Operand} {lo hi : Option Operand} {x' : Opd} {lo' hi' : Option Opd} (hr : RelH F base m h w) (hop : o.op = .slice t x lo hi none) (hu : P.underlying t = some .string) (cl : chkOo F lo lo' = true) (ch : chkOo F hi hi' = true)
    (hx : RelV F m (ρ x') (a.eval x)) (hlo : ∀ y z, lo = some y → lo' = some z → RelV F m (ρ z) (a.eval y)) (hhi : ∀ y z, hi = some y → hi' = some z → RelV F m (ρ z) (a.eval y))
    (hev : evOp cf ρ h (.subS x' lo' hi') = some (r, h')) : Good P F base o a m h w r h' := by
  simp only [evOp] at hev
  split at hev
  · rename_i s hk
    rw [hk] at hx
    replace hx := rel_str hx
    split at hev
    · rename_i lb hb
      split at hev
      · rename_i la ha
        cases hev
        obtain ⟨hrun, h1, h2⟩ := bounds_run (P := P) (isS := false) (cap := s.length) hlo hhi cl ch hb ha (Nat.le_refl _) w
        refine good_pure hr (v := .string ((⟨s.toArray⟩ : ByteArray).extract la lb)) ?_ ?_
        · have : (⟨s.toArray⟩ : ByteArray).size = s.length := rfl
          simp [execOp, hop, hx, Instr.sliceAt, Instr.slice, run_underlying hu, this, hrun]
        · simp only [RelV]
          congr 1
          apply ByteArray.ext
          rw [ByteArray.data_extract]
          apply Array.ext'
          simp [List.take_drop]
      · cases hev
    · cases hev
  · cases hev

theorem s_sub {t e : TypeId} {x : Operand} {esz : Nat} {lo hi : Option Operand} {x' : Opd} {lo' hi' : Option Opd} (hr : RelH F base m h w) (hop : o.op = .slice t x lo hi none) (hu : P.underlying t = some (.slice e)) (hs : sz P e esz = true) (h0 : 0 < esz) (cl : chkOo F lo lo' = true) (ch : chkOo F hi hi' = true)
    (hx : RelV F m (ρ x') (a.eval x)) (hlo : ∀ y z, lo = some y → lo' = some z → RelV F m (ρ z) (a.eval y)) (hhi : ∀ y z, hi = some y → hi' = some z → RelV F m (ρ z) (a.eval y))
    (hev : evOp cf ρ h (.sub esz x' lo' hi') = some (r, h')) : Good P F base o a m h w r h' := by
  simp only [evOp] at hev
  split at hev
  · rename_i hk
    rw [hk] at hx
    have hv : a.eval x = .slice none 0 0 := by simpa only [RelV] using hx
    split at hev
    · rename_i lb hb
      split at hev
      · rename_i la ha
        cases hev
        obtain ⟨hrun, h1, h2⟩ := bounds_run (P := P) (isS := true) (cap := 0) hlo hhi cl ch hb ha (Nat.le_refl _) w
        obtain rfl : lb = 0 := by omega
        obtain rfl : la = 0 := by omega
        refine good_pure hr (v := .slice none 0 0) ?_ (by simp only [RelV])
        simp [execOp, hop, hv, Instr.sliceAt, Instr.slice, run_underlying hu, hrun, run_sz hs]
      · cases hev
    · cases hev
  · rename_i hk
    rw [hk] at hx
    obtain ⟨ad, hv⟩ : ∃ ad, a.eval x = .slice (some ad) 0 0 := by simpa only [RelV] using hx
    split at hev
    · rename_i lb hb
      split at hev
      · rename_i la ha
        cases hev
        obtain ⟨hrun, h1, h2⟩ := bounds_run (P := P) (isS := true) (cap := 0) hlo hhi cl ch hb ha (Nat.le_refl _) w
        obtain rfl : lb = 0 := by omega
        obtain rfl : la = 0 := by omega
        refine good_pure hr (v := .slice (some ad) 0 0) ?_ (by simp only [RelV]; exact ⟨ad, rfl⟩)
        simp [execOp, hop, hv, Instr.sliceAt, Instr.slice, run_underlying hu, hrun, run_sz hs]
      · cases hev
    · cases hev
  · rename_i c k off len e' hk
    rw [hk] at hx
    obtain ⟨p, of', cap, hp, hv, hlc, hcap⟩ := rel_slice hx
    split at hev
    · rename_i he
      subst he
      split at hev
      · rename_i lb hb
        split at hev
        · rename_i la ha
          cases hev
          obtain ⟨hrun, h1, h2⟩ := bounds_run (P := P) (isS := true) (cap := cap) hlo hhi cl ch hb ha hlc w
          refine good_pure hr (v := .slice (if cap = la then some ⟨p.blk, of', none⟩ else some ⟨p.blk, of' + la * e', none⟩) (lb - la) (cap - la)) ?_ ?_
          · simp [execOp, hop, hv, Instr.sliceAt, Instr.slice, run_underlying hu, hrun, run_sz hs, addr_add]
          · simp only [RelV]
            by_cases hcl : cap = la
            · refine ⟨p, of', 0, hp, ?_, by omega, .inl rfl⟩
              rw [if_pos hcl]; congr 1; omega
            · obtain ⟨g1, rfl, g3, g4⟩ := hcap.resolve_left (by omega)
              refine ⟨p, p.base + (off - p.lo) + la * e', cap - la, hp, by rw [if_neg hcl], by omega, .inr ⟨by omega, by omega, ?_, ?_⟩⟩
              · have : (lb - la) * e' + la * e' ≤ len * e' := by rw [← Nat.add_mul]; exact Nat.mul_le_mul_right _ (by omega)
                omega
              · have : (cap - la) * e' + la * e' = cap * e' := by rw [← Nat.add_mul]; congr 1; omega
                omega
        · cases hev
      · cases hev
    · cases hev
  · cases hev

theorem s_subA {t e : TypeId} {x : Operand} {len esz : Nat} {lo hi : Option Operand} {x' : Opd} {lo' hi' : Option Opd} (hr : RelH F base m h w) (hop : o.op = .slice t x lo hi none) (hu : P.underlying t = some (.array len e)) (hs : sz P e esz = true) (h0 : 0 < esz) (cl : chkOo F lo lo' = true) (ch : chkOo F hi hi' = true)
    (hx : RelV F m (ρ x') (a.eval x)) (hlo : ∀ y z, lo = some y → lo' = some z → RelV F m (ρ z) (a.eval y)) (hhi : ∀ y z, hi = some y → hi' = some z → RelV F m (ρ z) (a.eval y))
    (hev : evOp cf ρ h (.subA len esz x' lo' hi') = some (r, h')) : Good P F base o a m h w r h' := by
  simp only [evOp] at hev
  split at hev
  · rename_i c k off n hk
    rw [hk] at hx
    obtain ⟨p, hp, hv, hl, hext⟩ := rel_ptr hx
    split at hev
    · rename_i he
      have hsz := hr.siz he.2 hp
      replace he := he.1
      split at hev
      · rename_i lb hb
        split at hev
        · rename_i la ha
          cases hev
          obtain ⟨hrun, h1, h2⟩ := bounds_run (P := P) (isS := false) (cap := len) hlo hhi cl ch hb ha (Nat.le_refl _) w
          refine good_pure hr (v := .slice (if len = la then some ⟨p.blk, p.base + (off - p.lo), none⟩ else some ⟨p.blk, p.base + (off - p.lo) + la * esz, none⟩) (lb - la) (len - la)) ?_ ?_
          · simp [execOp, hop, hv, Instr.sliceAt, run_underlying hu, Instr.sureAddr, hrun, run_sz hs, addr_add]
            split <;> rfl
          · simp only [RelV]
            by_cases hcl : len = la
            · refine ⟨p, p.base + (off - p.lo), 0, hp, ?_, by omega, .inl rfl⟩
              rw [if_pos hcl]; congr 1; omega
            · refine ⟨p, p.base + (off - p.lo) + la * esz, len - la, hp, by rw [if_neg hcl], by omega, .inr ⟨by omega, by omega, ?_, ?_⟩⟩
              · have : (lb - la) * esz + la * esz ≤ len * esz := by rw [← Nat.add_mul]; exact Nat.mul_le_mul_right _ (by omega)
                omega
              · have : (len - la) * esz + la * esz = len * esz := by rw [← Nat.add_mul]; congr 1; omega
                omega
        · cases hev
      · cases hev
    · cases hev
  · cases hev

end
end Go.Proofs.YtnamhjdfegohbaaGreatDoor.Ab

/- OPERATIONS, third part: new memory, loads, stores, maps, iterators. -/
namespace Go.Proofs.YtnamhjdfegohbaaGreatDoor.Ab
open Go Go.RowKit

section
variable {P : Program} {F : Nat → Nat} {base : Nat} {o : Oper} {a : Act} {m m' : Emb} {h h' : AH} {w w' : World} {r : AV} {ρ : Opd → AV} {cf : CF}

theorem s_sub0 {t e : TypeId} {x hi mx : Operand} {x' hi' mx' : Opd} (hr : RelH F base m h w) (hop : o.op = .slice t x none (some hi) (some mx)) (hu : P.underlying t = some (.slice e)) (hs : (P.info? e).isSome = true)
    (hx : RelV F m (ρ x') (a.eval x)) (hh : RelV F m (ρ hi') (a.eval hi)) (hm : RelV F m (ρ mx') (a.eval mx)) (hev : evOp cf ρ h (.sub0 x' hi' mx') = some (r, h')) : Good P F base o a m h w r h' := by
  obtain ⟨ie, hie⟩ := Option.isSome_iff_exists.1 hs
  have hsz : ∀ w, (sizeOf e).run P w = .ok ie.size w := fun w => by simp [sizeOf, typeInfo, hie]
  simp only [evOp] at hev
  split at hev
  · rename_i k1 k2 h1 h2 h3
    rw [h1] at hx; rw [h2] at hh; rw [h3] at hm
    have hv : a.eval x = .slice none 0 0 := by simpa only [RelV] using hx
    cases hev
    refine good_pure hr (v := .slice none 0 0) ?_ (by simp only [RelV])
    simp [execOp, hop, hv, rel_int hh, rel_int hm, Instr.sliceAt, Instr.slice, Instr.sliceBounds, Instr.sliceBound, asIntOf, run_underlying hu, hsz]
  · rename_i k1 k2 h1 h2 h3
    rw [h1] at hx; rw [h2] at hh; rw [h3] at hm
    obtain ⟨ad, hv⟩ : ∃ ad, a.eval x = .slice (some ad) 0 0 := by simpa only [RelV] using hx
    cases hev
    refine good_pure hr (v := .slice (some ad) 0 0) ?_ (by simp only [RelV]; exact ⟨ad, rfl⟩)
    simp [execOp, hop, hv, rel_int hh, rel_int hm, Instr.sliceAt, Instr.slice, Instr.sliceBounds, Instr.sliceBound, asIntOf, run_underlying hu, hsz]
  · rename_i c k off len esz k1 k2 h1 h2 h3
    rw [h1] at hx; rw [h2] at hh; rw [h3] at hm
    obtain ⟨p, of', cap, hp, hv, hlc, hcap⟩ := rel_slice hx
    cases hev
    refine good_pure hr (v := .slice (some ⟨p.blk, of', none⟩) 0 0) ?_ (by simp only [RelV]; exact ⟨_, rfl⟩)
    have h0 : (0 : Int) ≤ (cap : Int) := by omega
    simp [execOp, hop, hv, rel_int hh, rel_int hm, Instr.sliceAt, Instr.slice, Instr.sliceBounds, Instr.sliceBound, asIntOf, run_underlying hu, hsz]
  · cases hev

theorem zer_eq {t : TypeId} {z : List AV} (hz : zer P F t z = true) : ∃ i v, P.info? t = some i ∧ i.zero = some v ∧ chkVs F z v.cells.toList = true ∧ z.all AV.sc = true := by
  unfold zer at hz
  split at hz
  · rename_i i hi
    split at hz
    · rename_i v hv
      simp only [Bool.and_eq_true] at hz
      exact ⟨i, v, hi, hv, hz.1, hz.2⟩
    · cases hz
  · cases hz

theorem alloc_heap (w : World) (ob : Obj) : (w.alloc ob).heap = w.heap.push ob := by simp [World.alloc, -World.alloc_eq]
theorem s_new {t : TypeId} {z : List AV} (hr : RelH F base m h w) (hop : o.op = .alloc t) (hz : zer P F t z = true) (hev : evOp cf ρ h (.new z) = some (r, h')) : Good P F base o a m h w r h' := by
  obtain ⟨i, v, hi, hv, hc, hsc⟩ := zer_eq hz
  simp only [evOp, Option.map_eq_some_iff, Prod.mk.injEq] at hev
  obtain ⟨⟨c, h2⟩, hn, rfl, rfl⟩ := hev
  have hrel : RelL F m z v.cells.toList := chkVs_rel _ _ hc
  obtain ⟨rfl, hs⟩ := newRow_step (rest := []) (t := t) (fr := (0, 0)) hr hn hrel (w' := w.alloc (.cells v.cells t)) (.inr (Nat.le_refl _)) (by rw [alloc_heap]; simp) rfl rfl rfl
  refine good_value (w' := w.alloc (.cells v.cells t)) (v := .pointer (some ⟨w.heap.size, 0, none⟩)) ?_ ?_ hs
  · simp [execOp, hop, Instr.alloc, zeroValue, typeInfo, hi, hv, newVar, Go.newRow]
  · simp only [RelV]
    exact ⟨_, Emb.addRow_at _ _ _ _, rfl, Nat.le_refl _, by simp⟩

theorem s_box {t : TypeId} {x : Operand} {x' : Opd} (hr : RelH F base m h w) (hop : o.op = .box t x) (hx : RelV F m (ρ x') (a.eval x)) (hev : evOp cf ρ h (.box x') = some (r, h')) : Good P F base o a m h w r h' := by
  have key : ∀ v, ρ x' = v → v ≠ .undef → (∀ xs, v ≠ .tup xs) → (newRow h v.cells).map (fun (c, h') => (AV.ptr c 0 0 v.cells.length, h')) = some (r, h') → Good P F base o a m h w r h' := by
    intro v hv hu htp hev
    rw [hv] at hx
    simp only [Option.map_eq_some_iff, Prod.mk.injEq] at hev
    obtain ⟨⟨c, h2⟩, hn, rfl, rfl⟩ := hev
    have hrel := hx.cells htp hu
    obtain ⟨rfl, hs⟩ := newRow_step (rest := []) (t := t) (fr := (0, 0)) hr hn hrel (w' := w.alloc (.cells (a.eval x).cells t)) (.inr (Nat.le_refl _)) (by rw [alloc_heap]; simp) rfl rfl rfl
    refine good_value (w' := w.alloc (.cells (a.eval x).cells t)) (v := .pointer (some ⟨w.heap.size, 0, none⟩)) ?_ ?_ hs
    · simp [execOp, hop, Instr.box, newVar, Go.newRow]
    · simp only [RelV]
      exact ⟨_, Emb.addRow_at _ _ _ _, rfl, Nat.le_refl _, by simp⟩
  simp only [evOp] at hev
  split at hev
  · cases hev
  · cases hev
  · rename_i h1 h2
    exact key _ rfl h1 h2 hev

theorem s_load {t : TypeId} {x : Operand} {agg : Bool} {n : Nat} {x' : Opd} (hr : RelH F base m h w) (hop : o.op = .load t x) (hs : shp P t agg n = true) (hx : RelV F m (ρ x') (a.eval x)) (hev : evOp cf ρ h (.load agg n x') = some (r, h')) : Good P F base o a m h w r h' := by
  simp only [evOp] at hev
  split at hev
  · rename_i c k off q hk
    rw [hk] at hx
    obtain ⟨p, hp, hv, hlo, hext⟩ := rel_ptr hx
    split at hev
    · rename_i hle
      split at hev
      · rename_i cs hcs
        simp only [Option.map_eq_some_iff, Prod.mk.injEq] at hev
        obtain ⟨y, hy, rfl, rfl⟩ := hev
        simp only [shp, Bool.and_eq_true, Bool.or_eq_true] at hs
        obtain ⟨⟨h1, h2⟩, h3⟩ := hs
        obtain ⟨vs, hvs, hlen, hrun⟩ := hr.loads (P := P) hcs hp hlo (by omega)
        rcases mkv_rel hy hvs with ⟨rfl, hrv⟩ | ⟨rfl, v, rfl, hrv⟩
        · refine good_pure hr (v := .agg vs.toArray) ?_ hrv
          simp [execOp, hop, hv, Instr.loadAt, Instr.sureAddr, loadVar, run_isAg h1, run_sz h2, hrun]
        · have hn : n = 1 := by simpa using h3
          subst hn
          obtain ⟨_, _, _, hc⟩ := hr.row_at hcs hp hlo (by omega)
          have hrun' := hrun
          refine good_pure hr (v := v) ?_ hrv
          have hcell : w.cell? ⟨p.blk, p.base + (off - p.lo), none⟩ = some v := by
            simp only [loadCells, loadCellsFrom, Sem.run_bind, addr_add, Nat.add_zero, run_load] at hrun'
            cases hcc : w.cell? ⟨p.blk, p.base + (off - p.lo), none⟩ with
            | some u => rw [hcc] at hrun'; simp at hrun'; rw [hrun']
            | none =>
              rename_i vs' hvs' hlen'
              obtain ⟨u, hu⟩ : ∃ u, vs'[0]? = some u := ⟨vs'[0], by simp⟩
              have := hc 0 u hu
              rw [Nat.add_zero, hcc] at this; cases this
          simp [execOp, hop, hv, Instr.loadAt, Instr.sureAddr, loadVar, run_isAg h1, hcell]
      · cases hev
    · cases hev
  · cases hev

theorem s_store {t : TypeId} {x y : Operand} {n : Nat} {x' y' : Opd} (hr : RelH F base m h w) (hop : o.op = .store t x y) (hs : sz P t n = true) (hx : RelV F m (ρ x') (a.eval x)) (hy : RelV F m (ρ y') (a.eval y)) (hev : evOp cf ρ h (.store n x' y') = some (r, h')) : Good P F base o a m h w r h' := by
  simp only [evOp] at hev
  split at hev
  · rename_i c k off q hk
    rw [hk] at hx
    obtain ⟨p, hp, hv, hlo, hext⟩ := rel_ptr hx
    split at hev
    · rename_i hle
      obtain ⟨hle, hn⟩ := hle
      simp only [Option.map_eq_some_iff, Prod.mk.injEq] at hev
      obtain ⟨h2, hw, rfl, rfl⟩ := hev
      have hsc : (ρ y').cells.all AV.sc = true := by
        unfold wrRow at hw
        split at hw
        · split at hw
          · rename_i hc; exact hc.2.2.2
          · cases hw
        · cases hw
      have hne : ρ y' ≠ .undef := by
        intro he; rw [he] at hsc; cases hsc
      have hnt : ∀ xs, ρ y' ≠ .tup xs := by
        intro xs he; rw [he] at hsc; cases hsc
      have hcells := hy.cells hnt hne
      obtain ⟨w2, hrun, hstep⟩ := wr_step (P := P) hr hw hp hlo (by omega) hcells
      refine good_skip (w' := w2) ?_ hstep
      have hsize : (a.eval y).cells.size = n := by rw [← hn, ← hcells.length]; simp
      simp [execOp, hop, hv, Instr.storeAt, Instr.sureAddr, storeVar, run_sz hs, hsize, hrun]
    · cases hev
  · cases hev

/-! ### Values out of parts -/
theorem fill_rel {place : Nat → Option (Nat × Nat)} : ∀ (ps : List (Nat × Nat × AV)) (qs : List (Nat × Value)) (zs : List AV) (vs : Array Value) (cs : List AV), fillP zs ps = some cs → RelL F m zs vs.toList →
    qs.length = ps.length → (∀ (i : Nat) off n x j v, ps[i]? = some (off, n, x) → qs[i]? = some (j, v) → place j = some (off, n) ∧ (RelV F m x v) ∧ x ≠ .undef ∧ ∀ xs, x ≠ .tup xs) →
    ∃ us, Instr.fill place vs qs = some us ∧ RelL F m cs us.toList
  | [], qs, zs, vs, cs, hf, hz, hl, _ => by
    simp only [fillP, Option.some.injEq] at hf
    subst hf
    obtain rfl := List.eq_nil_of_length_eq_zero hl
    exact ⟨vs, rfl, hz⟩
  | (off, n, x) :: ps, [], zs, vs, cs, hf, hz, hl, _ => by simp at hl
  | (off, n, x) :: ps, (j, v) :: qs, zs, vs, cs, hf, hz, hl, hp => by
    simp only [fillP] at hf
    split at hf
    · rename_i hc
      obtain ⟨h1, h2⟩ := hc
      obtain ⟨hpl, hxv, hu, ht⟩ := hp 0 off n x j v rfl rfl
      have hcs := hxv.cells ht hu
      have hlen := hcs.length
      have hzl := hz.length
      have hsp : (v.cells.zipIdx.foldl (fun cs (c, j) => cs.setIfInBounds (off + j) c) vs).toList = splice vs.toList off v.cells.toList := by
        have gen : ∀ (l : List Value) (k : Nat) (vs : Array Value), off + k + l.length ≤ vs.size → (l.zipIdx k).foldl (fun (cs : Array Value) (x : Value × Nat) => cs.setIfInBounds (off + x.2) x.1) vs = (splice vs.toList (off + k) l).toArray := by
          intro l
          induction l with
          | nil => intro k vs _; simp [splice]
          | cons u l ih =>
            intro k vs hk
            simp only [List.length_cons] at hk
            simp only [List.zipIdx_cons, List.foldl_cons]
            rw [ih (k + 1) _ (by simp; omega)]
            rw [Array.toList_setIfInBounds, ← Nat.add_assoc, splice_cons _ _ _ _ (by simp; omega)]
        have := gen v.cells.toList 0 vs (by simp only [Nat.add_zero]; simp at hlen hzl ⊢; omega)
        rw [← Array.foldl_toList]
        rw [Array.toList_zipIdx]
        simpa using congrArg Array.toList this
      have hrel : RelL F m (splice zs off x.cells) (v.cells.zipIdx.foldl (fun cs (c, j) => cs.setIfInBounds (off + j) c) vs).toList := by
        rw [hsp]
        unfold splice
        refine ((hz.take off).append hcs).append ?_
        rw [← hlen]; exact hz.drop _
      obtain ⟨us, hus, hr⟩ := fill_rel (place := place) ps qs _ _ cs hf hrel (by simpa using hl) (fun i off n x j v h1 h2 => hp (i + 1) off n x j v (by simpa using h1) (by simpa using h2))
      refine ⟨us, ?_, hr⟩
      simp only [Instr.fill, hpl]
      rw [if_neg]
      · exact hus
      · simp at hlen hzl ⊢; omega
    · cases hf

end
end Go.Proofs.YtnamhjdfegohbaaGreatDoor.Ab

/- OPERATIONS, fourth part: lengths, maps, iterators, conversions of strings, make. -/
namespace Go.Proofs.YtnamhjdfegohbaaGreatDoor.Ab
open Go Go.RowKit

section
variable {P : Program} {F : Nat → Nat} {base : Nat} {o : Oper} {a : Act} {m m' : Emb} {h h' : AH} {w w' : World} {r : AV} {ρ : Opd → AV} {cf : CF}

/-- A builtin's call. -/
theorem run_builtin {c : Call} {b : Builtin} {xs : List Operand} (hop : o.op = .call c) (hc : c.callee = .builtin b) (ha : c.args.toList = xs) :
    ∃ cs, (execOp a.eval o).run P w = (builtin b c.argTypes o.type cs (xs.map a.eval).toArray).run P w := by
  have ha' : c.args = xs.toArray := by rw [← Array.toArray_toList (xs := c.args), ha]
  refine ⟨c.args.map fun | .const _ => true | _ => false, ?_⟩
  simp only [execOp, hop, resolve, hc, ha', invoke, Sem.run_bind, Sem.run_pure, Result.andThen, List.map_toArray]
  rfl

theorem s_lenS {c : Call} {t : TypeId} {x : Operand} {x' : Opd} (hr : RelH F base m h w) (hop : o.op = .call c) (hc : c.callee = .builtin .len) (ht : c.argTypes[0]? = some t) (ha : c.args.toList = [x]) (hu : P.underlying t = some .string)
    (hx : RelV F m (ρ x') (a.eval x)) (hev : evOp cf ρ h (.lenS x') = some (r, h')) : Good P F base o a m h w r h' := by
  simp only [evOp] at hev
  split at hev
  · rename_i s hk
    rw [hk] at hx
    cases hev
    obtain ⟨cs, he⟩ := run_builtin (P := P) (a := a) (w := w) hop hc ha
    refine good_pure hr (v := .int .i64 s.length) (he.trans ?_) (by simp only [RelV])
    have hsz : (⟨s.toArray⟩ : ByteArray).size = s.length := rfl
    simp [builtin, Builtin.len_, ht, rel_str hx, run_underlying hu, goInt, hsz]
  · cases hev

theorem s_lenV {c : Call} {t e : TypeId} {x : Operand} {x' : Opd} (hr : RelH F base m h w) (hop : o.op = .call c) (hc : c.callee = .builtin .len) (ht : c.argTypes[0]? = some t) (ha : c.args.toList = [x]) (hu : P.underlying t = some (.slice e))
    (hx : RelV F m (ρ x') (a.eval x)) (hev : evOp cf ρ h (.lenV x') = some (r, h')) : Good P F base o a m h w r h' := by
  obtain ⟨cs, he⟩ := run_builtin (P := P) (a := a) (w := w) hop hc ha
  simp only [evOp] at hev
  split at hev
  · rename_i hk
    rw [hk] at hx
    cases hev
    have hv : a.eval x = .slice none 0 0 := by simpa only [RelV] using hx
    refine good_pure hr (v := .int .i64 0) (he.trans ?_) (by simp only [RelV])
    simp [builtin, Builtin.len_, ht, hv, run_underlying hu, goInt]
  · rename_i hk
    rw [hk] at hx
    cases hev
    obtain ⟨ad, hv⟩ : ∃ ad, a.eval x = .slice (some ad) 0 0 := by simpa only [RelV] using hx
    refine good_pure hr (v := .int .i64 0) (he.trans ?_) (by simp only [RelV])
    simp [builtin, Builtin.len_, ht, hv, run_underlying hu, goInt]
  · rename_i c k off len esz hk
    rw [hk] at hx
    cases hev
    obtain ⟨p, of', cap, hp, hv, hlc, hcap⟩ := rel_slice hx
    refine good_pure hr (v := .int .i64 len) (he.trans ?_) (by simp only [RelV])
    simp [builtin, Builtin.len_, ht, hv, run_underlying hu, goInt]
  · cases hev

theorem s_mmx {c : Call} {b : Builtin} {x y : Operand} {mx : Bool} {x' y' : Opd} (hr : RelH F base m h w) (hop : o.op = .call c) (hc : c.callee = .builtin b) (hb : b = if mx then .max else .min) (ha : c.args.toList = [x, y])
    (hx : RelV F m (ρ x') (a.eval x)) (hy : RelV F m (ρ y') (a.eval y)) (hev : evOp cf ρ h (.mmx mx x' y') = some (r, h')) : Good P F base o a m h w r h' := by
  obtain ⟨cs, he⟩ := run_builtin (P := P) (a := a) (w := w) hop hc ha
  simp only [evOp] at hev
  split at hev
  · rename_i k i k' j h1 h2
    rw [h1] at hx; rw [h2] at hy
    split at hev
    · cases hev
      refine good_pure hr (v := _) (he.trans ?_) (by simp only [RelV]; rfl)
      cases mx <;> simp at hb <;> subst hb <;> simp [builtin, Builtin.max_, Builtin.min_, Builtin.max2, Builtin.min2, rel_int hx, rel_int hy]
    · cases hev
  · rename_i s t h1 h2
    rw [h1] at hx; rw [h2] at hy
    cases mx
    · cases hev
      simp at hb; subst hb
      refine good_pure hr (v := _) (he.trans ?_) (by simp only [RelV]; rfl)
      simp [builtin, Builtin.min_, Builtin.min2, rel_str hx, rel_str hy, Op.stringOp, bytes_toList, asBool]
      split <;> rfl
    · cases hev
  · cases hev

/-! ### Maps -/
theorem s_mkmap {t : TypeId} {re : Option Operand} (hr : RelH F base m h w) (hop : o.op = .makeMap t re) (hre : re = none ∨ ∃ k n kt et, re = some (.const (.int k n)) ∧ P.underlying t = some (.map kt et)) (hev : evOp cf ρ h .mkmap = some (r, h')) : Good P F base o a m h w r h' := by
  simp only [evOp] at hev
  cases hev
  have hs := newObj_step (o := .map []) (ob := .map #[] 0) (w' := w.alloc (.map #[] 0)) hr rfl (alloc_heap _ _) rfl rfl rfl ?_
  · refine good_value (v := .map (some w.heap.size)) ?_ ?_ hs
    · rcases hre with rfl | ⟨k, n, kt, et, rfl, hu⟩
      · simp [execOp, hop, Instr.makeMap]
      · simp [execOp, hop, Instr.makeMap, run_underlying hu, asInt, asIntOf, Act.eval]
    · simp only [RelV]
      exact ⟨_, by simp [Emb.addObj], rfl⟩
  · intro b hb
    have : b = w.heap.size := by simpa [Emb.addObj, eq_comm] using hb
    subst this
    exact ⟨hr.le, #[], 0, by rw [alloc_heap]; simp, rfl, rfl, by simp⟩

theorem obj_map {c : Nat} {es : List (AV × AV)} (hr : RelH F base m h w) (hc : h[c]? = some (.map es)) {b : Nat} (hb : m.obj c = some b) : base ≤ b ∧ ∃ E clk, w.heap[b]? = some (.map E clk) ∧ RelE F m es E.toList := by
  obtain ⟨h1, E, clk, h2, h3, _⟩ := hr.ob c _ hc b hb
  exact ⟨h1, E, clk, h2, h3⟩
theorem obj_mapS {c : Nat} {es : List (AV × AV)} (hr : RelH F base m h w) (hc : h[c]? = some (.map es)) {b : Nat} (hb : m.obj c = some b) : base ≤ b ∧ ∃ E, w.heap[b]? = some (.map E E.size) ∧ RelE F m es E.toList ∧ ∀ (i : Nat) (e : MapEntry), E[i]? = some e → e.born = i := by
  obtain ⟨h1, E, clk, h2, h3, h4, h5⟩ := hr.ob c _ hc b hb
  subst h4
  exact ⟨h1, E, h2, h3, h5⟩

theorem rel_map {c : Nat} {v : Value} (h : RelV F m (.map c) v) : ∃ b, m.obj c = some b ∧ v = .map (some b) := by simpa only [RelV] using h

theorem RelE.length : ∀ {es : List (AV × AV)} {l : List MapEntry}, RelE F m es l → l.length = es.length
  | [], _, h => by simp only [RelE] at h; subst h; rfl
  | (k, v) :: es, _, h => by
    obtain ⟨e, l', rfl, _, _, h3⟩ := h
    simp [RelE.length h3]

theorem s_mlen {c : Call} {t kt et : TypeId} {x : Operand} {x' : Opd} (hr : RelH F base m h w) (hop : o.op = .call c) (hc : c.callee = .builtin .len) (ht : c.argTypes[0]? = some t) (ha : c.args.toList = [x]) (hu : P.underlying t = some (.map kt et))
    (hx : RelV F m (ρ x') (a.eval x)) (hev : evOp cf ρ h (.mlen x') = some (r, h')) : Good P F base o a m h w r h' := by
  obtain ⟨cs, he⟩ := run_builtin (P := P) (a := a) (w := w) hop hc ha
  simp only [evOp] at hev
  split at hev
  · rename_i hk
    rw [hk] at hx
    cases hev
    have hv : a.eval x = .map none := by simpa only [RelV] using hx
    refine good_pure hr (v := .int .i64 0) (he.trans ?_) (by simp only [RelV])
    simp [builtin, Builtin.len_, ht, hv, run_underlying hu, goInt]
  · rename_i c hk
    rw [hk] at hx
    split at hev
    · rename_i es hes
      cases hev
      obtain ⟨b, hb, hv⟩ := rel_map hx
      obtain ⟨_, E, clk, hg, hE⟩ := obj_map hr hes hb
      refine good_pure hr (v := .int .i64 es.length) (he.trans ?_) (by simp only [RelV])
      have hl := RelE.length hE
      simp only [Array.length_toList] at hl
      simp [builtin, Builtin.len_, ht, hv, run_underlying hu, goInt, getObj, Sem.run, hg, hl]
    · cases hev
  · cases hev

def keyW (kd : Nat) : TypeDesc → Prop
  | .int _ => kd = 0
  | .string => kd = 1
  | .bool => kd = 2
  | _ => False
theorem keyD_w {kd : Nat} {d : TypeDesc} (h : keyD kd d = true) : keyW kd d := by
  cases d <;> simp [keyD] at h <;> simpa [keyW] using h
theorem bytes_beq (s t : List UInt8) : ((⟨s.toArray⟩ : ByteArray) == ⟨t.toArray⟩) = (s == t) := by
  show ((s.toArray : Array UInt8) == t.toArray) = _
  simp
theorem same_key {kd : Nat} {d : TypeDesc} (hd : keyW kd d) {k u : AV} {kv uv : Value} (hk : RelV F m k kv) (hu : RelV F m u uv) (hkd : keyIs kd k = true) {b : Bool} (hb : keyEq k u = some b) :
    Instr.sameNow d kv uv = some b ∧ (b = true → kv = uv) ∧ Instr.sameBits 10000 kv uv = b := by
  cases k <;> cases u <;> simp only [keyEq] at hb <;> try (cases hb; done)
  · have h1 := rel_int hk; have h2 := rel_int hu
    subst h1; subst h2
    split at hb
    · rename_i hkk; subst hkk
      simp only [Option.some.injEq] at hb
      have : kd = 0 := by unfold keyIs at hkd; split at hkd <;> simp_all
      subst this
      have hi : ∃ q, d = .int q := by cases d <;> simp_all [keyW]
      obtain ⟨q, rfl⟩ := hi
      refine ⟨by simp [Instr.sameNow, hb], ?_, by simp [Instr.sameBits, hb]⟩
      rintro rfl
      simp at hb; rw [hb]
    · cases hb
  · have h1 := rel_bool hk; have h2 := rel_bool hu
    subst h1; subst h2
    simp only [Option.some.injEq] at hb
    have : kd = 2 := by unfold keyIs at hkd; split at hkd <;> simp_all
    subst this
    have hi : d = .bool := by cases d <;> simp_all [keyW]
    subst hi
    refine ⟨by simp [Instr.sameNow, hb], ?_, by simp [Instr.sameBits, hb]⟩
    rintro rfl
    simp at hb; rw [hb]
  · have h1 := rel_str hk; have h2 := rel_str hu
    subst h1; subst h2
    simp only [Option.some.injEq] at hb
    have : kd = 1 := by unfold keyIs at hkd; split at hkd <;> simp_all
    subst this
    have hi : d = .string := by cases d <;> simp_all [keyW]
    subst hi
    refine ⟨by simp only [Instr.sameNow, bytes_beq, hb], ?_, by simp only [Instr.sameBits, bytes_beq, hb]⟩
    rintro rfl
    simp at hb; rw [hb]

/-- What a search finds. -/
theorem find_rel {kd : Nat} {d : TypeDesc} (hd : keyW kd d) {k : AV} {kv : Value} (hk : RelV F m k kv) (hkd : keyIs kd k = true) : ∀ (es : List (AV × AV)) (l : List MapEntry) (i : Nat) (q : Option AV), RelE F m es l → mfind k es = some q →
    (q = none ∧ Instr.findNow d kv l i = some none ∧ ∀ u, mput k u es = es ++ [(k, u)]) ∨
    ∃ v j e, q = some v ∧ Instr.findNow d kv l i = some (some (i + j, e.val)) ∧ l[j]? = some e ∧ RelV F m v e.val ∧ e.key = kv ∧ Instr.sameBits 10000 e.key kv = true ∧
      ∀ u uv e', RelV F m u uv → e'.key = kv → e'.val = uv → RelE F m (mput k u es) (l.set j e')
  | [], l, i, q, hE, hf => by
    simp only [RelE] at hE; subst hE
    simp only [mfind, Option.some.injEq] at hf; subst hf
    exact .inl ⟨rfl, rfl, fun _ => rfl⟩
  | (x, v) :: es, l, i, q, hE, hf => by
    obtain ⟨e, l', rfl, h1, h2, h3⟩ := hE
    simp only [mfind] at hf
    split at hf
    · rename_i hb
      cases hf
      obtain ⟨g1, g2, g3⟩ := same_key hd hk h1 hkd hb
      refine .inr ⟨v, 0, e, rfl, by simp [Instr.findNow, g1], rfl, h2, (g2 rfl).symm, ?_, ?_⟩
      · have := g2 rfl
        rw [← this] at g3 ⊢; exact g3
      · intro u uv e' hu hk' hv'
        simp only [mput, hb, List.set_cons_zero]
        exact ⟨e', l', rfl, by rw [hk']; exact hk, by rw [hv']; exact hu, h3⟩
    · rename_i hb
      obtain ⟨g1, g2, g3⟩ := same_key hd hk h1 hkd hb
      rcases find_rel hd hk hkd es l' (i + 1) q h3 hf with ⟨rfl, e1, e2⟩ | ⟨v', j, e', rfl, e1, e2, e3, e4, e5, e6⟩
      · refine .inl ⟨rfl, by simp only [Instr.findNow, g1, e1], fun u => ?_⟩
        simp only [mput, hb, e2, List.cons_append]
      · refine .inr ⟨v', j + 1, e', rfl, ?_, by simpa using e2, e3, e4, e5, ?_⟩
        · simp only [Instr.findNow, g1, e1]
          congr 3; omega
        · intro u uv e'' hu hk' hv'
          simp only [mput, hb, List.set_cons_succ]
          exact ⟨e, _, rfl, h1, h2, e6 u uv e'' hu hk' hv'⟩
    · cases hf

theorem key_is {kt : TypeId} {kd : Nat} {d : TypeDesc} (hd : keyW kd d) {k : AV} {kv : Value} (hk : RelV F m k kv) (hkd : keyIs kd k = true) (hu : P.underlying kt = some d) (em : Bool) (w : World) : (Instr.checkKey em 10000 kt kv).run P w = .ok () w := by
  rw [show (10000 : Nat) = 9999 + 1 from rfl]
  unfold Instr.checkKey
  simp only [Sem.run_bind, run_underlying hu, Result.andThen]
  cases d <;> simp [keyW] at hd <;> subst hd <;> cases k <;> simp [keyIs] at hkd
  · rw [rel_bool hk]; rfl
  · rw [rel_int hk]; rfl
  · rw [rel_str hk]; rfl

end
end Go.Proofs.YtnamhjdfegohbaaGreatDoor.Ab

/- OPERATIONS, fifth part: maps and iterators. -/
namespace Go.Proofs.YtnamhjdfegohbaaGreatDoor.Ab
open Go Go.RowKit

section
variable {P : Program} {F : Nat → Nat} {base : Nat} {o : Oper} {a : Act} {m m' : Emb} {h h' : AH} {w w' : World} {r : AV} {ρ : Opd → AV} {cf : CF}

theorem run_find {kt : TypeId} {d : TypeDesc} {k : Value} {l : List MapEntry} {q : Option (Nat × Value)} (hd : P.underlying kt = some d) (hf : Instr.findNow d k l 0 = some q) (w : World) : (Instr.findKey kt k l).run P w = .ok q w := by
  simp [Instr.findKey, run_underlying hd, hf]

theorem s_look {t kt et : TypeId} {x y : Operand} {kd : Nat} {z : AV} {ok : Bool} {x' y' : Opd} {d : TypeDesc} {i : TypeInfo} {zv : Value} (hr : RelH F base m h w) (hop : o.op = .lookup t x y ok) (hu : P.underlying t = some (.map kt et)) (hkt : P.underlying kt = some d) (hd : keyW kd d)
    (hi : P.info? et = some i) (hz : i.zero = some zv) (hzr : RelV F m z zv)
    (hx : RelV F m (ρ x') (a.eval x)) (hy : RelV F m (ρ y') (a.eval y)) (hev : evOp cf ρ h (.look kd z ok x' y') = some (r, h')) : Good P F base o a m h w r h' := by
  simp only [evOp] at hev
  split at hev
  case isFalse => cases hev
  rename_i hkd
  have hzz : (zeroValue et).run P w = .ok zv w := by simp [zeroValue, typeInfo, hi, hz]
  have key : ∀ (es : List (AV × AV)) (E : Array MapEntry), RelE F m es E.toList →
      (∀ q vv b, (Instr.findKey kt (a.eval y) E.toList).run P w = .ok q w → (Instr.checkKey E.isEmpty 10000 kt (a.eval y)).run P w = .ok () w → ((∃ i, q = some (i, vv) ∧ b = true) ∨ (q = none ∧ vv = zv ∧ b = false)) →
        (execOp a.eval o).run P w = .ok (.value (if ok then .tuple #[vv, .bool b] else vv)) w) →
      (match mfind (ρ y') es with
      | some (some v) => some (if ok then .tup [v, .bool true] else v, h)
      | some none => some (if ok then .tup [z, .bool false] else z, h)
      | none => none) = some (r, h') → Good P F base o a m h w r h' := by
    intro es E hE hrun hev
    have tup : ∀ (u : AV) (uv : Value) (b : Bool), RelV F m u uv → RelV F m (if ok then AV.tup [u, .bool b] else u) (if ok then Value.tuple #[uv, .bool b] else uv) := by
      intro u uv b hu
      cases ok
      · exact hu
      · simp only [if_true, RelV]
        exact ⟨_, rfl, by simp only [RelL]; exact ⟨_, _, rfl, hu, _, _, rfl, by simp only [RelV], rfl⟩⟩
    split at hev
    · rename_i v hf
      cases hev
      rcases find_rel hd hy hkd es _ 0 _ hE hf with ⟨h1, _⟩ | ⟨v', j, e, h1, h2, h3, h4, h5, h6, h7⟩
      · cases h1
      · cases h1
        refine good_pure hr (v := if ok then .tuple #[e.val, .bool true] else e.val) (hrun _ _ _ (run_find hkt h2 w) (key_is hd hy hkd hkt _ w) (.inl ⟨_, rfl, rfl⟩)) (tup _ _ _ h4)
    · rename_i hf
      cases hev
      rcases find_rel hd hy hkd es _ 0 _ hE hf with ⟨_, h2, _⟩ | ⟨v', j, e, h1, _⟩
      · refine good_pure hr (v := if ok then .tuple #[zv, .bool false] else zv) (hrun _ _ _ (run_find hkt h2 w) (key_is hd hy hkd hkt _ w) (.inr ⟨rfl, rfl, rfl⟩)) (tup _ _ _ hzr)
      · cases h1
    · cases hev
  split at hev
  · rename_i es hes
    split at hes
    · rename_i hk
      cases hes
      rw [hk] at hx
      have hv : a.eval x = .map none := by simpa only [RelV] using hx
      refine key [] #[] (by simp [RelE]) ?_ hev
      intro q vv bb h1 h2 h3
      rcases h3 with ⟨i, rfl, rfl⟩ | ⟨rfl, rfl, rfl⟩
      · simp only [execOp, hop, Instr.lookup, hv, Sem.run_bind, run_underlying hu, Result.andThen, Sem.run_pure, h1, h2]
      · simp only [execOp, hop, Instr.lookup, hv, Sem.run_bind, run_underlying hu, Result.andThen, Sem.run_pure, h1, h2, hzz]
    · rename_i c hk
      rw [hk] at hx
      split at hes
      · rename_i es' hc
        cases hes
        obtain ⟨b, hb, hv⟩ := rel_map hx
        obtain ⟨_, E, clk, hg, hE⟩ := obj_map hr hc hb
        refine key _ E hE ?_ hev
        intro q vv bb h1 h2 h3
        have hgo : (getObj b).run P w = .ok (.map E clk) w := by simp [getObj, Sem.run, hg]
        rcases h3 with ⟨i, rfl, rfl⟩ | ⟨rfl, rfl, rfl⟩
        · simp only [execOp, hop, Instr.lookup, hv, Sem.run_bind, run_underlying hu, Result.andThen, Sem.run_pure, hgo, h1, h2]
        · simp only [execOp, hop, Instr.lookup, hv, Sem.run_bind, run_underlying hu, Result.andThen, Sem.run_pure, hgo, h1, h2, hzz]
      · cases hes
    · cases hes
  · cases hev

theorem s_mset {t kt et : TypeId} {x y z : Operand} {kd : Nat} {x' y' z' : Opd} {d : TypeDesc} (hr : RelH F base m h w) (hop : o.op = .mapUpdate t x y z ∨ o.op = .insert t x y z) (hu : P.underlying t = some (.map kt et)) (hkt : P.underlying kt = some d) (hd : keyW kd d)
    (hx : RelV F m (ρ x') (a.eval x)) (hy : RelV F m (ρ y') (a.eval y)) (hz : RelV F m (ρ z') (a.eval z)) (hev : evOp cf ρ h (.mset kd x' y' z') = some (r, h')) : Good P F base o a m h w r h' := by
  simp only [evOp] at hev
  split at hev
  case isFalse => cases hev
  rename_i hkd
  split at hev
  case h_2 => cases hev
  rename_i c hk
  rw [hk] at hx
  split at hev
  case h_2 => cases hev
  rename_i es hc
  split at hev
  case h_2 => cases hev
  rename_i q hq
  split at hev
  · cases hev
  cases hev
  obtain ⟨b, hb, hv⟩ := rel_map hx
  obtain ⟨hbase, E, hg, hE, hst⟩ := obj_mapS hr hc hb
  generalize hclk : E.size = clk at *
  have hrun : (execOp a.eval o).run P w = ((do Instr.mapUpdate t (.map (some b)) (a.eval y) (a.eval z); pure Next.skip) : Sem Next).run P w := by
    rcases hop with hop | hop <;> simp only [execOp, hop, hv]
  rcases find_rel hd hy hkd es _ 0 _ hE hq with ⟨rfl, h2, h3⟩ | ⟨v', j, e, rfl, h2, h3, h4, h5, h6, h7⟩
  · have hs := setObj_step (o' := .map (mput (ρ y') (ρ z') es)) (ob := .map (E.push { key := a.eval y, val := a.eval z, born := clk }) (clk + 1)) hr hc rfl rfl hb hbase ?_
    · refine good_skip (hrun.trans ?_) hs
      have hgo : (getObj b).run P w = .ok (.map E clk) w := by simp [getObj, Sem.run, hg]
      have hso : ∀ ob, (setObj b ob).run P w = .ok () { w with heap := w.heap.setIfInBounds b ob } := fun ob => by simp [setObj, Sem.run, hg]
      simp only [Instr.mapUpdate, Sem.run_bind, run_underlying hu, Result.andThen, hgo, hso, key_is hd hy hkd hkt, run_find hkt h2, Sem.run_pure]
    · intro b' hb'
      rw [hb] at hb'; cases hb'
      refine ⟨hbase, E.push { key := a.eval y, val := a.eval z, born := clk }, clk + 1, by rw [Array.getElem?_setIfInBounds_self_of_lt (hr.lto c b hb)], ?_, by simp [hclk], ?_⟩
      case refine_2 =>
        intro q e hq
        rw [Array.getElem?_push] at hq
        split at hq
        · rename_i hqe; cases hq; exact hclk.symm.trans hqe.symm
        · exact hst q e hq
      rw [h3]
      have app : ∀ (es : List (AV × AV)) (l : List MapEntry), RelE F m es l → ∀ k v e, RelV F m k e.key → RelV F m v e.val → RelE F m (es ++ [(k, v)]) (l ++ [e]) := by
        intro es
        induction es with
        | nil => intro l hl k v e h1 h2; simp only [RelE] at hl; subst hl; exact ⟨e, [], rfl, h1, h2, rfl⟩
        | cons y es ih =>
          obtain ⟨k0, v0⟩ := y
          intro l hl k v e h1 h2
          obtain ⟨e0, l', rfl, g1, g2, g3⟩ := hl
          exact ⟨e0, _, rfl, g1, g2, ih l' g3 k v e h1 h2⟩
      simpa using app es _ hE _ _ { key := a.eval y, val := a.eval z, born := clk } hy hz
  · have hj : j < E.size := by simpa using (List.getElem?_eq_some_iff.1 h3).1
    have h3' : E[j]? = some e := by simpa using h3
    have hs := setObj_step (o' := .map (mput (ρ y') (ρ z') es)) (ob := .map (E.modify j fun e => { e with key := a.eval y, val := a.eval z }) clk) hr hc rfl rfl hb hbase ?_
    · refine good_skip (hrun.trans ?_) hs
      have hgo : (getObj b).run P w = .ok (.map E clk) w := by simp [getObj, Sem.run, hg]
      have hso : ∀ ob, (setObj b ob).run P w = .ok () { w with heap := w.heap.setIfInBounds b ob } := fun ob => by simp [setObj, Sem.run, hg]
      simp only [Instr.mapUpdate, Sem.run_bind, run_underlying hu, Result.andThen, hgo, hso, key_is hd hy hkd hkt, run_find hkt h2, h3', Instr.keyThatStays, Option.map_some, Option.getD_some, h6, if_true, Sem.run_pure, Nat.zero_add]
    · intro b' hb'
      rw [hb] at hb'; cases hb'
      refine ⟨hbase, E.modify j fun e => { e with key := a.eval y, val := a.eval z }, clk, by rw [Array.getElem?_setIfInBounds_self_of_lt (hr.lto c b hb)], ?_, by simp [hclk], ?_⟩
      case refine_2 =>
        intro q e2 hq
        rw [Array.getElem?_modify] at hq
        split at hq
        · rw [Option.map_eq_some_iff] at hq
          obtain ⟨e3, h8, rfl⟩ := hq
          exact hst q e3 h8
        · exact hst q e2 hq
      have := h7 (ρ z') (a.eval z) { e with key := a.eval y, val := a.eval z } hz rfl rfl
      have he : (E.modify j fun e => { e with key := a.eval y, val := a.eval z }).toList = E.toList.set j { e with key := a.eval y, val := a.eval z } := by
        apply List.ext_getElem?
        intro q
        rw [Array.getElem?_toList, Array.getElem?_modify, List.getElem?_set]
        by_cases hq : j = q
        · subst hq; rw [if_pos rfl, if_pos rfl, h3']; simp [hj]
        · simp [hq]
      rw [he]; exact this

/-! ### Iterators over strings -/
theorem rel_iter {c : Nat} {v : Value} (h : RelV F m (.iter c) v) : ∃ b, m.obj c = some b ∧ v = .pointer (some ⟨b, 0, none⟩) := by simpa only [RelV] using h

theorem s_rng {t : TypeId} {x : Operand} {x' : Opd} (hr : RelH F base m h w) (hop : o.op = .range t x) (hu : P.underlying t = some .string) (hx : RelV F m (ρ x') (a.eval x)) (hev : evOp cf ρ h (.rng x') = some (r, h')) : Good P F base o a m h w r h' := by
  simp only [evOp] at hev
  split at hev
  · rename_i s hk
    rw [hk] at hx
    cases hev
    have hs := newObj_step (o := .iter s 0) (ob := .stringIter ⟨s.toArray⟩ 0) (w' := w.alloc (.stringIter ⟨s.toArray⟩ 0)) hr rfl (alloc_heap _ _) rfl rfl rfl ?_
    · refine good_value (v := .pointer (some ⟨w.heap.size, 0, none⟩)) ?_ ?_ hs
      · simp [execOp, hop, Instr.range, run_underlying hu, rel_str hx]
      · simp only [RelV]
        exact ⟨_, by simp [Emb.addObj], rfl⟩
    · intro b hb
      have : b = w.heap.size := by simpa [Emb.addObj, eq_comm] using hb
      subst this
      exact ⟨hr.le, by rw [alloc_heap]; simp⟩
  · cases hev

theorem s_nxt {x : Operand} {x' : Opd} (hr : RelH F base m h w) (hop : o.op = .next x true) (hx : RelV F m (ρ x') (a.eval x)) (hev : evOp cf ρ h (.nxt x') = some (r, h')) : Good P F base o a m h w r h' := by
  simp only [evOp] at hev
  split at hev
  case h_2 => cases hev
  rename_i c hk
  rw [hk] at hx
  split at hev
  case h_2 => cases hev
  rename_i s pos hc
  obtain ⟨b, hb, hv⟩ := rel_iter hx
  obtain ⟨hbase, hg⟩ := hr.ob c _ hc b hb
  split at hev
  · rename_i hpos
    cases hev
    have hs := setObj_step (o' := .iter s (pos + (dec s pos).2)) (ob := .stringIter ⟨s.toArray⟩ (pos + (dec s pos).2)) hr hc rfl rfl hb hbase ?_
    · refine good_value (v := .tuple #[.bool true, .int .i64 pos, .int .i32 (dec s pos).1]) ?_ ?_ hs
      · have hsz : (⟨s.toArray⟩ : ByteArray).size = s.length := rfl
        simp [execOp, hop, hv, Instr.next, getObj, setObj, Sem.run, hg, hsz, hpos, goInt, dec]
      · simp only [RelV]
        exact ⟨_, rfl, by simp only [RelL]; exact ⟨_, _, rfl, by simp only [RelV], _, _, rfl, by simp only [RelV], _, _, rfl, by simp only [RelV], rfl⟩⟩
    · intro b' hb'
      rw [hb] at hb'; cases hb'
      exact ⟨hbase, by simp [hr.lto c b hb]⟩
  · rename_i hpos
    cases hev
    refine good_pure hr (v := .tuple #[.bool false]) ?_ ?_
    · have hsz : (⟨s.toArray⟩ : ByteArray).size = s.length := rfl
      simp [execOp, hop, hv, Instr.next, getObj, Sem.run, hg, hsz, hpos]
    · simp only [RelV]
      exact ⟨_, rfl, by simp only [RelL]; exact ⟨_, _, rfl, by simp only [RelV], rfl⟩⟩

/-! ### Iterators over maps: laid, and what the last step came to -/
theorem s_rngM {t kt et : TypeId} {x : Operand} {x' : Opd} (hr : RelH F base m h w) (hop : o.op = .range t x) (hu : P.underlying t = some (.map kt et)) (hx : RelV F m (ρ x') (a.eval x)) (hev : evOp cf ρ h (.rngM x') = some (r, h')) : Good P F base o a m h w r h' := by
  simp only [evOp] at hev
  split at hev
  case h_2 => cases hev
  rename_i c hk
  rw [hk] at hx
  split at hev
  case h_2 => cases hev
  rename_i es hc
  cases hev
  obtain ⟨b, hb, hv⟩ := rel_map hx
  obtain ⟨hbase, E, hg, hE, hst⟩ := obj_mapS hr hc hb
  have hl : E.size = es.length := by have := RelE.length hE; simpa using this
  have hlt := (List.getElem?_eq_some_iff.1 hc).1
  have hs := newObj_step (o := .mit c es.length []) (ob := .mapIter (some b) E.size #[] E.size) (w' := w.alloc (.mapIter (some b) E.size #[] E.size)) hr rfl (alloc_heap _ _) rfl rfl rfl ?_
  · refine good_value (v := .pointer (some ⟨w.heap.size, 0, none⟩)) ?_ ?_ hs
    · simp [execOp, hop, hv, Instr.range, run_underlying hu, getObj, Sem.run, hg]
    · simp only [RelV]
      exact ⟨_, by simp [Emb.addObj], rfl⟩
  · intro b2 hb2
    have : b2 = w.heap.size := by simpa [Emb.addObj, eq_comm] using hb2
    subst this
    refine ⟨hr.le, b, #[], ?_, by rw [alloc_heap, hl]; simp, rfl⟩
    simp only [Emb.addObj]
    rw [if_neg (by omega)]
    exact hb
theorem RelE.at : ∀ {es : List (AV × AV)} {l : List MapEntry}, RelE F m es l → ∀ (i : Nat) (e : AV × AV), es[i]? = some e → ∃ e', l[i]? = some e' ∧ RelV F m e.1 e'.key ∧ RelV F m e.2 e'.val
  | [], _, _, i, e, h => by simp at h
  | (k, v) :: es, l, hl, i, e, h => by
    obtain ⟨e0, l', rfl, h1, h2, h3⟩ := hl
    cases i with
    | zero => simp at h; subst h; exact ⟨e0, rfl, h1, h2⟩
    | succ i => simp at h; simpa using RelE.at h3 i e h
theorem find_born {E : Array MapEntry} (hst : ∀ (i : Nat) (e : MapEntry), E[i]? = some e → e.born = i) {i : Nat} {e : MapEntry} (h : E[i]? = some e) : E.find? (fun x => x.born == i) = some e := by
  have hb := hst i e h
  have hm : e ∈ E := Array.mem_of_getElem? h
  cases hf : E.find? (fun x => x.born == i) with
  | none =>
    rw [Array.find?_eq_none] at hf
    have := hf e hm
    simp [hb] at this
  | some e2 =>
    have h1 := Array.find?_some hf
    have h2 := Array.mem_of_find?_eq_some hf
    obtain ⟨j, hj⟩ := Array.mem_iff_getElem?.1 h2
    have h3 := hst j e2 hj
    simp at h1
    rw [h3] at h1
    subst h1
    rw [h] at hj; cases hj; rfl
theorem s_ent {x : Operand} {x' : Opd} (hr : RelH F base m h w) (hop : o.op = .entry x) (hx : RelV F m (ρ x') (a.eval x)) (hev : evOp cf ρ h (.ent x') = some (r, h')) : Good P F base o a m h w r h' := by
  simp only [evOp] at hev
  split at hev
  case h_2 => cases hev
  rename_i c hk
  rw [hk] at hx
  split at hev
  case h_2 => cases hev
  rename_i cm since seen hc
  split at hev
  case h_2 => cases hev
  rename_i es hcm
  split at hev
  case h_2 => cases hev
  rename_i i hi
  split at hev
  case isFalse => cases hev
  rename_i hlen
  rw [Option.map_eq_some_iff] at hev
  obtain ⟨e, he, hev⟩ := hev
  cases hev
  obtain ⟨b, hb, hv⟩ := rel_iter hx
  obtain ⟨hbase, bm, sn, hbm, hg, hsn⟩ := hr.ob c _ hc b hb
  obtain ⟨_, E, hgm, hE, hst⟩ := obj_mapS hr hcm hbm
  obtain ⟨e', he', h1, h2⟩ := RelE.at hE i e he
  have hl : E.size = es.length := by have := RelE.length hE; simpa using this
  have hback : sn.back? = some i := by
    rw [← hsn] at hi
    rw [← hi, Array.getLast?_toList]
  have hf := find_born hst (show E[i]? = some e' by simpa using he')
  refine good_pure hr (v := .tuple #[e'.key, e'.val]) ?_ ?_
  · have hsz : (E.size != since) = false := by simp [hl, hlen]
    simp [execOp, hop, hv, Instr.entry, getObj, Sem.run, hg, hgm, hback, hsz, hf]
    exact hl.trans hlen
  · simp only [RelV]
    exact ⟨_, rfl, by simp only [RelL]; exact ⟨_, _, rfl, h1, _, _, rfl, h2, rfl⟩⟩

end
end Go.Proofs.YtnamhjdfegohbaaGreatDoor.Ab

/- OPERATIONS, sixth part: conversions of strings, make, literals, comparisons. -/
namespace Go.Proofs.YtnamhjdfegohbaaGreatDoor.Ab
open Go Go.RowKit

section
variable {P : Program} {F : Nat → Nat} {base : Nat} {o : Oper} {a : Act} {m m' : Emb} {h h' : AH} {w w' : World} {r : AV} {ρ : Opd → AV} {cf : CF}

theorem RelL.bytes : ∀ (s : List UInt8), RelL F m (s.map fun b => AV.int .u8 b.toNat) (s.map fun b => Value.int .u8 b.toNat)
  | [] => by simp [RelL]
  | b :: s => by
    simp only [List.map_cons, RelL]
    exact ⟨_, _, rfl, by simp only [RelV], RelL.bytes s⟩

theorem s_toB {s d e : TypeId} {x : Operand} {x' : Opd} (hr : RelH F base m h w) (hop : o.op = .convert s d x) (hs : hasT P s = true) (hd : P.underlying d = some (.slice e)) (he : P.underlying e = some (.int .u8)) (hx : RelV F m (ρ x') (a.eval x))
    (hev : evOp cf ρ h (.toB x') = some (r, h')) : Good P F base o a m h w r h' := by
  simp only [evOp] at hev
  split at hev
  case h_2 => cases hev
  rename_i t hk
  rw [hk] at hx
  split at hev
  case isFalse => cases hev
  simp only [Option.map_eq_some_iff, Prod.mk.injEq] at hev
  obtain ⟨⟨c, h2⟩, hn, rfl, rfl⟩ := hev
  obtain ⟨u, hu⟩ := Option.isSome_iff_exists.1 hs
  have hrun := Go.Lib.run_convert_string_bytes w s d e ⟨t.toArray⟩ hu hd he
  have hsz : (⟨t.toArray⟩ : ByteArray).size = t.length := rfl
  have hcells : Go.Lib.bytesCells w e ⟨t.toArray⟩ = ((t.map fun b : UInt8 => Value.int .u8 b.toNat) ++ List.replicate (grownCap w t.length 0 e - t.length) (Value.int .u8 0)).toArray := by
    simp [Go.Lib.bytesCells, hsz]
  have hheap : (Go.Lib.bytesWorld w e ⟨t.toArray⟩).heap = w.heap.push (.cells ((t.map fun b : UInt8 => Value.int .u8 b.toNat) ++ List.replicate (grownCap w t.length 0 e - t.length) (Value.int .u8 0)).toArray e ((Go.Lib.bytesCells w e ⟨t.toArray⟩).size, (Go.Lib.bytesCells w e ⟨t.toArray⟩).size + 1)) := by
    apply Array.ext_getElem?
    intro j
    rw [Array.getElem?_push]
    by_cases hj : j = w.heap.size
    · subst hj
      rw [if_pos rfl, Go.Lib.bytesWorld_at_new, hcells]
    · rw [if_neg hj]
      by_cases hlt : j < w.heap.size
      · exact Go.Lib.bytesWorld_at_old w e _ j hlt
      · rw [Array.getElem?_eq_none (by rw [Go.Lib.bytesWorld_size]; omega), Array.getElem?_eq_none (by omega)]
  obtain ⟨rfl, hst⟩ := newRow_step (w' := Go.Lib.bytesWorld w e ⟨t.toArray⟩) (t := e) (fr := ((Go.Lib.bytesCells w e ⟨t.toArray⟩).size, (Go.Lib.bytesCells w e ⟨t.toArray⟩).size + 1))
    (vs := t.map fun b : UInt8 => Value.int .u8 b.toNat) (rest := List.replicate (grownCap w t.length 0 e - t.length) (.int .u8 0)) hr hn (RelL.bytes t) (.inl (by rw [hcells]; simp)) hheap rfl rfl rfl
  · refine good_value (v := .slice (some ⟨w.heap.size, 0, none⟩) t.length (grownCap w t.length 0 e)) ?_ ?_ hst
    · simp only [execOp, hop, rel_str hx, Sem.run_bind, hrun, Result.andThen, Sem.run_pure, hsz]
    · simp only [RelV]
      have hg : t.length ≤ grownCap w t.length 0 e := grownCap_ge ..
      refine ⟨_, _, _, Emb.addRow_at _ _ _ _, rfl, hg, .inr ⟨Nat.le_refl _, rfl, ?_, ?_⟩⟩
      · simp
      · simp; omega

theorem bytesL_rel {g : Value → ByteArray → Sem (ForInStep ByteArray)} (hg : ∀ n s, g (.int .u8 n) s = pure (.yield (s.push (UInt8.ofNat n.toNat)))) : ∀ {cs : List AV} {s : List UInt8} {vs : List Value}, bytesL cs = some s → RelL F m cs vs → ∀ acc : ByteArray,
    (forIn vs acc g).run P w = .ok ⟨acc.data ++ s.toArray⟩ w
  | [], s, vs, hb, hr, acc => by
    simp only [RelL] at hr; subst hr
    simp only [bytesL, Option.some.injEq] at hb; subst hb
    simp
  | c :: cs, s, vs, hb, hr, acc => by
    simp only [RelL] at hr
    obtain ⟨v, l, rfl, h1, h2⟩ := hr
    simp only [bytesL] at hb
    split at hb
    · rename_i b bs hb1 hb2
      cases hb
      unfold byte1 at hb1
      split at hb1
      · rename_i n
        cases hb1
        have ih := bytesL_rel hg hb2 h2 (acc.push (UInt8.ofNat n.toNat))
        rw [rel_int h1]
        simp only [List.forIn_cons, Sem.run_bind, hg, Sem.run_pure, Result.andThen]
        rw [ih]
        congr 1
        apply ByteArray.ext
        apply Array.ext'
        simp [ByteArray.push]
      · cases hb1
    · cases hb

theorem s_ofB {s d e : TypeId} {x : Operand} {x' : Opd} (hr : RelH F base m h w) (hop : o.op = .convert s d x) (hs : P.underlying s = some (.slice e)) (he : P.underlying e = some (.int .u8)) (hd : P.underlying d = some .string) (hx : RelV F m (ρ x') (a.eval x))
    (hev : evOp cf ρ h (.ofB x') = some (r, h')) : Good P F base o a m h w r h' := by
  simp only [evOp] at hev
  split at hev
  · rename_i hk
    rw [hk] at hx
    cases hev
    have hv : a.eval x = .slice none 0 0 := by simpa only [RelV] using hx
    refine good_pure hr (v := .string ⟨#[]⟩) ?_ (by simp only [RelV])
    simp [execOp, hop, convert, run_underlying hs, run_underlying he, run_underlying hd, hv, Conv.bytesToString]
    rfl
  · rename_i hk
    rw [hk] at hx
    cases hev
    obtain ⟨ad, hv⟩ : ∃ ad, a.eval x = .slice (some ad) 0 0 := by simpa only [RelV] using hx
    refine good_pure hr (v := .string ⟨#[]⟩) ?_ (by simp only [RelV])
    simp [execOp, hop, convert, run_underlying hs, run_underlying he, run_underlying hd, hv, Conv.bytesToString, loadCells, loadCellsFrom]
    rfl
  · rename_i c k off len esz hk
    rw [hk] at hx
    obtain ⟨p, of', cap, hp, hv, hlc, hcap⟩ := rel_slice hx
    split at hev
    case isFalse => cases hev
    rename_i hesz
    subst hesz
    split at hev
    case h_2 => cases hev
    rename_i cs hcs
    simp only [Option.map_eq_some_iff, Prod.mk.injEq] at hev
    obtain ⟨t, ht, rfl, rfl⟩ := hev
    have key : ∃ vs : List Value, RelL F m cs vs ∧ (loadCells ⟨p.blk, of', none⟩ len).run P w = .ok vs.toArray w := by
      by_cases h0 : cap = 0
      · obtain rfl : len = 0 := by omega
        have : cs = [] := by
          unfold rdRow at hcs
          split at hcs
          · split at hcs
            · cases hcs; simp
            · cases hcs
          · cases hcs
        subst this
        exact ⟨[], by simp [RelL], by simp [loadCells, loadCellsFrom]⟩
      · obtain ⟨g1, rfl, g3, g4⟩ := hcap.resolve_left h0
        obtain ⟨vs, k1, k2, k3⟩ := hr.loads (P := P) hcs hp g1 (by omega)
        exact ⟨vs, k1, k3⟩
    obtain ⟨vs, k1, k2⟩ := key
    refine good_pure hr (v := .string ⟨t.toArray⟩) ?_ (by simp only [RelV])
    simp [execOp, hop, convert, run_underlying hs, run_underlying he, run_underlying hd, hv, Conv.bytesToString, k2]
    rw [bytesL_rel (fun _ _ => rfl) ht k1]
    simp
  · cases hev

end
end Go.Proofs.YtnamhjdfegohbaaGreatDoor.Ab

/- OPERATIONS, seventh part: make, literals, comparisons of structs and with nil. -/
namespace Go.Proofs.YtnamhjdfegohbaaGreatDoor.Ab
open Go Go.RowKit

section
variable {P : Program} {F : Nat → Nat} {base : Nat} {o : Oper} {a : Act} {m m' : Emb} {h h' : AH} {w w' : World} {r : AV} {ρ : Opd → AV} {cf : CF}

theorem replicate_get {α : Type} (z : List α) : ∀ (n i : Nat), (List.replicate n z).flatten[i]? = if i < n * z.length then z[i % z.length]? else none
  | 0, i => by simp
  | n + 1, i => by
    simp only [List.replicate_succ, List.flatten_cons, List.getElem?_append]
    by_cases h : i < z.length
    · rw [if_pos h, if_pos (by rw [Nat.succ_mul]; omega), Nat.mod_eq_of_lt h]
    · rw [if_neg h, replicate_get z n]
      have : (i - z.length) % z.length = i % z.length := by
        conv => rhs; rw [show i = i - z.length + z.length by omega, Nat.add_mod_right]
      rw [this]
      by_cases h2 : i - z.length < n * z.length
      · rw [if_pos h2, if_pos (by rw [Nat.succ_mul]; omega)]
      · rw [if_neg h2, if_neg (by rw [Nat.succ_mul]; omega)]

theorem made_rel {z : List AV} {zv : Array Value} (hz : RelL F m z zv.toList) (n N : Nat) (hn : n * zv.size ≤ N) : RelL F m (List.replicate n z).flatten ((madeCells zv N).toList.take (n * zv.size)) := by
  have hl : zv.size = z.length := by simpa using hz.length
  refine RelL.of ?_ ?_
  · simp [madeCells, hl]; rw [hl] at hn; omega
  · intro i x v hx hv
    rw [replicate_get] at hx
    split at hx
    · rename_i hi
      rw [List.getElem?_take_of_lt (by rw [hl]; exact hi)] at hv
      have h0 : 0 < z.length := by
        rcases Nat.eq_zero_or_pos z.length with h0 | h0
        · rw [h0] at hi; simp at hi
        · exact h0
      have hm : i % z.length < z.length := Nat.mod_lt _ h0
      have hiN : i < N := by rw [hl] at hn; omega
      rw [Array.getElem?_toList] at hv
      simp only [madeCells, Array.getElem?_map] at hv
      rw [Array.getElem?_eq_getElem (by simpa using hiN)] at hv
      simp only [Array.getElem_range, Option.map_some, Option.some.injEq] at hv
      obtain ⟨v', hv', hxv⟩ := hz.get _ x hx
      rw [hl] at hv
      rw [Array.getElem?_toList] at hv'
      rw [getElem!_def, hv'] at hv
      subst hv; exact hxv
    · cases hx

theorem by_eq {t : TypeId} (h : by64 P t = true) {i : TypeInfo} (hi : P.info? t = some i) : i.bytes ≤ 64 := by
  unfold by64 at h; rw [hi] at h; exact of_decide_eq_true h

theorem s_make {t e : TypeId} {x y : Operand} {esz : Nat} {z : List AV} {x' y' : Opd} (hr : RelH F base m h w) (hop : o.op = .makeSlice t x y) (hu : P.underlying t = some (.slice e)) (hs : sz P e esz = true) (hb : by64 P e = true) (hz : zer P F e z = true)
    (hx : RelV F m (ρ x') (a.eval x)) (hy : RelV F m (ρ y') (a.eval y)) (hev : evOp cf ρ h (.make esz z x' y') = some (r, h')) : Good P F base o a m h w r h' := by
  simp only [evOp] at hev
  split at hev
  case h_2 => cases hev
  rename_i k1 n k2 mx h1 h2
  rw [h1] at hx; rw [h2] at hy
  split at hev
  case isFalse => cases hev
  rename_i hc
  obtain ⟨c0, c1, c2, c3⟩ := hc
  simp only [Option.map_eq_some_iff, Prod.mk.injEq] at hev
  obtain ⟨⟨c, hh⟩, hn, rfl, rfl⟩ := hev
  obtain ⟨i, zv, hi, hzv, hcz, hsc⟩ := zer_eq hz
  obtain ⟨i', hi', hsz⟩ := sz_eq hs
  rw [hi] at hi'; cases hi'
  have hby := by_eq hb hi
  have hrelz : RelL F m z zv.cells.toList := chkVs_rel _ _ hcz
  have hzl : zv.cells.size = esz := by have := hrelz.length; simp at this; omega
  unfold room at c2
  have hrun := run_make (P := P) w t e i zv hu hi hzv k1 k2 n mx c0 c1 (by have : (i.bytes : Int) * mx ≤ 64 * mx := Int.mul_le_mul_of_nonneg_right (by omega) (by omega); omega) (by omega)
  have hle : n.toNat * zv.cells.size ≤ mx.toNat * i.size := by rw [hzl, hsz]; exact Nat.mul_le_mul_right _ (by omega)
  have hrel := made_rel (m := m) hrelz n.toNat (mx.toNat * i.size) hle
  obtain ⟨rfl, hst⟩ := newRow_step (w' := w.alloc (.cells (madeCells zv.cells (mx.toNat * i.size)) e)) (t := e) (fr := (0, 0)) (rest := (madeCells zv.cells (mx.toNat * i.size)).toList.drop (n.toNat * zv.cells.size)) hr hn hrel (.inr (Nat.le_refl _))
    (by rw [alloc_heap, List.take_append_drop]) rfl rfl rfl
  refine good_value (v := .slice (some ⟨w.heap.size, 0, none⟩) n.toNat mx.toNat) ?_ ?_ hst
  · simp only [execOp, hop, rel_int hx, rel_int hy, Sem.run_bind, hrun, Result.andThen, Sem.run_pure]
  · simp only [RelV]
    refine ⟨_, _, _, Emb.addRow_at _ _ _ _, rfl, by omega, .inr ⟨Nat.le_refl _, rfl, ?_, ?_⟩⟩
    · simp [c3]
    · have this : n.toNat * esz ≤ mx.toNat * esz := Nat.mul_le_mul_right _ (by omega)
      have hm : min n.toNat mx.toNat = n.toNat := by omega
      simp [size_madeCells, hzl, hsz, hm]
      omega

/-! ### Literals -/
theorem parts_rel {place : Nat → Option (Nat × Nat)} {ps : List (Nat × Operand)} {qs : List (Nat × Nat × Opd)} {zs cs : List AV} {vs : Array Value} (hf : fillP zs (qs.map fun (o, n, x) => (o, n, ρ x)) = some cs) (hz : RelL F m zs vs.toList)
    (hl : ps.length = qs.length) (hp : ∀ (i : Nat) j x off n y, ps[i]? = some (j, x) → qs[i]? = some (off, n, y) → place j = some (off, n) ∧ RelV F m (ρ y) (a.eval x)) :
    ∃ us, Instr.fill place vs (ps.map fun (i, x) => (i, a.eval x)) = some us ∧ RelL F m cs us.toList := by
  refine fill_rel _ _ zs vs cs hf hz (by simp [hl]) ?_
  intro i off n x j v h1 h2
  rw [List.getElem?_map] at h1 h2
  cases hq : qs[i]? with
  | none => rw [hq] at h1; cases h1
  | some q =>
    obtain ⟨o1, n1, y⟩ := q
    cases hpp : ps[i]? with
    | none => rw [hpp] at h2; cases h2
    | some pp =>
      obtain ⟨j1, x1⟩ := pp
      rw [hq] at h1; rw [hpp] at h2
      simp only [Option.map_some, Option.some.injEq, Prod.mk.injEq] at h1 h2
      obtain ⟨rfl, rfl, rfl⟩ := h1
      obtain ⟨rfl, rfl⟩ := h2
      obtain ⟨g1, g2⟩ := hp i _ _ _ _ _ hpp hq
      have hsc : (ρ y).cells.all AV.sc = true := by
        have gen : ∀ (l : List (Nat × Nat × AV)) (zs cs : List AV) (i : Nat) o n x, fillP zs l = some cs → l[i]? = some (o, n, x) → x.cells.all AV.sc = true := by
          intro l
          induction l with
          | nil => intro zs cs i o n x _ h; simp at h
          | cons p l ih =>
            obtain ⟨o0, n0, x0⟩ := p
            intro zs cs i o n x h h2
            simp only [fillP] at h
            split at h
            · rename_i hc
              cases i with
              | zero => simp at h2; obtain ⟨_, _, rfl⟩ := h2; exact hc.2.2
              | succ i => exact ih _ _ i o n x h (by simpa using h2)
            · cases h
        exact gen _ _ _ i _ _ _ hf (by rw [List.getElem?_map, hq]; rfl)
      refine ⟨g1, g2, ?_, ?_⟩
      · intro he; rw [he] at hsc; cases hsc
      · intro xs he; rw [he] at hsc; cases hsc

theorem placesF_get {fs : Array Field} : ∀ {ps : List (Nat × Operand)} {qs : List (Nat × Nat × Opd)}, placesF P F fs ps qs = true → ps.length = qs.length ∧
    ∀ (i : Nat) j x off n y, ps[i]? = some (j, x) → qs[i]? = some (off, n, y) → (∃ f, fs[j]? = some f ∧ f.offset = off ∧ sz P f.type n = true) ∧ chkO F x y = true
  | [], [], _ => ⟨rfl, fun i j x off n y h _ => by simp at h⟩
  | [], _ :: _, h => by simp [placesF] at h
  | _ :: _, [], h => by simp [placesF] at h
  | (j0, x0) :: ps, (o0, n0, y0) :: qs, h => by
    simp only [placesF, Bool.and_eq_true] at h
    obtain ⟨⟨h1, h2⟩, h3⟩ := h
    obtain ⟨g1, g2⟩ := placesF_get h3
    refine ⟨by simp [g1], ?_⟩
    intro i j x off n y e1 e2
    cases i with
    | succ i => exact g2 i j x off n y (by simpa using e1) (by simpa using e2)
    | zero =>
      simp at e1 e2
      obtain ⟨rfl, rfl⟩ := e1
      obtain ⟨rfl, rfl, rfl⟩ := e2
      split at h1
      · rename_i f hf
        simp only [Bool.and_eq_true, decide_eq_true_eq] at h1
        exact ⟨⟨f, hf, h1.1, h1.2⟩, h2⟩
      · cases h1
theorem placesA_get {esz : Nat} : ∀ {ps : List (Nat × Operand)} {qs : List (Nat × Nat × Opd)}, placesA F esz ps qs = true → ps.length = qs.length ∧
    ∀ (i : Nat) j x off n y, ps[i]? = some (j, x) → qs[i]? = some (off, n, y) → (j * esz = off ∧ n = esz) ∧ chkO F x y = true
  | [], [], _ => ⟨rfl, fun i j x off n y h _ => by simp at h⟩
  | [], _ :: _, h => by simp [placesA] at h
  | _ :: _, [], h => by simp [placesA] at h
  | (j0, x0) :: ps, (o0, n0, y0) :: qs, h => by
    simp only [placesA, Bool.and_eq_true, decide_eq_true_eq] at h
    obtain ⟨⟨⟨h1, h1'⟩, h2⟩, h3⟩ := h
    obtain ⟨g1, g2⟩ := placesA_get h3
    refine ⟨by simp [g1], ?_⟩
    intro i j x off n y e1 e2
    cases i with
    | succ i => exact g2 i j x off n y (by simpa using e1) (by simpa using e2)
    | zero =>
      simp at e1 e2
      obtain ⟨rfl, rfl⟩ := e1
      obtain ⟨rfl, rfl, rfl⟩ := e2
      exact ⟨⟨h1, h1'⟩, h2⟩

theorem s_build {t : TypeId} {ps : Array (Nat × Operand)} {z : List AV} {qs : List (Nat × Nat × Opd)} (hr : RelH F base m h w) (hop : o.op = .build t ps) (hz : zer P F t z = true)
    (hc : (match P.underlying t with
      | some (.struct fs) => szAll P fs && placesF P F fs ps.toList qs
      | some (.array _ e) => (match P.info? e with | some i => placesA F i.size ps.toList qs | none => false)
      | _ => false) = true)
    (hx : ∀ x y, chkO F x y = true → RelV F m (ρ y) (a.eval x)) (hev : evOp cf ρ h (.build z qs) = some (r, h')) : Good P F base o a m h w r h' := by
  simp only [evOp, Option.map_eq_some_iff, Prod.mk.injEq] at hev
  obtain ⟨cs, hf, rfl, rfl⟩ := hev
  obtain ⟨i, zv, hi, hzv, hcz, hsc⟩ := zer_eq hz
  have hrelz : RelL F m z zv.cells.toList := chkVs_rel _ _ hcz
  have fin : ∀ us, P.built t (ps.map fun (i, x) => (i, a.eval x)).toList = some us → RelL F m cs us.toList → Good P F base o a m h w (.agg cs) h := by
    intro us hb hus
    refine good_pure hr (v := .agg us) ?_ (by simp only [RelV]; exact ⟨us, rfl, hus⟩)
    have := run_build (P := P) w t _ us hb
    simp only [execOp, hop, Sem.run_bind, this, Result.andThen, Sem.run_pure]
  have hpl : (ps.map fun (i, x) => (i, a.eval x)).toList = ps.toList.map fun (i, x) => (i, a.eval x) := by simp
  split at hc
  · rename_i fs hu
    simp only [Bool.and_eq_true] at hc
    obtain ⟨hs, hp⟩ := hc
    obtain ⟨g1, g2⟩ := placesF_get hp
    have hmap : ∀ l : List Field, (l.all fun f => (P.info? f.type).isSome) = true → l.mapM (fun f => (P.info? f.type).map fun i => (f.offset, i.size)) = some (l.map fun f => (f.offset, ((P.info? f.type).map (·.size)).getD 0)) := by
      intro l
      induction l with
      | nil => intro _; rfl
      | cons f l ih =>
        intro h
        simp only [List.all_cons, Bool.and_eq_true] at h
        obtain ⟨j, hj⟩ := Option.isSome_iff_exists.1 h.1
        simp [List.mapM_cons, hj, ih h.2]
    obtain ⟨us, hus, hrel⟩ := parts_rel (a := a) (place := ((fs.toList.map fun f => (f.offset, ((P.info? f.type).map (·.size)).getD 0)).toArray[·]?)) hf hrelz g1 (by
      intro i j x off n y e1 e2
      obtain ⟨⟨f, hf', ho, hsz⟩, hxy⟩ := g2 i j x off n y e1 e2
      refine ⟨?_, hx x y hxy⟩
      obtain ⟨k, hk, hks⟩ := sz_eq hsz
      rw [List.getElem?_toArray, List.getElem?_map, Array.getElem?_toList, hf']
      simp [ho, hk, hks])
    refine fin us ?_ hrel
    unfold Program.built
    rw [hpl]
    simp only [hi, hu, hzv, hmap _ hs]
    exact hus
  · rename_i n e hu
    split at hc
    · rename_i ie hie
      obtain ⟨g1, g2⟩ := placesA_get hc
      obtain ⟨us, hus, hrel⟩ := parts_rel (a := a) (place := fun i => some (i * ie.size, ie.size)) hf hrelz g1 (by
        intro i j x off n y e1 e2
        obtain ⟨⟨ho, hn⟩, hxy⟩ := g2 i j x off n y e1 e2
        exact ⟨by rw [ho, hn], hx x y hxy⟩)
      refine fin us ?_ hrel
      unfold Program.built
      rw [hpl]
      simp only [hi, hu, hzv, hie]
      exact hus
    · cases hc
  · cases hc

theorem s_lit {t e : TypeId} {ps : Array (Nat × Operand)} {esz len : Nat} {z : List AV} {qs : List (Nat × Nat × Opd)} {ie : TypeInfo} {zv : Value} (hr : RelH F base m h w) (hop : o.op = .buildSlice t len ps) (hu : P.underlying t = some (.slice e)) (hs : sz P e esz = true) (h0 : 0 < esz) (hlen : len * esz ≤ 2 ^ 24) (h1 : 0 < len)
    (hie : P.info? e = some ie) (hzv : ie.zero = some zv) (hcz : chkVs F z ((Array.range (len * esz)).map (zv.cells[· % zv.cells.size]!)).toList = true) (hp : placesA F esz ps.toList qs = true)
    (hx : ∀ x y, chkO F x y = true → RelV F m (ρ y) (a.eval x)) (hev : evOp cf ρ h (.lit esz len z qs) = some (r, h')) : Good P F base o a m h w r h' := by
  simp only [evOp] at hev
  split at hev
  case h_2 => cases hev
  rename_i cs hf
  simp only [Option.map_eq_some_iff, Prod.mk.injEq] at hev
  obtain ⟨⟨c, hh⟩, hn, rfl, rfl⟩ := hev
  obtain ⟨i', hi', hsz⟩ := sz_eq hs
  rw [hie] at hi'; cases hi'
  have hrelz := chkVs_rel (m := m) _ _ hcz
  obtain ⟨g1, g2⟩ := placesA_get hp
  obtain ⟨us, hus, hrel⟩ := parts_rel (a := a) (place := fun i => some (i * ie.size, ie.size)) hf hrelz g1 (by
    intro i j x off n y e1 e2
    obtain ⟨⟨ho, hn⟩, hxy⟩ := g2 i j x off n y e1 e2
    exact ⟨by rw [← ho, hn, hsz], hx x y hxy⟩)
  have hpl : (ps.map fun (i, x) => (i, a.eval x)).toList = ps.toList.map fun (i, x) => (i, a.eval x) := by simp
  have hpos : 0 < len * esz := Nat.mul_pos h1 h0
  have hrun := run_buildSlice (P := P) w t e len (ps.map fun (i, x) => (i, a.eval x)) us ie zv hu hie hzv (by rw [hsz]; omega) (by rw [hsz]; omega) (by rw [hpl, hsz]; rw [hsz] at hus; exact hus)
  have hcl : cs.length = len * esz := by
    have gen : ∀ (l : List (Nat × Nat × AV)) (zs cs : List AV), fillP zs l = some cs → cs.length = zs.length := by
      intro l
      induction l with
      | nil => intro zs cs h; simp [fillP] at h; rw [h]
      | cons p l ih =>
        obtain ⟨o0, n0, x0⟩ := p
        intro zs cs h
        simp only [fillP] at h
        split at h
        · rename_i hc
          rw [ih _ _ h, splice_length (by omega)]
        · cases h
    rw [gen _ _ _ hf]
    have := hrelz.length
    simpa using this.symm
  obtain ⟨rfl, hst⟩ := newRow_step (w' := w.alloc (.cells us e)) (t := e) (fr := (0, 0)) (rest := []) hr hn hrel (.inr (Nat.le_refl _)) (by rw [alloc_heap]; simp) rfl rfl rfl
  refine good_value (v := .slice (some ⟨w.heap.size, 0, none⟩) len len) ?_ ?_ hst
  · simp only [execOp, hop, Sem.run_bind, hrun, Result.andThen, Sem.run_pure]
  · simp only [RelV]
    have hul := hrel.length
    simp at hul
    exact ⟨_, _, _, Emb.addRow_at _ _ _ _, rfl, Nat.le_refl _, .inr ⟨Nat.le_refl _, rfl, by simp [hcl], by simp [hul, hcl]⟩⟩

theorem s_lit0 {t e : TypeId} {ps : Array (Nat × Operand)} (hr : RelH F base m h w) (hop : o.op = .buildSlice t 0 ps) (hp : ps.isEmpty = true) (hu : P.underlying t = some (.slice e)) (hi : (P.info? e).isSome = true) (hev : evOp cf ρ h .lit0 = some (r, h')) : Good P F base o a m h w r h' := by
  simp only [evOp] at hev
  cases hev
  obtain ⟨ie, hie⟩ := Option.isSome_iff_exists.1 hi
  obtain rfl : ps = #[] := by simpa using hp
  have hold : ∀ b, b < w.heap.size → (w.alloc (.cells #[] e)).heap[b]? = w.heap[b]? := by
    intro b hb
    rw [alloc_heap, Array.getElem?_push, if_neg (by omega)]
  have hst : StepR F base m h w m h (w.alloc (.cells #[] e)) := by
    refine ⟨Emb.le_refl m, ⟨hr.rowc, hr.objc, ?_, hr.inj, hr.injo, hr.injr, ?_, ?_, hr.vers, ?_⟩, rfl, rfl, rfl, ?_, fun b hb _ => hold b hb, fun _ _ _ h => .inl h, fun _ _ h => .inl h, fun _ _ _ => rfl, Nat.le_refl _⟩
    · intro c ob hc
      exact ObjRel.keep (hr.ob c ob hc) (Emb.le_refl m) (fun _ _ h => h) (fun _ h => h) (fun k p hp => hold _ (hr.ltr c k p hp)) (fun b hb => hold _ (hr.lto c b hb))
    · intro c k p hp; have := hr.ltr c k p hp; rw [alloc_heap]; simp; omega
    · intro c b hb; have := hr.lto c b hb; rw [alloc_heap]; simp; omega
    · have := hr.le; rw [alloc_heap]; simp; omega
    · rw [alloc_heap]; simp
  refine good_value (v := .slice (some ⟨w.heap.size, 0, none⟩) 0 0) ?_ (by simp only [RelV]; exact ⟨_, rfl⟩) hst
  have hsz : ∀ w, (sizeOf e).run P w = .ok ie.size w := fun w => by simp [sizeOf, typeInfo, hie]
  simp [execOp, hop, Instr.buildSlice, run_underlying hu, hsz, Instr.fill, Go.newRow, Array.range_zero']

/-! ### Comparisons -/
theorem eql_run {op : BinOp} {t t2 : TypeId} {x y : Operand} {neg b : Bool} (hop : o.op = .binOp op t x y t2) (hb : op = if neg then .neq else .eql) (hg : (eqGuard op t x y (a.eval x) (a.eval y)).run P w = .ok () w) (hni : ∀ k n, a.eval x ≠ .int k n) (hns : ∀ s, a.eval x ≠ .string s)
    (hcx : ∀ k p q, a.eval x ≠ .complex k p q) (hfl : ∀ k p, a.eval x ≠ .float k p)
    (he : (Op.equal t (a.eval x) (a.eval y)).run P w = .ok b w) : (execOp a.eval o).run P w = .ok (.value (.bool (if neg then !b else b))) w := by
  simp only [execOp, hop, Sem.run_bind, hg, Result.andThen]
  generalize a.eval x = xv at hni hns hcx hfl he ⊢
  generalize a.eval y = yv at he ⊢
  cases neg <;> simp only [if_true, if_false, Bool.false_eq_true] at hb <;> subst hb <;> cases xv <;> first
    | exact absurd rfl (hni _ _)
    | exact absurd rfl (hns _)
    | exact absurd rfl (hcx _ _ _)
    | exact absurd rfl (hfl _ _)
    | simp only [binOp, Sem.run_bind, he, Result.andThen, Sem.run_pure, if_true, if_false, Bool.false_eq_true]

theorem guard_other {op : BinOp} {t : TypeId} {x y : Operand} {xv yv : Value} (h1 : ∀ vs ws, ¬ (xv = .agg vs ∧ yv = .agg ws)) (h2 : ¬ (xv = .nilIface ∧ yv = .nilIface ∧ ∀ v, y ≠ .const v)) (w : World) : (eqGuard op t x y xv yv).run P w = .ok () w := by
  unfold eqGuard
  cases op <;> first
    | rfl
    | (simp only [Bool.not_true, Bool.false_eq_true, if_false, Sem.run_bind, Sem.run_pure, Result.andThen]
       split
       · cases y with
         | const v => simp
         | _ => exact absurd ⟨rfl, rfl, by intro v hv; cases hv⟩ h2
       · exact absurd ⟨rfl, rfl⟩ (h1 _ _)
       · rfl)

theorem eqIn_nf {t : TypeId} {p q : Array TypeId} {vr : Bool} (hu : P.underlying t = some (.func p q vr)) (d : Nat) (w : World) : (Op.equalIn (d + 1) t .nilFunc .nilFunc).run P w = .ok true w := by simp [Op.equalIn, run_underlying hu]
theorem eqIn_fn {t : TypeId} {p q : Array TypeId} {vr : Bool} (hu : P.underlying t = some (.func p q vr)) (d : Nat) (f : Go.Fn) (as1 bs1 : Array Value) (w : World) : (Op.equalIn (d + 1) t (.func f as1 bs1) .nilFunc).run P w = .ok false w := by simp [Op.equalIn, run_underlying hu]

theorem s_niq {op : BinOp} {t t2 : TypeId} {x y : Operand} {neg : Bool} {kd : Nat} {x' : Opd} (hr : RelH F base m h w) (hop : o.op = .binOp op t x y t2) (hb : op = if neg then .neq else .eql) (ht : nilT P t kd y = true) (hx : RelV F m (ρ x') (a.eval x))
    (hev : evOp cf ρ h (.niq neg kd x') = some (r, h')) : Good P F base o a m h w r h' := by
  simp only [evOp, Option.map_eq_some_iff, Prod.mk.injEq] at hev
  obtain ⟨b, hev, rfl, rfl⟩ := hev
  unfold nilT at ht
  split at ht
  case h_2 => cases ht
  rename_i nv
  have hyv : a.eval (.const nv) = nv := rfl
  have fin : ∀ xv : Value, a.eval x = xv → (∀ k n, xv ≠ .int k n) → (∀ s, xv ≠ .string s) → (∀ k p q, xv ≠ .complex k p q) → (∀ k p, xv ≠ .float k p) → (∀ vs, xv ≠ .agg vs) → (Op.equal t xv nv).run P w = .ok b w → Good P F base o a m h w (.bool (if neg then !b else b)) h := by
    intro xv hxv g1 g2 g3 g4 g5 g6
    refine good_pure hr (v := .bool (if neg then !b else b)) ?_ (by simp only [RelV])
    refine eql_run hop hb (guard_other (fun vs ws hh => g5 vs (hxv ▸ hh.1)) (fun hh => hh.2.2 _ rfl) w) (fun k n => hxv ▸ g1 k n) (fun s => hxv ▸ g2 s) (fun k p q => hxv ▸ g3 k p q) (fun k p => hxv ▸ g4 k p) ?_
    rw [hxv]; exact g6
  split at ht
  · rename_i e hu
    simp only [Bool.and_eq_true, decide_eq_true_eq] at ht
    obtain ⟨rfl, hn⟩ := ht
    obtain rfl := nilSv_eq hn
    cases hX : ρ x' <;> rw [hX] at hev hx <;> simp only [evNil] at hev <;> first | (cases hev; done) | skip
    · cases hev
      have hv : a.eval x = .slice none 0 0 := by simpa only [RelV] using hx
      exact fin _ hv (by simp) (by simp) (by simp) (by simp) (by simp) (run_equal_slice_nil w t e none 0 0 hu)
    · cases hev
      obtain ⟨ad, hv⟩ : ∃ ad, a.eval x = .slice (some ad) 0 0 := by simpa only [RelV] using hx
      exact fin _ hv (by simp) (by simp) (by simp) (by simp) (by simp) (run_equal_slice_nil w t e (some ad) 0 0 hu)
    · cases hev
      obtain ⟨p, of', cap, hp, hv, _⟩ := rel_slice hx
      exact fin _ hv (by simp) (by simp) (by simp) (by simp) (by simp) (run_equal_slice_nil w t e _ _ _ hu)
  · rename_i e hu
    simp only [Bool.and_eq_true, decide_eq_true_eq] at ht
    obtain ⟨rfl, hn⟩ := ht
    obtain rfl := nilPv_eq hn
    have hpt : P.underlying t = some (.pointer (P.pointee t)) := by simp [Program.pointee, hu]
    cases hX : ρ x' <;> rw [hX] at hev hx <;> simp only [evNil] at hev <;> first | (cases hev; done) | skip
    · cases hev
      have hv : a.eval x = .pointer none := by simpa only [RelV] using hx
      exact fin _ hv (by simp) (by simp) (by simp) (by simp) (by simp) (run_equal_pointer_nil w t none hpt)
    · cases hev
      obtain ⟨p, hp, hv, _⟩ := rel_ptr hx
      exact fin _ hv (by simp) (by simp) (by simp) (by simp) (by simp) (run_equal_pointer_nil w t _ hpt)
  · rename_i k e hu
    simp only [Bool.and_eq_true, decide_eq_true_eq] at ht
    obtain ⟨rfl, hn⟩ := ht
    obtain rfl := nilMv_eq hn
    cases hX : ρ x' <;> rw [hX] at hev hx <;> simp only [evNil] at hev <;> first | (cases hev; done) | skip
    · cases hev
      have hv : a.eval x = .map none := by simpa only [RelV] using hx
      exact fin _ hv (by simp) (by simp) (by simp) (by simp) (by simp) (run_equal_map_nil w t k e none hu)
    · cases hev
      obtain ⟨b, hb, hv⟩ := rel_map hx
      exact fin _ hv (by simp) (by simp) (by simp) (by simp) (by simp) (run_equal_map_nil w t k e _ hu)
  · rename_i hu
    simp only [Bool.and_eq_true, decide_eq_true_eq] at ht
    obtain ⟨rfl, hn⟩ := ht
    have hn' : nv = .nilFunc := by
      split at hn
      · rfl
      · cases hn
    subst hn'
    cases hX : ρ x' <;> rw [hX] at hev hx <;> simp only [evNil] at hev <;> first | (cases hev; done) | skip
    · cases hev
      obtain ⟨vs, hv, _⟩ := rel_fn hx
      exact fin _ hv (by simp) (by simp) (by simp) (by simp) (by simp) (eqIn_fn hu 9999 _ _ _ w)
    · cases hev
      have hv : a.eval x = .nilFunc := by simpa only [RelV] using hx
      exact fin _ hv (by simp) (by simp) (by simp) (by simp) (by simp) (eqIn_nf hu 9999 w)
  · rename_i ms hu
    simp only [Bool.and_eq_true, decide_eq_true_eq] at ht
    obtain ⟨rfl, hn⟩ := ht
    have hn' : nv = .nilIface := by
      split at hn
      · rfl
      · cases hn
    subst hn'
    have hmt : P.underlying t = some (.interface (P.methodsAt t)) := by simp [Program.methodsAt, hu]
    cases hX : ρ x' <;> rw [hX] at hev hx <;> simp only [evNil] at hev <;> first | (cases hev; done) | skip
    · cases hev
      have hv : a.eval x = .nilIface := by simpa only [RelV] using hx
      exact fin _ hv (by simp) (by simp) (by simp) (by simp) (by simp) (run_equal_nil_nil w t hmt)
    · cases hev
      obtain ⟨u, q, hv⟩ : ∃ u q, a.eval x = .iface u q := by simpa only [RelV] using hx
      exact fin _ hv (by simp) (by simp) (by simp) (by simp) (by simp) (run_equal_held_nil w t u q hmt)
  · cases ht

/-- Fields one by one. -/
theorem fields_run {d : Nat} : ∀ (fs : List Field) (i : Nat) (kds : List Nat), flatFs P fs i kds = true → ∀ (xs ys : List AV) (vs us : Array Value) (b : Bool), RelL F m xs (vs.toList.drop i) → RelL F m ys (us.toList.drop i) → seqL kds xs ys = some b →
    (Op.eqFields (d + 1) vs us fs).run P w = .ok b w
  | [], i, kds, hf, xs, ys, vs, us, b, hx, hy, hs => by
    cases kds with
    | cons _ _ => simp [flatFs] at hf
    | nil =>
      cases xs <;> cases ys <;> simp [seqL] at hs
      subst hs
      simp [Op.eqFields]
  | f :: fs, i, kds, hf, xs, ys, vs, us, b, hx, hy, hs => by
    cases kds with
    | nil => simp [flatFs] at hf
    | cons kd kds =>
      simp only [flatFs, Bool.and_eq_true, decide_eq_true_eq] at hf
      obtain ⟨⟨⟨⟨h1, h2⟩, h3⟩, h4⟩, h5⟩ := hf
      cases xs with
      | nil => simp [seqL] at hs
      | cons x xs =>
      cases ys with
      | nil => simp [seqL] at hs
      | cons y ys =>
      simp only [seqL] at hs
      split at hs
      case h_2 => cases hs
      rename_i p q hkd hpq hrest
      cases hs
      simp only [RelL] at hx hy
      obtain ⟨v, l, e1, hv, hl⟩ := hx
      obtain ⟨u, l2, e2, hu, hl2⟩ := hy
      have gv : vs[i]? = some v := by
        have := congrArg (·[0]?) e1
        simpa [List.getElem?_drop] using this
      have gu : us[i]? = some u := by
        have := congrArg (·[0]?) e2
        simpa [List.getElem?_drop] using this
      have dv : vs.toList.drop (i + 1) = l := by
        have := congrArg List.tail e1
        simpa [List.tail_drop] using this
      have du : us.toList.drop (i + 1) = l2 := by
        have := congrArg List.tail e2
        simpa [List.tail_drop] using this
      split at h2
      case h_2 => cases h2
      rename_i desc hdesc
      have hag : (isAgg f.type).run P w = .ok false w := by
        simp only [isAgg, Sem.run_bind, run_underlying hdesc, Result.andThen]
        cases desc <;> simp [keyD] at h2 <;> rfl
      have pv : (part f.type vs f.offset).run P w = .ok v w := by
        simp [part, hag, h1, gv]
      have pu : (part f.type us f.offset).run P w = .ok u w := by
        simp [part, hag, h1, gu]
      have heq : (Op.equalIn (d + 1) f.type v u).run P w = .ok p w := by
        cases desc <;> simp [keyD] at h2 <;> subst h2 <;> cases x <;> simp [keyIs] at hkd <;> cases y <;> simp only [keyEq] at hpq <;> try (cases hpq; done)
        · cases hpq
          rw [rel_bool hv, rel_bool hu]
          exact run_equalIn_bool' w d f.type _ _ hdesc
        · split at hpq
          · rename_i hk; subst hk
            cases hpq
            rw [rel_int hv, rel_int hu]
            exact run_equalIn_int w d f.type _ _ _ _ hdesc
          · cases hpq
        · cases hpq
          rw [rel_str hv, rel_str hu]
          rw [run_equalIn_string w d f.type _ _ hdesc, bytes_toList, bytes_toList]
      have ih := fields_run (d := d) fs (i + 1) kds h5 xs ys vs us q (by rw [dv]; exact hl) (by rw [du]; exact hl2) hrest
      simp only [Op.eqFields, if_pos h4, Sem.run_bind, pv, pu, heq, Result.andThen]
      cases p
      · simp
      · simp [ih]

theorem s_aeq {op : BinOp} {t t2 : TypeId} {x y : Operand} {neg : Bool} {kds : List Nat} {x' y' : Opd} (hr : RelH F base m h w) (hop : o.op = .binOp op t x y t2) (hb : op = if neg then .neq else .eql) (ht : flatAgg P t kds = true) (hx : RelV F m (ρ x') (a.eval x)) (hy : RelV F m (ρ y') (a.eval y))
    (hev : evOp cf ρ h (.aeq neg kds x' y') = some (r, h')) : Good P F base o a m h w r h' := by
  simp only [evOp] at hev
  split at hev
  case h_2 => cases hev
  rename_i xs ys h1 h2
  rw [h1] at hx; rw [h2] at hy
  simp only [Option.map_eq_some_iff, Prod.mk.injEq] at hev
  obtain ⟨b, hs, rfl, rfl⟩ := hev
  obtain ⟨vs, hv, hvs⟩ := rel_agg hx
  obtain ⟨us, hu, hus⟩ := rel_agg hy
  unfold flatAgg at ht
  split at ht
  case h_2 => cases ht
  rename_i fs hfs
  simp only [Bool.and_eq_true, Bool.not_eq_true'] at ht
  obtain ⟨⟨t1, t2⟩, t3⟩ := ht
  refine good_pure hr (v := .bool (if neg then !b else b)) ?_ (by simp only [RelV])
  refine eql_run hop hb ?_ (by simp [hv]) (by simp [hv]) (by simp [hv]) (by simp [hv]) ?_
  · rw [hv, hu]
    unfold eqGuard
    cases op <;> first
      | rfl
      | simp [t3]
  · rw [hv, hu]
    have hf : P.underlying t = some (.struct (P.fieldsOf t)) := by simp [Program.fieldsOf, hfs]
    have hff : P.fieldsOf t = fs := by simp [Program.fieldsOf, hfs]
    show (Op.equalIn (9999 + 1) t _ _).run P w = _
    rw [run_equalIn_agg w 9999 t vs us hf t2, hff]
    exact fields_run (d := 9998) fs.toList 0 kds t1 xs ys vs us b (by simpa using hvs) (by simpa using hus) hs

end
end Go.Proofs.YtnamhjdfegohbaaGreatDoor.Ab

/- OPERATIONS, eighth part: append, copy, clear. -/
namespace Go.Proofs.YtnamhjdfegohbaaGreatDoor.Ab
open Go Go.RowKit

section
variable {P : Program} {F : Nat → Nat} {base : Nat} {o : Oper} {a : Act} {m m' : Emb} {h h' : AH} {w w' : World} {r : AV} {ρ : Opd → AV} {cf : CF}

def seqD : TypeDesc → Bool
  | .slice _ | .string => true
  | _ => false

section
variable {ts : Array TypeId} {ty t t2 e : TypeId} {d2 : TypeDesc} {i : TypeInfo} {z : Value} (ht : ts[0]? = some t) (ht2 : ts[1]? = some t2) (hu : P.underlying t = some (.slice e)) (hu2 : P.underlying t2 = some d2) (hd : seqD d2 = true) (hi : P.info? e = some i) (hz : i.zero = some z)
include ht ht2 hu hu2 hd hi hz

omit hz in
theorem run_app_fit {ad : Addr} {sLen sCap n : Nat} {x : Value} {news : List Value} (hl : (Builtin.lenOf x).run P w = .ok n w) (hf : (Builtin.firstCells i.size n x).run P w = .ok news.toArray w) (hn : sLen + n ≤ sCap) (hst : (storeCells (ad.add (sLen * i.size)) news).run P w = .ok () w') :
    (Builtin.append_ ts ty #[.slice (some ad) sLen sCap, x]).run P w = .ok (.slice (some ad) (sLen + n) sCap) w' := by
  cases d2 <;> simp [seqD] at hd <;>
    simp [Builtin.append_, ht, ht2, run_underlying hu, run_underlying hu2, sizeOf, typeInfo, hi, hl, hf, hn, hst]

omit hz in
theorem run_app_none {x : Value} {news : List Value} (hl : (Builtin.lenOf x).run P w = .ok 0 w) (hf : (Builtin.firstCells i.size 0 x).run P w = .ok news.toArray w) :
    (Builtin.append_ ts ty #[.slice none 0 0, x]).run P w = .ok (.slice none 0 0) w := by
  cases d2 <;> simp [seqD] at hd <;>
    simp [Builtin.append_, ht, ht2, run_underlying hu, run_underlying hu2, sizeOf, typeInfo, hi, hl, hf]

theorem run_app_grow {ad : Option Addr} {sLen sCap n : Nat} {x : Value} {olds news : List Value} (hl : (Builtin.lenOf x).run P w = .ok n w) (hfo : (Builtin.firstCells i.size sLen (.slice ad sLen sCap)).run P w.drew = .ok olds.toArray w.drew) (hf : (Builtin.firstCells i.size n x).run P w.drew = .ok news.toArray w.drew)
    (hn : ¬ (sLen + n ≤ sCap)) (h63 : sLen + n ≤ room) (hb : i.bytes ≤ 64) :
    (Builtin.append_ ts ty #[.slice ad sLen sCap, x]).run P w =
      .ok (.slice (some ⟨w.heap.size, 0, none⟩) (sLen + n) (grownCap w (sLen + n) sCap e)) (w.drew.alloc (.cells (olds ++ news ++ (Builtin.zeroCells z.cells (grownCap w (sLen + n) sCap e - (sLen + n))).toList).toArray e)) := by
  unfold room at h63
  have h63' : ¬ (9223372036854775807 < ((sLen : Int) + (n : Int))) := by omega
  have h48 : (sLen + n) * i.bytes ≤ 140737488355328 := by
    have : (sLen + n) * i.bytes ≤ 1099511627776 * 64 := Nat.mul_le_mul h63 hb
    omega
  have h48' : ¬ (281474976710656 < Builtin.nextslicecap (sLen + n) sCap * i.bytes) := by
    have := growslice_fits (bytes := i.bytes) (show sCap < sLen + n by omega) h48
    omega
  have harr : ∀ A : Array Value, olds.toArray ++ (news.toArray ++ A) = (olds ++ (news ++ A.toList)).toArray := by
    intro A; apply Array.ext'; simp
  cases d2 <;> simp [seqD] at hd <;>
    simp [Builtin.append_, ht, ht2, run_underlying hu, run_underlying hu2, sizeOf, typeInfo, zeroValue, hi, hz, hl, hn, h63', h48', Question.forced, hf, hfo, Go.newRow, grownCap, harr]
end

/-- append, of whatever it is that is appended. -/
theorem app_core1 {ts : Array TypeId} {ty t t2 e : TypeId} {d2 : TypeDesc} {i : TypeInfo} {z : Value} (ht : ts[0]? = some t) (ht2 : ts[1]? = some t2) (hu : P.underlying t = some (.slice e)) (hu2 : P.underlying t2 = some d2) (hd : seqD d2 = true) (hi : P.info? e = some i) (hz : i.zero = some z)
    {esz : Nat} (hsz : i.size = esz) (hby : i.bytes ≤ 64) (hzs : z.cells.size = esz) (hr : RelH F base m h w) {s : AV} {sv xv : Value} (hs : RelV F m s sv) {n : Nat} {vs : List AV} {news : List Value}
    (hl : ∀ w : World, (Builtin.lenOf xv).run P w = .ok n w) (hf : ∀ w' : World, w'.heap = w.heap → (Builtin.firstCells esz n xv).run P w' = .ok news.toArray w') (hvs : RelL F m vs news) (hn : vs.length = n * esz)
    (hrun : ∀ v w', (Builtin.append_ ts ty #[sv, xv]).run P w = .ok v w' → (execOp a.eval o).run P w = .ok (.value v) w')
    (hev : apRow1 h esz s n vs = some (r, h')) : Good P F base o a m h w r h' := by
  subst hsz
  have hnil : ∀ cs c h2, Ab.newRow h cs = some (c, h2) → cs = vs → n ≤ room → 0 < n → ∀ ad, (sv = .slice ad 0 0) → Good P F base o a m h w (.slice c 0 0 n i.size) h2 := by
    intro cs c h2 hnr hcs hroom hpos ad hsv
    subst hcs; subst hsv
    have hdr : w.drew.heap = w.heap := rfl
    have hfo : (Builtin.firstCells i.size 0 (.slice ad 0 0)).run P w.drew = .ok ([] : List Value).toArray w.drew := by
      cases ad <;> simp [Builtin.firstCells, loadCells, loadCellsFrom]
    have hg := run_app_grow (P := P) (w := w) (ty := ty) ht ht2 hu hu2 hd hi hz (hl w) hfo (hf w.drew hdr) (by omega) (by omega) hby
    simp only [Nat.zero_add, List.nil_append] at hg
    obtain ⟨rfl, hst⟩ := newRow_step (w' := w.drew.alloc (.cells (news ++ (Builtin.zeroCells z.cells (grownCap w n 0 e - n)).toList).toArray e)) (t := e) (fr := (0, 0)) (rest := (Builtin.zeroCells z.cells (grownCap w n 0 e - n)).toList) hr hnr hvs (.inr (Nat.le_refl _))
      (by rw [alloc_heap]; rfl) rfl rfl rfl
    refine good_value (hrun _ _ hg) ?_ hst
    simp only [RelV]
    have hge : n ≤ grownCap w n 0 e := grownCap_ge ..
    have hnl := hvs.length
    refine ⟨_, _, _, Emb.addRow_at _ _ _ _, rfl, hge, .inr ⟨Nat.le_refl _, rfl, by simp [hn], ?_⟩⟩
    simp [size_zeroCells, hzs, hnl, hn]
    have : n * i.size + (grownCap w n 0 e - n) * i.size = grownCap w n 0 e * i.size := by rw [← Nat.add_mul]; congr 1; omega
    omega
  have hfw := hf w rfl
  cases s <;> simp only [apRow1] at hev <;> try (cases hev; done)
  · have hsv : sv = .slice none 0 0 := by simpa only [RelV] using hs
    split at hev
    · rename_i h0; subst h0
      cases hev
      subst hsv
      exact good_pure hr (hrun _ _ (run_app_none (ty := ty) ht ht2 hu hu2 hd hi (hl w) hfw)) (by simp only [RelV])
    · split at hev
      · rename_i h0 hroom
        simp only [Option.map_eq_some_iff, Prod.mk.injEq] at hev
        obtain ⟨⟨c, h2⟩, hnr, rfl, rfl⟩ := hev
        exact hnil _ _ _ hnr rfl hroom (by omega) none hsv
      · cases hev
  · obtain ⟨ad, hsv⟩ : ∃ ad, sv = .slice (some ad) 0 0 := by simpa only [RelV] using hs
    split at hev
    · rename_i h0; subst h0
      cases hev
      subst hsv
      have hnews : news = [] := by
        have := hvs.length
        exact List.eq_nil_of_length_eq_zero (by omega)
      subst hnews
      exact good_pure hr (hrun _ _ (run_app_fit (w' := w) (ty := ty) ht ht2 hu hu2 hd hi (hl w) hfw (Nat.le_refl _) (by simp [storeCells]))) (by simp only [RelV]; exact ⟨_, rfl⟩)
    · split at hev
      · rename_i h0 hroom
        simp only [Option.map_eq_some_iff, Prod.mk.injEq] at hev
        obtain ⟨⟨c, h2⟩, hnr, rfl, rfl⟩ := hev
        exact hnil _ _ _ hnr rfl hroom (by omega) (some ad) hsv
      · cases hev
  · rename_i c k off len e'
    split at hev
    case h_2 => cases hev
    rename_i cs ver fl hc
    split at hev
    case isFalse => cases hev
    rename_i hcond
    obtain ⟨rfl, rfl, hend, hfl, hsc, hroom⟩ := hcond
    cases hev
    obtain ⟨p, of', cap, hp, hv, hlc, hcap⟩ := rel_slice hs
    obtain ⟨_, hext1, hext2, _, C, e0, fr, hg, hCs, hbs, _⟩ := hr.ob c _ hc k p hp hfl
    have hext := hext2 rfl
    have hnl := hvs.length
    by_cases hfit : len + n ≤ cap
    · -- in place
      have hz0 : cap = 0 → vs.length = 0 := by
        intro h0
        have : n = 0 := by omega
        rw [hn, this, Nat.zero_mul]
      have hmul : (len + n) * i.size ≤ cap * i.size := Nat.mul_le_mul_right _ hfit
      rw [Nat.add_mul] at hmul
      obtain ⟨w2, hst, hstep⟩ := place_step (P := P) hr hc hfl hp hvs hsc (by
        by_cases h0 : cap = 0
        · have := hz0 h0; omega
        · obtain ⟨g1, g2, g3, g4⟩ := hcap.resolve_left h0
          omega) (by
        by_cases h0 : cap = 0
        · exact .inr (hz0 h0)
        · obtain ⟨g1, g2, g3, g4⟩ := hcap.resolve_left h0
          exact .inl (by omega))
      by_cases h0 : cap = 0
      · have hl0 : len = 0 := by omega
        have hn0 : n = 0 := by omega
        subst hl0; subst hn0; subst h0
        have hnews : news = [] := List.eq_nil_of_length_eq_zero (by omega)
        subst hnews
        have hw2 : w2 = w := by
          simp [storeCells] at hst; exact hst.symm
        subst hw2
        refine good_value (v := .slice (some ⟨p.blk, of', none⟩) (0 + 0) 0) (hrun _ _ ?_) ?_ hstep
        · rw [hv]
          exact run_app_fit (w' := w2) (ty := ty) ht ht2 hu hu2 hd hi (hl w2) hfw (Nat.le_refl _) (by simp [storeCells])
        · simp only [RelV]
          exact ⟨_, of', 0, Emb.addRow_at _ _ _ _, rfl, Nat.le_refl _, .inl rfl⟩
      · obtain ⟨g1, g2, g3, g4⟩ := hcap.resolve_left h0
        refine good_value (v := .slice (some ⟨p.blk, of', none⟩) (len + n) cap) (hrun _ _ ?_) ?_ hstep
        · rw [hv]
          refine run_app_fit (w' := w2) (ty := ty) ht ht2 hu hu2 hd hi (hl w) hfw hfit ?_
          rw [addr_add, g2, show p.base + (off - p.lo) + len * i.size = p.base + (p.ext - p.lo) by omega]
          exact hst
        · simp only [RelV]
          refine ⟨_, of', cap, Emb.addRow_at _ _ _ _, rfl, hfit, .inr ⟨g1, g2, ?_, g4⟩⟩
          simp only
          rw [Nat.add_mul]; omega
    · -- a new home
      have hrel : ∃ olds : List Value, RelL F m (cs.drop off) olds ∧ (Builtin.firstCells i.size len (.slice (some ⟨p.blk, of', none⟩) len cap)).run P w.drew = .ok olds.toArray w.drew := by
        by_cases h0 : cap = 0
        · have hl0 : len = 0 := by omega
          subst hl0
          refine ⟨[], ?_, by simp [Builtin.firstCells, loadCells, loadCellsFrom]⟩
          rw [List.drop_eq_nil_of_le (by omega)]; simp [RelL]
        · obtain ⟨g1, rfl, g3, g4⟩ := hcap.resolve_left h0
          have hrd : rdRow h c k off (len * i.size) = some (cs.drop off) := by
            unfold rdRow
            rw [hc]
            simp only
            rw [if_pos ⟨hfl, Nat.le_refl _, by omega⟩, List.take_of_length_le (by simp; omega)]
          have hr' : RelH F base m h w.drew := hr.congr rfl
          obtain ⟨olds, k1, k2, k3⟩ := hr'.loads (P := P) hrd hp g1 (by omega)
          exact ⟨olds, k1, by simpa [Builtin.firstCells] using k3⟩
      obtain ⟨olds, holds, hfo⟩ := hrel
      have hg2 := run_app_grow (P := P) (w := w) (ty := ty) ht ht2 hu hu2 hd hi hz (hl w) hfo (hf w.drew rfl) hfit hroom hby
      have hrl : RelL F m (cs.drop off ++ vs) (olds ++ news) := holds.append hvs
      rcases grow_step (w' := w.drew.alloc (.cells (olds ++ news ++ (Builtin.zeroCells z.cells (grownCap w (len + n) cap e - (len + n))).toList).toArray e)) (t := e) (rest := (Builtin.zeroCells z.cells (grownCap w (len + n) cap e - (len + n))).toList) hr hc (by omega) hrl hsc
        (by rw [alloc_heap]; rfl) rfl rfl rfl with hstep | hnp
      · refine good_value (hrun _ _ (by rw [hv]; exact hg2)) ?_ hstep
        simp only [RelV]
        have hge : len + n ≤ grownCap w (len + n) cap e := grownCap_ge ..
        have hol := holds.length
        simp only [List.length_drop] at hol
        refine ⟨_, _, _, Emb.addRow_at _ _ _ _, rfl, hge, .inr ⟨Nat.le_refl _, by simp, ?_, ?_⟩⟩
        · simp only; rw [Nat.add_mul]; omega
        · simp [size_zeroCells, hzs, hnl, hn, hol]
          have : (len + n) * i.size + (grownCap w (len + n) cap e - (len + n)) * i.size = grownCap w (len + n) cap e * i.size := by rw [← Nat.add_mul]; congr 1; omega
          rw [Nat.add_mul] at this
          omega
      · exact absurd (.inl ⟨k, p, hp⟩) hnp

/-- What lies behind a slice is given up: nothing is read of it any more. -/
theorem trunc_step {c k off len e : Nat} {sv : Value} {cs : List AV} {fl : Nat} (hr : RelH F base m h w) (hs : RelV F m (.slice c k off len e) sv) (hc : h[c]? = some (.row cs k fl false)) (hfl : fl ≤ k) (hle : off + len * e ≤ cs.length) :
    ∃ m1, m.le m1 ∧ RelV F m1 (.slice c (k + 1) off len e) sv ∧ StepR F base m h w m1 (h.set c (.row (cs.take (off + len * e)) (k + 1) (k + 1) false)) w := by
  obtain ⟨p, of', cap, hp, hv, hlc, hcap⟩ := rel_slice hs
  obtain ⟨_, h2, h3, h4, C, e0, fr, hg, hCs, hbs, hf, hcell⟩ := hr.ob c _ hc k p hp hfl
  have hbase := h4 rfl
  have hext := h3 rfl
  have hnone : m.row c (k + 1) = none := by
    cases hk : m.row c (k + 1) with
    | none => rfl
    | some p => have := hr.vers c _ _ _ _ _ p hc hk; omega
  have hm := Emb.le_addRow (p := ⟨p.blk, p.base, p.lo, off + len * e, p.siz⟩) hnone
  obtain ⟨o1, o2⟩ := hr.one_row hp hbase
  have htl : (cs.take (off + len * e)).length = off + len * e := by simp; omega
  refine ⟨_, hm, ?_, set_step hr hc rfl hm ?_ rfl ⟨rfl, rfl, rfl, rfl, fun _ _ => rfl⟩ hbase o1 o2 (.inl ⟨c, k, p, hp, rfl⟩) ?_ ?_⟩
  · simp only [RelV]
    refine ⟨_, of', cap, Emb.addRow_at _ _ _ _, hv, hlc, hcap.imp id ?_⟩
    rintro ⟨g1, g2, g3, g4⟩
    exact ⟨g1, g2, Nat.le_refl _, g4⟩
  · intro c' k' p' hp'
    rcases Emb.addRow_inv hp' with ⟨rfl, rfl, rfl⟩ | hp'
    · exact .inr ⟨rfl, k, p, hp, rfl, rfl, rfl⟩
    · exact .inl hp'
  · intro k' p' hp' hk'
    rcases Emb.addRow_inv hp' with ⟨_, rfl, rfl⟩ | hp'
    · refine ⟨Nat.le_refl _, by rw [htl]; exact Nat.le_refl _, fun _ => htl.symm, fun _ => hbase, C, e0, fr, hg, hCs, by simp only; omega, hf, ?_⟩
      intro j hj1 hj2
      simp only at hj1 hj2
      obtain ⟨x, v, hx, hv, hxv⟩ := hcell j hj1 (by omega)
      exact ⟨x, v, by rw [List.getElem?_take, if_pos hj2]; exact hx, hv, RelV.mono hm _ _ hxv⟩
    · have := hr.vers c _ _ _ _ k' p' hc hp'; omega
  · intro cs' ver' fl' ro' k' p' he hp'
    cases he
    rcases Emb.addRow_inv hp' with ⟨_, rfl, _⟩ | hp'
    · exact Nat.le_refl _
    · have := hr.vers c _ _ _ _ k' p' hc hp'; omega
/-- append, of whatever it is that is appended. -/
theorem app_core {ts : Array TypeId} {ty t t2 e : TypeId} {d2 : TypeDesc} {i : TypeInfo} {z : Value} (ht : ts[0]? = some t) (ht2 : ts[1]? = some t2) (hu : P.underlying t = some (.slice e)) (hu2 : P.underlying t2 = some d2) (hd : seqD d2 = true) (hi : P.info? e = some i) (hz : i.zero = some z)
    {esz : Nat} (hsz : i.size = esz) (hby : i.bytes ≤ 64) (hzs : z.cells.size = esz) (hr : RelH F base m h w) {s : AV} {sv xv : Value} (hs : RelV F m s sv) {n : Nat} {vs : List AV} {news : List Value}
    (hl : ∀ w : World, (Builtin.lenOf xv).run P w = .ok n w) (hf : ∀ w' : World, w'.heap = w.heap → (Builtin.firstCells esz n xv).run P w' = .ok news.toArray w') (hvs : RelL F m vs news) (hn : vs.length = n * esz)
    (hrun : ∀ v w', (Builtin.append_ ts ty #[sv, xv]).run P w = .ok v w' → (execOp a.eval o).run P w = .ok (.value v) w')
    (hev : apRow h esz s n vs = some (r, h')) : Good P F base o a m h w r h' := by
  have one : ∀ h1 : apRow1 h esz s n vs = some (r, h'), Good P F base o a m h w r h' := fun h1 => app_core1 ht ht2 hu hu2 hd hi hz hsz hby hzs hr hs hl hf hvs hn hrun h1
  cases s <;> first
    | exact one hev
    | skip
  rename_i c k off len e'
  simp only [apRow] at hev
  split at hev
  case h_2 => cases hev
  rename_i cs ver fl hc
  split at hev
  · rename_i hcond
    refine one ?_
    simp only [apRow1, hc]
    rw [if_pos hcond]; exact hev
  · split at hev
    case isFalse => cases hev
    rename_i hcond
    obtain ⟨rfl, rfl, hend, hfl, hsc, hroom⟩ := hcond
    obtain ⟨m1, hm1, hs1, hst⟩ := trunc_step hr hs hc hfl hend
    have hlt := (List.getElem?_eq_some_iff.1 hc).1
    have htl : (cs.take (off + len * e')).length = off + len * e' := by simp; omega
    have hev1 : apRow1 (h.set c (.row (cs.take (off + len * e')) (k + 1) (k + 1) false)) e' (.slice c (k + 1) off len e') n vs = some (r, h') := by
      simp only [apRow1, List.getElem?_set, if_true, if_pos hlt]
      rw [if_pos ⟨trivial, trivial, htl.symm, Nat.le_refl _, hsc, hroom⟩, ← hev]
      simp only [List.set_set]
    have := app_core1 (m := m1) ht ht2 hu hu2 hd hi hz hsz hby hzs hst.rel hs1 hl hf (RelL.mono hm1 _ _ hvs) hn hrun hev1
    exact good_after hst this

/-- What a slice holds, read. -/
theorem read_slice {c k off len esz : Nat} {v : Value} (hr : RelH F base m h w) (hx : RelV F m (.slice c k off len esz) v) {n : Nat} (hn : n ≤ len) {cs : List AV} (hcs : rdRow h c k off (n * esz) = some cs) :
    ∃ ad cap vs, v = .slice (some ad) len cap ∧ RelL F m cs vs ∧ vs.length = n * esz ∧ ∀ w' : World, w'.heap = w.heap → (loadCells ad (n * esz)).run P w' = .ok vs.toArray w' := by
  obtain ⟨p, of', cap, hp, hv, hlc, hcap⟩ := rel_slice hx
  by_cases h0 : cap = 0
  · obtain rfl : len = 0 := by omega
    obtain rfl : n = 0 := by omega
    have : cs = [] := by
      unfold rdRow at hcs
      split at hcs
      · split at hcs
        · cases hcs; simp
        · cases hcs
      · cases hcs
    subst this
    exact ⟨_, cap, [], hv, by simp [RelL], by simp, fun w' _ => by simp [loadCells, loadCellsFrom]⟩
  · obtain ⟨g1, rfl, g3, g4⟩ := hcap.resolve_left h0
    have hle : n * esz ≤ len * esz := Nat.mul_le_mul_right _ hn
    obtain ⟨vs, k1, k2, k3⟩ := hr.row_at hcs hp g1 (by omega)
    refine ⟨_, cap, vs, hv, k1, k2, fun w' hw => ?_⟩
    have := run_loadCells_list (P := P) w' ⟨p.blk, p.base + (off - p.lo), none⟩ vs (fun j u hu => by
      rw [addr_add]
      have := k3 j u hu
      simpa [World.cell?, hw] using this)
    rwa [k2] at this

theorem s_app {cl : Call} {t t2 e : TypeId} {d2 : TypeDesc} {i : TypeInfo} {z : Value} {x y : Operand} {esz : Nat} {x' y' : Opd} (hr : RelH F base m h w) (hop : o.op = .call cl) (hc : cl.callee = .builtin .append) (ht : cl.argTypes[0]? = some t) (ht2 : cl.argTypes[1]? = some t2) (ha : cl.args.toList = [x, y])
    (hu : P.underlying t = some (.slice e)) (hu2 : P.underlying t2 = some d2) (hd : seqD d2 = true) (hi : P.info? e = some i) (hz : i.zero = some z) (hsz : i.size = esz) (hby : i.bytes ≤ 64) (hzs : z.cells.size = esz)
    (hx : RelV F m (ρ x') (a.eval x)) (hy : RelV F m (ρ y') (a.eval y)) (hev : evOp cf ρ h (.app esz x' y') = some (r, h')) : Good P F base o a m h w r h' := by
  obtain ⟨cs, he⟩ := run_builtin (P := P) (a := a) (w := w) hop hc ha
  have hrun : ∀ v w', (Builtin.append_ cl.argTypes o.type #[a.eval x, a.eval y]).run P w = .ok v w' → (execOp a.eval o).run P w = .ok (.value v) w' := by
    intro v w' hh
    rw [he]
    simp only [builtin, List.map_cons, List.map_nil, Sem.run_bind, hh, Result.andThen, Sem.run_pure]
  simp only [evOp] at hev
  split at hev
  · rename_i hk
    rw [hk] at hy
    have hv : a.eval y = .slice none 0 0 := by simpa only [RelV] using hy
    exact app_core (n := 0) (vs := []) (news := []) ht ht2 hu hu2 hd hi hz hsz hby hzs hr hx (fun w => by rw [hv]; simp [Builtin.lenOf]) (fun w' _ => by rw [hv]; simp [Builtin.firstCells]) (by simp [RelL]) (by simp) hrun hev
  · rename_i hk
    rw [hk] at hy
    obtain ⟨ad, hv⟩ : ∃ ad, a.eval y = .slice (some ad) 0 0 := by simpa only [RelV] using hy
    exact app_core (n := 0) (vs := []) (news := []) ht ht2 hu hu2 hd hi hz hsz hby hzs hr hx (fun w => by rw [hv]; simp [Builtin.lenOf]) (fun w' _ => by rw [hv]; simp [Builtin.firstCells, loadCells, loadCellsFrom]) (by simp [RelL]) (by simp) hrun hev
  · rename_i c k off len e' hk
    rw [hk] at hy
    split at hev
    case isFalse => cases hev
    rename_i hee
    subst hee
    split at hev
    case h_2 => cases hev
    rename_i vs hvs
    obtain ⟨ad, cap, news, hv, g1, g2, g3⟩ := read_slice (P := P) hr hy (Nat.le_refl _) hvs
    have hlen := g1.length
    exact app_core (n := len) (vs := vs) (news := news) ht ht2 hu hu2 hd hi hz hsz hby hzs hr hx (fun w => by rw [hv]; simp [Builtin.lenOf]) (fun w' hw => by rw [hv]; simp only [Builtin.firstCells]; exact g3 w' hw) g1 (by omega) hrun hev
  · cases hev

theorem s_appS {cl : Call} {t t2 e : TypeId} {d2 : TypeDesc} {i : TypeInfo} {z : Value} {x y : Operand} {x' y' : Opd} (hr : RelH F base m h w) (hop : o.op = .call cl) (hc : cl.callee = .builtin .append) (ht : cl.argTypes[0]? = some t) (ht2 : cl.argTypes[1]? = some t2) (ha : cl.args.toList = [x, y])
    (hu : P.underlying t = some (.slice e)) (hu2 : P.underlying t2 = some d2) (hd : seqD d2 = true) (hi : P.info? e = some i) (hz : i.zero = some z) (hsz : i.size = 1) (hby : i.bytes ≤ 64) (hzs : z.cells.size = 1)
    (hx : RelV F m (ρ x') (a.eval x)) (hy : RelV F m (ρ y') (a.eval y)) (hev : evOp cf ρ h (.appS x' y') = some (r, h')) : Good P F base o a m h w r h' := by
  obtain ⟨cs, he⟩ := run_builtin (P := P) (a := a) (w := w) hop hc ha
  have hrun : ∀ v w', (Builtin.append_ cl.argTypes o.type #[a.eval x, a.eval y]).run P w = .ok v w' → (execOp a.eval o).run P w = .ok (.value v) w' := by
    intro v w' hh
    rw [he]
    simp only [builtin, List.map_cons, List.map_nil, Sem.run_bind, hh, Result.andThen, Sem.run_pure]
  simp only [evOp] at hev
  split at hev
  case h_2 => cases hev
  rename_i s hk
  rw [hk] at hy
  have hv := rel_str hy
  have hs2 : (⟨s.toArray⟩ : ByteArray).size = s.length := rfl
  refine app_core (n := s.length) (news := s.map fun b : UInt8 => Value.int .u8 b.toNat) ht ht2 hu hu2 hd hi hz hsz hby hzs hr hx (fun w => by rw [hv]; simp [Builtin.lenOf, hs2]) (fun w' _ => ?_) (RelL.bytes s) (by simp) hrun hev
  rw [hv]
  simp only [Builtin.firstCells, Sem.run_pure]
  congr 1
  apply Array.ext'
  simp

theorem s_copy {cl : Call} {t e : TypeId} {x y : Operand} {esz : Nat} {x' y' : Opd} (hr : RelH F base m h w) (hop : o.op = .call cl) (hc : cl.callee = .builtin .copy) (ht : cl.argTypes[0]? = some t) (ha : cl.args.toList = [x, y])
    (hu : P.underlying t = some (.slice e)) (hs : sz P e esz = true)
    (hx : RelV F m (ρ x') (a.eval x)) (hy : RelV F m (ρ y') (a.eval y)) (hev : evOp cf ρ h (.copy esz x' y') = some (r, h')) : Good P F base o a m h w r h' := by
  obtain ⟨cs, he⟩ := run_builtin (P := P) (a := a) (w := w) hop hc ha
  simp only [evOp] at hev
  split at hev
  case h_2 => cases hev
  rename_i c k off len e1 c2 k2 off2 len2 e2 h1 h2
  rw [h1] at hx; rw [h2] at hy
  split at hev
  case isFalse => cases hev
  rename_i hcnd
  obtain ⟨rfl, rfl⟩ := hcnd
  obtain ⟨p, of', cap', hp, hv', hlc, hcap⟩ := rel_slice hx
  split at hev
  · rename_i hz
    cases hev
    obtain ⟨q, of2, cap2, hq, hv2, _⟩ := rel_slice hy
    refine good_pure hr (v := .int .i64 0) (he.trans ?_) (by simp only [RelV])
    have hmn : Nat.min len2 len = 0 := hz
    simp [builtin, Builtin.copy_, ht, hv2, hv', run_underlying hu, run_sz hs, Builtin.lenOf, Builtin.firstCells, hmn, loadCells, loadCellsFrom, storeCells, goInt]
  · rename_i hz
    split at hev
    case h_2 => cases hev
    rename_i vs hvs
    simp only [Option.map_eq_some_iff, Prod.mk.injEq] at hev
    obtain ⟨hh, hw, rfl, rfl⟩ := hev
    obtain ⟨ad, cap, news, hv, g1, g2, g3⟩ := read_slice (P := P) hr hy (Nat.min_le_left _ _) hvs
    have hnl := g1.length
    obtain ⟨q1, rfl, q3, q4⟩ := hcap.resolve_left (by omega)
    have hmin : min len2 len * e2 ≤ len * e2 := Nat.mul_le_mul_right _ (Nat.min_le_right _ _)
    obtain ⟨w2, hst, hstep⟩ := wr_step (P := P) hr hw hp q1 (by omega) g1
    refine good_value (v := .int .i64 ((min len2 len : Nat) : Int)) (he.trans ?_) (by simp only [RelV]) hstep
    have g3' := g3 w rfl
    have hmn : Nat.min len2 len = min len2 len := rfl
    simp [builtin, Builtin.copy_, ht, hv, hv', run_underlying hu, run_sz hs, Builtin.lenOf, Builtin.firstCells, hmn, g3', hst, goInt]

theorem zero_cells (z : Array Value) (n : Nat) : (Builtin.zeroCells z n).toList = (List.replicate n z.toList).flatten := by
  apply List.ext_getElem?
  intro i
  rw [replicate_get, Array.getElem?_toList]
  simp only [Builtin.zeroCells, Array.getElem?_map]
  by_cases h : i < n * z.size
  · rw [Array.getElem?_eq_getElem (by simpa using h), if_pos (by simpa using h)]
    have h0 : 0 < z.size := by
      rcases Nat.eq_zero_or_pos z.size with h0 | h0
      · rw [h0] at h; simp at h
      · exact h0
    have hm : i % z.size < z.size := Nat.mod_lt _ h0
    simp only [Array.getElem_range, Option.map_some, Array.length_toList, Array.getElem?_toList]
    rw [getElem!_pos z _ hm, getElem?_pos z _ hm]
  · rw [Array.getElem?_eq_none (by simpa using h), if_neg (by simpa using h)]; rfl
theorem rep_rel {z : List AV} {zv : List Value} (hz : RelL F m z zv) : ∀ n, RelL F m (List.replicate n z).flatten (List.replicate n zv).flatten
  | 0 => by simp [RelL]
  | n + 1 => by simpa [List.replicate_succ] using hz.append (rep_rel hz n)

theorem s_clr {cl : Call} {t e : TypeId} {x : Operand} {z : List AV} {x' : Opd} (hr : RelH F base m h w) (hop : o.op = .call cl) (hc : cl.callee = .builtin .clear) (ht : cl.argTypes[0]? = some t) (ha : cl.args.toList = [x])
    (hu : P.underlying t = some (.slice e)) (hz : zer P F e z = true)
    (hx : RelV F m (ρ x') (a.eval x)) (hev : evOp cf ρ h (.clr z x') = some (r, h')) : Good P F base o a m h w r h' := by
  obtain ⟨cs, he⟩ := run_builtin (P := P) (a := a) (w := w) hop hc ha
  have htup : RelV F m (.tup []) (.tuple #[]) := by simp only [RelV]; exact ⟨#[], rfl, by simp [RelL]⟩
  simp only [evOp] at hev
  split at hev
  · rename_i hk
    rw [hk] at hx
    cases hev
    have hv : a.eval x = .slice none 0 0 := by simpa only [RelV] using hx
    refine good_pure hr (v := .tuple #[]) (he.trans ?_) htup
    simp [builtin, Builtin.clear_, ht, hv, run_underlying hu]
  · rename_i hk
    rw [hk] at hx
    cases hev
    obtain ⟨ad, hv⟩ : ∃ ad, a.eval x = .slice (some ad) 0 0 := by simpa only [RelV] using hx
    refine good_pure hr (v := .tuple #[]) (he.trans ?_) htup
    simp [builtin, Builtin.clear_, ht, hv, run_underlying hu]
  · rename_i c k off len esz hk
    rw [hk] at hx
    obtain ⟨p, of', cap, hp, hv, hlc, hcap⟩ := rel_slice hx
    split at hev
    case isFalse => cases hev
    rename_i hesz
    subst hesz
    split at hev
    · rename_i h0
      subst h0
      cases hev
      refine good_pure hr (v := .tuple #[]) (he.trans ?_) htup
      simp [builtin, Builtin.clear_, ht, hv, run_underlying hu]
    · rename_i h0
      simp only [Option.map_eq_some_iff, Prod.mk.injEq] at hev
      obtain ⟨hh, hw, rfl, rfl⟩ := hev
      obtain ⟨i, zv, hi, hzv, hcz, hsc⟩ := zer_eq hz
      have hrelz : RelL F m z zv.cells.toList := chkVs_rel _ _ hcz
      obtain ⟨q1, rfl, q3, q4⟩ := hcap.resolve_left (by omega)
      have hrep := rep_rel hrelz len
      have hlen2 : (List.replicate len z).flatten.length = len * z.length := by simp
      obtain ⟨w2, hst, hstep⟩ := wr_step (P := P) hr hw hp q1 (by omega) hrep
      refine good_value (v := .tuple #[]) (he.trans ?_) (RelV.mono hstep.le _ _ htup) hstep
      rw [← zero_cells] at hst
      have hzz : (zeroValue e).run P w = .ok zv w := by simp [zeroValue, typeInfo, hi, hzv]
      obtain ⟨q, rfl⟩ : ∃ q, len = q + 1 := ⟨len - 1, by omega⟩
      simp [builtin, Builtin.clear_, ht, hv, run_underlying hu, hzz, hst]
  · cases hev

end
end Go.Proofs.YtnamhjdfegohbaaGreatDoor.Ab
