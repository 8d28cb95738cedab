/- Part 1 of the proof of a law of the given program: the rules that it leans on, and what the functions that it reaches answer; the conditions stand with each theorem. -/
import Derived.Tactics
import Derived.WalkKit
import Derived.Lib.Bytealg
import Derived.Lib.SlTrimSet
import Derived.Lib.Join
import Derived.Lib.Repeat
set_option linter.unusedSimpArgs false
set_option linter.unusedVariables false
/- THE ABSTRACT MACHINE: values, heap, compact instructions, evaluator. No program in sight. -/
namespace Go.Proofs.YtnamhjdfegohbaaGreatDoor.Ab
open Go

/-! ### Values and heap -/
inductive AV where
  | int (k : IntKind) (n : Int)
  | bool (b : Bool)
  | str (s : List UInt8)
  | nilS
  | empS
  | slice (c k off len esz : Nat)
  | nilP
  | ptr (c k off n : Nat)
  | nilM
  | map (c : Nat)
  | iter (c : Nat)
  | fn (f : Nat) (cap : List AV)
  | nilF
  | agg (xs : List AV)
  | tup (xs : List AV)
  | nilI
  | ifc
  | undef
  deriving Inhabited

inductive AO where
  | row (cs : List AV) (ver floor : Nat) (ro : Bool)
  | map (es : List (AV × AV))
  | iter (s : List UInt8) (pos : Nat)
  | mit (cm since : Nat) (seen : List Nat)
  deriving Inhabited

abbrev AH := List AO

def AV.cells : AV → List AV
  | .agg xs => xs
  | v => [v]

/-- A value that fills one cell. -/
def AV.sc : AV → Bool
  | .agg _ | .tup _ | .undef => false
  | _ => true

def mkv (agg : Bool) (xs : List AV) : Option AV :=
  if agg then some (.agg xs) else match xs with
    | [v] => some v
    | _ => none

/-! ### Environments: slots that are known -/
abbrev Env := List (Nat × AV)
def Env.get : Env → Nat → AV
  | [], _ => .undef
  | (k, v) :: e, t => if k = t then v else Env.get e t
def Env.set : Env → Nat → AV → Env
  | [], t, v => [(t, v)]
  | (k, u) :: e, t, v => if k = t then (t, v) :: e else if t < k then (t, v) :: (k, u) :: e else (k, u) :: Env.set e t v
def Env.del : Env → Nat → Env
  | [], _ => []
  | (k, u) :: e, t => if k = t then Env.del e t else (k, u) :: Env.del e t
def Env.dels (e : Env) : List Nat → Env
  | [] => e
  | t :: ts => Env.dels (e.del t) ts
def Env.init : Nat → List AV → Env
  | _, [] => []
  | i, v :: vs => (i, v) :: Env.init (i + 1) vs

/-! ### Instructions -/
inductive Opd where
  | t (n : Nat)
  | c (v : AV)

inductive AOp where
  | mov (x : Opd)
  | pick (c a b : Opd)
  | bin (op : BinOp) (x y : Opd)
  | beq (neg : Bool) (x y : Opd)
  | aeq (neg : Bool) (kds : List Nat) (x y : Opd)
  | niq (neg : Bool) (kd : Nat) (x : Opd)
  | un (op : UnOp) (x : Opd)
  | conv (k : IntKind) (x : Opd)
  | toB (x : Opd)
  | ofB (x : Opd)
  | ofR (x : Opd)
  | new (zero : List AV)
  | box (x : Opd)
  | build (zero : List AV) (parts : List (Nat × Nat × Opd))
  | lit (esz len : Nat) (zero : List AV) (parts : List (Nat × Nat × Opd))
  | lit0
  | load (agg : Bool) (n : Nat) (a : Opd)
  | store (n : Nat) (a x : Opd)
  | nck (x : Opd)
  | faddr (off n : Nat) (a : Opd)
  | fld (agg : Bool) (off n : Nat) (x : Opd)
  | iaddr (esz : Nat) (x i : Opd)
  | iaddrA (len esz : Nat) (a i : Opd)
  | idx (agg : Bool) (len esz : Nat) (x i : Opd)
  | idxS (x i : Opd)
  | sub (esz : Nat) (x : Opd) (lo hi : Option Opd)
  | sub0 (x : Opd) (hi mx : Opd)
  | subS (x : Opd) (lo hi : Option Opd)
  | subA (len esz : Nat) (a : Opd) (lo hi : Option Opd)
  | make (esz : Nat) (zero : List AV) (len cap : Opd)
  | mkmap
  | mkfn (f : Nat) (caps : List Opd)
  | look (kd : Nat) (zero : AV) (ok : Bool) (m k : Opd)
  | mset (kd : Nat) (m k v : Opd)
  | mlen (m : Opd)
  | rng (x : Opd)
  | rngM (x : Opd)
  | ent (it : Opd)
  | nxt (it : Opd)
  | prj (i : Nat) (x : Opd)
  | call (f : Nat) (xs : List Opd)
  | callv (x : Opd) (xs : List Opd)
  | lenS (x : Opd)
  | lenV (x : Opd)
  | app (esz : Nat) (s x : Opd)
  | appS (s x : Opd)
  | copy (esz : Nat) (d s : Opd)
  | clr (zero : List AV) (x : Opd)
  | mmx (max : Bool) (x y : Opd)

structure I where
  dst : Option Nat
  op : AOp
  grd : Option (Nat × Bool) := none

inductive C where
  | skip
  | reg (is : List I)
  | drw (is : List I) (ps : List (Nat × Nat))
  | kl (ts : List Nat) (c : C)
  | seq (a b : C)
  | cond (x : Opd) (a b : C)
  | blk (id : Nat) (c : C)
  | loop (c : C)
  | exit (id : Nat)
  | ret
  | bad

inductive Res where
  | tmp (t : Nat)
  | cell (agg : Bool) (n : Nat) (t : Nat)

structure FI where
  body : C
  res : List Res

/-! ### Memory -/
def room : Nat := 1099511627776

def rdRow (h : AH) (c k off n : Nat) : Option (List AV) :=
  match h[c]? with
  | some (.row cs ver fl _) => if fl ≤ k ∧ k ≤ ver ∧ off + n ≤ cs.length then some ((cs.drop off).take n) else none
  | _ => none

def splice {α : Type} (cs : List α) (off : Nat) (vs : List α) : List α := cs.take off ++ vs ++ cs.drop (off + vs.length)

def wrRow (h : AH) (c k off : Nat) (vs : List AV) : Option AH :=
  match h[c]? with
  | some (.row cs ver fl false) => if k = ver ∧ fl ≤ ver ∧ off + vs.length ≤ cs.length ∧ vs.all AV.sc = true then some (h.set c (.row (splice cs off vs) ver ver false)) else none
  | _ => none

def newRow (h : AH) (cs : List AV) : Option (Nat × AH) := if cs.all AV.sc = true then some (h.length, h ++ [.row cs 0 0 false]) else none

/-- What a slice or a string holds, cell by cell. -/
def cellsOf (h : AH) : AV → Option (List AV)
  | .nilS | .empS => some []
  | .slice c k off len esz => rdRow h c k off (len * esz)
  | .str s => some (s.map fun b => .int .u8 b.toNat)
  | _ => none

/-- append: of n elements, the cells vs; where the slice ends as its row does. -/
def apRow1 (h : AH) (esz : Nat) (s : AV) (n : Nat) (vs : List AV) : Option (AV × AH) :=
  match s with
  | .nilS => if n = 0 then some (.nilS, h) else if n ≤ room then (newRow h vs).map fun (c, h') => (.slice c 0 0 n esz, h') else none
  | .empS => if n = 0 then some (.empS, h) else if n ≤ room then (newRow h vs).map fun (c, h') => (.slice c 0 0 n esz, h') else none
  | .slice c k off len e =>
    match h[c]? with
    | some (.row cs ver fl false) =>
      if e = esz ∧ k = ver ∧ off + len * esz = cs.length ∧ fl ≤ ver ∧ vs.all AV.sc = true ∧ len + n ≤ room then
        some (.slice c (ver + 1) off (len + n) esz, h.set c (.row (cs ++ vs) (ver + 1) fl false)) else none
    | _ => none
  | _ => none

/-- append: of n elements, the cells vs; what lies behind the slice is given up. -/
def apRow (h : AH) (esz : Nat) (s : AV) (n : Nat) (vs : List AV) : Option (AV × AH) :=
  match s with
  | .slice c k off len e =>
    match h[c]? with
    | some (.row cs ver fl false) =>
      if e = esz ∧ k = ver ∧ off + len * esz = cs.length ∧ fl ≤ ver ∧ vs.all AV.sc = true ∧ len + n ≤ room then
        some (.slice c (ver + 1) off (len + n) esz, h.set c (.row (cs ++ vs) (ver + 1) fl false))
      else if e = esz ∧ k = ver ∧ off + len * esz ≤ cs.length ∧ fl ≤ ver ∧ vs.all AV.sc = true ∧ len + n ≤ room then
        some (.slice c (ver + 2) off (len + n) esz, h.set c (.row (cs.take (off + len * esz) ++ vs) (ver + 2) (ver + 1) false))
      else none
    | _ => none
  | _ => apRow1 h esz s n vs

/-! ### Keys of maps -/
def keyEq : AV → AV → Option Bool
  | .int k a, .int k' b => if k = k' then some (a == b) else none
  | .str a, .str b => some (a == b)
  | .bool a, .bool b => some (a == b)
  | _, _ => none
def keyIs : Nat → AV → Bool
  | 0, .int _ _ | 1, .str _ | 2, .bool _ => true
  | _, _ => false
def seqL : List Nat → List AV → List AV → Option Bool
  | [], [], [] => some true
  | kd :: kds, x :: xs, y :: ys => match keyIs kd x, keyEq x y, seqL kds xs ys with
    | true, some a, some b => some (a && b)
    | _, _, _ => none
  | _, _, _ => none

def mfind (k : AV) : List (AV × AV) → Option (Option AV)
  | [] => some none
  | (a, v) :: es => match keyEq k a with
    | some true => some (some v)
    | some false => mfind k es
    | none => none
def mput (k v : AV) : List (AV × AV) → List (AV × AV)
  | [] => [(k, v)]
  | (a, u) :: es => match keyEq k a with
    | some true => (k, v) :: es
    | _ => (a, u) :: mput k v es

/-! ### Operations -/
def two63 : Nat := 9223372036854775807
def binI (op : BinOp) (k : IntKind) (x y : Int) : Option AV :=
  match op with
  | .add => some (.int k (k.wrap (x + y)))
  | .sub => some (.int k (k.wrap (x - y)))
  | .mul => some (.int k (k.wrap (x * y)))
  | .quo => if y = 0 then none else some (.int k (k.wrap (x.tdiv y)))
  | .rem => if y = 0 then none else some (.int k (x.tmod y))
  | .and | .or | .xor | .andNot => some (.int k (bits op k x y))
  | .eql => some (.bool (x == y))
  | .neq => some (.bool (x != y))
  | .lss => some (.bool (decide (x < y)))
  | .leq => some (.bool (decide (x ≤ y)))
  | .gtr => some (.bool (decide (x > y)))
  | .geq => some (.bool (decide (x ≥ y)))
  | .shl | .shr => none
def binSh (op : BinOp) (k : IntKind) (x y : Int) : Option AV :=
  if y < 0 then none else match op with
  | .shl => some (.int k (k.wrap (x * 2 ^ (min y.toNat k.bits))))
  | .shr => some (.int k (x.fdiv (2 ^ (min y.toNat k.bits))))
  | _ => none
def binS (op : BinOp) (x y : List UInt8) : Option AV :=
  match op with
  | .add => if x.length + y.length ≤ two63 then some (.str (x ++ y)) else none
  | .eql => some (.bool (x == y))
  | .neq => some (.bool (!(x == y)))
  | .lss => some (.bool (Op.bytesLess x y))
  | .leq => some (.bool (Op.bytesLess x y || x == y))
  | .gtr => some (.bool (!(Op.bytesLess x y || x == y)))
  | .geq => some (.bool (!(Op.bytesLess x y)))
  | _ => none
def evBin (op : BinOp) : AV → AV → Option AV
  | .int k x, .int k' y => match op with
    | .shl | .shr => binSh op k x y
    | _ => if k = k' then binI op k x y else none
  | .str x, .str y => binS op x y
  | _, _ => none

def evNil : Nat → AV → Option Bool
  | 0, .nilS | 1, .nilP | 2, .nilM | 3, .nilF | 4, .nilI => some true
  | 0, .empS | 0, .slice .. | 1, .ptr .. | 2, .map _ | 3, .fn .. | 4, .ifc => some false
  | _, _ => none

def byte1 : AV → Option UInt8
  | .int .u8 n => some (UInt8.ofNat n.toNat)
  | _ => none
def bytesL : List AV → Option (List UInt8)
  | [] => some []
  | v :: vs => match byte1 v, bytesL vs with
    | some b, some bs => some (b :: bs)
    | _, _ => none

def fillP (cells : List AV) : List (Nat × Nat × AV) → Option (List AV)
  | [] => some cells
  | (off, n, v) :: rest => if v.cells.length = n ∧ off + n ≤ cells.length ∧ v.cells.all AV.sc = true then fillP (splice cells off v.cells) rest else none

def dec (s : List UInt8) (pos : Nat) : Int × Nat := let (c, w) := Utf8.decode ⟨s.toArray⟩ pos; (c, w)

def bnd (o : Option AV) (d top : Nat) : Option Nat :=
  match o with
  | none => some d
  | some (.int _ i) => if 0 ≤ i ∧ i ≤ top then some i.toNat else none
  | _ => none

abbrev CF := Nat → List AV → AH → Option (AV × AH)

def optv (ρ : Opd → AV) : Option Opd → Option AV
  | none => none
  | some x => some (ρ x)

def evOp (cf : CF) (ρ : Opd → AV) (h : AH) : AOp → Option (AV × AH)
  | .mov x => some (ρ x, h)
  | .pick c a b => match ρ c with
    | .bool t => some (if t then ρ a else ρ b, h)
    | _ => none
  | .bin op x y => (evBin op (ρ x) (ρ y)).map (·, h)
  | .beq neg x y => match ρ x, ρ y with
    | .bool a, .bool b => some (.bool (if neg then !(a == b) else a == b), h)
    | _, _ => none
  | .aeq neg kds x y => match ρ x, ρ y with
    | .agg xs, .agg ys => (seqL kds xs ys).map fun b => (.bool (if neg then !b else b), h)
    | _, _ => none
  | .niq neg kd x => (evNil kd (ρ x)).map fun b => (.bool (if neg then !b else b), h)
  | .un op x => match op, ρ x with
    | .neg, .int k n => some (.int k (k.wrap (0 - n)), h)
    | .not, .bool b => some (.bool (!b), h)
    | _, _ => none
  | .conv k x => match ρ x with
    | .int _ n => some (.int k (k.wrap n), h)
    | _ => none
  | .toB x => match ρ x with
    | .str s => if s.length ≤ room then (newRow h (s.map fun b => .int .u8 b.toNat)).map fun (c, h') => (.slice c 0 0 s.length 1, h') else none
    | _ => none
  | .ofB x => match ρ x with
    | .nilS | .empS => some (.str [], h)
    | .slice c k off len e => if e = 1 then match rdRow h c k off len with
        | some cs => (bytesL cs).map fun s => (.str s, h)
        | none => none
      else none
    | _ => none
  | .ofR x => match ρ x with
    | .int _ n => some (.str (Utf8.encode n).data.toList, h)
    | _ => none
  | .new zero => (newRow h zero).map fun (c, h') => (.ptr c 0 0 zero.length, h')
  | .box x => match ρ x with
    | .undef | .tup _ => none
    | v => (newRow h v.cells).map fun (c, h') => (.ptr c 0 0 v.cells.length, h')
  | .build zero parts => (fillP zero (parts.map fun (o, n, x) => (o, n, ρ x))).map fun cs => (.agg cs, h)
  | .lit esz len zero parts => match fillP zero (parts.map fun (o, n, x) => (o, n, ρ x)) with
    | some cs => (newRow h cs).map fun (c, h') => (.slice c 0 0 len esz, h')
    | none => none
  | .lit0 => some (.empS, h)
  | .load agg n a => match ρ a with
    | .ptr c k off m => if n ≤ m then match rdRow h c k off n with
        | some cs => (mkv agg cs).map (·, h)
        | none => none
      else none
    | _ => none
  | .store n a x => match ρ a with
    | .ptr c k off m => if n ≤ m ∧ (ρ x).cells.length = n then (wrRow h c k off (ρ x).cells).map fun h' => (.undef, h') else none
    | _ => none
  | .nck x => match ρ x with
    | .ptr c k off n => some (.ptr c k off n, h)
    | .fn f cs => some (.fn f cs, h)
    | _ => none
  | .faddr off n a => match ρ a with
    | .ptr c k o m => if off + n ≤ m then some (.ptr c k (o + off) n, h) else none
    | _ => none
  | .fld agg off n x => match ρ x with
    | .agg xs => if off + n ≤ xs.length then (mkv agg ((xs.drop off).take n)).map (·, h) else none
    | _ => none
  | .iaddr esz x i => match ρ x, ρ i with
    | .slice c k off len e, .int _ j => if e = esz ∧ 0 ≤ j ∧ j < len then some (.ptr c k (off + j.toNat * esz) esz, h) else none
    | _, _ => none
  | .iaddrA len esz a i => match ρ a, ρ i with
    | .ptr c k off m, .int _ j => if len * esz ≤ m ∧ 0 ≤ j ∧ j < len then some (.ptr c k (off + j.toNat * esz) esz, h) else none
    | _, _ => none
  | .idx agg len esz x i => match ρ x, ρ i with
    | .agg xs, .int _ j => if xs.length = len * esz ∧ 0 ≤ j ∧ j < len then (mkv agg ((xs.drop (j.toNat * esz)).take esz)).map (·, h) else none
    | _, _ => none
  | .idxS x i => match ρ x, ρ i with
    | .str s, .int _ j => if 0 ≤ j ∧ j < s.length then some (.int .u8 (s.getD j.toNat 0).toNat, h) else none
    | _, _ => none
  | .sub esz x lo hi => match ρ x with
    | .nilS => match bnd (optv ρ hi) 0 0 with
      | some b => match bnd (optv ρ lo) 0 b with
        | some _ => some (.nilS, h)
        | none => none
      | none => none
    | .empS => match bnd (optv ρ hi) 0 0 with
      | some b => match bnd (optv ρ lo) 0 b with
        | some _ => some (.empS, h)
        | none => none
      | none => none
    | .slice c k off len e => if e = esz then match bnd (optv ρ hi) len len with
        | some b => match bnd (optv ρ lo) 0 b with
          | some a => some (.slice c k (off + a * esz) (b - a) esz, h)
          | none => none
        | none => none
      else none
    | _ => none
  | .sub0 x hi mx => match ρ x, ρ hi, ρ mx with
    | .nilS, .int _ 0, .int _ 0 => some (.nilS, h)
    | .empS, .int _ 0, .int _ 0 => some (.empS, h)
    | .slice .., .int _ 0, .int _ 0 => some (.empS, h)
    | _, _, _ => none
  | .subS x lo hi => match ρ x with
    | .str s => match bnd (optv ρ hi) s.length s.length with
      | some b => match bnd (optv ρ lo) 0 b with
        | some a => some (.str ((s.drop a).take (b - a)), h)
        | none => none
      | none => none
    | _ => none
  | .subA len esz a lo hi => match ρ a with
    | .ptr c k off m => if len * esz ≤ m ∧ (rdRow h c k off (len * esz)).isSome = true then match bnd (optv ρ hi) len len with
        | some b => match bnd (optv ρ lo) 0 b with
          | some a => some (.slice c k (off + a * esz) (b - a) esz, h)
          | none => none
        | none => none
      else none
    | _ => none
  | .make esz zero len cap => match ρ len, ρ cap with
    | .int _ n, .int _ m => if 0 ≤ n ∧ n ≤ m ∧ m ≤ room ∧ zero.length = esz then
        (newRow h (List.replicate n.toNat zero).flatten).map fun (c, h') => (.slice c 0 0 n.toNat esz, h') else none
    | _, _ => none
  | .mkmap => some (.map h.length, h ++ [.map []])
  | .mkfn f caps => some (.fn f (caps.map ρ), h)
  | .look kd zero ok m k => if keyIs kd (ρ k) = true then match (match ρ m with
      | .nilM => some []
      | .map c => match h[c]? with
        | some (.map es) => some es
        | _ => none
      | _ => none) with
    | some es => match mfind (ρ k) es with
      | some (some v) => some (if ok then .tup [v, .bool true] else v, h)
      | some none => some (if ok then .tup [zero, .bool false] else zero, h)
      | none => none
    | none => none
    else none
  | .mset kd m k v => if keyIs kd (ρ k) = true then match ρ m with
    | .map c => match h[c]? with
      | some (.map es) => match mfind (ρ k) es with
        | some _ => match ρ v with
          | .undef => none
          | u => some (.undef, h.set c (.map (mput (ρ k) u es)))
        | none => none
      | _ => none
    | _ => none
    else none
  | .mlen m => match ρ m with
    | .nilM => some (.int .i64 0, h)
    | .map c => match h[c]? with
      | some (.map es) => some (.int .i64 es.length, h)
      | _ => none
    | _ => none
  | .rng x => match ρ x with
    | .str s => some (.iter h.length, h ++ [.iter s 0])
    | _ => none
  | .rngM x => match ρ x with
    | .map c => match h[c]? with
      | some (.map es) => some (.iter h.length, h ++ [.mit c es.length []])
      | _ => none
    | _ => none
  | .ent it => match ρ it with
    | .iter c => match h[c]? with
      | some (.mit cm since seen) => match h[cm]? with
        | some (.map es) => match seen.getLast? with
          | some i => if es.length = since then (es[i]?).map fun e => (.tup [e.1, e.2], h) else none
          | none => none
        | _ => none
      | _ => none
    | _ => none
  | .nxt it => match ρ it with
    | .iter c => match h[c]? with
      | some (.iter s pos) => if pos < s.length then
          some (.tup [.bool true, .int .i64 pos, .int .i32 (dec s pos).1], h.set c (.iter s (pos + (dec s pos).2)))
        else some (.tup [.bool false], h)
      | _ => none
    | _ => none
  | .prj i x => match ρ x with
    | .tup vs => (vs[i]?).map (·, h)
    | _ => none
  | .call f xs => cf f (xs.map ρ) h
  | .callv x xs => match ρ x with
    | .fn f cap => cf f (xs.map ρ ++ cap) h
    | _ => none
  | .lenS x => match ρ x with
    | .str s => some (.int .i64 s.length, h)
    | _ => none
  | .lenV x => match ρ x with
    | .nilS | .empS => some (.int .i64 0, h)
    | .slice _ _ _ len _ => some (.int .i64 len, h)
    | _ => none
  | .app esz s x => match ρ x with
    | .nilS | .empS => apRow h esz (ρ s) 0 []
    | .slice c k off len e => if e = esz then match rdRow h c k off (len * esz) with
        | some vs => apRow h esz (ρ s) len vs
        | none => none
      else none
    | _ => none
  | .appS s x => match ρ x with
    | .str b => apRow h 1 (ρ s) b.length (b.map fun b => .int .u8 b.toNat)
    | _ => none
  | .copy esz d s => match ρ d, ρ s with
    | .slice c k off len e, .slice c' k' off' len' e' => if e = esz ∧ e' = esz then
        if min len' len = 0 then some (.int .i64 0, h) else match rdRow h c' k' off' (min len' len * esz) with
        | some vs => (wrRow h c k off vs).map fun h' => (.int .i64 ((min len' len : Nat) : Int), h')
        | none => none
      else none
    | _, _ => none
  | .clr zero x => match ρ x with
    | .nilS | .empS => some (.tup [], h)
    | .slice c k off len e => if e = zero.length then
        if len = 0 then some (.tup [], h) else (wrRow h c k off (List.replicate len zero).flatten).map fun h' => (.tup [], h')
      else none
    | _ => none
  | .mmx mx x y => match ρ x, ρ y with
    | .int k a, .int k' b => if k = k' then some (.int k (if mx then (if b > a then b else a) else (if b < a then b else a)), h) else none
    | .str a, .str b => if mx then none else some (.str (if (Op.bytesLess a b || a == b) then a else b), h)
    | _, _ => none

def env (e : Env) : Opd → AV
  | .t n => e.get n
  | .c v => v

def put (e : Env) (d : Option Nat) (v : AV) : Env :=
  match d with
  | some t => e.set t v
  | none => e

def evI (cf : CF) (i : I) (e : Env) (h : AH) : Option (Env × AH) :=
  match i.grd with
  | none => (evOp cf (env e) h i.op).map fun (v, h') => (put e i.dst v, h')
  | some (t, want) => match e.get t with
    | .bool b => if b = want then (evOp cf (env e) h i.op).map fun (v, h') => (put e i.dst v, h') else some (put e i.dst (.tup []), h)
    | .tup [] => some (put e i.dst (.tup []), h)
    | _ => none

def evR (cf : CF) : List I → Env → AH → Option (Env × AH)
  | [], e, h => some (e, h)
  | i :: is, e, h => match evI cf i e h with
    | some (e', h') => evR cf is e' h'
    | none => none

inductive X where
  | normal
  | exit (id : Nat)
  | ret

/-- The state before operation i of a region. -/
def stateAt (cf : CF) (is : List I) (i : Nat) (e : Env) (h : AH) : Option (Env × AH) := evR cf (is.take i) e h

def noCall : CF := fun _ _ _ => none

/-- What operation j reads does not turn by operation i. -/
def Stable (cf : CF) (is : List I) (e : Env) (h : AH) (j i : Nat) : Prop :=
  ∀ o e1 h1 e2 h2 e3 h3, is[j]? = some o → stateAt cf is j e h = some (e1, h1) → stateAt cf is i e h = some (e2, h2) → stateAt cf is (i + 1) e h = some (e3, h3) →
    (evOp noCall (env e1) h2 o.op).map (·.1) = (evOp noCall (env e1) h3 o.op).map (·.1)

open Classical in
/-- Pairs (j, i): a read and what does not turn it; (k, k): a literal that may be laid early. -/
noncomputable def evDraw (cf : CF) (is : List I) (ps : List (Nat × Nat)) (e : Env) (h : AH) : Option (Env × AH) :=
  if ∀ p ∈ ps, p.1 = p.2 ∨ Stable cf is e h p.1 p.2 then evR cf is e h else none

def evLoop (step : Env → AH → Option (X × Env × AH)) : Nat → Env → AH → Option (X × Env × AH)
  | 0, _, _ => none
  | n + 1, e, h => match step e h with
    | some (.normal, e', h') => evLoop step n e' h'
    | r => r

noncomputable def evC (cf : CF) (n : Nat) : C → Env → AH → Option (X × Env × AH)
  | .skip, e, h => some (.normal, e, h)
  | .reg is, e, h => (evR cf is e h).map fun (e', h') => (.normal, e', h')
  | .drw is ps, e, h => (evDraw cf is ps e h).map fun (e', h') => (.normal, e', h')
  | .kl ts c, e, h => evC cf n c (e.dels ts) h
  | .seq a b, e, h => match evC cf n a e h with
    | some (.normal, e', h') => evC cf n b e' h'
    | r => r
  | .cond x a b, e, h => match env e x with
    | .bool t => if t then evC cf n a e h else evC cf n b e h
    | _ => none
  | .blk id c, e, h => match evC cf n c e h with
    | some (.exit id', e', h') => if id' = id then some (.normal, e', h') else some (.exit id', e', h')
    | r => r
  | .loop c, e, h => evLoop (evC cf n c) n e h
  | .exit id, e, h => some (.exit id, e, h)
  | .ret, e, h => some (.ret, e, h)
  | .bad, _, _ => none

def res1 (e : Env) (h : AH) : Res → Option AV
  | .tmp t => some (e.get t)
  | .cell agg n t => match e.get t with
    | .ptr c k off m => if n ≤ m then match rdRow h c k off n with
        | some cs => mkv agg cs
        | none => none
      else none
    | _ => none
def resL (e : Env) (h : AH) : List Res → Option (List AV)
  | [] => some []
  | r :: rs => match res1 e h r, resL e h rs with
    | some v, some vs => some (v :: vs)
    | _, _ => none
def resV (e : Env) (h : AH) (rs : List Res) : Option AV :=
  match resL e h rs with
  | some [v] => some v
  | some vs => some (.tup vs)
  | none => none

abbrev Ext := Nat → Option (CF → List AV → AH → Option (AV × AH))

noncomputable def evF (T : Nat → Option FI) (E : Ext) : Nat → CF
  | 0 => fun _ _ _ => none
  | n + 1 => fun f xs h => match E f with
    | some F => F (evF T E n) xs h
    | none => match T f with
      | some fi => match evC (evF T E n) n fi.body (Env.init 0 xs) h with
        | some (.normal, e, h') => (resV e h' fi.res).map (·, h')
        | some (.ret, e, h') => (resV e h' fi.res).map (·, h')
        | _ => none
      | none => none

end Go.Proofs.YtnamhjdfegohbaaGreatDoor.Ab

/- BODIES of functions as compact literals, written by gen.py. -/
namespace Go.Proofs.YtnamhjdfegohbaaGreatDoor.Ab
open Go

/-- laws.FnLinesHiddenOfAll -/
def fi539 : FI := ⟨.seq (.reg [⟨some 15, .box (.t 3), none⟩, ⟨some 16, .box (.t 4), none⟩, ⟨some 17, .box (.t 5), none⟩, ⟨some 18, .box (.t 6), none⟩, ⟨some 20, .box (.t 8), none⟩, ⟨some 23, .box (.t 11), none⟩, ⟨some 24, .mov (.c (.bool false)), none⟩]) (.kl [3, 4, 5, 6, 8, 11, 24] (.seq (.seq (.reg [⟨some 67, .mov (.t 0), none⟩, ⟨some 68, .lenS (.t 67), none⟩, ⟨some 69, .bin .gtr (.t 68) (.c (.int .i64 1048576)), none⟩, ⟨some 70, .mov (.t 69), none⟩, ⟨some 71, .mov (.t 9), some (70, false)⟩, ⟨some 72, .lenS (.t 71), some (70, false)⟩, ⟨some 73, .bin .gtr (.t 72) (.c (.int .i64 1048576)), some (70, false)⟩, ⟨some 74, .pick (.t 70) (.c (.bool true)) (.t 73), none⟩]) (.kl [67, 68, 69, 70, 71, 72, 73] (.cond (.t 74) (.kl [0, 1, 2, 7, 9, 10, 15, 16, 17, 18, 20, 23, 74] (.seq (.reg [⟨some 24, .mov (.c (.bool true)), none⟩]) (.ret))) (.skip)))) (.kl [74] (.seq (.reg [⟨some 76, .mov (.t 0), none⟩, ⟨some 77, .mov (.t 1), none⟩, ⟨some 78, .mov (.t 2), none⟩, ⟨some 79, .call 540 [.t 76, .t 77, .t 78], none⟩, ⟨some 75, .mov (.t 79), none⟩, ⟨some 80, .prj 0 (.t 75), none⟩, ⟨some 81, .prj 1 (.t 75), none⟩, ⟨some 25, .new [.int .i64 0, .nilS], none⟩, ⟨none, .store 2 (.t 25) (.t 80), none⟩, ⟨some 26, .mov (.t 81), none⟩]) (.kl [75, 76, 77, 78, 79, 80, 81] (.seq (.reg [⟨some 83, .mov (.t 0), none⟩, ⟨some 84, .mov (.t 1), none⟩, ⟨some 85, .mov (.t 2), none⟩, ⟨some 86, .call 541 [.t 83, .t 84, .t 85], none⟩, ⟨some 82, .mov (.t 86), none⟩, ⟨some 87, .prj 0 (.t 82), none⟩, ⟨some 88, .prj 1 (.t 82), none⟩, ⟨some 27, .new [.int .i64 0, .nilS], none⟩, ⟨none, .store 2 (.t 27) (.t 87), none⟩, ⟨some 28, .mov (.t 88), none⟩]) (.kl [2, 82, 83, 84, 85, 86, 87, 88] (.seq (.seq (.reg [⟨some 89, .mov (.t 26), none⟩, ⟨some 90, .mov (.t 28), none⟩, ⟨some 91, .beq true (.t 89) (.t 90), none⟩, ⟨some 92, .mov (.t 91), none⟩, ⟨some 93, .load true 2 (.t 25), some (92, false)⟩, ⟨some 94, .load true 2 (.t 27), some (92, false)⟩, ⟨some 95, .call 542 [.t 93, .t 94], some (92, false)⟩, ⟨some 96, .un .not (.t 95), some (92, false)⟩, ⟨some 97, .pick (.t 92) (.c (.bool true)) (.t 96), none⟩]) (.kl [27, 28, 89, 90, 91, 92, 93, 94, 95, 96] (.cond (.t 97) (.kl [0, 1, 7, 9, 10, 15, 16, 17, 18, 20, 23, 25, 26, 97] (.seq (.reg [⟨some 24, .mov (.c (.bool false)), none⟩]) (.ret))) (.skip)))) (.kl [97] (.seq (.seq (.reg [⟨some 98, .mov (.t 26), none⟩]) (.kl [26] (.cond (.t 98) (.kl [98] (.seq (.reg [⟨some 100, .load true 2 (.t 25), none⟩, ⟨some 101, .call 163 [.t 100], none⟩, ⟨some 99, .mov (.t 101), none⟩, ⟨some 102, .prj 0 (.t 99), none⟩, ⟨some 103, .prj 1 (.t 99), none⟩, ⟨some 29, .mov (.t 102), none⟩, ⟨some 30, .mov (.t 103), none⟩]) (.kl [99, 100, 101, 102, 103] (.seq (.reg [⟨some 105, .mov (.t 0), none⟩, ⟨some 106, .call 381 [.t 105], none⟩, ⟨some 104, .mov (.t 106), none⟩, ⟨some 107, .prj 0 (.t 104), none⟩, ⟨some 108, .prj 1 (.t 104), none⟩, ⟨some 31, .mov (.t 107), none⟩, ⟨some 32, .mov (.t 108), none⟩]) (.kl [104, 105, 106, 107, 108] (.seq (.reg [⟨some 110, .mov (.t 31), none⟩, ⟨some 111, .build [.int .i64 0, .int .i64 0, .int .i64 0] [(0, 1, .c (.int .i64 4)), (1, 1, .t 110)], none⟩, ⟨some 112, .mov (.t 0), none⟩, ⟨some 113, .call 185 [.t 111, .t 112], none⟩, ⟨some 109, .mov (.t 113), none⟩, ⟨some 114, .prj 0 (.t 109), none⟩, ⟨some 115, .prj 1 (.t 109), none⟩, ⟨some 33, .mov (.t 114), none⟩, ⟨some 34, .mov (.t 115), none⟩]) (.kl [31, 109, 110, 111, 112, 113, 114, 115] (.seq (.reg [⟨some 117, .mov (.t 0), none⟩, ⟨some 118, .call 19 [.t 117], none⟩, ⟨some 116, .mov (.t 118), none⟩, ⟨some 119, .prj 0 (.t 116), none⟩, ⟨some 120, .prj 1 (.t 116), none⟩, ⟨some 35, .mov (.t 119), none⟩, ⟨some 36, .mov (.t 120), none⟩]) (.kl [116, 117, 118, 119, 120] (.seq (.reg [⟨some 122, .mov (.t 35), none⟩, ⟨some 123, .lenV (.t 122), none⟩, ⟨some 124, .build [.int .i64 0, .int .i64 0, .int .i64 0] [(0, 1, .c (.int .i64 3)), (1, 1, .t 123)], none⟩, ⟨some 125, .mov (.t 0), none⟩, ⟨some 126, .call 185 [.t 124, .t 125], none⟩, ⟨some 121, .mov (.t 126), none⟩, ⟨some 127, .prj 0 (.t 121), none⟩, ⟨some 128, .prj 1 (.t 121), none⟩, ⟨some 37, .mov (.t 127), none⟩, ⟨some 38, .mov (.t 128), none⟩]) (.kl [35, 121, 122, 123, 124, 125, 126, 127, 128] (.seq (.reg [⟨some 129, .load true 2 (.t 25), none⟩, ⟨some 130, .call 166 [.t 129], none⟩, ⟨some 131, .un .not (.t 130), none⟩, ⟨some 132, .mov (.t 131), none⟩, ⟨some 133, .faddr 1 1 (.t 25), some (132, false)⟩, ⟨some 134, .load false 1 (.t 133), some (132, false)⟩, ⟨some 135, .lenV (.t 134), some (132, false)⟩, ⟨some 136, .mov (.t 1), some (132, false)⟩, ⟨some 137, .bin .neq (.t 135) (.t 136), some (132, false)⟩, ⟨some 138, .pick (.t 132) (.c (.bool true)) (.t 137), none⟩, ⟨some 139, .mov (.t 138), none⟩, ⟨some 140, .faddr 0 1 (.t 25), some (139, false)⟩, ⟨some 141, .load false 1 (.t 140), some (139, false)⟩, ⟨some 142, .mov (.t 0), some (139, false)⟩, ⟨some 143, .lenS (.t 142), some (139, false)⟩, ⟨some 144, .bin .neq (.t 141) (.t 143), some (139, false)⟩, ⟨some 145, .pick (.t 139) (.c (.bool true)) (.t 144), none⟩, ⟨some 146, .mov (.t 145), none⟩, ⟨some 147, .mov (.t 30), some (146, false)⟩, ⟨some 148, .un .not (.t 147), some (146, false)⟩, ⟨some 149, .pick (.t 146) (.c (.bool true)) (.t 148), none⟩, ⟨some 150, .mov (.t 149), none⟩, ⟨some 151, .mov (.t 29), some (150, false)⟩, ⟨some 152, .mov (.t 0), some (150, false)⟩, ⟨some 153, .call 543 [.t 151, .t 152], some (150, false)⟩, ⟨some 154, .un .not (.t 153), some (150, false)⟩, ⟨some 155, .pick (.t 150) (.c (.bool true)) (.t 154), none⟩, ⟨some 156, .mov (.t 155), none⟩, ⟨some 157, .mov (.t 32), some (156, false)⟩, ⟨some 158, .un .not (.t 157), some (156, false)⟩, ⟨some 159, .pick (.t 156) (.c (.bool true)) (.t 158), none⟩, ⟨some 160, .mov (.t 159), none⟩, ⟨some 161, .mov (.t 34), some (160, false)⟩, ⟨some 162, .un .not (.t 161), some (160, false)⟩, ⟨some 163, .pick (.t 160) (.c (.bool true)) (.t 162), none⟩, ⟨some 164, .mov (.t 163), none⟩, ⟨some 165, .mov (.t 33), some (164, false)⟩, ⟨some 166, .un .not (.t 165), some (164, false)⟩, ⟨some 167, .pick (.t 164) (.c (.bool true)) (.t 166), none⟩, ⟨some 168, .mov (.t 167), none⟩, ⟨some 169, .mov (.t 36), some (168, false)⟩, ⟨some 170, .un .not (.t 169), some (168, false)⟩, ⟨some 171, .pick (.t 168) (.c (.bool true)) (.t 170), none⟩, ⟨some 172, .mov (.t 171), none⟩, ⟨some 173, .mov (.t 38), some (172, false)⟩, ⟨some 174, .un .not (.t 173), some (172, false)⟩, ⟨some 175, .pick (.t 172) (.c (.bool true)) (.t 174), none⟩, ⟨some 176, .mov (.t 175), none⟩, ⟨some 177, .mov (.t 37), some (176, false)⟩, ⟨some 178, .un .not (.t 177), some (176, false)⟩, ⟨some 179, .pick (.t 176) (.c (.bool true)) (.t 178), none⟩]) (.kl [0, 1, 25, 29, 30, 32, 33, 34, 36, 37, 38, 129, 130, 131, 132, 133, 134, 135, 136, 137, 138, 139, 140, 141, 142, 143, 144, 145, 146, 147, 148, 149, 150, 151, 152, 153, 154, 155, 156, 157, 158, 159, 160, 161, 162, 163, 164, 165, 166, 167, 168, 169, 170, 171, 172, 173, 174, 175, 176, 177, 178] (.cond (.t 179) (.kl [7, 9, 10, 15, 16, 17, 18, 20, 23, 179] (.seq (.reg [⟨some 24, .mov (.c (.bool false)), none⟩]) (.ret))) (.skip))))))))))))))) (.skip)))) (.kl [0, 1, 25, 98, 179] (.seq (.reg [⟨some 181, .load true 2 (.t 15), none⟩, ⟨some 182, .call 214 [.t 181], none⟩, ⟨some 180, .mov (.t 182), none⟩, ⟨some 183, .prj 0 (.t 180), none⟩, ⟨some 184, .prj 1 (.t 180), none⟩, ⟨some 39, .new [.int .i64 0, .nilS], none⟩, ⟨none, .store 2 (.t 39) (.t 183), none⟩, ⟨some 40, .mov (.t 184), none⟩]) (.kl [180, 181, 182, 183, 184] (.seq (.reg [⟨some 186, .load true 2 (.t 15), none⟩, ⟨some 187, .call 213 [.t 186], none⟩, ⟨some 185, .mov (.t 187), none⟩, ⟨some 188, .prj 0 (.t 185), none⟩, ⟨some 189, .prj 1 (.t 185), none⟩, ⟨some 41, .new [.int .i64 0, .nilS], none⟩, ⟨none, .store 2 (.t 41) (.t 188), none⟩, ⟨some 42, .mov (.t 189), none⟩]) (.kl [185, 186, 187, 188, 189] (.seq (.reg [⟨some 191, .load true 2 (.t 15), none⟩, ⟨some 192, .call 142 [.t 191], none⟩, ⟨some 190, .mov (.t 192), none⟩, ⟨some 193, .prj 0 (.t 190), none⟩, ⟨some 194, .prj 1 (.t 190), none⟩, ⟨some 43, .mov (.t 193), none⟩, ⟨some 44, .mov (.t 194), none⟩]) (.kl [190, 191, 192, 193, 194] (.seq (.seq (.reg [⟨some 195, .mov (.t 40), none⟩, ⟨some 196, .mov (.t 42), none⟩, ⟨some 197, .beq true (.t 195) (.t 196), none⟩, ⟨some 198, .mov (.t 197), none⟩, ⟨some 199, .load true 2 (.t 39), some (198, false)⟩, ⟨some 200, .load true 2 (.t 41), some (198, false)⟩, ⟨some 201, .call 542 [.t 199, .t 200], some (198, false)⟩, ⟨some 202, .un .not (.t 201), some (198, false)⟩, ⟨some 203, .pick (.t 198) (.c (.bool true)) (.t 202), none⟩, ⟨some 204, .mov (.t 203), none⟩, ⟨some 205, .mov (.t 40), some (204, false)⟩, ⟨some 206, .mov (.t 44), some (204, false)⟩, ⟨some 207, .mov (.t 206), some (204, false)⟩, ⟨some 208, .mov (.t 43), some (207, true)⟩, ⟨some 209, .pick (.t 207) (.t 208) (.c (.bool false)), some (204, false)⟩, ⟨some 210, .beq true (.t 205) (.t 209), some (204, false)⟩, ⟨some 211, .pick (.t 204) (.c (.bool true)) (.t 210), none⟩]) (.kl [41, 42, 43, 44, 195, 196, 197, 198, 199, 200, 201, 202, 203, 204, 205, 206, 207, 208, 209, 210] (.cond (.t 211) (.kl [7, 9, 10, 15, 16, 17, 18, 20, 23, 39, 40, 211] (.seq (.reg [⟨some 24, .mov (.c (.bool false)), none⟩]) (.ret))) (.skip)))) (.kl [211] (.seq (.seq (.reg [⟨some 212, .mov (.t 40), none⟩]) (.kl [40] (.cond (.t 212) (.kl [212] (.seq (.reg [⟨some 214, .load true 2 (.t 15), none⟩, ⟨some 215, .call 163 [.t 214], none⟩, ⟨some 213, .mov (.t 215), none⟩, ⟨some 216, .prj 0 (.t 213), none⟩, ⟨some 217, .prj 1 (.t 213), none⟩, ⟨some 45, .mov (.t 216), none⟩, ⟨some 46, .mov (.t 217), none⟩]) (.kl [213, 214, 215, 216, 217] (.seq (.reg [⟨some 219, .load true 2 (.t 39), none⟩, ⟨some 220, .call 163 [.t 219], none⟩, ⟨some 218, .mov (.t 220), none⟩, ⟨some 221, .prj 0 (.t 218), none⟩, ⟨some 222, .prj 1 (.t 218), none⟩, ⟨some 47, .mov (.t 221), none⟩, ⟨some 48, .mov (.t 222), none⟩]) (.kl [218, 219, 220, 221, 222] (.seq (.reg [⟨some 224, .load true 2 (.t 39), none⟩, ⟨some 225, .call 211 [.t 224], none⟩, ⟨some 223, .mov (.t 225), none⟩, ⟨some 226, .prj 0 (.t 223), none⟩, ⟨some 227, .prj 1 (.t 223), none⟩, ⟨some 49, .mov (.t 226), none⟩, ⟨some 50, .mov (.t 227), none⟩]) (.kl [223, 224, 225, 226, 227] (.seq (.reg [⟨some 228, .mov (.t 46), none⟩, ⟨some 229, .un .not (.t 228), none⟩, ⟨some 230, .mov (.t 229), none⟩, ⟨some 231, .mov (.t 48), some (230, false)⟩, ⟨some 232, .un .not (.t 231), some (230, false)⟩, ⟨some 233, .pick (.t 230) (.c (.bool true)) (.t 232), none⟩, ⟨some 234, .mov (.t 233), none⟩, ⟨some 235, .mov (.t 45), some (234, false)⟩, ⟨some 236, .mov (.t 47), some (234, false)⟩, ⟨some 237, .call 544 [.t 235, .t 236], some (234, false)⟩, ⟨some 238, .un .not (.t 237), some (234, false)⟩, ⟨some 239, .pick (.t 234) (.c (.bool true)) (.t 238), none⟩, ⟨some 240, .mov (.t 239), none⟩, ⟨some 241, .mov (.t 50), some (240, false)⟩, ⟨some 242, .un .not (.t 241), some (240, false)⟩, ⟨some 243, .pick (.t 240) (.c (.bool true)) (.t 242), none⟩, ⟨some 244, .mov (.t 243), none⟩, ⟨some 245, .mov (.t 49), some (244, false)⟩, ⟨some 246, .lenV (.t 245), some (244, false)⟩, ⟨some 247, .bin .neq (.t 246) (.c (.int .i64 0)), some (244, false)⟩, ⟨some 248, .pick (.t 244) (.c (.bool true)) (.t 247), none⟩, ⟨some 249, .mov (.t 248), none⟩, ⟨some 250, .faddr 1 1 (.t 39), some (249, false)⟩, ⟨some 251, .load false 1 (.t 250), some (249, false)⟩, ⟨some 252, .lenV (.t 251), some (249, false)⟩, ⟨some 253, .faddr 1 1 (.t 15), some (249, false)⟩, ⟨some 254, .load false 1 (.t 253), some (249, false)⟩, ⟨some 255, .lenV (.t 254), some (249, false)⟩, ⟨some 256, .bin .gtr (.t 252) (.t 255), some (249, false)⟩, ⟨some 257, .pick (.t 249) (.c (.bool true)) (.t 256), none⟩]) (.kl [15, 39, 45, 46, 47, 48, 49, 50, 228, 229, 230, 231, 232, 233, 234, 235, 236, 237, 238, 239, 240, 241, 242, 243, 244, 245, 246, 247, 248, 249, 250, 251, 252, 253, 254, 255, 256] (.cond (.t 257) (.kl [7, 9, 10, 16, 17, 18, 20, 23, 257] (.seq (.reg [⟨some 24, .mov (.c (.bool false)), none⟩]) (.ret))) (.skip))))))))))) (.skip)))) (.kl [15, 39, 212, 257] (.seq (.reg [⟨some 259, .load true 2 (.t 16), none⟩, ⟨some 260, .load true 3 (.t 17), none⟩, ⟨some 261, .call 545 [.t 259, .t 260], none⟩, ⟨some 258, .mov (.t 261), none⟩, ⟨some 262, .prj 0 (.t 258), none⟩, ⟨some 263, .prj 1 (.t 258), none⟩, ⟨some 51, .new [.int .i64 0, .nilS], none⟩, ⟨none, .store 2 (.t 51) (.t 262), none⟩, ⟨some 52, .mov (.t 263), none⟩]) (.kl [258, 259, 260, 261, 262, 263] (.seq (.reg [⟨some 265, .load true 2 (.t 16), none⟩, ⟨some 266, .load true 3 (.t 17), none⟩, ⟨some 267, .call 546 [.t 265, .t 266], none⟩, ⟨some 264, .mov (.t 267), none⟩, ⟨some 268, .prj 0 (.t 264), none⟩, ⟨some 269, .prj 1 (.t 264), none⟩, ⟨some 53, .new [.int .i64 0, .nilS], none⟩, ⟨none, .store 2 (.t 53) (.t 268), none⟩, ⟨some 54, .mov (.t 269), none⟩]) (.kl [264, 265, 266, 267, 268, 269] (.seq (.reg [⟨some 271, .load true 2 (.t 18), none⟩, ⟨some 272, .mov (.t 7), none⟩, ⟨some 273, .call 547 [.t 271, .t 272], none⟩, ⟨some 270, .mov (.t 273), none⟩, ⟨some 274, .prj 0 (.t 270), none⟩, ⟨some 275, .prj 1 (.t 270), none⟩, ⟨some 55, .new [.int .i64 0, .nilS], none⟩, ⟨none, .store 2 (.t 55) (.t 274), none⟩, ⟨some 56, .mov (.t 275), none⟩]) (.kl [270, 271, 272, 273, 274, 275] (.seq (.reg [⟨some 277, .load true 2 (.t 18), none⟩, ⟨some 278, .mov (.t 7), none⟩, ⟨some 279, .call 548 [.t 277, .t 278], none⟩, ⟨some 276, .mov (.t 279), none⟩, ⟨some 280, .prj 0 (.t 276), none⟩, ⟨some 281, .prj 1 (.t 276), none⟩, ⟨some 57, .new [.int .i64 0, .nilS], none⟩, ⟨none, .store 2 (.t 57) (.t 280), none⟩, ⟨some 58, .mov (.t 281), none⟩]) (.kl [276, 277, 278, 279, 280, 281] (.seq (.reg [⟨some 283, .load true 3 (.t 20), none⟩, ⟨some 284, .mov (.t 9), none⟩, ⟨some 285, .call 185 [.t 283, .t 284], none⟩, ⟨some 282, .mov (.t 285), none⟩, ⟨some 286, .prj 0 (.t 282), none⟩, ⟨some 287, .prj 1 (.t 282), none⟩, ⟨some 59, .mov (.t 286), none⟩, ⟨some 60, .mov (.t 287), none⟩]) (.kl [282, 283, 284, 285, 286, 287] (.seq (.reg [⟨some 289, .load true 3 (.t 20), none⟩, ⟨some 290, .mov (.t 9), none⟩, ⟨some 291, .call 549 [.t 289, .t 290], none⟩, ⟨some 288, .mov (.t 291), none⟩, ⟨some 292, .prj 0 (.t 288), none⟩, ⟨some 293, .prj 1 (.t 288), none⟩, ⟨some 61, .mov (.t 292), none⟩, ⟨some 62, .mov (.t 293), none⟩]) (.kl [288, 289, 290, 291, 292, 293] (.seq (.seq (.drw [⟨some 294, .mov (.t 52), none⟩, ⟨some 295, .mov (.t 54), none⟩, ⟨some 296, .beq true (.t 294) (.t 295), none⟩, ⟨some 297, .mov (.t 296), none⟩, ⟨some 298, .load true 2 (.t 51), some (297, false)⟩, ⟨some 299, .load true 2 (.t 53), some (297, false)⟩, ⟨some 300, .call 542 [.t 298, .t 299], some (297, false)⟩, ⟨some 301, .un .not (.t 300), some (297, false)⟩, ⟨some 302, .pick (.t 297) (.c (.bool true)) (.t 301), none⟩, ⟨some 303, .mov (.t 302), none⟩, ⟨some 304, .mov (.t 56), some (303, false)⟩, ⟨some 305, .mov (.t 58), some (303, false)⟩, ⟨some 306, .beq true (.t 304) (.t 305), some (303, false)⟩, ⟨some 307, .pick (.t 303) (.c (.bool true)) (.t 306), none⟩, ⟨some 308, .mov (.t 307), none⟩, ⟨some 309, .load true 2 (.t 55), some (308, false)⟩, ⟨some 310, .load true 2 (.t 57), some (308, false)⟩, ⟨some 311, .call 542 [.t 309, .t 310], some (308, false)⟩, ⟨some 312, .un .not (.t 311), some (308, false)⟩, ⟨some 313, .pick (.t 308) (.c (.bool true)) (.t 312), none⟩, ⟨some 314, .mov (.t 313), none⟩, ⟨some 315, .mov (.t 60), some (314, false)⟩, ⟨some 316, .mov (.t 62), some (314, false)⟩, ⟨some 317, .beq true (.t 315) (.t 316), some (314, false)⟩, ⟨some 318, .pick (.t 314) (.c (.bool true)) (.t 317), none⟩, ⟨some 319, .mov (.t 318), none⟩, ⟨some 320, .mov (.t 59), some (319, false)⟩, ⟨some 321, .mov (.t 61), some (319, false)⟩, ⟨some 322, .beq true (.t 320) (.t 321), some (319, false)⟩, ⟨some 323, .pick (.t 319) (.c (.bool true)) (.t 322), none⟩, ⟨some 324, .mov (.t 323), none⟩, ⟨some 325, .mov (.t 10), some (324, false)⟩, ⟨some 326, .load true 3 (.t 23), some (324, false)⟩, ⟨some 327, .call 183 [.t 325, .t 326], some (324, false)⟩, ⟨some 328, .mov (.t 10), some (324, false)⟩, ⟨some 329, .load true 3 (.t 23), some (324, false)⟩, ⟨some 330, .call 550 [.t 328, .t 329], some (324, false)⟩, ⟨some 331, .beq true (.t 327) (.t 330), some (324, false)⟩, ⟨some 332, .pick (.t 324) (.c (.bool true)) (.t 331), none⟩, ⟨some 333, .mov (.t 332), none⟩, ⟨some 334, .mov (.t 60), some (333, false)⟩, ⟨some 335, .mov (.t 334), some (333, false)⟩, ⟨some 336, .mov (.t 9), some (335, true)⟩, ⟨some 337, .lenS (.t 336), some (335, true)⟩, ⟨some 338, .load true 3 (.t 20), some (335, true)⟩, ⟨some 339, .call 183 [.t 337, .t 338], some (335, true)⟩, ⟨some 340, .un .not (.t 339), some (335, true)⟩, ⟨some 341, .pick (.t 335) (.t 340) (.c (.bool false)), some (333, false)⟩, ⟨some 342, .pick (.t 333) (.c (.bool true)) (.t 341), none⟩] [(35, 33)]) (.kl [9, 10, 20, 23, 53, 54, 57, 58, 59, 60, 61, 62, 294, 295, 296, 297, 298, 299, 300, 301, 302, 303, 304, 305, 306, 307, 308, 309, 310, 311, 312, 313, 314, 315, 316, 317, 318, 319, 320, 321, 322, 323, 324, 325, 326, 327, 328, 329, 330, 331, 332, 333, 334, 335, 336, 337, 338, 339, 340, 341] (.cond (.t 342) (.kl [7, 16, 17, 18, 51, 52, 55, 56, 342] (.seq (.reg [⟨some 24, .mov (.c (.bool false)), none⟩]) (.ret))) (.skip)))) (.kl [342] (.seq (.seq (.reg [⟨some 343, .mov (.t 52), none⟩]) (.kl [52] (.cond (.t 343) (.kl [343] (.seq (.reg [⟨some 345, .load true 2 (.t 51), none⟩, ⟨some 346, .faddr 1 1 (.t 16), none⟩, ⟨some 347, .load false 1 (.t 346), none⟩, ⟨some 348, .lenV (.t 347), none⟩, ⟨some 349, .call 547 [.t 345, .t 348], none⟩, ⟨some 344, .mov (.t 349), none⟩, ⟨some 350, .prj 0 (.t 344), none⟩, ⟨some 351, .prj 1 (.t 344), none⟩, ⟨some 63, .new [.int .i64 0, .nilS], none⟩, ⟨none, .store 2 (.t 63) (.t 350), none⟩, ⟨some 64, .mov (.t 351), none⟩]) (.kl [344, 345, 346, 347, 348, 349, 350, 351] (.seq (.drw [⟨some 352, .mov (.t 64), none⟩, ⟨some 353, .un .not (.t 352), none⟩, ⟨some 354, .mov (.t 353), none⟩, ⟨some 355, .load true 2 (.t 63), some (354, false)⟩, ⟨some 356, .load true 2 (.t 16), some (354, false)⟩, ⟨some 357, .call 542 [.t 355, .t 356], some (354, false)⟩, ⟨some 358, .un .not (.t 357), some (354, false)⟩, ⟨some 359, .pick (.t 354) (.c (.bool true)) (.t 358), none⟩, ⟨some 360, .mov (.t 359), none⟩, ⟨some 361, .faddr 1 1 (.t 51), some (360, false)⟩, ⟨some 362, .load false 1 (.t 361), some (360, false)⟩, ⟨some 363, .faddr 1 1 (.t 16), some (360, false)⟩, ⟨some 364, .load false 1 (.t 363), some (360, false)⟩, ⟨some 365, .lenV (.t 364), some (360, false)⟩, ⟨some 366, .iaddr 3 (.t 362) (.t 365), some (360, false)⟩, ⟨some 367, .load true 3 (.t 366), some (360, false)⟩, ⟨some 368, .load true 3 (.t 17), some (360, false)⟩, ⟨some 369, .aeq true [0, 0, 0] (.t 367) (.t 368), some (360, false)⟩, ⟨some 370, .pick (.t 360) (.c (.bool true)) (.t 369), none⟩] []) (.kl [16, 17, 51, 63, 64, 352, 353, 354, 355, 356, 357, 358, 359, 360, 361, 362, 363, 364, 365, 366, 367, 368, 369] (.cond (.t 370) (.kl [7, 18, 55, 56, 370] (.seq (.reg [⟨some 24, .mov (.c (.bool false)), none⟩]) (.ret))) (.skip))))))) (.skip)))) (.kl [16, 17, 51, 343, 370] (.seq (.seq (.reg [⟨some 371, .mov (.t 56), none⟩, ⟨some 372, .mov (.t 371), none⟩, ⟨some 373, .mov (.t 7), some (372, true)⟩, ⟨some 374, .faddr 1 1 (.t 18), some (372, true)⟩, ⟨some 375, .load false 1 (.t 374), some (372, true)⟩, ⟨some 376, .lenV (.t 375), some (372, true)⟩, ⟨some 377, .bin .sub (.t 376) (.c (.int .i64 1)), some (372, true)⟩, ⟨some 378, .bin .eql (.t 373) (.t 377), some (372, true)⟩, ⟨some 379, .pick (.t 372) (.t 378) (.c (.bool false)), none⟩]) (.kl [56, 371, 372, 373, 374, 375, 376, 377, 378] (.cond (.t 379) (.kl [379] (.seq (.drw [⟨some 381, .load true 2 (.t 55), none⟩, ⟨some 382, .faddr 1 1 (.t 18), none⟩, ⟨some 383, .load false 1 (.t 382), none⟩, ⟨some 384, .mov (.t 7), none⟩, ⟨some 385, .iaddr 3 (.t 383) (.t 384), none⟩, ⟨some 386, .load true 3 (.t 385), none⟩, ⟨some 387, .call 545 [.t 381, .t 386], none⟩, ⟨some 380, .mov (.t 387), none⟩, ⟨some 388, .prj 0 (.t 380), none⟩, ⟨some 389, .prj 1 (.t 380), none⟩, ⟨some 65, .new [.int .i64 0, .nilS], none⟩, ⟨none, .store 2 (.t 65) (.t 388), none⟩, ⟨some 66, .mov (.t 389), none⟩] [(10, 10), (0, 10), (2, 10), (5, 10)]) (.kl [7, 55, 380, 381, 382, 383, 384, 385, 386, 387, 388, 389] (.seq (.reg [⟨some 390, .mov (.t 66), none⟩, ⟨some 391, .mov (.t 390), none⟩, ⟨some 392, .load true 2 (.t 65), some (391, true)⟩, ⟨some 393, .load true 2 (.t 18), some (391, true)⟩, ⟨some 394, .call 542 [.t 392, .t 393], some (391, true)⟩, ⟨some 395, .pick (.t 391) (.t 394) (.c (.bool false)), none⟩, ⟨some 24, .mov (.t 395), none⟩]) (.kl [18, 65, 66, 390, 391, 392, 393, 394, 395] (.ret)))))) (.skip)))) (.kl [7, 18, 55, 379] (.seq (.reg [⟨some 24, .mov (.c (.bool true)), none⟩]) (.ret))))))))))))))))))))))))))))))))))))))))), [.tmp 24]⟩
-- lp540_0 HEAD [0, 6, 8, 9, 31, 32] | exit 0: [6, 9]
/-- impl.MakePuzzle -/
def lb540_0 : C := .kl [53] (.seq (.reg [⟨some 33, .bin .lss (.t 32) (.t 31), none⟩]) (.seq (.cond (.t 33) (.skip) (.kl [0, 8, 31, 32, 33] (.exit 0))) (.kl [33] (.seq (.blk 1 (.seq (.reg [⟨some 34, .mov (.t 8), none⟩, ⟨some 35, .callv (.t 34) [], none⟩, ⟨some 36, .bin .rem (.t 35) (.c (.int .i64 6)), none⟩, ⟨some 10, .mov (.t 36), none⟩, ⟨some 11, .mov (.c (.int .i64 0)), none⟩]) (.kl [34, 35, 36] (.seq (.seq (.reg [⟨some 37, .mov (.t 10), none⟩, ⟨some 38, .bin .eql (.t 37) (.c (.int .i64 0)), none⟩]) (.kl [37] (.cond (.t 38) (.kl [11, 38] (.reg [⟨some 39, .mov (.t 8), none⟩, ⟨some 40, .callv (.t 39) [], none⟩, ⟨some 41, .mov (.t 0), none⟩, ⟨some 42, .lenS (.t 41), none⟩, ⟨some 43, .bin .rem (.t 40) (.t 42), none⟩, ⟨some 11, .mov (.t 43), none⟩])) (.skip)))) (.kl [38, 39, 40, 41, 42, 43] (.drw [⟨some 44, .faddr 1 1 (.t 9), none⟩, ⟨some 45, .load false 1 (.t 44), none⟩, ⟨some 46, .mov (.t 10), none⟩, ⟨some 47, .mov (.t 11), none⟩, ⟨some 48, .mov (.t 0), none⟩, ⟨some 49, .call 187 [.t 46, .t 47, .t 48], none⟩, ⟨some 50, .lit 3 1 [.int .i64 0, .int .i64 0, .int .i64 0] [(0, 3, .t 49)], none⟩, ⟨some 51, .app 3 (.t 45) (.t 50), none⟩, ⟨some 52, .faddr 1 1 (.t 9), none⟩, ⟨none, .store 1 (.t 52) (.t 51), none⟩] [(1, 5), (1, 6)])))))) (.kl [10, 11, 44, 45, 46, 47, 48, 49, 50, 51, 52] (.reg [⟨some 53, .bin .add (.t 32) (.c (.int .i64 1)), none⟩, ⟨some 32, .mov (.t 53), none⟩]))))))
def lp540_0 : C := lb540_0
def fi540 : FI := ⟨.seq (.reg [⟨some 5, .box (.t 2), none⟩, ⟨some 6, .new [.int .i64 0, .nilS], none⟩, ⟨some 7, .mov (.c (.bool false)), none⟩]) (.kl [2, 7] (.seq (.seq (.reg [⟨some 12, .mov (.t 0), none⟩, ⟨some 13, .call 82 [.t 12, .c (.int .i64 5)], none⟩, ⟨some 14, .un .not (.t 13), none⟩, ⟨some 15, .mov (.t 14), none⟩, ⟨some 16, .mov (.t 1), some (15, false)⟩, ⟨some 17, .call 74 [.t 16, .c (.int .i64 0), .c (.int .i64 6)], some (15, false)⟩, ⟨some 18, .un .not (.t 17), some (15, false)⟩, ⟨some 19, .pick (.t 15) (.c (.bool true)) (.t 18), none⟩, ⟨some 20, .mov (.t 19), none⟩, ⟨some 21, .load false 1 (.t 5), some (20, false)⟩, ⟨some 22, .call 74 [.t 21, .c (.int .i64 0), .c (.int .i64 9999)], some (20, false)⟩, ⟨some 23, .un .not (.t 22), some (20, false)⟩, ⟨some 24, .pick (.t 20) (.c (.bool true)) (.t 23), none⟩]) (.kl [12, 13, 14, 15, 16, 17, 18, 19, 20, 21, 22, 23] (.cond (.t 24) (.kl [0, 1, 5, 24] (.seq (.reg [⟨some 25, .build [.int .i64 0, .nilS] [], none⟩, ⟨none, .store 2 (.t 6) (.t 25), none⟩, ⟨some 7, .mov (.c (.bool false)), none⟩]) (.kl [25] (.ret)))) (.skip)))) (.kl [24] (.seq (.reg [⟨some 26, .mkfn 593 [.t 5], none⟩, ⟨some 8, .mov (.t 26), none⟩]) (.kl [5, 26] (.seq (.reg [⟨some 27, .mov (.t 0), none⟩, ⟨some 28, .lenS (.t 27), none⟩, ⟨some 29, .lit0, none⟩, ⟨some 30, .build [.int .i64 0, .nilS] [(0, 1, .t 28), (1, 1, .t 29)], none⟩, ⟨some 9, .new [.int .i64 0, .nilS], none⟩, ⟨none, .store 2 (.t 9) (.t 30), none⟩]) (.kl [27, 28, 29, 30] (.seq (.seq (.reg [⟨some 31, .mov (.t 1), none⟩, ⟨some 32, .mov (.c (.int .i64 0)), none⟩]) (.kl [1] (.blk 0 (.loop lp540_0)))) (.seq (.reg [⟨some 54, .load true 2 (.t 9), none⟩, ⟨none, .store 2 (.t 6) (.t 54), none⟩, ⟨some 7, .mov (.c (.bool true)), none⟩]) (.kl [9, 54] (.ret))))))))))), [.cell true 2 6, .tmp 7]⟩
-- lp541_0 HEAD [0, 1, 6, 8, 9] | exit 0: [6, 8]
/-- spec.MakePuzzle -/
def lb541_0 : C := .kl [32, 33] (.seq (.seq (.reg [⟨some 30, .mov (.t 1), none⟩, ⟨some 31, .bin .gtr (.t 30) (.c (.int .i64 0)), none⟩]) (.kl [30] (.cond (.t 31) (.skip) (.kl [0, 1, 9, 31] (.exit 0))))) (.kl [31] (.seq (.blk 1 (.seq (.reg [⟨some 34, .mov (.t 9), none⟩, ⟨some 35, .call 595 [.t 34], none⟩, ⟨some 9, .mov (.t 35), none⟩]) (.kl [34, 35] (.seq (.reg [⟨some 36, .mov (.t 9), none⟩, ⟨some 37, .bin .rem (.t 36) (.c (.int .i64 6)), none⟩, ⟨some 10, .mov (.t 37), none⟩, ⟨some 11, .mov (.c (.int .i64 0)), none⟩]) (.kl [36, 37] (.seq (.seq (.reg [⟨some 38, .mov (.t 10), none⟩, ⟨some 39, .bin .eql (.t 38) (.c (.int .i64 0)), none⟩]) (.kl [38] (.cond (.t 39) (.kl [11, 39] (.seq (.reg [⟨some 40, .mov (.t 9), none⟩, ⟨some 41, .call 595 [.t 40], none⟩, ⟨some 9, .mov (.t 41), none⟩]) (.kl [40, 41] (.reg [⟨some 42, .mov (.t 9), none⟩, ⟨some 43, .mov (.t 0), none⟩, ⟨some 44, .lenS (.t 43), none⟩, ⟨some 45, .bin .rem (.t 42) (.t 44), none⟩, ⟨some 11, .mov (.t 45), none⟩])))) (.skip)))) (.kl [39, 42, 43, 44, 45] (.drw [⟨some 46, .faddr 1 1 (.t 8), none⟩, ⟨some 47, .load false 1 (.t 46), none⟩, ⟨some 48, .mov (.t 10), none⟩, ⟨some 49, .mov (.t 11), none⟩, ⟨some 50, .mov (.t 0), none⟩, ⟨some 51, .call 596 [.t 48, .t 49, .t 50], none⟩, ⟨some 52, .lit 3 1 [.int .i64 0, .int .i64 0, .int .i64 0] [(0, 3, .t 51)], none⟩, ⟨some 53, .app 3 (.t 47) (.t 52), none⟩, ⟨some 54, .faddr 1 1 (.t 8), none⟩, ⟨none, .store 1 (.t 54) (.t 53), none⟩] [(1, 5), (1, 6)])))))))) (.kl [10, 11, 46, 47, 48, 49, 50, 51, 52, 53, 54] (.reg [⟨some 32, .mov (.t 1), none⟩, ⟨some 33, .bin .sub (.t 32) (.c (.int .i64 1)), none⟩, ⟨some 1, .mov (.t 33), none⟩])))))
def lp541_0 : C := lb541_0
def fi541 : FI := ⟨.seq (.reg [⟨some 6, .new [.int .i64 0, .nilS], none⟩, ⟨some 7, .mov (.c (.bool false)), none⟩]) (.kl [7] (.seq (.seq (.reg [⟨some 12, .mov (.t 0), none⟩, ⟨some 13, .call 594 [.t 12], none⟩, ⟨some 14, .un .not (.t 13), none⟩, ⟨some 15, .mov (.t 14), none⟩, ⟨some 16, .mov (.t 1), some (15, false)⟩, ⟨some 17, .call 77 [.t 16, .c (.int .i64 0), .c (.int .i64 6)], some (15, false)⟩, ⟨some 18, .un .not (.t 17), some (15, false)⟩, ⟨some 19, .pick (.t 15) (.c (.bool true)) (.t 18), none⟩, ⟨some 20, .mov (.t 19), none⟩, ⟨some 21, .mov (.t 2), some (20, false)⟩, ⟨some 22, .call 77 [.t 21, .c (.int .i64 0), .c (.int .i64 9999)], some (20, false)⟩, ⟨some 23, .un .not (.t 22), some (20, false)⟩, ⟨some 24, .pick (.t 20) (.c (.bool true)) (.t 23), none⟩]) (.kl [12, 13, 14, 15, 16, 17, 18, 19, 20, 21, 22, 23] (.cond (.t 24) (.kl [0, 1, 2, 24] (.seq (.reg [⟨some 25, .build [.int .i64 0, .nilS] [], none⟩, ⟨none, .store 2 (.t 6) (.t 25), none⟩, ⟨some 7, .mov (.c (.bool false)), none⟩]) (.kl [25] (.ret)))) (.skip)))) (.kl [24] (.seq (.reg [⟨some 26, .mov (.t 0), none⟩, ⟨some 27, .lenS (.t 26), none⟩, ⟨some 28, .build [.int .i64 0, .nilS] [(0, 1, .t 27)], none⟩, ⟨some 8, .new [.int .i64 0, .nilS], none⟩, ⟨none, .store 2 (.t 8) (.t 28), none⟩]) (.kl [26, 27, 28] (.seq (.reg [⟨some 29, .mov (.t 2), none⟩, ⟨some 9, .mov (.t 29), none⟩]) (.kl [2, 29] (.seq (.blk 0 (.loop lp541_0)) (.seq (.reg [⟨some 55, .load true 2 (.t 8), none⟩, ⟨none, .store 2 (.t 6) (.t 55), none⟩, ⟨some 7, .mov (.c (.bool true)), none⟩]) (.kl [8, 55] (.ret))))))))))), [.cell true 2 6, .tmp 7]⟩
-- lp542_0 HEAD [2, 3, 22, 23] | exit 0: [] | ret: [4]
/-- laws.nPuzzle -/
def lb542_0 : C := .kl [37] (.seq (.reg [⟨some 24, .bin .lss (.t 23) (.t 22), none⟩]) (.seq (.cond (.t 24) (.skip) (.kl [2, 3, 22, 23, 24] (.exit 0))) (.kl [24] (.seq (.blk 1 (.seq (.reg [⟨some 25, .mov (.t 23), none⟩, ⟨some 5, .mov (.t 25), none⟩]) (.kl [25] (.seq (.drw [⟨some 26, .faddr 1 1 (.t 2), none⟩, ⟨some 27, .load false 1 (.t 26), none⟩, ⟨some 28, .mov (.t 5), none⟩, ⟨some 29, .iaddr 3 (.t 27) (.t 28), none⟩, ⟨some 30, .load true 3 (.t 29), none⟩, ⟨some 31, .faddr 1 1 (.t 3), none⟩, ⟨some 32, .load false 1 (.t 31), none⟩, ⟨some 33, .mov (.t 5), none⟩, ⟨some 34, .iaddr 3 (.t 32) (.t 33), none⟩, ⟨some 35, .load true 3 (.t 34), none⟩, ⟨some 36, .aeq true [0, 0, 0] (.t 30) (.t 35), none⟩] []) (.kl [5, 26, 27, 28, 29, 30, 31, 32, 33, 34, 35] (.cond (.t 36) (.kl [2, 3, 22, 23, 36] (.seq (.reg [⟨some 4, .mov (.c (.bool false)), none⟩]) (.ret))) (.skip))))))) (.kl [36] (.reg [⟨some 37, .bin .add (.t 23) (.c (.int .i64 1)), none⟩, ⟨some 23, .mov (.t 37), none⟩]))))))
def lp542_0 : C := lb542_0
def fi542 : FI := ⟨.seq (.reg [⟨some 2, .box (.t 0), none⟩, ⟨some 3, .box (.t 1), none⟩, ⟨some 4, .mov (.c (.bool false)), none⟩]) (.kl [0, 1, 4] (.seq (.seq (.reg [⟨some 6, .faddr 0 1 (.t 2), none⟩, ⟨some 7, .load false 1 (.t 6), none⟩, ⟨some 8, .faddr 0 1 (.t 3), none⟩, ⟨some 9, .load false 1 (.t 8), none⟩, ⟨some 10, .bin .neq (.t 7) (.t 9), none⟩, ⟨some 11, .mov (.t 10), none⟩, ⟨some 12, .faddr 1 1 (.t 2), some (11, false)⟩, ⟨some 13, .load false 1 (.t 12), some (11, false)⟩, ⟨some 14, .lenV (.t 13), some (11, false)⟩, ⟨some 15, .faddr 1 1 (.t 3), some (11, false)⟩, ⟨some 16, .load false 1 (.t 15), some (11, false)⟩, ⟨some 17, .lenV (.t 16), some (11, false)⟩, ⟨some 18, .bin .neq (.t 14) (.t 17), some (11, false)⟩, ⟨some 19, .pick (.t 11) (.c (.bool true)) (.t 18), none⟩]) (.kl [6, 7, 8, 9, 10, 11, 12, 13, 14, 15, 16, 17, 18] (.cond (.t 19) (.kl [2, 3, 19] (.seq (.reg [⟨some 4, .mov (.c (.bool false)), none⟩]) (.ret))) (.skip)))) (.kl [19] (.seq (.seq (.reg [⟨some 20, .faddr 1 1 (.t 2), none⟩, ⟨some 21, .load false 1 (.t 20), none⟩, ⟨some 22, .lenV (.t 21), none⟩, ⟨some 23, .mov (.c (.int .i64 0)), none⟩]) (.kl [20, 21] (.blk 0 (.loop lp542_0)))) (.seq (.reg [⟨some 4, .mov (.c (.bool true)), none⟩]) (.ret)))))), [.tmp 4]⟩
/-- impl.Solutions -/
def fi163 : FI := ⟨.seq (.reg [⟨some 1, .box (.t 0), none⟩, ⟨some 2, .mov (.c (.nilS)), none⟩, ⟨some 3, .mov (.c (.bool false)), none⟩]) (.kl [0, 2, 3] (.seq (.seq (.reg [⟨some 4, .load true 2 (.t 1), none⟩, ⟨some 5, .call 166 [.t 4], none⟩, ⟨some 6, .un .not (.t 5), none⟩]) (.kl [4, 5] (.cond (.t 6) (.kl [1, 6] (.seq (.reg [⟨some 2, .mov (.c (.nilS)), none⟩, ⟨some 3, .mov (.c (.bool false)), none⟩]) (.ret))) (.skip)))) (.kl [6] (.seq (.reg [⟨some 7, .faddr 0 1 (.t 1), none⟩, ⟨some 8, .load false 1 (.t 7), none⟩, ⟨some 9, .faddr 1 1 (.t 1), none⟩, ⟨some 10, .load false 1 (.t 9), none⟩, ⟨some 11, .call 167 [.t 8, .t 10], none⟩, ⟨some 2, .mov (.t 11), none⟩, ⟨some 3, .mov (.c (.bool true)), none⟩]) (.kl [1, 7, 8, 9, 10, 11] (.ret)))))), [.tmp 2, .tmp 3]⟩
/-- impl.PairsToPass -/
def fi381 : FI := ⟨.seq (.reg [⟨some 2, .mov (.c (.int .i64 0)), none⟩, ⟨some 3, .mov (.c (.bool false)), none⟩]) (.kl [2, 3] (.seq (.seq (.reg [⟨some 4, .mov (.t 0), none⟩, ⟨some 5, .call 106 [.t 4], none⟩, ⟨some 6, .un .not (.t 5), none⟩]) (.kl [4, 5] (.cond (.t 6) (.kl [0, 6] (.seq (.reg [⟨some 2, .mov (.c (.int .i64 0)), none⟩, ⟨some 3, .mov (.c (.bool false)), none⟩]) (.ret))) (.skip)))) (.kl [6] (.seq (.reg [⟨some 7, .mov (.t 0), none⟩, ⟨some 8, .call 191 [.t 7], none⟩, ⟨some 2, .mov (.t 8), none⟩, ⟨some 3, .mov (.c (.bool true)), none⟩]) (.kl [0, 7, 8] (.ret)))))), [.tmp 2, .tmp 3]⟩
/-- impl.DoesFit -/
def fi185 : FI := ⟨.seq (.reg [⟨some 2, .box (.t 0), none⟩, ⟨some 4, .mov (.c (.bool false)), none⟩, ⟨some 5, .mov (.c (.bool false)), none⟩]) (.kl [0, 4, 5] (.seq (.seq (.reg [⟨some 6, .mov (.t 1), none⟩, ⟨some 7, .call 82 [.t 6, .c (.int .i64 5)], none⟩, ⟨some 8, .un .not (.t 7), none⟩, ⟨some 9, .mov (.t 8), none⟩, ⟨some 10, .mov (.t 1), some (9, false)⟩, ⟨some 11, .lenS (.t 10), some (9, false)⟩, ⟨some 12, .load true 3 (.t 2), some (9, false)⟩, ⟨some 13, .call 183 [.t 11, .t 12], some (9, false)⟩, ⟨some 14, .un .not (.t 13), some (9, false)⟩, ⟨some 15, .pick (.t 9) (.c (.bool true)) (.t 14), none⟩]) (.kl [6, 7, 8, 9, 10, 11, 12, 13, 14] (.cond (.t 15) (.kl [1, 2, 15] (.seq (.reg [⟨some 4, .mov (.c (.bool false)), none⟩, ⟨some 5, .mov (.c (.bool false)), none⟩]) (.ret))) (.skip)))) (.kl [15] (.seq (.seq (.reg [⟨some 16, .faddr 0 1 (.t 2), none⟩, ⟨some 17, .load false 1 (.t 16), none⟩, ⟨some 18, .bin .eql (.t 17) (.c (.int .i64 0)), none⟩]) (.kl [16, 17] (.cond (.t 18) (.kl [18] (.seq (.reg [⟨some 19, .load true 3 (.t 2), none⟩, ⟨some 20, .mov (.t 1), none⟩, ⟨some 21, .call 186 [.t 19, .t 20], none⟩, ⟨some 4, .mov (.t 21), none⟩, ⟨some 5, .mov (.c (.bool true)), none⟩]) (.kl [1, 2, 19, 20, 21] (.ret)))) (.skip)))) (.kl [18] (.seq (.drw [⟨some 22, .faddr 0 1 (.t 2), none⟩, ⟨some 23, .load false 1 (.t 22), none⟩, ⟨some 24, .mov (.t 1), none⟩, ⟨some 25, .call 187 [.t 23, .c (.int .i64 0), .t 24], none⟩, ⟨some 26, .load true 3 (.t 2), none⟩, ⟨some 27, .aeq false [0, 0, 0] (.t 25) (.t 26), none⟩, ⟨some 4, .mov (.t 27), none⟩, ⟨some 5, .mov (.c (.bool true)), none⟩] [(4, 3)]) (.kl [1, 2, 22, 23, 24, 25, 26, 27] (.ret)))))))), [.tmp 4, .tmp 5]⟩
/-- impl.MovesOf -/
def fi19 : FI := ⟨.seq (.reg [⟨some 2, .mov (.c (.nilS)), none⟩, ⟨some 3, .mov (.c (.bool false)), none⟩]) (.kl [2, 3] (.seq (.reg [⟨some 4, .mov (.t 0), none⟩, ⟨some 5, .call 59 [.t 4, .c (.str [84, 70])], none⟩, ⟨some 6, .prj 0 (.t 5), none⟩, ⟨some 7, .prj 1 (.t 5), none⟩, ⟨some 2, .mov (.t 6), none⟩, ⟨some 3, .mov (.t 7), none⟩]) (.kl [0, 4, 5, 6, 7] (.ret)))), [.tmp 2, .tmp 3]⟩
/-- impl.IsPuzzle -/
def fi166 : FI := ⟨.seq (.reg [⟨some 1, .box (.t 0), none⟩, ⟨some 2, .mov (.c (.bool false)), none⟩]) (.kl [0, 2] (.seq (.reg [⟨some 3, .faddr 0 1 (.t 1), none⟩, ⟨some 4, .load false 1 (.t 3), none⟩, ⟨some 5, .call 74 [.t 4, .c (.int .i64 1), .c (.int .i64 5)], none⟩, ⟨some 6, .mov (.t 5), none⟩, ⟨some 7, .faddr 1 1 (.t 1), some (6, true)⟩, ⟨some 8, .load false 1 (.t 7), some (6, true)⟩, ⟨some 9, .lenV (.t 8), some (6, true)⟩, ⟨some 10, .bin .leq (.t 9) (.c (.int .i64 6)), some (6, true)⟩, ⟨some 11, .pick (.t 6) (.t 10) (.c (.bool false)), none⟩, ⟨some 12, .mov (.t 11), none⟩, ⟨some 13, .faddr 1 1 (.t 1), some (12, true)⟩, ⟨some 14, .load false 1 (.t 13), some (12, true)⟩, ⟨some 15, .mkfn 176 [.t 1], some (12, true)⟩, ⟨some 16, .call 177 [.t 14, .t 15], some (12, true)⟩, ⟨some 17, .un .not (.t 16), some (12, true)⟩, ⟨some 18, .pick (.t 12) (.t 17) (.c (.bool false)), none⟩, ⟨some 2, .mov (.t 18), none⟩]) (.kl [1, 3, 4, 5, 6, 7, 8, 9, 10, 11, 12, 13, 14, 15, 16, 17, 18] (.ret)))), [.tmp 2]⟩
-- lp543_0 HEAD [1, 7, 8, 9] | exit 0: [] | ret: [4]
/-- laws.nText -/
def lb543_0 : C := .kl [16] (.seq (.reg [⟨some 10, .bin .lss (.t 9) (.t 8), none⟩]) (.seq (.cond (.t 10) (.skip) (.kl [1, 7, 8, 9, 10] (.exit 0))) (.kl [10] (.seq (.blk 1 (.seq (.reg [⟨some 11, .iaddr 1 (.t 7) (.t 9), none⟩, ⟨some 12, .load false 1 (.t 11), none⟩, ⟨some 6, .mov (.t 12), none⟩]) (.kl [11, 12] (.seq (.reg [⟨some 13, .mov (.t 6), none⟩, ⟨some 14, .mov (.t 1), none⟩, ⟨some 15, .bin .eql (.t 13) (.t 14), none⟩]) (.kl [6, 13, 14] (.cond (.t 15) (.kl [1, 7, 8, 9, 15] (.seq (.reg [⟨some 4, .mov (.c (.bool true)), none⟩]) (.ret))) (.skip))))))) (.kl [15] (.reg [⟨some 16, .bin .add (.t 9) (.c (.int .i64 1)), none⟩, ⟨some 9, .mov (.t 16), none⟩]))))))
def lp543_0 : C := lb543_0
def fi543 : FI := ⟨.seq (.reg [⟨some 4, .mov (.c (.bool false)), none⟩]) (.kl [4] (.seq (.seq (.reg [⟨some 7, .mov (.t 0), none⟩, ⟨some 8, .lenV (.t 7), none⟩, ⟨some 9, .mov (.c (.int .i64 0)), none⟩]) (.kl [0] (.blk 0 (.loop lp543_0)))) (.seq (.reg [⟨some 4, .mov (.c (.bool false)), none⟩]) (.ret)))), [.tmp 4]⟩
-- lp214_0 HEAD [1, 2, 6, 7] | exit 0: [1, 2, 6]
/-- impl.HarderPuzzle -/
def lb214_0 : C := .kl [8, 33, 34, 35] (.seq (.seq (.reg [⟨some 20, .mov (.t 7), none⟩, ⟨some 21, .mov (.t 6), none⟩, ⟨some 22, .lenV (.t 21), none⟩, ⟨some 23, .bin .lss (.t 20) (.t 22), none⟩]) (.kl [20, 21, 22] (.cond (.t 23) (.skip) (.kl [7, 23] (.exit 0))))) (.kl [23] (.blk 1 (.seq (.reg [⟨some 24, .mov (.t 6), none⟩, ⟨some 25, .mov (.t 7), none⟩, ⟨some 26, .call 217 [.t 24, .t 25], none⟩, ⟨some 8, .mov (.t 26), none⟩]) (.kl [24, 25, 26] (.seq (.reg [⟨some 27, .faddr 0 1 (.t 1), none⟩, ⟨some 28, .load false 1 (.t 27), none⟩, ⟨some 29, .mov (.t 8), none⟩, ⟨some 30, .call 167 [.t 28, .t 29], none⟩, ⟨some 31, .lenV (.t 30), none⟩, ⟨some 32, .bin .eql (.t 31) (.c (.int .i64 1)), none⟩]) (.kl [27, 28, 29, 30, 31] (.cond (.t 32) (.kl [6, 32] (.reg [⟨some 33, .mov (.t 8), none⟩, ⟨some 6, .mov (.t 33), none⟩])) (.kl [8, 32] (.reg [⟨some 34, .mov (.t 7), none⟩, ⟨some 35, .bin .add (.t 34) (.c (.int .i64 1)), none⟩, ⟨some 7, .mov (.t 35), none⟩]))))))))))
def lp214_0 : C := lb214_0
def fi214 : FI := ⟨.seq (.reg [⟨some 1, .box (.t 0), none⟩, ⟨some 2, .new [.int .i64 0, .nilS], none⟩, ⟨some 3, .mov (.c (.bool false)), none⟩]) (.kl [0, 3] (.seq (.seq (.reg [⟨some 10, .load true 2 (.t 1), none⟩, ⟨some 11, .call 142 [.t 10], none⟩, ⟨some 9, .mov (.t 11), none⟩, ⟨some 12, .prj 0 (.t 9), none⟩, ⟨some 13, .prj 1 (.t 9), none⟩, ⟨some 4, .mov (.t 12), none⟩, ⟨some 5, .mov (.t 13), none⟩]) (.kl [5, 9, 10, 11, 12, 13] (.seq (.reg [⟨some 14, .mov (.t 4), none⟩, ⟨some 15, .un .not (.t 14), none⟩]) (.kl [4, 14] (.cond (.t 15) (.kl [1, 15] (.seq (.reg [⟨some 16, .build [.int .i64 0, .nilS] [], none⟩, ⟨none, .store 2 (.t 2) (.t 16), none⟩, ⟨some 3, .mov (.c (.bool false)), none⟩]) (.kl [16] (.ret)))) (.skip)))))) (.kl [15] (.seq (.reg [⟨some 17, .faddr 1 1 (.t 1), none⟩, ⟨some 18, .load false 1 (.t 17), none⟩, ⟨some 19, .call 218 [.t 18], none⟩, ⟨some 6, .mov (.t 19), none⟩]) (.kl [17, 18, 19] (.seq (.seq (.reg [⟨some 7, .mov (.c (.int .i64 0)), none⟩]) (.blk 0 (.loop lp214_0))) (.seq (.reg [⟨some 36, .faddr 0 1 (.t 1), none⟩, ⟨some 37, .load false 1 (.t 36), none⟩, ⟨some 38, .mov (.t 6), none⟩, ⟨some 39, .build [.int .i64 0, .nilS] [(0, 1, .t 37), (1, 1, .t 38)], none⟩, ⟨none, .store 2 (.t 2) (.t 39), none⟩, ⟨some 3, .mov (.c (.bool true)), none⟩]) (.kl [1, 6, 36, 37, 38, 39] (.ret))))))))), [.cell true 2 2, .tmp 3]⟩
-- lp213_0 HEAD [1, 2, 4, 5] | exit 0: [1, 2, 4]
/-- spec.HarderPuzzle -/
def lb213_0 : C := .kl [6, 34, 35, 36] (.seq (.seq (.reg [⟨some 23, .mov (.t 5), none⟩, ⟨some 24, .mov (.t 4), none⟩, ⟨some 25, .lenV (.t 24), none⟩, ⟨some 26, .bin .lss (.t 23) (.t 25), none⟩]) (.kl [23, 24, 25] (.cond (.t 26) (.skip) (.kl [5, 26] (.exit 0))))) (.kl [26] (.blk 1 (.seq (.reg [⟨some 27, .mov (.t 4), none⟩, ⟨some 28, .mov (.t 5), none⟩, ⟨some 29, .call 216 [.t 27, .t 28], none⟩, ⟨some 6, .mov (.t 29), none⟩]) (.kl [27, 28, 29] (.seq (.reg [⟨some 30, .faddr 0 1 (.t 1), none⟩, ⟨some 31, .load false 1 (.t 30), none⟩, ⟨some 32, .mov (.t 6), none⟩, ⟨some 33, .call 165 [.t 31, .t 32], none⟩]) (.kl [30, 31, 32] (.cond (.t 33) (.kl [4, 33] (.reg [⟨some 34, .mov (.t 6), none⟩, ⟨some 4, .mov (.t 34), none⟩])) (.kl [6, 33] (.reg [⟨some 35, .mov (.t 5), none⟩, ⟨some 36, .bin .add (.t 35) (.c (.int .i64 1)), none⟩, ⟨some 5, .mov (.t 36), none⟩]))))))))))
def lp213_0 : C := lb213_0
def fi213 : FI := ⟨.seq (.reg [⟨some 1, .box (.t 0), none⟩, ⟨some 2, .new [.int .i64 0, .nilS], none⟩, ⟨some 3, .mov (.c (.bool false)), none⟩]) (.kl [0, 3] (.seq (.seq (.reg [⟨some 7, .load true 2 (.t 1), none⟩, ⟨some 8, .call 160 [.t 7], none⟩, ⟨some 9, .un .not (.t 8), none⟩, ⟨some 10, .mov (.t 9), none⟩, ⟨some 11, .faddr 0 1 (.t 1), some (10, false)⟩, ⟨some 12, .load false 1 (.t 11), some (10, false)⟩, ⟨some 13, .faddr 1 1 (.t 1), some (10, false)⟩, ⟨some 14, .load false 1 (.t 13), some (10, false)⟩, ⟨some 15, .call 165 [.t 12, .t 14], some (10, false)⟩, ⟨some 16, .un .not (.t 15), some (10, false)⟩, ⟨some 17, .pick (.t 10) (.c (.bool true)) (.t 16), none⟩]) (.kl [7, 8, 9, 10, 11, 12, 13, 14, 15, 16] (.cond (.t 17) (.kl [1, 17] (.seq (.reg [⟨some 18, .build [.int .i64 0, .nilS] [], none⟩, ⟨none, .store 2 (.t 2) (.t 18), none⟩, ⟨some 3, .mov (.c (.bool false)), none⟩]) (.kl [18] (.ret)))) (.skip)))) (.kl [17] (.seq (.reg [⟨some 19, .lit0, none⟩, ⟨some 20, .faddr 1 1 (.t 1), none⟩, ⟨some 21, .load false 1 (.t 20), none⟩, ⟨some 22, .app 3 (.t 19) (.t 21), none⟩, ⟨some 4, .mov (.t 22), none⟩]) (.kl [19, 20, 21, 22] (.seq (.seq (.reg [⟨some 5, .mov (.c (.int .i64 0)), none⟩]) (.blk 0 (.loop lp213_0))) (.seq (.reg [⟨some 37, .faddr 0 1 (.t 1), none⟩, ⟨some 38, .load false 1 (.t 37), none⟩, ⟨some 39, .mov (.t 4), none⟩, ⟨some 40, .build [.int .i64 0, .nilS] [(0, 1, .t 38), (1, 1, .t 39)], none⟩, ⟨none, .store 2 (.t 2) (.t 40), none⟩, ⟨some 3, .mov (.c (.bool true)), none⟩]) (.kl [1, 4, 37, 38, 39, 40] (.ret))))))))), [.cell true 2 2, .tmp 3]⟩
/-- impl.IsSolved -/
def fi142 : FI := ⟨.seq (.reg [⟨some 1, .box (.t 0), none⟩, ⟨some 2, .mov (.c (.bool false)), none⟩, ⟨some 3, .mov (.c (.bool false)), none⟩]) (.kl [0, 2, 3] (.seq (.reg [⟨some 7, .load true 2 (.t 1), none⟩, ⟨some 8, .call 138 [.t 7], none⟩, ⟨some 6, .mov (.t 8), none⟩, ⟨some 9, .prj 0 (.t 6), none⟩, ⟨some 10, .prj 1 (.t 6), none⟩, ⟨some 4, .mov (.t 9), none⟩, ⟨some 5, .mov (.t 10), none⟩]) (.kl [1, 6, 7, 8, 9, 10] (.seq (.reg [⟨some 11, .mov (.t 4), none⟩, ⟨some 12, .bin .eql (.t 11) (.c (.int .i64 1)), none⟩, ⟨some 13, .mov (.t 5), none⟩, ⟨some 2, .mov (.t 12), none⟩, ⟨some 3, .mov (.t 13), none⟩]) (.kl [4, 5, 11, 12, 13] (.ret)))))), [.tmp 2, .tmp 3]⟩
-- lp211_0 HEAD [1, 4, 6, 18, 19] | exit 0: [6]
/-- impl.NeedlessClues -/
def lb211_0 : C := .kl [36] (.seq (.reg [⟨some 20, .bin .lss (.t 19) (.t 18), none⟩]) (.seq (.cond (.t 20) (.skip) (.kl [1, 4, 18, 19, 20] (.exit 0))) (.kl [20] (.seq (.blk 1 (.seq (.reg [⟨some 21, .mov (.t 19), none⟩, ⟨some 7, .mov (.t 21), none⟩]) (.kl [21] (.seq (.drw [⟨some 22, .faddr 0 1 (.t 1), none⟩, ⟨some 23, .load false 1 (.t 22), none⟩, ⟨some 24, .faddr 1 1 (.t 1), none⟩, ⟨some 25, .load false 1 (.t 24), none⟩, ⟨some 26, .mov (.t 7), none⟩, ⟨some 27, .call 217 [.t 25, .t 26], none⟩, ⟨some 28, .call 167 [.t 23, .t 27], none⟩, ⟨some 29, .lenV (.t 28), none⟩, ⟨some 30, .mov (.t 4), none⟩, ⟨some 31, .bin .eql (.t 29) (.t 30), none⟩] [(1, 5)]) (.kl [22, 23, 24, 25, 26, 27, 28, 29, 30] (.cond (.t 31) (.kl [31] (.reg [⟨some 32, .mov (.t 6), none⟩, ⟨some 33, .mov (.t 7), none⟩, ⟨some 34, .lit 1 1 [.int .i64 0] [(0, 1, .t 33)], none⟩, ⟨some 35, .app 1 (.t 32) (.t 34), none⟩, ⟨some 6, .mov (.t 35), none⟩])) (.skip))))))) (.kl [7, 31, 32, 33, 34, 35] (.reg [⟨some 36, .bin .add (.t 19) (.c (.int .i64 1)), none⟩, ⟨some 19, .mov (.t 36), none⟩]))))))
def lp211_0 : C := lb211_0
def fi211 : FI := ⟨.seq (.reg [⟨some 1, .box (.t 0), none⟩, ⟨some 2, .mov (.c (.nilS)), none⟩, ⟨some 3, .mov (.c (.bool false)), none⟩]) (.kl [0, 2, 3] (.seq (.reg [⟨some 9, .load true 2 (.t 1), none⟩, ⟨some 10, .call 138 [.t 9], none⟩, ⟨some 8, .mov (.t 10), none⟩, ⟨some 11, .prj 0 (.t 8), none⟩, ⟨some 12, .prj 1 (.t 8), none⟩, ⟨some 4, .mov (.t 11), none⟩, ⟨some 5, .mov (.t 12), none⟩]) (.kl [8, 9, 10, 11, 12] (.seq (.seq (.reg [⟨some 13, .mov (.t 5), none⟩, ⟨some 14, .un .not (.t 13), none⟩]) (.kl [5, 13] (.cond (.t 14) (.kl [1, 4, 14] (.seq (.reg [⟨some 2, .mov (.c (.nilS)), none⟩, ⟨some 3, .mov (.c (.bool false)), none⟩]) (.ret))) (.skip)))) (.kl [14] (.seq (.reg [⟨some 15, .lit0, none⟩, ⟨some 6, .mov (.t 15), none⟩]) (.kl [15] (.seq (.seq (.reg [⟨some 16, .faddr 1 1 (.t 1), none⟩, ⟨some 17, .load false 1 (.t 16), none⟩, ⟨some 18, .lenV (.t 17), none⟩, ⟨some 19, .mov (.c (.int .i64 0)), none⟩]) (.kl [16, 17] (.blk 0 (.loop lp211_0)))) (.seq (.reg [⟨some 37, .mov (.t 6), none⟩, ⟨some 2, .mov (.t 37), none⟩, ⟨some 3, .mov (.c (.bool true)), none⟩]) (.kl [6, 37] (.ret))))))))))), [.tmp 2, .tmp 3]⟩
-- lp544_0 HEAD [0, 1, 12, 13] | exit 0: [] | ret: [4]
/-- laws.nTexts -/
def lb544_0 : C := .kl [25] (.seq (.reg [⟨some 14, .bin .lss (.t 13) (.t 12), none⟩]) (.seq (.cond (.t 14) (.skip) (.kl [0, 1, 12, 13, 14] (.exit 0))) (.kl [14] (.seq (.blk 1 (.seq (.reg [⟨some 15, .mov (.t 13), none⟩, ⟨some 5, .mov (.t 15), none⟩]) (.kl [15] (.seq (.drw [⟨some 16, .mov (.t 0), none⟩, ⟨some 17, .mov (.t 5), none⟩, ⟨some 18, .iaddr 1 (.t 16) (.t 17), none⟩, ⟨some 19, .load false 1 (.t 18), none⟩, ⟨some 20, .mov (.t 1), none⟩, ⟨some 21, .mov (.t 5), none⟩, ⟨some 22, .iaddr 1 (.t 20) (.t 21), none⟩, ⟨some 23, .load false 1 (.t 22), none⟩, ⟨some 24, .bin .neq (.t 19) (.t 23), none⟩] []) (.kl [5, 16, 17, 18, 19, 20, 21, 22, 23] (.cond (.t 24) (.kl [0, 1, 12, 13, 24] (.seq (.reg [⟨some 4, .mov (.c (.bool false)), none⟩]) (.ret))) (.skip))))))) (.kl [24] (.reg [⟨some 25, .bin .add (.t 13) (.c (.int .i64 1)), none⟩, ⟨some 13, .mov (.t 25), none⟩]))))))
def lp544_0 : C := lb544_0
def fi544 : FI := ⟨.seq (.reg [⟨some 4, .mov (.c (.bool false)), none⟩]) (.kl [4] (.seq (.seq (.reg [⟨some 6, .mov (.t 0), none⟩, ⟨some 7, .lenV (.t 6), none⟩, ⟨some 8, .mov (.t 1), none⟩, ⟨some 9, .lenV (.t 8), none⟩, ⟨some 10, .bin .neq (.t 7) (.t 9), none⟩]) (.kl [6, 7, 8, 9] (.cond (.t 10) (.kl [0, 1, 10] (.seq (.reg [⟨some 4, .mov (.c (.bool false)), none⟩]) (.ret))) (.skip)))) (.kl [10] (.seq (.seq (.reg [⟨some 11, .mov (.t 0), none⟩, ⟨some 12, .lenV (.t 11), none⟩, ⟨some 13, .mov (.c (.int .i64 0)), none⟩]) (.kl [11] (.blk 0 (.loop lp544_0)))) (.seq (.reg [⟨some 4, .mov (.c (.bool true)), none⟩]) (.ret)))))), [.tmp 4]⟩
/-- impl.AddClue -/
def fi545 : FI := ⟨.seq (.reg [⟨some 2, .box (.t 0), none⟩, ⟨some 3, .box (.t 1), none⟩, ⟨some 4, .new [.int .i64 0, .nilS], none⟩, ⟨some 5, .mov (.c (.bool false)), none⟩]) (.kl [0, 1, 5] (.seq (.seq (.reg [⟨some 6, .load true 2 (.t 2), none⟩, ⟨some 7, .call 166 [.t 6], none⟩, ⟨some 8, .un .not (.t 7), none⟩, ⟨some 9, .mov (.t 8), none⟩, ⟨some 10, .faddr 0 1 (.t 2), some (9, false)⟩, ⟨some 11, .load false 1 (.t 10), some (9, false)⟩, ⟨some 12, .load true 3 (.t 3), some (9, false)⟩, ⟨some 13, .call 183 [.t 11, .t 12], some (9, false)⟩, ⟨some 14, .un .not (.t 13), some (9, false)⟩, ⟨some 15, .pick (.t 9) (.c (.bool true)) (.t 14), none⟩, ⟨some 16, .mov (.t 15), none⟩, ⟨some 17, .faddr 1 1 (.t 2), some (16, false)⟩, ⟨some 18, .load false 1 (.t 17), some (16, false)⟩, ⟨some 19, .lenV (.t 18), some (16, false)⟩, ⟨some 20, .bin .eql (.t 19) (.c (.int .i64 6)), some (16, false)⟩, ⟨some 21, .pick (.t 16) (.c (.bool true)) (.t 20), none⟩]) (.kl [6, 7, 8, 9, 10, 11, 12, 13, 14, 15, 16, 17, 18, 19, 20] (.cond (.t 21) (.kl [2, 3, 21] (.seq (.reg [⟨some 22, .build [.int .i64 0, .nilS] [], none⟩, ⟨none, .store 2 (.t 4) (.t 22), none⟩, ⟨some 5, .mov (.c (.bool false)), none⟩]) (.kl [22] (.ret)))) (.skip)))) (.kl [21] (.seq (.drw [⟨some 23, .faddr 0 1 (.t 2), none⟩, ⟨some 24, .load false 1 (.t 23), none⟩, ⟨some 25, .faddr 1 1 (.t 2), none⟩, ⟨some 26, .load false 1 (.t 25), none⟩, ⟨some 27, .call 218 [.t 26], none⟩, ⟨some 28, .load true 3 (.t 3), none⟩, ⟨some 29, .lit 3 1 [.int .i64 0, .int .i64 0, .int .i64 0] [(0, 3, .t 28)], none⟩, ⟨some 30, .app 3 (.t 27) (.t 29), none⟩, ⟨some 31, .build [.int .i64 0, .nilS] [(0, 1, .t 24), (1, 1, .t 30)], none⟩, ⟨none, .store 2 (.t 4) (.t 31), none⟩, ⟨some 5, .mov (.c (.bool true)), none⟩] [(6, 6), (5, 6), (1, 4), (1, 6), (1, 7), (3, 6), (5, 4)]) (.kl [2, 3, 23, 24, 25, 26, 27, 28, 29, 30, 31] (.ret)))))), [.cell true 2 4, .tmp 5]⟩
/-- spec.AddClue -/
def fi546 : FI := ⟨.seq (.reg [⟨some 2, .box (.t 0), none⟩, ⟨some 3, .box (.t 1), none⟩, ⟨some 4, .new [.int .i64 0, .nilS], none⟩, ⟨some 5, .mov (.c (.bool false)), none⟩]) (.kl [0, 1, 5] (.seq (.seq (.reg [⟨some 6, .load true 2 (.t 2), none⟩, ⟨some 7, .call 160 [.t 6], none⟩, ⟨some 8, .un .not (.t 7), none⟩, ⟨some 9, .mov (.t 8), none⟩, ⟨some 10, .faddr 0 1 (.t 2), some (9, false)⟩, ⟨some 11, .load false 1 (.t 10), some (9, false)⟩, ⟨some 12, .load true 3 (.t 3), some (9, false)⟩, ⟨some 13, .call 172 [.t 11, .t 12], some (9, false)⟩, ⟨some 14, .un .not (.t 13), some (9, false)⟩, ⟨some 15, .pick (.t 9) (.c (.bool true)) (.t 14), none⟩, ⟨some 16, .mov (.t 15), none⟩, ⟨some 17, .faddr 1 1 (.t 2), some (16, false)⟩, ⟨some 18, .load false 1 (.t 17), some (16, false)⟩, ⟨some 19, .lenV (.t 18), some (16, false)⟩, ⟨some 20, .bin .eql (.t 19) (.c (.int .i64 6)), some (16, false)⟩, ⟨some 21, .pick (.t 16) (.c (.bool true)) (.t 20), none⟩]) (.kl [6, 7, 8, 9, 10, 11, 12, 13, 14, 15, 16, 17, 18, 19, 20] (.cond (.t 21) (.kl [2, 3, 21] (.seq (.reg [⟨some 22, .build [.int .i64 0, .nilS] [], none⟩, ⟨none, .store 2 (.t 4) (.t 22), none⟩, ⟨some 5, .mov (.c (.bool false)), none⟩]) (.kl [22] (.ret)))) (.skip)))) (.kl [21] (.seq (.drw [⟨some 23, .faddr 0 1 (.t 2), none⟩, ⟨some 24, .load false 1 (.t 23), none⟩, ⟨some 25, .lit0, none⟩, ⟨some 26, .faddr 1 1 (.t 2), none⟩, ⟨some 27, .load false 1 (.t 26), none⟩, ⟨some 28, .app 3 (.t 25) (.t 27), none⟩, ⟨some 29, .load true 3 (.t 3), none⟩, ⟨some 30, .lit 3 1 [.int .i64 0, .int .i64 0, .int .i64 0] [(0, 3, .t 29)], none⟩, ⟨some 31, .app 3 (.t 28) (.t 30), none⟩, ⟨some 32, .build [.int .i64 0, .nilS] [(0, 1, .t 24), (1, 1, .t 31)], none⟩, ⟨none, .store 2 (.t 4) (.t 32), none⟩, ⟨some 5, .mov (.c (.bool true)), none⟩] [(7, 7), (6, 7), (1, 5), (1, 7), (1, 8), (4, 7), (6, 5)]) (.kl [2, 3, 23, 24, 25, 26, 27, 28, 29, 30, 31, 32] (.ret)))))), [.cell true 2 4, .tmp 5]⟩
/-- impl.DropClue -/
def fi547 : FI := ⟨.seq (.reg [⟨some 2, .box (.t 0), none⟩, ⟨some 4, .new [.int .i64 0, .nilS], none⟩, ⟨some 5, .mov (.c (.bool false)), none⟩]) (.kl [0, 5] (.seq (.seq (.reg [⟨some 6, .load true 2 (.t 2), none⟩, ⟨some 7, .call 166 [.t 6], none⟩, ⟨some 8, .un .not (.t 7), none⟩, ⟨some 9, .mov (.t 8), none⟩, ⟨some 10, .mov (.t 1), some (9, false)⟩, ⟨some 11, .faddr 1 1 (.t 2), some (9, false)⟩, ⟨some 12, .load false 1 (.t 11), some (9, false)⟩, ⟨some 13, .lenV (.t 12), some (9, false)⟩, ⟨some 14, .bin .sub (.t 13) (.c (.int .i64 1)), some (9, false)⟩, ⟨some 15, .call 74 [.t 10, .c (.int .i64 0), .t 14], some (9, false)⟩, ⟨some 16, .un .not (.t 15), some (9, false)⟩, ⟨some 17, .pick (.t 9) (.c (.bool true)) (.t 16), none⟩]) (.kl [6, 7, 8, 9, 10, 11, 12, 13, 14, 15, 16] (.cond (.t 17) (.kl [1, 2, 17] (.seq (.reg [⟨some 18, .build [.int .i64 0, .nilS] [], none⟩, ⟨none, .store 2 (.t 4) (.t 18), none⟩, ⟨some 5, .mov (.c (.bool false)), none⟩]) (.kl [18] (.ret)))) (.skip)))) (.kl [17] (.seq (.drw [⟨some 19, .faddr 0 1 (.t 2), none⟩, ⟨some 20, .load false 1 (.t 19), none⟩, ⟨some 21, .faddr 1 1 (.t 2), none⟩, ⟨some 22, .load false 1 (.t 21), none⟩, ⟨some 23, .mov (.t 1), none⟩, ⟨some 24, .call 217 [.t 22, .t 23], none⟩, ⟨some 25, .build [.int .i64 0, .nilS] [(0, 1, .t 20), (1, 1, .t 24)], none⟩, ⟨none, .store 2 (.t 4) (.t 25), none⟩, ⟨some 5, .mov (.c (.bool true)), none⟩] [(1, 5)]) (.kl [1, 2, 19, 20, 21, 22, 23, 24, 25] (.ret)))))), [.cell true 2 4, .tmp 5]⟩
/-- spec.DropClue -/
def fi548 : FI := ⟨.seq (.reg [⟨some 2, .box (.t 0), none⟩, ⟨some 4, .new [.int .i64 0, .nilS], none⟩, ⟨some 5, .mov (.c (.bool false)), none⟩]) (.kl [0, 5] (.seq (.seq (.reg [⟨some 6, .load true 2 (.t 2), none⟩, ⟨some 7, .call 160 [.t 6], none⟩, ⟨some 8, .un .not (.t 7), none⟩, ⟨some 9, .mov (.t 8), none⟩, ⟨some 10, .mov (.t 1), some (9, false)⟩, ⟨some 11, .faddr 1 1 (.t 2), some (9, false)⟩, ⟨some 12, .load false 1 (.t 11), some (9, false)⟩, ⟨some 13, .lenV (.t 12), some (9, false)⟩, ⟨some 14, .bin .sub (.t 13) (.c (.int .i64 1)), some (9, false)⟩, ⟨some 15, .call 77 [.t 10, .c (.int .i64 0), .t 14], some (9, false)⟩, ⟨some 16, .un .not (.t 15), some (9, false)⟩, ⟨some 17, .pick (.t 9) (.c (.bool true)) (.t 16), none⟩]) (.kl [6, 7, 8, 9, 10, 11, 12, 13, 14, 15, 16] (.cond (.t 17) (.kl [1, 2, 17] (.seq (.reg [⟨some 18, .build [.int .i64 0, .nilS] [], none⟩, ⟨none, .store 2 (.t 4) (.t 18), none⟩, ⟨some 5, .mov (.c (.bool false)), none⟩]) (.kl [18] (.ret)))) (.skip)))) (.kl [17] (.seq (.drw [⟨some 19, .faddr 0 1 (.t 2), none⟩, ⟨some 20, .load false 1 (.t 19), none⟩, ⟨some 21, .faddr 1 1 (.t 2), none⟩, ⟨some 22, .load false 1 (.t 21), none⟩, ⟨some 23, .mov (.t 1), none⟩, ⟨some 24, .call 216 [.t 22, .t 23], none⟩, ⟨some 25, .build [.int .i64 0, .nilS] [(0, 1, .t 20), (1, 1, .t 24)], none⟩, ⟨none, .store 2 (.t 4) (.t 25), none⟩, ⟨some 5, .mov (.c (.bool true)), none⟩] [(1, 5)]) (.kl [1, 2, 19, 20, 21, 22, 23, 24, 25] (.ret)))))), [.cell true 2 4, .tmp 5]⟩
/-- spec.DoesFit -/
def fi549 : FI := ⟨.seq (.reg [⟨some 2, .box (.t 0), none⟩, ⟨some 4, .mov (.c (.bool false)), none⟩, ⟨some 5, .mov (.c (.bool false)), none⟩]) (.kl [0, 4, 5] (.seq (.seq (.reg [⟨some 6, .mov (.t 1), none⟩, ⟨some 7, .call 594 [.t 6], none⟩, ⟨some 8, .un .not (.t 7), none⟩, ⟨some 9, .mov (.t 8), none⟩, ⟨some 10, .mov (.t 1), some (9, false)⟩, ⟨some 11, .lenS (.t 10), some (9, false)⟩, ⟨some 12, .load true 3 (.t 2), some (9, false)⟩, ⟨some 13, .call 172 [.t 11, .t 12], some (9, false)⟩, ⟨some 14, .un .not (.t 13), some (9, false)⟩, ⟨some 15, .pick (.t 9) (.c (.bool true)) (.t 14), none⟩]) (.kl [6, 7, 8, 9, 10, 11, 12, 13, 14] (.cond (.t 15) (.kl [1, 2, 15] (.seq (.reg [⟨some 4, .mov (.c (.bool false)), none⟩, ⟨some 5, .mov (.c (.bool false)), none⟩]) (.ret))) (.skip)))) (.kl [15] (.seq (.reg [⟨some 16, .load true 3 (.t 2), none⟩, ⟨some 17, .mov (.t 1), none⟩, ⟨some 18, .call 181 [.t 16, .t 17], none⟩, ⟨some 4, .mov (.t 18), none⟩, ⟨some 5, .mov (.c (.bool true)), none⟩]) (.kl [1, 2, 16, 17, 18] (.ret)))))), [.tmp 4, .tmp 5]⟩
/-- impl.IsClue -/
def fi183 : FI := ⟨.seq (.reg [⟨some 3, .box (.t 1), none⟩, ⟨some 4, .mov (.c (.bool false)), none⟩]) (.kl [1, 4] (.seq (.seq (.reg [⟨some 5, .mov (.t 0), none⟩, ⟨some 6, .call 74 [.t 5, .c (.int .i64 1), .c (.int .i64 5)], none⟩, ⟨some 7, .un .not (.t 6), none⟩]) (.kl [5, 6] (.cond (.t 7) (.kl [0, 3, 7] (.seq (.reg [⟨some 4, .mov (.c (.bool false)), none⟩]) (.ret))) (.skip)))) (.kl [7] (.seq (.seq (.reg [⟨some 8, .faddr 0 1 (.t 3), none⟩, ⟨some 9, .load false 1 (.t 8), none⟩]) (.kl [8] (.blk 0 (.seq (.reg [⟨some 11, .bin .eql (.t 9) (.c (.int .i64 0)), none⟩, ⟨some 10, .mov (.t 11), none⟩]) (.kl [11] (.cond (.t 10) (.kl [9, 10] (.seq (.reg [⟨some 12, .faddr 1 1 (.t 3), none⟩, ⟨some 13, .load false 1 (.t 12), none⟩, ⟨some 14, .mov (.t 0), none⟩, ⟨some 15, .bin .sub (.t 14) (.c (.int .i64 1)), none⟩, ⟨some 16, .call 74 [.t 13, .c (.int .i64 0), .t 15], none⟩, ⟨some 17, .mov (.t 16), none⟩, ⟨some 18, .faddr 2 1 (.t 3), some (17, true)⟩, ⟨some 19, .load false 1 (.t 18), some (17, true)⟩, ⟨some 20, .call 74 [.t 19, .c (.int .i64 0), .c (.int .i64 2)], some (17, true)⟩, ⟨some 21, .pick (.t 17) (.t 20) (.c (.bool false)), none⟩, ⟨some 4, .mov (.t 21), none⟩]) (.kl [0, 3, 12, 13, 14, 15, 16, 17, 18, 19, 20, 21] (.ret)))) (.kl [10] (.seq (.seq (.reg [⟨some 23, .bin .eql (.t 9) (.c (.int .i64 1)), none⟩, ⟨some 22, .mov (.t 23), none⟩]) (.kl [23] (.cond (.t 22) (.skip) (.kl [22] (.reg [⟨some 24, .bin .eql (.t 9) (.c (.int .i64 2)), none⟩, ⟨some 22, .mov (.t 24), none⟩]))))) (.kl [24] (.cond (.t 22) (.kl [9, 22] (.seq (.reg [⟨some 25, .faddr 1 1 (.t 3), none⟩, ⟨some 26, .load false 1 (.t 25), none⟩, ⟨some 27, .mov (.t 0), none⟩, ⟨some 28, .call 74 [.t 26, .c (.int .i64 0), .t 27], none⟩, ⟨some 29, .mov (.t 28), none⟩, ⟨some 30, .faddr 2 1 (.t 3), some (29, true)⟩, ⟨some 31, .load false 1 (.t 30), some (29, true)⟩, ⟨some 32, .bin .eql (.t 31) (.c (.int .i64 0)), some (29, true)⟩, ⟨some 33, .pick (.t 29) (.t 32) (.c (.bool false)), none⟩, ⟨some 4, .mov (.t 33), none⟩]) (.kl [0, 3, 25, 26, 27, 28, 29, 30, 31, 32, 33] (.ret)))) (.kl [22] (.seq (.reg [⟨some 35, .bin .eql (.t 9) (.c (.int .i64 3)), none⟩, ⟨some 34, .mov (.t 35), none⟩]) (.kl [35] (.cond (.t 34) (.kl [9, 34] (.seq (.reg [⟨some 36, .faddr 1 1 (.t 3), none⟩, ⟨some 37, .load false 1 (.t 36), none⟩, ⟨some 38, .mov (.t 0), none⟩, ⟨some 39, .bin .mul (.c (.int .i64 2)) (.t 38), none⟩, ⟨some 40, .call 74 [.t 37, .c (.int .i64 0), .t 39], none⟩, ⟨some 41, .mov (.t 40), none⟩, ⟨some 42, .faddr 2 1 (.t 3), some (41, true)⟩, ⟨some 43, .load false 1 (.t 42), some (41, true)⟩, ⟨some 44, .bin .eql (.t 43) (.c (.int .i64 0)), some (41, true)⟩, ⟨some 45, .pick (.t 41) (.t 44) (.c (.bool false)), none⟩, ⟨some 4, .mov (.t 45), none⟩]) (.kl [0, 3, 36, 37, 38, 39, 40, 41, 42, 43, 44, 45] (.ret)))) (.kl [0, 34] (.seq (.reg [⟨some 47, .bin .eql (.t 9) (.c (.int .i64 4)), none⟩, ⟨some 46, .mov (.t 47), none⟩]) (.kl [47] (.cond (.t 46) (.kl [9, 46] (.seq (.reg [⟨some 48, .faddr 1 1 (.t 3), none⟩, ⟨some 49, .load false 1 (.t 48), none⟩, ⟨some 50, .call 74 [.t 49, .c (.int .i64 0), .c (.int .i64 10)], none⟩, ⟨some 51, .mov (.t 50), none⟩, ⟨some 52, .faddr 2 1 (.t 3), some (51, true)⟩, ⟨some 53, .load false 1 (.t 52), some (51, true)⟩, ⟨some 54, .bin .eql (.t 53) (.c (.int .i64 0)), some (51, true)⟩, ⟨some 55, .pick (.t 51) (.t 54) (.c (.bool false)), none⟩, ⟨some 4, .mov (.t 55), none⟩]) (.kl [3, 48, 49, 50, 51, 52, 53, 54, 55] (.ret)))) (.kl [46] (.seq (.reg [⟨some 57, .bin .eql (.t 9) (.c (.int .i64 5)), none⟩, ⟨some 56, .mov (.t 57), none⟩]) (.kl [9, 57] (.cond (.t 56) (.kl [56] (.seq (.reg [⟨some 58, .faddr 1 1 (.t 3), none⟩, ⟨some 59, .load false 1 (.t 58), none⟩, ⟨some 60, .call 74 [.t 59, .c (.int .i64 0), .c (.int .i64 3)], none⟩, ⟨some 61, .mov (.t 60), none⟩, ⟨some 62, .faddr 2 1 (.t 3), some (61, true)⟩, ⟨some 63, .load false 1 (.t 62), some (61, true)⟩, ⟨some 64, .bin .eql (.t 63) (.c (.int .i64 0)), some (61, true)⟩, ⟨some 65, .pick (.t 61) (.t 64) (.c (.bool false)), none⟩, ⟨some 4, .mov (.t 65), none⟩]) (.kl [3, 58, 59, 60, 61, 62, 63, 64, 65] (.ret)))) (.skip))))))))))))))))))))))) (.kl [3, 56] (.seq (.reg [⟨some 4, .mov (.c (.bool false)), none⟩]) (.ret))))))), [.tmp 4]⟩
/-- spec.IsClue -/
def fi550 : FI := ⟨.seq (.reg [⟨some 3, .box (.t 1), none⟩, ⟨some 4, .mov (.c (.bool false)), none⟩]) (.kl [1, 4] (.seq (.reg [⟨some 5, .mov (.t 0), none⟩, ⟨some 6, .call 171 [.t 5], none⟩, ⟨some 7, .mov (.t 6), none⟩, ⟨some 8, .mov (.t 0), some (7, true)⟩, ⟨some 9, .load true 3 (.t 3), some (7, true)⟩, ⟨some 10, .call 172 [.t 8, .t 9], some (7, true)⟩, ⟨some 11, .pick (.t 7) (.t 10) (.c (.bool false)), none⟩, ⟨some 4, .mov (.t 11), none⟩]) (.kl [0, 3, 5, 6, 7, 8, 9, 10, 11] (.ret)))), [.tmp 4]⟩
/-- impl.isLineOf -/
def fi82 : FI := ⟨.seq (.reg [⟨some 4, .mov (.c (.bool false)), none⟩]) (.kl [4] (.seq (.reg [⟨some 5, .mov (.t 0), none⟩, ⟨some 6, .lenS (.t 5), none⟩, ⟨some 7, .mov (.t 1), none⟩, ⟨some 8, .call 74 [.t 6, .c (.int .i64 1), .t 7], none⟩, ⟨some 9, .mov (.t 8), none⟩, ⟨some 10, .mov (.t 0), some (9, true)⟩, ⟨some 11, .call 111 [.t 10, .c (.str [46, 70, 84])], some (9, true)⟩, ⟨some 12, .bin .eql (.t 11) (.c (.str [])), some (9, true)⟩, ⟨some 13, .pick (.t 9) (.t 12) (.c (.bool false)), none⟩, ⟨some 4, .mov (.t 13), none⟩]) (.kl [0, 1, 5, 6, 7, 8, 9, 10, 11, 12, 13] (.ret)))), [.tmp 4]⟩
/-- impl.within -/
def fi74 : FI := ⟨.seq (.reg [⟨some 6, .mov (.c (.bool false)), none⟩]) (.kl [6] (.seq (.reg [⟨some 7, .mov (.t 1), none⟩, ⟨some 8, .mov (.t 0), none⟩, ⟨some 9, .bin .leq (.t 7) (.t 8), none⟩, ⟨some 10, .mov (.t 9), none⟩, ⟨some 11, .mov (.t 0), some (10, true)⟩, ⟨some 12, .mov (.t 2), some (10, true)⟩, ⟨some 13, .bin .leq (.t 11) (.t 12), some (10, true)⟩, ⟨some 14, .pick (.t 10) (.t 13) (.c (.bool false)), none⟩, ⟨some 6, .mov (.t 14), none⟩]) (.kl [0, 1, 2, 7, 8, 9, 10, 11, 12, 13, 14] (.ret)))), [.tmp 6]⟩
/-- impl.MakePuzzle$1 -/
def fi593 : FI := ⟨.seq (.reg [⟨some 1, .mov (.c (.int .i64 0)), none⟩]) (.kl [1] (.seq (.reg [⟨some 2, .load false 1 (.t 0), none⟩, ⟨some 3, .bin .mul (.t 2) (.c (.int .i64 167)), none⟩, ⟨some 4, .bin .add (.t 3) (.c (.int .i64 2281)), none⟩, ⟨some 5, .bin .rem (.t 4) (.c (.int .i64 10007)), none⟩, ⟨none, .store 1 (.t 0) (.t 5), none⟩]) (.kl [2, 3, 4, 5] (.seq (.reg [⟨some 6, .load false 1 (.t 0), none⟩, ⟨some 1, .mov (.t 6), none⟩]) (.kl [0, 6] (.ret)))))), [.tmp 1]⟩
/-- impl.clueOf -/
def fi187 : FI := ⟨.seq (.reg [⟨some 6, .new [.int .i64 0, .int .i64 0, .int .i64 0], none⟩]) (.seq (.reg [⟨some 11, .mov (.t 2), none⟩, ⟨some 12, .call 189 [.t 11], none⟩, ⟨some 10, .mov (.t 12), none⟩, ⟨some 13, .prj 0 (.t 10), none⟩, ⟨some 14, .prj 1 (.t 10), none⟩, ⟨some 15, .prj 2 (.t 10), none⟩, ⟨some 7, .mov (.t 13), none⟩, ⟨some 8, .mov (.t 14), none⟩, ⟨some 9, .mov (.t 15), none⟩]) (.kl [8, 10, 11, 12, 13, 14, 15] (.seq (.seq (.reg [⟨some 16, .mov (.t 0), none⟩]) (.kl [0] (.blk 0 (.seq (.reg [⟨some 18, .bin .eql (.t 16) (.c (.int .i64 0)), none⟩, ⟨some 17, .mov (.t 18), none⟩]) (.kl [18] (.cond (.t 17) (.kl [7, 9, 16, 17] (.seq (.reg [⟨some 19, .mov (.t 1), none⟩, ⟨some 20, .mov (.t 2), none⟩, ⟨some 21, .mov (.t 1), none⟩, ⟨some 22, .idxS (.t 20) (.t 21), none⟩, ⟨some 23, .call 190 [.c (.str [46, 70, 84]), .t 22], none⟩, ⟨some 24, .build [.int .i64 0, .int .i64 0, .int .i64 0] [(0, 1, .c (.int .i64 0)), (1, 1, .t 19), (2, 1, .t 23)], none⟩, ⟨none, .store 3 (.t 6) (.t 24), none⟩]) (.kl [1, 2, 19, 20, 21, 22, 23, 24] (.ret)))) (.kl [1, 17] (.seq (.reg [⟨some 26, .bin .eql (.t 16) (.c (.int .i64 1)), none⟩, ⟨some 25, .mov (.t 26), none⟩]) (.kl [26] (.cond (.t 25) (.kl [2, 9, 16, 25] (.seq (.reg [⟨some 27, .mov (.t 7), none⟩, ⟨some 28, .build [.int .i64 0, .int .i64 0, .int .i64 0] [(0, 1, .c (.int .i64 1)), (1, 1, .t 27), (2, 1, .c (.int .i64 0))], none⟩, ⟨none, .store 3 (.t 6) (.t 28), none⟩]) (.kl [7, 27, 28] (.ret)))) (.kl [7, 25] (.seq (.reg [⟨some 30, .bin .eql (.t 16) (.c (.int .i64 2)), none⟩, ⟨some 29, .mov (.t 30), none⟩]) (.kl [30] (.cond (.t 29) (.kl [2, 16, 29] (.seq (.reg [⟨some 31, .mov (.t 9), none⟩, ⟨some 32, .build [.int .i64 0, .int .i64 0, .int .i64 0] [(0, 1, .c (.int .i64 2)), (1, 1, .t 31), (2, 1, .c (.int .i64 0))], none⟩, ⟨none, .store 3 (.t 6) (.t 32), none⟩]) (.kl [9, 31, 32] (.ret)))) (.kl [9, 29] (.seq (.reg [⟨some 34, .bin .eql (.t 16) (.c (.int .i64 3)), none⟩, ⟨some 33, .mov (.t 34), none⟩]) (.kl [34] (.cond (.t 33) (.kl [16, 33] (.seq (.reg [⟨some 35, .mov (.t 2), none⟩, ⟨some 36, .call 105 [.t 35, .c (.str [84, 70])], none⟩, ⟨some 37, .lenV (.t 36), none⟩, ⟨some 38, .build [.int .i64 0, .int .i64 0, .int .i64 0] [(0, 1, .c (.int .i64 3)), (1, 1, .t 37), (2, 1, .c (.int .i64 0))], none⟩, ⟨none, .store 3 (.t 6) (.t 38), none⟩]) (.kl [2, 35, 36, 37, 38] (.ret)))) (.kl [33] (.seq (.reg [⟨some 40, .bin .eql (.t 16) (.c (.int .i64 4)), none⟩, ⟨some 39, .mov (.t 40), none⟩]) (.kl [16, 40] (.cond (.t 39) (.kl [39] (.seq (.reg [⟨some 41, .mov (.t 2), none⟩, ⟨some 42, .call 191 [.t 41], none⟩, ⟨some 43, .build [.int .i64 0, .int .i64 0, .int .i64 0] [(0, 1, .c (.int .i64 4)), (1, 1, .t 42), (2, 1, .c (.int .i64 0))], none⟩, ⟨none, .store 3 (.t 6) (.t 43), none⟩]) (.kl [2, 41, 42, 43] (.ret)))) (.skip))))))))))))))))))))))) (.kl [39] (.seq (.reg [⟨some 44, .call 192 [], none⟩, ⟨some 45, .mov (.t 2), none⟩, ⟨some 46, .call 193 [.t 44, .t 45], none⟩, ⟨some 47, .call 194 [.c (.str [49, 50, 70, 84]), .t 46], none⟩, ⟨some 48, .build [.int .i64 0, .int .i64 0, .int .i64 0] [(0, 1, .c (.int .i64 5)), (1, 1, .t 47), (2, 1, .c (.int .i64 0))], none⟩, ⟨none, .store 3 (.t 6) (.t 48), none⟩]) (.kl [2, 44, 45, 46, 47, 48] (.ret))))))), [.cell true 3 6]⟩
/-- spec.pzLine -/
def fi594 : FI := ⟨.seq (.reg [⟨some 2, .mov (.c (.bool false)), none⟩]) (.kl [2] (.seq (.reg [⟨some 3, .mov (.t 0), none⟩, ⟨some 4, .call 104 [.t 3], none⟩, ⟨some 5, .mov (.t 4), none⟩, ⟨some 6, .mov (.t 0), some (5, true)⟩, ⟨some 7, .lenS (.t 6), some (5, true)⟩, ⟨some 8, .bin .leq (.t 7) (.c (.int .i64 5)), some (5, true)⟩, ⟨some 9, .pick (.t 5) (.t 8) (.c (.bool false)), none⟩, ⟨some 2, .mov (.t 9), none⟩]) (.kl [0, 3, 4, 5, 6, 7, 8, 9] (.ret)))), [.tmp 2]⟩
/-- spec.l1In -/
def fi77 : FI := ⟨.seq (.reg [⟨some 6, .mov (.c (.bool false)), none⟩]) (.kl [6] (.seq (.reg [⟨some 7, .mov (.t 0), none⟩, ⟨some 8, .mov (.t 1), none⟩, ⟨some 9, .bin .geq (.t 7) (.t 8), none⟩, ⟨some 10, .mov (.t 9), none⟩, ⟨some 11, .mov (.t 0), some (10, true)⟩, ⟨some 12, .mov (.t 2), some (10, true)⟩, ⟨some 13, .bin .leq (.t 11) (.t 12), some (10, true)⟩, ⟨some 14, .pick (.t 10) (.t 13) (.c (.bool false)), none⟩, ⟨some 6, .mov (.t 14), none⟩]) (.kl [0, 1, 2, 7, 8, 9, 10, 11, 12, 13, 14] (.ret)))), [.tmp 6]⟩
/-- spec.pzNext -/
def fi595 : FI := ⟨.seq (.reg [⟨some 2, .mov (.c (.int .i64 0)), none⟩]) (.kl [2] (.seq (.reg [⟨some 3, .mov (.t 0), none⟩, ⟨some 4, .bin .mul (.c (.int .i64 167)) (.t 3), none⟩, ⟨some 5, .bin .add (.t 4) (.c (.int .i64 2281)), none⟩, ⟨some 6, .bin .rem (.t 5) (.c (.int .i64 10007)), none⟩, ⟨some 2, .mov (.t 6), none⟩]) (.kl [0, 3, 4, 5, 6] (.ret)))), [.tmp 2]⟩
/-- spec.pzOf -/
def fi596 : FI := ⟨.seq (.reg [⟨some 6, .new [.int .i64 0, .int .i64 0, .int .i64 0], none⟩]) (.seq (.seq (.reg [⟨some 7, .mov (.t 0), none⟩, ⟨some 8, .bin .eql (.t 7) (.c (.int .i64 0)), none⟩]) (.kl [7] (.cond (.t 8) (.kl [0, 8] (.seq (.reg [⟨some 9, .mov (.t 1), none⟩, ⟨some 10, .mov (.t 1), none⟩, ⟨some 11, .mov (.t 2), none⟩, ⟨some 12, .call 188 [.c (.int .i64 0), .t 10, .t 11], none⟩, ⟨some 13, .build [.int .i64 0, .int .i64 0, .int .i64 0] [(1, 1, .t 9), (2, 1, .t 12)], none⟩, ⟨none, .store 3 (.t 6) (.t 13), none⟩]) (.kl [1, 2, 9, 10, 11, 12, 13] (.ret)))) (.skip)))) (.kl [1, 8] (.seq (.reg [⟨some 14, .mov (.t 0), none⟩, ⟨some 15, .mov (.t 0), none⟩, ⟨some 16, .mov (.t 2), none⟩, ⟨some 17, .call 188 [.t 15, .c (.int .i64 0), .t 16], none⟩, ⟨some 18, .build [.int .i64 0, .int .i64 0, .int .i64 0] [(0, 1, .t 14), (1, 1, .t 17)], none⟩, ⟨none, .store 3 (.t 6) (.t 18), none⟩]) (.kl [0, 2, 14, 15, 16, 17, 18] (.ret))))), [.cell true 3 6]⟩
-- lp167_0 HEAD [5, 10, 11, 12] | exit 0: [5]
/-- impl.solve -/
def lb167_0 : C := .kl [19] (.seq (.reg [⟨some 13, .bin .lss (.t 12) (.t 11), none⟩]) (.seq (.cond (.t 13) (.skip) (.kl [10, 11, 12, 13] (.exit 0))) (.kl [13] (.seq (.blk 1 (.seq (.reg [⟨some 14, .iaddr 3 (.t 10) (.t 12), none⟩, ⟨some 15, .load true 3 (.t 14), none⟩, ⟨some 7, .new [.int .i64 0, .int .i64 0, .int .i64 0], none⟩, ⟨none, .store 3 (.t 7) (.t 15), none⟩]) (.kl [14, 15] (.reg [⟨some 16, .mov (.t 5), none⟩, ⟨some 17, .mkfn 179 [.t 7], none⟩, ⟨some 18, .call 180 [.t 16, .t 17], none⟩, ⟨some 5, .mov (.t 18), none⟩])))) (.kl [7, 16, 17, 18] (.reg [⟨some 19, .bin .add (.t 12) (.c (.int .i64 1)), none⟩, ⟨some 12, .mov (.t 19), none⟩]))))))
def lp167_0 : C := lb167_0
def fi167 : FI := ⟨.seq (.reg [⟨some 4, .mov (.c (.nilS)), none⟩]) (.kl [4] (.seq (.reg [⟨some 8, .mov (.t 0), none⟩, ⟨some 9, .call 178 [.t 8], none⟩, ⟨some 5, .mov (.t 9), none⟩]) (.kl [0, 8, 9] (.seq (.seq (.reg [⟨some 10, .mov (.t 1), none⟩, ⟨some 11, .lenV (.t 10), none⟩, ⟨some 12, .mov (.c (.int .i64 0)), none⟩]) (.kl [1] (.blk 0 (.loop lp167_0)))) (.seq (.reg [⟨some 20, .mov (.t 5), none⟩, ⟨some 4, .mov (.t 20), none⟩]) (.kl [5, 20] (.ret))))))), [.tmp 4]⟩
/-- impl.IsLine -/
def fi106 : FI := ⟨.seq (.reg [⟨some 2, .mov (.c (.bool false)), none⟩]) (.kl [2] (.seq (.reg [⟨some 3, .mov (.t 0), none⟩, ⟨some 4, .call 82 [.t 3, .c (.int .i64 12)], none⟩, ⟨some 2, .mov (.t 4), none⟩]) (.kl [0, 3, 4] (.ret)))), [.tmp 2]⟩
-- lp191_0 HEAD [0, 3, 4, 7, 8] | exit 0: [3]
/-- impl.pairs -/
def lb191_0 : C := .kl [23] (.seq (.reg [⟨some 9, .bin .lss (.t 8) (.t 7), none⟩]) (.seq (.cond (.t 9) (.skip) (.kl [0, 4, 7, 8, 9] (.exit 0))) (.kl [9] (.seq (.blk 1 (.seq (.reg [⟨some 10, .mov (.t 8), none⟩, ⟨some 5, .mov (.t 10), none⟩]) (.kl [10] (.seq (.reg [⟨some 11, .mov (.t 0), none⟩, ⟨some 12, .mov (.t 5), none⟩, ⟨some 13, .idxS (.t 11) (.t 12), none⟩]) (.kl [5, 11, 12] (.blk 2 (.seq (.reg [⟨some 15, .bin .eql (.t 13) (.c (.int .u8 84)), none⟩, ⟨some 14, .mov (.t 15), none⟩]) (.kl [15] (.cond (.t 14) (.kl [13, 14] (.reg [⟨some 16, .mov (.t 4), none⟩, ⟨some 17, .bin .add (.t 16) (.c (.int .i64 1)), none⟩, ⟨some 4, .mov (.t 17), none⟩])) (.kl [14] (.seq (.reg [⟨some 19, .bin .eql (.t 13) (.c (.int .u8 70)), none⟩, ⟨some 18, .mov (.t 19), none⟩]) (.kl [13, 19] (.cond (.t 18) (.kl [18] (.reg [⟨some 20, .mov (.t 3), none⟩, ⟨some 21, .mov (.t 4), none⟩, ⟨some 22, .bin .add (.t 20) (.t 21), none⟩, ⟨some 3, .mov (.t 22), none⟩])) (.skip)))))))))))))) (.kl [16, 17, 18, 20, 21, 22] (.reg [⟨some 23, .bin .add (.t 8) (.c (.int .i64 1)), none⟩, ⟨some 8, .mov (.t 23), none⟩]))))))
def lp191_0 : C := lb191_0
def fi191 : FI := ⟨.seq (.reg [⟨some 2, .mov (.c (.int .i64 0)), none⟩]) (.kl [2] (.seq (.reg [⟨some 3, .mov (.c (.int .i64 0)), none⟩, ⟨some 4, .mov (.c (.int .i64 0)), none⟩]) (.seq (.seq (.reg [⟨some 6, .mov (.t 0), none⟩, ⟨some 7, .lenS (.t 6), none⟩, ⟨some 8, .mov (.c (.int .i64 0)), none⟩]) (.kl [6] (.blk 0 (.loop lp191_0)))) (.seq (.reg [⟨some 24, .mov (.t 3), none⟩, ⟨some 2, .mov (.t 24), none⟩]) (.kl [3, 24] (.ret)))))), [.tmp 2]⟩
/-- (impl.Clue).fits -/
def fi186 : FI := ⟨.seq (.reg [⟨some 2, .box (.t 0), none⟩, ⟨some 4, .mov (.c (.bool false)), none⟩]) (.kl [0, 4] (.seq (.drw [⟨some 5, .faddr 0 1 (.t 2), none⟩, ⟨some 6, .load false 1 (.t 5), none⟩, ⟨some 7, .faddr 1 1 (.t 2), none⟩, ⟨some 8, .load false 1 (.t 7), none⟩, ⟨some 9, .mov (.t 1), none⟩, ⟨some 10, .call 187 [.t 6, .t 8, .t 9], none⟩, ⟨some 11, .load true 3 (.t 2), none⟩, ⟨some 12, .aeq false [0, 0, 0] (.t 10) (.t 11), none⟩, ⟨some 4, .mov (.t 12), none⟩] [(6, 5)]) (.kl [1, 2, 5, 6, 7, 8, 9, 10, 11, 12] (.ret)))), [.tmp 4]⟩
/-- impl.movesIn -/
def fi59 : FI := ⟨.seq (.reg [⟨some 4, .mov (.c (.nilS)), none⟩, ⟨some 5, .mov (.c (.bool false)), none⟩]) (.kl [4, 5] (.seq (.seq (.reg [⟨some 6, .mov (.t 0), none⟩, ⟨some 7, .call 106 [.t 6], none⟩, ⟨some 8, .un .not (.t 7), none⟩]) (.kl [6, 7] (.cond (.t 8) (.kl [0, 1, 8] (.seq (.reg [⟨some 4, .mov (.c (.nilS)), none⟩, ⟨some 5, .mov (.c (.bool false)), none⟩]) (.ret))) (.skip)))) (.kl [8] (.seq (.reg [⟨some 9, .mov (.t 0), none⟩, ⟨some 10, .mov (.t 1), none⟩, ⟨some 11, .call 105 [.t 9, .t 10], none⟩, ⟨some 4, .mov (.t 11), none⟩, ⟨some 5, .mov (.c (.bool true)), none⟩]) (.kl [0, 1, 9, 10, 11] (.ret)))))), [.tmp 4, .tmp 5]⟩
/-- slices.ContainsFunc[[]impl.Clue,impl.Clue] -/
def fi177 : FI := ⟨.seq (.reg [⟨some 4, .mov (.c (.bool false)), none⟩]) (.kl [4] (.seq (.reg [⟨some 5, .mov (.t 0), none⟩, ⟨some 6, .mov (.t 1), none⟩, ⟨some 7, .call 182 [.t 5, .t 6], none⟩, ⟨some 8, .bin .geq (.t 7) (.c (.int .i64 0)), none⟩, ⟨some 4, .mov (.t 8), none⟩]) (.kl [0, 1, 5, 6, 7, 8] (.ret)))), [.tmp 4]⟩
/-- impl.IsPuzzle$1 -/
def fi176 : FI := ⟨.seq (.reg [⟨some 2, .box (.t 0), none⟩, ⟨some 3, .mov (.c (.bool false)), none⟩]) (.kl [0, 3] (.seq (.reg [⟨some 4, .faddr 0 1 (.t 1), none⟩, ⟨some 5, .load false 1 (.t 4), none⟩, ⟨some 6, .load true 3 (.t 2), none⟩, ⟨some 7, .call 183 [.t 5, .t 6], none⟩, ⟨some 8, .un .not (.t 7), none⟩, ⟨some 3, .mov (.t 8), none⟩]) (.kl [1, 2, 4, 5, 6, 7, 8] (.ret)))), [.tmp 3]⟩
/-- slices.Clone[[]impl.Clue,impl.Clue] -/
def fi218 : FI := ⟨.seq (.reg [⟨some 2, .mov (.c (.nilS)), none⟩]) (.kl [2] (.seq (.seq (.reg [⟨some 3, .mov (.t 0), none⟩, ⟨some 4, .niq false 0 (.t 3), none⟩]) (.kl [3] (.cond (.t 4) (.kl [0, 4] (.seq (.reg [⟨some 2, .mov (.c (.nilS)), none⟩]) (.ret))) (.skip)))) (.kl [4] (.seq (.reg [⟨some 5, .lit0, none⟩, ⟨some 6, .mov (.t 0), none⟩, ⟨some 7, .app 3 (.t 5) (.t 6), none⟩, ⟨some 2, .mov (.t 7), none⟩]) (.kl [0, 5, 6, 7] (.ret)))))), [.tmp 2]⟩
/-- impl.without -/
def fi217 : FI := ⟨.seq (.reg [⟨some 4, .mov (.c (.nilS)), none⟩]) (.kl [4] (.seq (.reg [⟨some 5, .mov (.t 0), none⟩, ⟨some 6, .call 218 [.t 5], none⟩, ⟨some 7, .mov (.t 1), none⟩, ⟨some 8, .mov (.t 1), none⟩, ⟨some 9, .bin .add (.t 8) (.c (.int .i64 1)), none⟩, ⟨some 10, .call 220 [.t 6, .t 7, .t 9], none⟩, ⟨some 4, .mov (.t 10), none⟩]) (.kl [0, 1, 5, 6, 7, 8, 9, 10] (.ret)))), [.tmp 4]⟩
-- lp160_0 HEAD [1, 16, 17, 18] | exit 0: [] | ret: [2]
/-- spec.pzGood -/
def lb160_0 : C := .kl [27] (.seq (.reg [⟨some 19, .bin .lss (.t 18) (.t 17), none⟩]) (.seq (.cond (.t 19) (.skip) (.kl [1, 16, 17, 18, 19] (.exit 0))) (.kl [19] (.seq (.blk 1 (.seq (.reg [⟨some 20, .iaddr 3 (.t 16) (.t 18), none⟩, ⟨some 21, .load true 3 (.t 20), none⟩, ⟨some 4, .new [.int .i64 0, .int .i64 0, .int .i64 0], none⟩, ⟨none, .store 3 (.t 4) (.t 21), none⟩]) (.kl [20, 21] (.seq (.reg [⟨some 22, .faddr 0 1 (.t 1), none⟩, ⟨some 23, .load false 1 (.t 22), none⟩, ⟨some 24, .load true 3 (.t 4), none⟩, ⟨some 25, .call 172 [.t 23, .t 24], none⟩, ⟨some 26, .un .not (.t 25), none⟩]) (.kl [4, 22, 23, 24, 25] (.cond (.t 26) (.kl [1, 16, 17, 18, 26] (.seq (.reg [⟨some 2, .mov (.c (.bool false)), none⟩]) (.ret))) (.skip))))))) (.kl [26] (.reg [⟨some 27, .bin .add (.t 18) (.c (.int .i64 1)), none⟩, ⟨some 18, .mov (.t 27), none⟩]))))))
def lp160_0 : C := lb160_0
def fi160 : FI := ⟨.seq (.reg [⟨some 1, .box (.t 0), none⟩, ⟨some 2, .mov (.c (.bool false)), none⟩]) (.kl [0, 2] (.seq (.seq (.reg [⟨some 5, .faddr 0 1 (.t 1), none⟩, ⟨some 6, .load false 1 (.t 5), none⟩, ⟨some 7, .call 171 [.t 6], none⟩, ⟨some 8, .un .not (.t 7), none⟩, ⟨some 9, .mov (.t 8), none⟩, ⟨some 10, .faddr 1 1 (.t 1), some (9, false)⟩, ⟨some 11, .load false 1 (.t 10), some (9, false)⟩, ⟨some 12, .lenV (.t 11), some (9, false)⟩, ⟨some 13, .bin .gtr (.t 12) (.c (.int .i64 6)), some (9, false)⟩, ⟨some 14, .pick (.t 9) (.c (.bool true)) (.t 13), none⟩]) (.kl [5, 6, 7, 8, 9, 10, 11, 12, 13] (.cond (.t 14) (.kl [1, 14] (.seq (.reg [⟨some 2, .mov (.c (.bool false)), none⟩]) (.ret))) (.skip)))) (.kl [14] (.seq (.seq (.reg [⟨some 15, .faddr 1 1 (.t 1), none⟩, ⟨some 16, .load false 1 (.t 15), none⟩, ⟨some 17, .lenV (.t 16), none⟩, ⟨some 18, .mov (.c (.int .i64 0)), none⟩]) (.kl [15] (.blk 0 (.loop lp160_0)))) (.seq (.reg [⟨some 2, .mov (.c (.bool true)), none⟩]) (.ret)))))), [.tmp 2]⟩
/-- spec.pzSolved -/
def fi165 : FI := ⟨.seq (.reg [⟨some 4, .mov (.c (.bool false)), none⟩]) (.kl [4] (.seq (.reg [⟨some 5, .mov (.t 0), none⟩, ⟨some 6, .mov (.t 1), none⟩, ⟨some 7, .call 161 [.t 5, .t 6], none⟩, ⟨some 8, .lenV (.t 7), none⟩, ⟨some 9, .bin .eql (.t 8) (.c (.int .i64 1)), none⟩, ⟨some 4, .mov (.t 9), none⟩]) (.kl [0, 1, 5, 6, 7, 8, 9] (.ret)))), [.tmp 4]⟩
/-- spec.pzWithout -/
def fi216 : FI := ⟨.seq (.reg [⟨some 4, .mov (.c (.nilS)), none⟩]) (.kl [4] (.seq (.drw [⟨some 5, .lit0, none⟩, ⟨some 6, .mov (.t 0), none⟩, ⟨some 7, .mov (.t 1), none⟩, ⟨some 8, .sub 3 (.t 6) none (some (.t 7)), none⟩, ⟨some 9, .app 3 (.t 5) (.t 8), none⟩, ⟨some 10, .mov (.t 0), none⟩, ⟨some 11, .mov (.t 1), none⟩, ⟨some 12, .bin .add (.t 11) (.c (.int .i64 1)), none⟩, ⟨some 13, .sub 3 (.t 10) (some (.t 12)) none, none⟩, ⟨some 14, .app 3 (.t 9) (.t 13), none⟩, ⟨some 4, .mov (.t 14), none⟩] []) (.kl [0, 1, 5, 6, 7, 8, 9, 10, 11, 12, 13, 14] (.ret)))), [.tmp 4]⟩
/-- impl.CountSolutions -/
def fi138 : FI := ⟨.seq (.reg [⟨some 1, .box (.t 0), none⟩, ⟨some 2, .mov (.c (.int .i64 0)), none⟩, ⟨some 3, .mov (.c (.bool false)), none⟩]) (.kl [0, 2, 3] (.seq (.reg [⟨some 7, .load true 2 (.t 1), none⟩, ⟨some 8, .call 163 [.t 7], none⟩, ⟨some 6, .mov (.t 8), none⟩, ⟨some 9, .prj 0 (.t 6), none⟩, ⟨some 10, .prj 1 (.t 6), none⟩, ⟨some 4, .mov (.t 9), none⟩, ⟨some 5, .mov (.t 10), none⟩]) (.kl [1, 6, 7, 8, 9, 10] (.seq (.reg [⟨some 11, .mov (.t 4), none⟩, ⟨some 12, .lenV (.t 11), none⟩, ⟨some 13, .mov (.t 5), none⟩, ⟨some 2, .mov (.t 12), none⟩, ⟨some 3, .mov (.t 13), none⟩]) (.kl [4, 5, 11, 12, 13] (.ret)))))), [.tmp 2, .tmp 3]⟩
/-- spec.pzClue -/
def fi172 : FI := ⟨.seq (.reg [⟨some 3, .box (.t 1), none⟩, ⟨some 4, .mov (.c (.bool false)), none⟩]) (.kl [1, 4] (.seq (.seq (.reg [⟨some 5, .faddr 0 1 (.t 3), none⟩, ⟨some 6, .load false 1 (.t 5), none⟩, ⟨some 7, .bin .eql (.t 6) (.c (.int .i64 0)), none⟩]) (.kl [5, 6] (.cond (.t 7) (.kl [7] (.seq (.reg [⟨some 8, .faddr 1 1 (.t 3), none⟩, ⟨some 9, .load false 1 (.t 8), none⟩, ⟨some 10, .mov (.t 0), none⟩, ⟨some 11, .bin .sub (.t 10) (.c (.int .i64 1)), none⟩, ⟨some 12, .call 77 [.t 9, .c (.int .i64 0), .t 11], none⟩, ⟨some 13, .mov (.t 12), none⟩, ⟨some 14, .faddr 2 1 (.t 3), some (13, true)⟩, ⟨some 15, .load false 1 (.t 14), some (13, true)⟩, ⟨some 16, .call 77 [.t 15, .c (.int .i64 0), .c (.int .i64 2)], some (13, true)⟩, ⟨some 17, .pick (.t 13) (.t 16) (.c (.bool false)), none⟩, ⟨some 4, .mov (.t 17), none⟩]) (.kl [0, 3, 8, 9, 10, 11, 12, 13, 14, 15, 16, 17] (.ret)))) (.skip)))) (.kl [7] (.seq (.seq (.reg [⟨some 18, .faddr 2 1 (.t 3), none⟩, ⟨some 19, .load false 1 (.t 18), none⟩, ⟨some 20, .bin .neq (.t 19) (.c (.int .i64 0)), none⟩]) (.kl [18, 19] (.cond (.t 20) (.kl [0, 3, 20] (.seq (.reg [⟨some 4, .mov (.c (.bool false)), none⟩]) (.ret))) (.skip)))) (.kl [20] (.seq (.seq (.reg [⟨some 21, .faddr 0 1 (.t 3), none⟩, ⟨some 22, .load false 1 (.t 21), none⟩]) (.kl [21] (.blk 0 (.seq (.seq (.reg [⟨some 24, .bin .eql (.t 22) (.c (.int .i64 1)), none⟩, ⟨some 23, .mov (.t 24), none⟩]) (.kl [24] (.cond (.t 23) (.skip) (.kl [23] (.reg [⟨some 25, .bin .eql (.t 22) (.c (.int .i64 2)), none⟩, ⟨some 23, .mov (.t 25), none⟩]))))) (.kl [25] (.cond (.t 23) (.kl [22, 23] (.seq (.reg [⟨some 26, .faddr 1 1 (.t 3), none⟩, ⟨some 27, .load false 1 (.t 26), none⟩, ⟨some 28, .mov (.t 0), none⟩, ⟨some 29, .call 77 [.t 27, .c (.int .i64 0), .t 28], none⟩, ⟨some 4, .mov (.t 29), none⟩]) (.kl [0, 3, 26, 27, 28, 29] (.ret)))) (.kl [23] (.seq (.reg [⟨some 31, .bin .eql (.t 22) (.c (.int .i64 3)), none⟩, ⟨some 30, .mov (.t 31), none⟩]) (.kl [31] (.cond (.t 30) (.kl [22, 30] (.seq (.reg [⟨some 32, .faddr 1 1 (.t 3), none⟩, ⟨some 33, .load false 1 (.t 32), none⟩, ⟨some 34, .mov (.t 0), none⟩, ⟨some 35, .bin .mul (.c (.int .i64 2)) (.t 34), none⟩, ⟨some 36, .call 77 [.t 33, .c (.int .i64 0), .t 35], none⟩, ⟨some 4, .mov (.t 36), none⟩]) (.kl [0, 3, 32, 33, 34, 35, 36] (.ret)))) (.kl [0, 30] (.seq (.reg [⟨some 38, .bin .eql (.t 22) (.c (.int .i64 4)), none⟩, ⟨some 37, .mov (.t 38), none⟩]) (.kl [38] (.cond (.t 37) (.kl [22, 37] (.seq (.reg [⟨some 39, .faddr 1 1 (.t 3), none⟩, ⟨some 40, .load false 1 (.t 39), none⟩, ⟨some 41, .call 77 [.t 40, .c (.int .i64 0), .c (.int .i64 10)], none⟩, ⟨some 4, .mov (.t 41), none⟩]) (.kl [3, 39, 40, 41] (.ret)))) (.kl [37] (.seq (.reg [⟨some 43, .bin .eql (.t 22) (.c (.int .i64 5)), none⟩, ⟨some 42, .mov (.t 43), none⟩]) (.kl [22, 43] (.cond (.t 42) (.kl [42] (.seq (.reg [⟨some 44, .faddr 1 1 (.t 3), none⟩, ⟨some 45, .load false 1 (.t 44), none⟩, ⟨some 46, .call 77 [.t 45, .c (.int .i64 0), .c (.int .i64 3)], none⟩, ⟨some 4, .mov (.t 46), none⟩]) (.kl [3, 44, 45, 46] (.ret)))) (.skip))))))))))))))))))) (.kl [3, 42] (.seq (.reg [⟨some 4, .mov (.c (.bool false)), none⟩]) (.ret))))))))), [.tmp 4]⟩
/-- spec.pzFits -/
def fi181 : FI := ⟨.seq (.reg [⟨some 2, .box (.t 0), none⟩, ⟨some 4, .mov (.c (.bool false)), none⟩]) (.kl [0, 4] (.seq (.seq (.reg [⟨some 5, .faddr 0 1 (.t 2), none⟩, ⟨some 6, .load false 1 (.t 5), none⟩, ⟨some 7, .bin .eql (.t 6) (.c (.int .i64 0)), none⟩]) (.kl [5, 6] (.cond (.t 7) (.kl [7] (.seq (.drw [⟨some 8, .faddr 1 1 (.t 2), none⟩, ⟨some 9, .load false 1 (.t 8), none⟩, ⟨some 10, .mov (.t 1), none⟩, ⟨some 11, .call 188 [.c (.int .i64 0), .t 9, .t 10], none⟩, ⟨some 12, .faddr 2 1 (.t 2), none⟩, ⟨some 13, .load false 1 (.t 12), none⟩, ⟨some 14, .bin .eql (.t 11) (.t 13), none⟩, ⟨some 4, .mov (.t 14), none⟩] [(5, 3)]) (.kl [1, 2, 8, 9, 10, 11, 12, 13, 14] (.ret)))) (.skip)))) (.kl [7] (.seq (.drw [⟨some 15, .faddr 0 1 (.t 2), none⟩, ⟨some 16, .load false 1 (.t 15), none⟩, ⟨some 17, .mov (.t 1), none⟩, ⟨some 18, .call 188 [.t 16, .c (.int .i64 0), .t 17], none⟩, ⟨some 19, .faddr 1 1 (.t 2), none⟩, ⟨some 20, .load false 1 (.t 19), none⟩, ⟨some 21, .bin .eql (.t 18) (.t 20), none⟩, ⟨some 4, .mov (.t 21), none⟩] [(5, 3)]) (.kl [1, 2, 15, 16, 17, 18, 19, 20, 21] (.ret)))))), [.tmp 4]⟩
/-- spec.pzCells -/
def fi171 : FI := ⟨.seq (.reg [⟨some 2, .mov (.c (.bool false)), none⟩]) (.kl [2] (.seq (.reg [⟨some 3, .mov (.t 0), none⟩, ⟨some 4, .call 77 [.t 3, .c (.int .i64 1), .c (.int .i64 5)], none⟩, ⟨some 2, .mov (.t 4), none⟩]) (.kl [0, 3, 4] (.ret)))), [.tmp 2]⟩
/-- impl.newGames -/
def fi192 : FI := ⟨.seq (.reg [⟨some 0, .new [.nilM], none⟩]) (.seq (.reg [⟨some 1, .mkmap, none⟩, ⟨some 2, .build [.nilM] [(0, 1, .t 1)], none⟩, ⟨none, .store 1 (.t 0) (.t 2), none⟩]) (.kl [1, 2] (.ret))), [.cell true 1 0]⟩
/-- (impl.games).outcome -/
def fi193 : FI := ⟨.seq (.reg [⟨some 2, .box (.t 0), none⟩, ⟨some 4, .mov (.c (.str [])), none⟩]) (.kl [0, 4] (.seq (.drw [⟨some 7, .load true 1 (.t 2), none⟩, ⟨some 8, .mov (.t 1), none⟩, ⟨some 9, .call 198 [.t 7, .t 8, .c (.bool true)], none⟩, ⟨some 10, .load true 1 (.t 2), none⟩, ⟨some 11, .mov (.t 1), none⟩, ⟨some 12, .call 198 [.t 10, .t 11, .c (.bool false)], none⟩, ⟨some 5, .mov (.t 9), none⟩, ⟨some 6, .mov (.t 12), none⟩] [(3, 2)]) (.kl [1, 2, 7, 8, 9, 10, 11, 12] (.seq (.blk 0 (.seq (.reg [⟨some 14, .mov (.t 5), none⟩, ⟨some 15, .mov (.t 14), none⟩, ⟨some 16, .mov (.t 6), some (15, true)⟩, ⟨some 17, .pick (.t 15) (.t 16) (.c (.bool false)), none⟩, ⟨some 13, .mov (.t 17), none⟩]) (.kl [14, 15, 16, 17] (.cond (.t 13) (.kl [5, 6, 13] (.seq (.reg [⟨some 4, .mov (.c (.str [49])), none⟩]) (.ret))) (.kl [13] (.seq (.reg [⟨some 19, .mov (.t 5), none⟩, ⟨some 18, .mov (.t 19), none⟩]) (.kl [5, 19] (.cond (.t 18) (.kl [6, 18] (.seq (.reg [⟨some 4, .mov (.c (.str [84])), none⟩]) (.ret))) (.kl [18] (.seq (.reg [⟨some 21, .mov (.t 6), none⟩, ⟨some 20, .mov (.t 21), none⟩]) (.kl [6, 21] (.cond (.t 20) (.kl [20] (.seq (.reg [⟨some 4, .mov (.c (.str [70])), none⟩]) (.ret))) (.skip))))))))))))) (.kl [20] (.seq (.reg [⟨some 4, .mov (.c (.str [50])), none⟩]) (.ret))))))), [.tmp 4]⟩
/-- (impl.games).win -/
def fi198 : FI := ⟨.seq (.reg [⟨some 3, .box (.t 0), none⟩, ⟨some 4, .box (.t 1), none⟩, ⟨some 5, .box (.t 2), none⟩, ⟨some 6, .mov (.c (.bool false)), none⟩]) (.kl [0, 1, 2, 6] (.seq (.drw [⟨some 11, .load false 1 (.t 5), none⟩, ⟨some 12, .call 200 [.t 11], none⟩, ⟨some 13, .load false 1 (.t 4), none⟩, ⟨some 14, .bin .add (.t 12) (.t 13), none⟩, ⟨some 7, .mov (.t 14), none⟩] [(2, 1)]) (.kl [11, 12, 13, 14] (.seq (.seq (.reg [⟨some 16, .faddr 0 1 (.t 3), none⟩, ⟨some 17, .load false 1 (.t 16), none⟩, ⟨some 18, .mov (.t 7), none⟩, ⟨some 19, .look 1 (.bool false) true (.t 17) (.t 18), none⟩, ⟨some 15, .mov (.t 19), none⟩, ⟨some 20, .prj 0 (.t 15), none⟩, ⟨some 21, .prj 1 (.t 15), none⟩, ⟨some 8, .mov (.t 20), none⟩, ⟨some 9, .mov (.t 21), none⟩]) (.kl [15, 16, 17, 18, 19, 20, 21] (.seq (.reg [⟨some 22, .mov (.t 9), none⟩]) (.kl [9] (.cond (.t 22) (.kl [3, 4, 5, 7, 22] (.seq (.reg [⟨some 23, .mov (.t 8), none⟩, ⟨some 6, .mov (.t 23), none⟩]) (.kl [8, 23] (.ret)))) (.skip)))))) (.kl [8, 22] (.seq (.drw [⟨some 24, .load false 1 (.t 4), none⟩, ⟨some 25, .load false 1 (.t 5), none⟩, ⟨some 26, .call 200 [.t 25], none⟩, ⟨some 27, .call 105 [.t 24, .t 26], none⟩, ⟨some 28, .mkfn 201 [.t 3, .t 4, .t 5], none⟩, ⟨some 29, .call 202 [.t 27, .t 28], none⟩, ⟨some 10, .mov (.t 29), none⟩] [(0, 2)]) (.kl [4, 5, 24, 25, 26, 27, 28, 29] (.seq (.reg [⟨some 30, .faddr 0 1 (.t 3), none⟩, ⟨some 31, .load false 1 (.t 30), none⟩, ⟨some 32, .mov (.t 7), none⟩, ⟨some 33, .mov (.t 10), none⟩, ⟨none, .mset 1 (.t 31) (.t 32) (.t 33), none⟩]) (.kl [3, 7, 30, 31, 32, 33] (.seq (.reg [⟨some 34, .mov (.t 10), none⟩, ⟨some 6, .mov (.t 34), none⟩]) (.kl [10, 34] (.ret)))))))))))), [.tmp 6]⟩
-- lp199_0 HEAD [0, 1, 2, 7, 21, 22, 23] | exit 0: [0, 1, 2, 7] | ret: [6]
-- lp199_1 HEAD [0, 1, 2, 7, 10, 39, 40, 41] | exit 2: [0, 7, 10] | exit 4: [0, 1, 2, 7, 10, 39, 40, 41]
-- lp199_2 HEAD [0, 1, 2, 7, 10, 11, 12, 39, 40, 41, 50, 51, 52] | exit 4: [0, 1, 2, 7, 10, 39, 40, 41]
/-- (*spec.gaKnown).win -/
def lb199_2 : C := .kl [67] (.seq (.reg [⟨some 53, .bin .lss (.t 52) (.t 51), none⟩]) (.seq (.cond (.t 53) (.skip) (.kl [11, 12, 50, 51, 52, 53] (.exit 4))) (.kl [53] (.seq (.blk 5 (.seq (.reg [⟨some 54, .iaddr 2 (.t 50) (.t 52), none⟩, ⟨some 55, .load true 2 (.t 54), none⟩, ⟨some 14, .new [.int .i64 0, .int .i64 0], none⟩, ⟨none, .store 2 (.t 14) (.t 55), none⟩]) (.kl [54, 55] (.seq (.reg [⟨some 56, .mov (.t 0), none⟩, ⟨some 57, .mov (.t 1), none⟩, ⟨some 58, .mov (.t 11), none⟩, ⟨some 59, .mov (.t 12), none⟩, ⟨some 60, .load true 2 (.t 14), none⟩, ⟨some 61, .call 66 [.t 59, .t 60], none⟩, ⟨some 62, .call 204 [.t 57, .t 58, .t 61], none⟩, ⟨some 63, .mov (.t 2), none⟩, ⟨some 64, .un .not (.t 63), none⟩, ⟨some 65, .call 199 [.t 56, .t 62, .t 64], none⟩, ⟨some 66, .un .not (.t 65), none⟩]) (.kl [14, 56, 57, 58, 59, 60, 61, 62, 63, 64, 65] (.cond (.t 66) (.kl [10, 11, 12, 50, 51, 52, 66] (.seq (.reg [⟨some 10, .mov (.c (.bool true)), none⟩]) (.exit 4))) (.skip))))))) (.kl [66] (.reg [⟨some 67, .bin .add (.t 52) (.c (.int .i64 1)), none⟩, ⟨some 52, .mov (.t 67), none⟩]))))))
def lp199_2 : C := lb199_2
def lb199_1 : C := .kl [69] (.seq (.reg [⟨some 42, .bin .lss (.t 41) (.t 40), none⟩]) (.seq (.cond (.t 42) (.skip) (.kl [1, 2, 39, 40, 41, 42] (.exit 2))) (.kl [42] (.seq (.blk 3 (.seq (.reg [⟨some 43, .mov (.t 41), none⟩, ⟨some 44, .iaddr 1 (.t 39) (.t 41), none⟩, ⟨some 45, .load false 1 (.t 44), none⟩, ⟨some 11, .mov (.t 43), none⟩, ⟨some 12, .mov (.t 45), none⟩]) (.kl [43, 44, 45] (.seq (.seq (.reg [⟨some 46, .mov (.t 12), none⟩, ⟨some 47, .mov (.t 2), none⟩, ⟨some 48, .mov (.t 2), none⟩, ⟨some 49, .un .not (.t 48), none⟩, ⟨some 50, .call 119 [.t 46, .t 47, .t 49], none⟩, ⟨some 51, .lenV (.t 50), none⟩, ⟨some 52, .mov (.c (.int .i64 0)), none⟩]) (.kl [46, 47, 48, 49] (.blk 4 (.loop lp199_2)))) (.seq (.reg [⟨some 68, .mov (.t 10), none⟩]) (.cond (.t 68) (.kl [1, 2, 39, 40, 41, 68] (.exit 2)) (.skip))))))) (.kl [68] (.reg [⟨some 69, .bin .add (.t 41) (.c (.int .i64 1)), none⟩, ⟨some 41, .mov (.t 69), none⟩]))))))
def lp199_1 : C := lb199_1
def lb199_0 : C := .kl [38] (.seq (.reg [⟨some 24, .bin .lss (.t 23) (.t 22), none⟩]) (.seq (.cond (.t 24) (.skip) (.kl [21, 22, 23, 24] (.exit 0))) (.kl [24] (.seq (.blk 1 (.seq (.reg [⟨some 25, .mov (.t 23), none⟩, ⟨some 26, .iaddr 1 (.t 21) (.t 23), none⟩, ⟨some 27, .load false 1 (.t 26), none⟩, ⟨some 8, .mov (.t 25), none⟩, ⟨some 9, .mov (.t 27), none⟩]) (.kl [25, 26, 27] (.seq (.reg [⟨some 28, .mov (.t 9), none⟩, ⟨some 29, .mov (.t 7), none⟩, ⟨some 30, .bin .eql (.t 28) (.t 29), none⟩]) (.kl [9, 28, 29] (.cond (.t 30) (.kl [1, 2, 7, 21, 22, 23, 30] (.seq (.reg [⟨some 31, .mov (.t 0), none⟩, ⟨some 32, .nck (.t 31), none⟩, ⟨some 33, .faddr 1 1 (.t 32), none⟩, ⟨some 34, .load false 1 (.t 33), none⟩, ⟨some 35, .mov (.t 8), none⟩, ⟨some 36, .iaddr 1 (.t 34) (.t 35), none⟩, ⟨some 37, .load false 1 (.t 36), none⟩, ⟨some 6, .mov (.t 37), none⟩]) (.kl [0, 8, 31, 32, 33, 34, 35, 36, 37] (.ret)))) (.skip))))))) (.kl [8, 30] (.reg [⟨some 38, .bin .add (.t 23) (.c (.int .i64 1)), none⟩, ⟨some 23, .mov (.t 38), none⟩]))))))
def lp199_0 : C := lb199_0
def fi199 : FI := ⟨.seq (.reg [⟨some 6, .mov (.c (.bool false)), none⟩]) (.kl [6] (.seq (.reg [⟨some 15, .mov (.t 1), none⟩, ⟨some 16, .mov (.t 2), none⟩, ⟨some 17, .call 203 [.t 15, .t 16], none⟩, ⟨some 7, .mov (.t 17), none⟩]) (.kl [15, 16, 17] (.seq (.seq (.reg [⟨some 18, .mov (.t 0), none⟩, ⟨some 19, .nck (.t 18), none⟩, ⟨some 20, .faddr 0 1 (.t 19), none⟩, ⟨some 21, .load false 1 (.t 20), none⟩, ⟨some 22, .lenV (.t 21), none⟩, ⟨some 23, .mov (.c (.int .i64 0)), none⟩]) (.kl [18, 19, 20] (.blk 0 (.loop lp199_0)))) (.seq (.reg [⟨some 10, .mov (.c (.bool false)), none⟩]) (.seq (.seq (.reg [⟨some 39, .mov (.t 1), none⟩, ⟨some 40, .lenV (.t 39), none⟩, ⟨some 41, .mov (.c (.int .i64 0)), none⟩]) (.blk 2 (.loop lp199_1))) (.seq (.reg [⟨some 70, .mov (.t 0), none⟩, ⟨some 71, .mov (.t 0), none⟩, ⟨some 72, .nck (.t 71), none⟩, ⟨some 73, .faddr 0 1 (.t 72), none⟩, ⟨some 74, .load false 1 (.t 73), none⟩, ⟨some 75, .mov (.t 7), none⟩, ⟨some 76, .lit 1 1 [.str []] [(0, 1, .t 75)], none⟩, ⟨some 77, .app 1 (.t 74) (.t 76), none⟩, ⟨some 78, .nck (.t 70), none⟩, ⟨some 79, .faddr 0 1 (.t 78), none⟩, ⟨none, .store 1 (.t 79) (.t 77), none⟩]) (.kl [7, 70, 71, 72, 73, 74, 75, 76, 77, 78, 79] (.seq (.reg [⟨some 80, .mov (.t 0), none⟩, ⟨some 81, .mov (.t 0), none⟩, ⟨some 82, .nck (.t 81), none⟩, ⟨some 83, .faddr 1 1 (.t 82), none⟩, ⟨some 84, .load false 1 (.t 83), none⟩, ⟨some 85, .mov (.t 10), none⟩, ⟨some 86, .lit 1 1 [.bool false] [(0, 1, .t 85)], none⟩, ⟨some 87, .app 1 (.t 84) (.t 86), none⟩, ⟨some 88, .nck (.t 80), none⟩, ⟨some 89, .faddr 1 1 (.t 88), none⟩, ⟨none, .store 1 (.t 89) (.t 87), none⟩]) (.kl [0, 80, 81, 82, 83, 84, 85, 86, 87, 88, 89] (.seq (.reg [⟨some 90, .mov (.t 10), none⟩, ⟨some 6, .mov (.t 90), none⟩]) (.kl [10, 90] (.ret))))))))))))), [.tmp 6]⟩
/-- spec.gaOutcome -/
def fi197 : FI := ⟨.seq (.reg [⟨some 2, .mov (.c (.str [])), none⟩]) (.kl [2] (.seq (.reg [⟨some 6, .build [.nilS, .nilS] [], none⟩, ⟨some 7, .box (.t 6), none⟩, ⟨some 3, .mov (.t 7), none⟩]) (.kl [6, 7] (.seq (.reg [⟨some 8, .mov (.t 3), none⟩, ⟨some 9, .mov (.t 0), none⟩, ⟨some 10, .call 199 [.t 8, .t 9, .c (.bool true)], none⟩, ⟨some 11, .mov (.t 3), none⟩, ⟨some 12, .mov (.t 0), none⟩, ⟨some 13, .call 199 [.t 11, .t 12, .c (.bool false)], none⟩, ⟨some 4, .mov (.t 10), none⟩, ⟨some 5, .mov (.t 13), none⟩]) (.kl [0, 3, 8, 9, 10, 11, 12, 13] (.seq (.blk 0 (.seq (.reg [⟨some 15, .mov (.t 4), none⟩, ⟨some 16, .mov (.t 15), none⟩, ⟨some 17, .mov (.t 5), some (16, true)⟩, ⟨some 18, .pick (.t 16) (.t 17) (.c (.bool false)), none⟩, ⟨some 14, .mov (.t 18), none⟩]) (.kl [15, 16, 17, 18] (.cond (.t 14) (.kl [4, 5, 14] (.seq (.reg [⟨some 2, .mov (.c (.str [49])), none⟩]) (.ret))) (.kl [14] (.seq (.reg [⟨some 20, .mov (.t 4), none⟩, ⟨some 19, .mov (.t 20), none⟩]) (.kl [4, 20] (.cond (.t 19) (.kl [5, 19] (.seq (.reg [⟨some 2, .mov (.c (.str [84])), none⟩]) (.ret))) (.kl [19] (.seq (.reg [⟨some 22, .mov (.t 5), none⟩, ⟨some 21, .mov (.t 22), none⟩]) (.kl [5, 22] (.cond (.t 21) (.kl [21] (.seq (.reg [⟨some 2, .mov (.c (.str [70])), none⟩]) (.ret))) (.skip))))))))))))) (.kl [21] (.seq (.reg [⟨some 2, .mov (.c (.str [50])), none⟩]) (.ret))))))))), [.tmp 2]⟩
-- lp104_0 HEAD [0, 3] | exit 0: [] | ret: [2]
/-- spec.liGood -/
def lb104_0 : C := .kl [12, 13] (.seq (.seq (.reg [⟨some 8, .mov (.t 3), none⟩, ⟨some 9, .mov (.t 0), none⟩, ⟨some 10, .lenS (.t 9), none⟩, ⟨some 11, .bin .lss (.t 8) (.t 10), none⟩]) (.kl [8, 9, 10] (.cond (.t 11) (.skip) (.kl [0, 3, 11] (.exit 0))))) (.kl [11] (.seq (.blk 1 (.seq (.reg [⟨some 14, .mov (.t 0), none⟩, ⟨some 15, .mov (.t 3), none⟩, ⟨some 16, .idxS (.t 14) (.t 15), none⟩, ⟨some 17, .bin .neq (.t 16) (.c (.int .u8 84)), none⟩, ⟨some 18, .mov (.t 17), none⟩, ⟨some 19, .mov (.t 0), some (18, true)⟩, ⟨some 20, .mov (.t 3), some (18, true)⟩, ⟨some 21, .idxS (.t 19) (.t 20), some (18, true)⟩, ⟨some 22, .bin .neq (.t 21) (.c (.int .u8 70)), some (18, true)⟩, ⟨some 23, .pick (.t 18) (.t 22) (.c (.bool false)), none⟩, ⟨some 24, .mov (.t 23), none⟩, ⟨some 25, .mov (.t 0), some (24, true)⟩, ⟨some 26, .mov (.t 3), some (24, true)⟩, ⟨some 27, .idxS (.t 25) (.t 26), some (24, true)⟩, ⟨some 28, .bin .neq (.t 27) (.c (.int .u8 46)), some (24, true)⟩, ⟨some 29, .pick (.t 24) (.t 28) (.c (.bool false)), none⟩]) (.kl [14, 15, 16, 17, 18, 19, 20, 21, 22, 23, 24, 25, 26, 27, 28] (.cond (.t 29) (.kl [0, 3, 29] (.seq (.reg [⟨some 2, .mov (.c (.bool false)), none⟩]) (.ret))) (.skip))))) (.kl [29] (.reg [⟨some 12, .mov (.t 3), none⟩, ⟨some 13, .bin .add (.t 12) (.c (.int .i64 1)), none⟩, ⟨some 3, .mov (.t 13), none⟩])))))
def lp104_0 : C := lb104_0
def fi104 : FI := ⟨.seq (.reg [⟨some 2, .mov (.c (.bool false)), none⟩]) (.kl [2] (.seq (.seq (.reg [⟨some 4, .mov (.t 0), none⟩, ⟨some 5, .lenS (.t 4), none⟩, ⟨some 6, .call 77 [.t 5, .c (.int .i64 1), .c (.int .i64 12)], none⟩, ⟨some 7, .un .not (.t 6), none⟩]) (.kl [4, 5, 6] (.cond (.t 7) (.kl [0, 7] (.seq (.reg [⟨some 2, .mov (.c (.bool false)), none⟩]) (.ret))) (.skip)))) (.kl [7] (.seq (.seq (.reg [⟨some 3, .mov (.c (.int .i64 0)), none⟩]) (.blk 0 (.loop lp104_0))) (.seq (.reg [⟨some 2, .mov (.c (.bool true)), none⟩]) (.ret)))))), [.tmp 2]⟩
/-- impl.count -/
def fi189 : FI := ⟨.seq (.reg [⟨some 2, .mov (.c (.int .i64 0)), none⟩, ⟨some 3, .mov (.c (.int .i64 0)), none⟩, ⟨some 4, .mov (.c (.int .i64 0)), none⟩]) (.kl [2, 3, 4] (.seq (.reg [⟨some 5, .mov (.t 0), none⟩, ⟨some 6, .call 131 [.t 5, .c (.str [84])], none⟩, ⟨some 7, .mov (.t 0), none⟩, ⟨some 8, .call 131 [.t 7, .c (.str [46])], none⟩, ⟨some 9, .mov (.t 0), none⟩, ⟨some 10, .call 131 [.t 9, .c (.str [70])], none⟩, ⟨some 2, .mov (.t 6), none⟩, ⟨some 3, .mov (.t 8), none⟩, ⟨some 4, .mov (.t 10), none⟩]) (.kl [0, 5, 6, 7, 8, 9, 10] (.ret)))), [.tmp 2, .tmp 3, .tmp 4]⟩
-- lp105_0 HEAD [0, 1, 5, 11, 12] | exit 0: [5]
/-- impl.moves -/
def lb105_0 : C := .kl [37] (.seq (.reg [⟨some 13, .bin .lss (.t 12) (.t 11), none⟩]) (.seq (.cond (.t 13) (.skip) (.kl [0, 1, 11, 12, 13] (.exit 0))) (.kl [13] (.seq (.blk 1 (.seq (.reg [⟨some 14, .mov (.t 12), none⟩, ⟨some 6, .mov (.t 14), none⟩]) (.kl [14] (.seq (.reg [⟨some 16, .mov (.t 0), none⟩, ⟨some 17, .mov (.t 6), none⟩, ⟨some 18, .call 127 [.t 16, .t 17], none⟩, ⟨some 15, .mov (.t 18), none⟩, ⟨some 19, .prj 0 (.t 15), none⟩, ⟨some 20, .prj 1 (.t 15), none⟩, ⟨some 7, .mov (.t 19), none⟩, ⟨some 8, .mov (.t 20), none⟩]) (.kl [15, 16, 17, 18, 19, 20] (.seq (.reg [⟨some 21, .mov (.t 8), none⟩, ⟨some 22, .mov (.t 21), none⟩, ⟨some 23, .mov (.t 1), some (22, true)⟩, ⟨some 24, .mov (.t 0), some (22, true)⟩, ⟨some 25, .mov (.t 6), some (22, true)⟩, ⟨some 26, .mov (.t 6), some (22, true)⟩, ⟨some 27, .bin .add (.t 26) (.c (.int .i64 1)), some (22, true)⟩, ⟨some 28, .subS (.t 24) (some (.t 25)) (some (.t 27)), some (22, true)⟩, ⟨some 29, .call 126 [.t 23, .t 28], some (22, true)⟩, ⟨some 30, .pick (.t 22) (.t 29) (.c (.bool false)), none⟩]) (.kl [8, 21, 22, 23, 24, 25, 26, 27, 28, 29] (.cond (.t 30) (.kl [30] (.reg [⟨some 31, .mov (.t 5), none⟩, ⟨some 32, .mov (.t 6), none⟩, ⟨some 33, .mov (.t 7), none⟩, ⟨some 34, .build [.int .i64 0, .int .i64 0] [(0, 1, .t 32), (1, 1, .t 33)], none⟩, ⟨some 35, .lit 2 1 [.int .i64 0, .int .i64 0] [(0, 2, .t 34)], none⟩, ⟨some 36, .app 2 (.t 31) (.t 35), none⟩, ⟨some 5, .mov (.t 36), none⟩])) (.skip))))))))) (.kl [6, 7, 30, 31, 32, 33, 34, 35, 36] (.reg [⟨some 37, .bin .add (.t 12) (.c (.int .i64 1)), none⟩, ⟨some 12, .mov (.t 37), none⟩]))))))
def lp105_0 : C := lb105_0
def fi105 : FI := ⟨.seq (.reg [⟨some 4, .mov (.c (.nilS)), none⟩]) (.kl [4] (.seq (.reg [⟨some 9, .lit0, none⟩, ⟨some 5, .mov (.t 9), none⟩]) (.kl [9] (.seq (.seq (.reg [⟨some 10, .mov (.t 0), none⟩, ⟨some 11, .lenS (.t 10), none⟩, ⟨some 12, .mov (.c (.int .i64 0)), none⟩]) (.kl [10] (.blk 0 (.loop lp105_0)))) (.seq (.reg [⟨some 38, .mov (.t 5), none⟩, ⟨some 4, .mov (.t 38), none⟩]) (.kl [5, 38] (.ret))))))), [.tmp 4]⟩
/-- spec.pzValue -/
def fi188 : FI := ⟨.seq (.reg [⟨some 6, .mov (.c (.int .i64 0)), none⟩]) (.kl [6] (.seq (.seq (.reg [⟨some 7, .mov (.t 0), none⟩]) (.kl [0] (.blk 0 (.seq (.reg [⟨some 9, .bin .eql (.t 7) (.c (.int .i64 0)), none⟩, ⟨some 8, .mov (.t 9), none⟩]) (.kl [9] (.cond (.t 8) (.kl [7, 8] (.seq (.reg [⟨some 10, .mov (.t 2), none⟩, ⟨some 11, .mov (.t 1), none⟩, ⟨some 12, .mov (.t 1), none⟩, ⟨some 13, .bin .add (.t 12) (.c (.int .i64 1)), none⟩, ⟨some 14, .subS (.t 10) (some (.t 11)) (some (.t 13)), none⟩, ⟨some 15, .call 195 [.c (.str [46, 70, 84]), .t 14], none⟩, ⟨some 6, .mov (.t 15), none⟩]) (.kl [1, 2, 10, 11, 12, 13, 14, 15] (.ret)))) (.kl [1, 8] (.seq (.reg [⟨some 17, .bin .eql (.t 7) (.c (.int .i64 1)), none⟩, ⟨some 16, .mov (.t 17), none⟩]) (.kl [17] (.cond (.t 16) (.kl [7, 16] (.seq (.reg [⟨some 18, .mov (.t 2), none⟩, ⟨some 19, .call 116 [.t 18, .c (.int .u8 84)], none⟩, ⟨some 6, .mov (.t 19), none⟩]) (.kl [2, 18, 19] (.ret)))) (.kl [16] (.seq (.reg [⟨some 21, .bin .eql (.t 7) (.c (.int .i64 2)), none⟩, ⟨some 20, .mov (.t 21), none⟩]) (.kl [21] (.cond (.t 20) (.kl [7, 20] (.seq (.reg [⟨some 22, .mov (.t 2), none⟩, ⟨some 23, .call 116 [.t 22, .c (.int .u8 70)], none⟩, ⟨some 6, .mov (.t 23), none⟩]) (.kl [2, 22, 23] (.ret)))) (.kl [20] (.seq (.reg [⟨some 25, .bin .eql (.t 7) (.c (.int .i64 3)), none⟩, ⟨some 24, .mov (.t 25), none⟩]) (.kl [25] (.cond (.t 24) (.kl [7, 24] (.seq (.reg [⟨some 26, .mov (.t 2), none⟩, ⟨some 27, .call 119 [.t 26, .c (.bool true), .c (.bool true)], none⟩, ⟨some 28, .lenV (.t 27), none⟩, ⟨some 6, .mov (.t 28), none⟩]) (.kl [2, 26, 27, 28] (.ret)))) (.kl [24] (.seq (.reg [⟨some 30, .bin .eql (.t 7) (.c (.int .i64 4)), none⟩, ⟨some 29, .mov (.t 30), none⟩]) (.kl [7, 30] (.cond (.t 29) (.kl [29] (.seq (.reg [⟨some 31, .mov (.t 2), none⟩, ⟨some 32, .call 196 [.t 31], none⟩, ⟨some 6, .mov (.t 32), none⟩]) (.kl [2, 31, 32] (.ret)))) (.skip))))))))))))))))))))))) (.kl [29] (.seq (.reg [⟨some 33, .mov (.t 2), none⟩, ⟨some 34, .lit 1 1 [.str []] [(0, 1, .t 33)], none⟩, ⟨some 35, .call 197 [.t 34], none⟩, ⟨some 36, .call 195 [.c (.str [49, 50, 70, 84]), .t 35], none⟩, ⟨some 6, .mov (.t 36), none⟩]) (.kl [2, 33, 34, 35, 36] (.ret)))))), [.tmp 6]⟩
-- lp178_0 HEAD [3, 10, 11] | exit 0: [3] | exit 2: [4, 10, 11] | exit 4: [4, 10, 11, 14, 15, 16]
-- lp178_1 HEAD [4, 10, 11, 14, 15, 16] | exit 2: [4, 10, 11] | exit 4: [4, 10, 11, 14, 15, 16]
-- lp178_2 HEAD [4, 6, 10, 11, 14, 15, 16, 20] | exit 4: [4, 10, 11, 14, 15, 16]
/-- impl.hidden -/
def lb178_2 : C := .kl [8, 24, 25, 26, 27, 28, 29, 30] (.seq (.reg [⟨some 21, .nxt (.t 20), none⟩, ⟨some 22, .prj 0 (.t 21), none⟩]) (.seq (.cond (.t 22) (.skip) (.kl [6, 20, 21, 22] (.exit 4))) (.kl [22] (.blk 5 (.seq (.reg [⟨some 23, .prj 2 (.t 21), none⟩, ⟨some 8, .mov (.t 23), none⟩]) (.kl [21, 23] (.reg [⟨some 24, .mov (.t 4), none⟩, ⟨some 25, .mov (.t 6), none⟩, ⟨some 26, .mov (.t 8), none⟩, ⟨some 27, .ofR (.t 26), none⟩, ⟨some 28, .bin .add (.t 25) (.t 27), none⟩, ⟨some 29, .lit 1 1 [.str []] [(0, 1, .t 28)], none⟩, ⟨some 30, .app 1 (.t 24) (.t 29), none⟩, ⟨some 4, .mov (.t 30), none⟩])))))))
def lp178_2 : C := lb178_2
def lb178_1 : C := .kl [31] (.seq (.reg [⟨some 17, .bin .lss (.t 16) (.t 15), none⟩]) (.seq (.cond (.t 17) (.skip) (.kl [14, 15, 16, 17] (.exit 2))) (.kl [17] (.seq (.blk 3 (.seq (.reg [⟨some 18, .iaddr 1 (.t 14) (.t 16), none⟩, ⟨some 19, .load false 1 (.t 18), none⟩, ⟨some 6, .mov (.t 19), none⟩]) (.kl [18, 19] (.seq (.reg [⟨some 20, .rng (.c (.str [46, 70, 84])), none⟩]) (.blk 4 (.loop lp178_2)))))) (.reg [⟨some 31, .bin .add (.t 16) (.c (.int .i64 1)), none⟩, ⟨some 16, .mov (.t 31), none⟩])))))
def lp178_1 : C := lb178_1
def lb178_0 : C := .kl [33] (.seq (.reg [⟨some 12, .bin .lss (.t 11) (.t 10), none⟩]) (.seq (.cond (.t 12) (.skip) (.kl [10, 11, 12] (.exit 0))) (.kl [12] (.seq (.blk 1 (.seq (.reg [⟨some 13, .lit0, none⟩, ⟨some 4, .mov (.t 13), none⟩]) (.kl [13] (.seq (.seq (.reg [⟨some 14, .mov (.t 3), none⟩, ⟨some 15, .lenV (.t 14), none⟩, ⟨some 16, .mov (.c (.int .i64 0)), none⟩]) (.kl [3] (.blk 2 (.loop lp178_1)))) (.reg [⟨some 32, .mov (.t 4), none⟩, ⟨some 3, .mov (.t 32), none⟩]))))) (.kl [4, 32] (.reg [⟨some 33, .bin .add (.t 11) (.c (.int .i64 1)), none⟩, ⟨some 11, .mov (.t 33), none⟩]))))))
def lp178_0 : C := lb178_0
def fi178 : FI := ⟨.seq (.reg [⟨some 2, .mov (.c (.nilS)), none⟩]) (.kl [2] (.seq (.reg [⟨some 9, .lit 1 1 [.str []] [(0, 1, .c (.str []))], none⟩, ⟨some 3, .mov (.t 9), none⟩]) (.kl [9] (.seq (.seq (.reg [⟨some 10, .mov (.t 0), none⟩, ⟨some 11, .mov (.c (.int .i64 0)), none⟩]) (.kl [0] (.blk 0 (.loop lp178_0)))) (.seq (.reg [⟨some 34, .mov (.t 3), none⟩, ⟨some 2, .mov (.t 34), none⟩]) (.kl [3, 34] (.ret))))))), [.tmp 2]⟩
-- lp180_0 HEAD [0, 1, 5, 6] | exit 0: [0, 5]
/-- slices.DeleteFunc[[]string,string] -/
def lb180_0 : C := .kl [20, 21] (.seq (.seq (.reg [⟨some 16, .mov (.t 6), none⟩, ⟨some 17, .mov (.t 0), none⟩, ⟨some 18, .lenV (.t 17), none⟩, ⟨some 19, .bin .lss (.t 16) (.t 18), none⟩]) (.kl [16, 17, 18] (.cond (.t 19) (.skip) (.kl [1, 6, 19] (.exit 0))))) (.kl [19] (.seq (.blk 1 (.seq (.reg [⟨some 22, .mov (.t 0), none⟩, ⟨some 23, .mov (.t 6), none⟩, ⟨some 24, .iaddr 1 (.t 22) (.t 23), none⟩, ⟨some 25, .load false 1 (.t 24), none⟩, ⟨some 7, .mov (.t 25), none⟩]) (.kl [22, 23, 24, 25] (.seq (.reg [⟨some 26, .mov (.t 1), none⟩, ⟨some 27, .mov (.t 7), none⟩, ⟨some 28, .callv (.t 26) [.t 27], none⟩, ⟨some 29, .un .not (.t 28), none⟩]) (.kl [26, 27, 28] (.cond (.t 29) (.kl [29] (.seq (.reg [⟨some 30, .mov (.t 0), none⟩, ⟨some 31, .mov (.t 5), none⟩, ⟨some 32, .mov (.t 7), none⟩, ⟨some 33, .iaddr 1 (.t 30) (.t 31), none⟩, ⟨none, .store 1 (.t 33) (.t 32), none⟩]) (.kl [7, 30, 31, 32, 33] (.reg [⟨some 34, .mov (.t 5), none⟩, ⟨some 35, .bin .add (.t 34) (.c (.int .i64 1)), none⟩, ⟨some 5, .mov (.t 35), none⟩])))) (.skip))))))) (.kl [7, 29, 34, 35] (.reg [⟨some 20, .mov (.t 6), none⟩, ⟨some 21, .bin .add (.t 20) (.c (.int .i64 1)), none⟩, ⟨some 6, .mov (.t 21), none⟩])))))
def lp180_0 : C := lb180_0
def fi180 : FI := ⟨.seq (.reg [⟨some 4, .mov (.c (.nilS)), none⟩]) (.kl [4] (.seq (.reg [⟨some 8, .mov (.t 0), none⟩, ⟨some 9, .mov (.t 1), none⟩, ⟨some 10, .call 184 [.t 8, .t 9], none⟩, ⟨some 5, .mov (.t 10), none⟩]) (.kl [8, 9, 10] (.seq (.seq (.reg [⟨some 11, .mov (.t 5), none⟩, ⟨some 12, .bin .eql (.t 11) (.c (.int .i64 (-1))), none⟩]) (.kl [11] (.cond (.t 12) (.kl [1, 5, 12] (.seq (.reg [⟨some 13, .mov (.t 0), none⟩, ⟨some 4, .mov (.t 13), none⟩]) (.kl [0, 13] (.ret)))) (.skip)))) (.kl [12] (.seq (.seq (.reg [⟨some 14, .mov (.t 5), none⟩, ⟨some 15, .bin .add (.t 14) (.c (.int .i64 1)), none⟩, ⟨some 6, .mov (.t 15), none⟩]) (.kl [14, 15] (.blk 0 (.loop lp180_0)))) (.seq (.reg [⟨some 36, .mov (.t 0), none⟩, ⟨some 37, .mov (.t 5), none⟩, ⟨some 38, .sub 1 (.t 36) (some (.t 37)) none, none⟩, ⟨none, .clr [.str []] (.t 38), none⟩]) (.kl [36, 37, 38] (.seq (.reg [⟨some 39, .mov (.t 0), none⟩, ⟨some 40, .mov (.t 5), none⟩, ⟨some 41, .sub 1 (.t 39) none (some (.t 40)), none⟩, ⟨some 4, .mov (.t 41), none⟩]) (.kl [0, 5, 39, 40, 41] (.ret))))))))))), [.tmp 4]⟩
/-- impl.solve$1 -/
def fi179 : FI := ⟨.seq (.reg [⟨some 3, .mov (.c (.bool false)), none⟩]) (.kl [3] (.seq (.reg [⟨some 7, .load true 3 (.t 1), none⟩, ⟨some 8, .mov (.t 0), none⟩, ⟨some 9, .call 185 [.t 7, .t 8], none⟩, ⟨some 6, .mov (.t 9), none⟩, ⟨some 10, .prj 0 (.t 6), none⟩, ⟨some 11, .prj 1 (.t 6), none⟩, ⟨some 4, .mov (.t 10), none⟩, ⟨some 5, .mov (.t 11), none⟩]) (.kl [0, 1, 5, 6, 7, 8, 9, 10, 11] (.seq (.reg [⟨some 12, .mov (.t 4), none⟩, ⟨some 13, .un .not (.t 12), none⟩, ⟨some 3, .mov (.t 13), none⟩]) (.kl [4, 12, 13] (.ret)))))), [.tmp 3]⟩
-- lp182_0 HEAD [0, 1, 7, 8] | exit 0: [] | ret: [4]
/-- slices.IndexFunc[[]impl.Clue,impl.Clue] -/
def lb182_0 : C := .kl [18] (.seq (.reg [⟨some 9, .bin .lss (.t 8) (.t 7), none⟩]) (.seq (.cond (.t 9) (.skip) (.kl [0, 1, 7, 8, 9] (.exit 0))) (.kl [9] (.seq (.blk 1 (.seq (.reg [⟨some 10, .mov (.t 8), none⟩, ⟨some 5, .mov (.t 10), none⟩]) (.kl [10] (.seq (.reg [⟨some 11, .mov (.t 1), none⟩, ⟨some 12, .mov (.t 0), none⟩, ⟨some 13, .mov (.t 5), none⟩, ⟨some 14, .iaddr 3 (.t 12) (.t 13), none⟩, ⟨some 15, .load true 3 (.t 14), none⟩, ⟨some 16, .callv (.t 11) [.t 15], none⟩]) (.kl [11, 12, 13, 14, 15] (.cond (.t 16) (.kl [0, 1, 7, 8, 16] (.seq (.reg [⟨some 17, .mov (.t 5), none⟩, ⟨some 4, .mov (.t 17), none⟩]) (.kl [5, 17] (.ret)))) (.skip))))))) (.kl [5, 16] (.reg [⟨some 18, .bin .add (.t 8) (.c (.int .i64 1)), none⟩, ⟨some 8, .mov (.t 18), none⟩]))))))
def lp182_0 : C := lb182_0
def fi182 : FI := ⟨.seq (.reg [⟨some 4, .mov (.c (.int .i64 0)), none⟩]) (.kl [4] (.seq (.seq (.reg [⟨some 6, .mov (.t 0), none⟩, ⟨some 7, .lenV (.t 6), none⟩, ⟨some 8, .mov (.c (.int .i64 0)), none⟩]) (.kl [6] (.blk 0 (.loop lp182_0)))) (.seq (.reg [⟨some 4, .mov (.c (.int .i64 (-1))), none⟩]) (.ret)))), [.tmp 4]⟩
/-- spec.pzAll -/
def fi161 : FI := ⟨.seq (.reg [⟨some 4, .mov (.c (.nilS)), none⟩]) (.kl [4] (.seq (.reg [⟨some 5, .new [.nilS], none⟩]) (.seq (.reg [⟨some 6, .mov (.t 0), none⟩, ⟨some 7, .mov (.t 1), none⟩, ⟨some 8, .call 173 [.t 6, .t 7, .c (.str []), .t 5], none⟩]) (.kl [0, 1, 6, 7, 8] (.seq (.reg [⟨some 9, .load false 1 (.t 5), none⟩, ⟨some 4, .mov (.t 9), none⟩]) (.kl [5, 9] (.ret))))))), [.tmp 4]⟩
/-- impl.other -/
def fi109 : FI := ⟨.seq (.reg [⟨some 2, .mov (.c (.int .u8 0)), none⟩]) (.kl [2] (.seq (.seq (.reg [⟨some 3, .mov (.t 0), none⟩]) (.blk 0 (.seq (.reg [⟨some 5, .bin .eql (.t 3) (.c (.int .u8 84)), none⟩, ⟨some 4, .mov (.t 5), none⟩]) (.kl [5] (.cond (.t 4) (.kl [0, 3, 4] (.seq (.reg [⟨some 2, .mov (.c (.int .u8 70)), none⟩]) (.ret))) (.kl [4] (.seq (.reg [⟨some 7, .bin .eql (.t 3) (.c (.int .u8 70)), none⟩, ⟨some 6, .mov (.t 7), none⟩]) (.kl [3, 7] (.cond (.t 6) (.kl [0, 6] (.seq (.reg [⟨some 2, .mov (.c (.int .u8 84)), none⟩]) (.ret))) (.skip)))))))))) (.kl [6] (.seq (.reg [⟨some 8, .mov (.t 0), none⟩, ⟨some 2, .mov (.t 8), none⟩]) (.kl [0, 8] (.ret)))))), [.tmp 2]⟩
/-- impl.kindOf -/
def fi200 : FI := ⟨.seq (.reg [⟨some 2, .mov (.c (.str [])), none⟩]) (.kl [2] (.seq (.seq (.reg [⟨some 3, .mov (.t 0), none⟩]) (.kl [0] (.cond (.t 3) (.kl [3] (.seq (.reg [⟨some 2, .mov (.c (.str [84])), none⟩]) (.ret))) (.skip)))) (.kl [3] (.seq (.reg [⟨some 2, .mov (.c (.str [70])), none⟩]) (.ret))))), [.tmp 2]⟩
/-- slices.ContainsFunc[[]impl.Move,impl.Move] -/
def fi202 : FI := ⟨.seq (.reg [⟨some 4, .mov (.c (.bool false)), none⟩]) (.kl [4] (.seq (.reg [⟨some 5, .mov (.t 0), none⟩, ⟨some 6, .mov (.t 1), none⟩, ⟨some 7, .call 205 [.t 5, .t 6], none⟩, ⟨some 8, .bin .geq (.t 7) (.c (.int .i64 0)), none⟩, ⟨some 4, .mov (.t 8), none⟩]) (.kl [0, 1, 5, 6, 7, 8] (.ret)))), [.tmp 4]⟩
/-- (impl.games).win$1 -/
def fi201 : FI := ⟨.seq (.reg [⟨some 4, .box (.t 0), none⟩, ⟨some 5, .mov (.c (.bool false)), none⟩]) (.kl [0, 5] (.seq (.drw [⟨some 6, .load true 1 (.t 1), none⟩, ⟨some 7, .load false 1 (.t 2), none⟩, ⟨some 8, .load true 2 (.t 4), none⟩, ⟨some 9, .call 61 [.t 7, .t 8], none⟩, ⟨some 10, .load false 1 (.t 3), none⟩, ⟨some 11, .un .not (.t 10), none⟩, ⟨some 12, .call 198 [.t 6, .t 9, .t 11], none⟩, ⟨some 13, .un .not (.t 12), none⟩, ⟨some 5, .mov (.t 13), none⟩] [(0, 3), (4, 3)]) (.kl [1, 2, 3, 4, 6, 7, 8, 9, 10, 11, 12, 13] (.ret)))), [.tmp 5]⟩
/-- impl.made -/
def fi61 : FI := ⟨.seq (.reg [⟨some 3, .box (.t 1), none⟩, ⟨some 4, .mov (.c (.str [])), none⟩]) (.kl [1, 4] (.seq (.reg [⟨some 6, .mov (.t 0), none⟩, ⟨some 7, .toB (.t 6), none⟩, ⟨some 5, .mov (.t 7), none⟩]) (.kl [0, 6, 7] (.seq (.drw [⟨some 8, .mov (.t 5), none⟩, ⟨some 9, .faddr 1 1 (.t 3), none⟩, ⟨some 10, .load false 1 (.t 9), none⟩, ⟨some 11, .mov (.t 5), none⟩, ⟨some 12, .faddr 0 1 (.t 3), none⟩, ⟨some 13, .load false 1 (.t 12), none⟩, ⟨some 14, .mov (.t 5), none⟩, ⟨some 15, .faddr 0 1 (.t 3), none⟩, ⟨some 16, .load false 1 (.t 15), none⟩, ⟨some 17, .iaddr 1 (.t 14) (.t 16), none⟩, ⟨some 18, .load false 1 (.t 17), none⟩, ⟨some 19, .iaddr 1 (.t 8) (.t 10), none⟩, ⟨none, .store 1 (.t 19) (.t 18), none⟩, ⟨some 20, .iaddr 1 (.t 11) (.t 13), none⟩, ⟨none, .store 1 (.t 20) (.c (.int .u8 46)), none⟩] [(5, 12)]) (.kl [3, 8, 9, 10, 11, 12, 13, 14, 15, 16, 17, 18, 19, 20] (.seq (.reg [⟨some 21, .mov (.t 5), none⟩, ⟨some 22, .ofB (.t 21), none⟩, ⟨some 4, .mov (.t 22), none⟩]) (.kl [5, 21, 22] (.ret)))))))), [.tmp 4]⟩
-- lp203_0 HEAD [5, 9, 10, 11] | exit 0: [5]
/-- spec.gaKey -/
def lb203_0 : C := .kl [19] (.seq (.reg [⟨some 12, .bin .lss (.t 11) (.t 10), none⟩]) (.seq (.cond (.t 12) (.skip) (.kl [9, 10, 11, 12] (.exit 0))) (.kl [12] (.seq (.blk 1 (.seq (.reg [⟨some 13, .iaddr 1 (.t 9) (.t 11), none⟩, ⟨some 14, .load false 1 (.t 13), none⟩, ⟨some 7, .mov (.t 14), none⟩]) (.kl [13, 14] (.reg [⟨some 15, .mov (.t 5), none⟩, ⟨some 16, .mov (.t 7), none⟩, ⟨some 17, .bin .add (.c (.str [47])) (.t 16), none⟩, ⟨some 18, .bin .add (.t 15) (.t 17), none⟩, ⟨some 5, .mov (.t 18), none⟩])))) (.kl [7, 15, 16, 17, 18] (.reg [⟨some 19, .bin .add (.t 11) (.c (.int .i64 1)), none⟩, ⟨some 11, .mov (.t 19), none⟩]))))))
def lp203_0 : C := lb203_0
def fi203 : FI := ⟨.seq (.reg [⟨some 4, .mov (.c (.str [])), none⟩]) (.kl [4] (.seq (.reg [⟨some 5, .mov (.c (.str [102])), none⟩]) (.seq (.seq (.reg [⟨some 8, .mov (.t 1), none⟩]) (.kl [1] (.cond (.t 8) (.kl [5, 8] (.reg [⟨some 5, .mov (.c (.str [116])), none⟩])) (.skip)))) (.kl [8] (.seq (.seq (.reg [⟨some 9, .mov (.t 0), none⟩, ⟨some 10, .lenV (.t 9), none⟩, ⟨some 11, .mov (.c (.int .i64 0)), none⟩]) (.kl [0] (.blk 0 (.loop lp203_0)))) (.seq (.reg [⟨some 20, .mov (.t 5), none⟩, ⟨some 4, .mov (.t 20), none⟩]) (.kl [5, 20] (.ret)))))))), [.tmp 4]⟩
-- lp119_0 HEAD [0, 1, 2, 7, 12] | exit 0: [7] | exit 1: [0, 1, 2, 7, 12] | exit 2: [0, 1, 2, 7, 12]
-- lp119_1 HEAD [0, 1, 2, 7, 8, 9, 12] | exit 2: [0, 1, 2, 7, 12]
/-- spec.liMoves -/
def lb119_1 : C := .kl [40, 41] (.seq (.seq (.reg [⟨some 36, .mov (.t 9), none⟩, ⟨some 37, .mov (.t 8), none⟩, ⟨some 38, .bin .add (.t 37) (.c (.int .i64 2)), none⟩, ⟨some 39, .bin .leq (.t 36) (.t 38), none⟩]) (.kl [36, 37, 38] (.cond (.t 39) (.skip) (.kl [8, 9, 39] (.exit 2))))) (.kl [39] (.seq (.blk 3 (.seq (.reg [⟨some 42, .mov (.t 8), none⟩, ⟨some 43, .mov (.t 9), none⟩, ⟨some 44, .build [.int .i64 0, .int .i64 0] [(0, 1, .t 42), (1, 1, .t 43)], none⟩, ⟨some 10, .new [.int .i64 0, .int .i64 0], none⟩, ⟨none, .store 2 (.t 10) (.t 44), none⟩]) (.kl [42, 43, 44] (.seq (.reg [⟨some 45, .mov (.t 0), none⟩, ⟨some 46, .load true 2 (.t 10), none⟩, ⟨some 47, .call 130 [.t 45, .t 46], none⟩]) (.kl [45, 46] (.cond (.t 47) (.kl [47] (.reg [⟨some 48, .mov (.t 7), none⟩, ⟨some 49, .load true 2 (.t 10), none⟩, ⟨some 50, .lit 2 1 [.int .i64 0, .int .i64 0] [(0, 2, .t 49)], none⟩, ⟨some 51, .app 2 (.t 48) (.t 50), none⟩, ⟨some 7, .mov (.t 51), none⟩])) (.skip))))))) (.kl [10, 47, 48, 49, 50, 51] (.reg [⟨some 40, .mov (.t 9), none⟩, ⟨some 41, .bin .add (.t 40) (.c (.int .i64 1)), none⟩, ⟨some 9, .mov (.t 41), none⟩])))))
def lp119_1 : C := lb119_1
def lb119_0 : C := .kl [] (.seq (.reg [⟨some 13, .nxt (.t 12), none⟩, ⟨some 14, .prj 0 (.t 13), none⟩]) (.seq (.cond (.t 14) (.skip) (.kl [0, 1, 2, 12, 13, 14] (.exit 0))) (.kl [14] (.blk 1 (.seq (.reg [⟨some 15, .prj 1 (.t 13), none⟩, ⟨some 8, .mov (.t 15), none⟩]) (.kl [13, 15] (.seq (.seq (.reg [⟨some 16, .mov (.t 0), none⟩, ⟨some 17, .mov (.t 8), none⟩, ⟨some 18, .idxS (.t 16) (.t 17), none⟩, ⟨some 19, .bin .eql (.t 18) (.c (.int .u8 84)), none⟩, ⟨some 20, .mov (.t 19), none⟩, ⟨some 21, .mov (.t 1), some (20, true)⟩, ⟨some 22, .un .not (.t 21), some (20, true)⟩, ⟨some 23, .pick (.t 20) (.t 22) (.c (.bool false)), none⟩, ⟨some 24, .mov (.t 23), none⟩, ⟨some 25, .mov (.t 0), some (24, false)⟩, ⟨some 26, .mov (.t 8), some (24, false)⟩, ⟨some 27, .idxS (.t 25) (.t 26), some (24, false)⟩, ⟨some 28, .bin .eql (.t 27) (.c (.int .u8 70)), some (24, false)⟩, ⟨some 29, .mov (.t 28), some (24, false)⟩, ⟨some 30, .mov (.t 2), some (29, true)⟩, ⟨some 31, .un .not (.t 30), some (29, true)⟩, ⟨some 32, .pick (.t 29) (.t 31) (.c (.bool false)), some (24, false)⟩, ⟨some 33, .pick (.t 24) (.c (.bool true)) (.t 32), none⟩]) (.kl [16, 17, 18, 19, 20, 21, 22, 23, 24, 25, 26, 27, 28, 29, 30, 31, 32] (.cond (.t 33) (.kl [8, 33] (.exit 1)) (.skip)))) (.kl [33] (.seq (.reg [⟨some 34, .mov (.t 8), none⟩, ⟨some 35, .bin .sub (.t 34) (.c (.int .i64 2)), none⟩, ⟨some 9, .mov (.t 35), none⟩]) (.kl [34, 35] (.blk 2 (.loop lp119_1))))))))))))
def lp119_0 : C := lb119_0
def fi119 : FI := ⟨.seq (.reg [⟨some 6, .mov (.c (.nilS)), none⟩]) (.kl [6] (.seq (.reg [⟨some 7, .mov (.c (.nilS)), none⟩]) (.seq (.seq (.reg [⟨some 11, .mov (.t 0), none⟩, ⟨some 12, .rng (.t 11), none⟩]) (.kl [11] (.blk 0 (.loop lp119_0)))) (.seq (.reg [⟨some 52, .mov (.t 7), none⟩, ⟨some 6, .mov (.t 52), none⟩]) (.kl [7, 52] (.ret)))))), [.tmp 6]⟩
/-- spec.gaWith -/
def fi204 : FI := ⟨.seq (.reg [⟨some 6, .mov (.c (.nilS)), none⟩]) (.kl [6] (.seq (.reg [⟨some 8, .mov (.t 0), none⟩, ⟨some 9, .call 206 [.t 8], none⟩, ⟨some 7, .mov (.t 9), none⟩]) (.kl [0, 8, 9] (.seq (.reg [⟨some 10, .mov (.t 7), none⟩, ⟨some 11, .mov (.t 1), none⟩, ⟨some 12, .mov (.t 2), none⟩, ⟨some 13, .iaddr 1 (.t 10) (.t 11), none⟩, ⟨none, .store 1 (.t 13) (.t 12), none⟩]) (.kl [1, 2, 10, 11, 12, 13] (.seq (.reg [⟨some 14, .mov (.t 7), none⟩, ⟨some 6, .mov (.t 14), none⟩]) (.kl [7, 14] (.ret)))))))), [.tmp 6]⟩
/-- spec.liMake -/
def fi66 : FI := ⟨.seq (.reg [⟨some 3, .box (.t 1), none⟩, ⟨some 4, .mov (.c (.str [])), none⟩]) (.kl [1, 4] (.seq (.reg [⟨some 6, .mov (.t 0), none⟩, ⟨some 7, .faddr 0 1 (.t 3), none⟩, ⟨some 8, .load false 1 (.t 7), none⟩, ⟨some 9, .faddr 0 1 (.t 3), none⟩, ⟨some 10, .load false 1 (.t 9), none⟩, ⟨some 11, .bin .add (.t 10) (.c (.int .i64 1)), none⟩, ⟨some 12, .subS (.t 6) (some (.t 8)) (some (.t 11)), none⟩, ⟨some 5, .mov (.t 12), none⟩]) (.kl [6, 7, 8, 9, 10, 11, 12] (.seq (.drw [⟨some 13, .mov (.t 0), none⟩, ⟨some 14, .faddr 0 1 (.t 3), none⟩, ⟨some 15, .load false 1 (.t 14), none⟩, ⟨some 16, .call 108 [.t 13, .t 15, .c (.str [46])], none⟩, ⟨some 17, .faddr 1 1 (.t 3), none⟩, ⟨some 18, .load false 1 (.t 17), none⟩, ⟨some 19, .mov (.t 5), none⟩, ⟨some 20, .call 108 [.t 16, .t 18, .t 19], none⟩, ⟨some 4, .mov (.t 20), none⟩] [(5, 3)]) (.kl [0, 3, 5, 13, 14, 15, 16, 17, 18, 19, 20] (.ret)))))), [.tmp 4]⟩
-- lp116_0 HEAD [0, 1, 5, 6] | exit 0: [5]
/-- spec.liCount -/
def lb116_0 : C := .kl [11, 12] (.seq (.seq (.reg [⟨some 7, .mov (.t 6), none⟩, ⟨some 8, .mov (.t 0), none⟩, ⟨some 9, .lenS (.t 8), none⟩, ⟨some 10, .bin .lss (.t 7) (.t 9), none⟩]) (.kl [7, 8, 9] (.cond (.t 10) (.skip) (.kl [0, 1, 6, 10] (.exit 0))))) (.kl [10] (.seq (.blk 1 (.seq (.reg [⟨some 13, .mov (.t 0), none⟩, ⟨some 14, .mov (.t 6), none⟩, ⟨some 15, .idxS (.t 13) (.t 14), none⟩, ⟨some 16, .mov (.t 1), none⟩, ⟨some 17, .bin .eql (.t 15) (.t 16), none⟩]) (.kl [13, 14, 15, 16] (.cond (.t 17) (.kl [17] (.reg [⟨some 18, .mov (.t 5), none⟩, ⟨some 19, .bin .add (.t 18) (.c (.int .i64 1)), none⟩, ⟨some 5, .mov (.t 19), none⟩])) (.skip))))) (.kl [17, 18, 19] (.reg [⟨some 11, .mov (.t 6), none⟩, ⟨some 12, .bin .add (.t 11) (.c (.int .i64 1)), none⟩, ⟨some 6, .mov (.t 12), none⟩])))))
def lp116_0 : C := lb116_0
def fi116 : FI := ⟨.seq (.reg [⟨some 4, .mov (.c (.int .i64 0)), none⟩]) (.kl [4] (.seq (.reg [⟨some 5, .mov (.c (.int .i64 0)), none⟩]) (.seq (.seq (.reg [⟨some 6, .mov (.c (.int .i64 0)), none⟩]) (.blk 0 (.loop lp116_0))) (.seq (.reg [⟨some 20, .mov (.t 5), none⟩, ⟨some 4, .mov (.t 20), none⟩]) (.kl [5, 20] (.ret)))))), [.tmp 4]⟩
/-- spec.liPut -/
def fi108 : FI := ⟨.seq (.reg [⟨some 6, .mov (.c (.str [])), none⟩]) (.kl [6] (.seq (.drw [⟨some 7, .mov (.t 0), none⟩, ⟨some 8, .mov (.t 1), none⟩, ⟨some 9, .subS (.t 7) none (some (.t 8)), none⟩, ⟨some 10, .mov (.t 2), none⟩, ⟨some 11, .bin .add (.t 9) (.t 10), none⟩, ⟨some 12, .mov (.t 0), none⟩, ⟨some 13, .mov (.t 1), none⟩, ⟨some 14, .bin .add (.t 13) (.c (.int .i64 1)), none⟩, ⟨some 15, .subS (.t 12) (some (.t 14)) none, none⟩, ⟨some 16, .bin .add (.t 11) (.t 15), none⟩, ⟨some 6, .mov (.t 16), none⟩] []) (.kl [0, 1, 2, 7, 8, 9, 10, 11, 12, 13, 14, 15, 16] (.ret)))), [.tmp 6]⟩
/-- impl.stepOf -/
def fi103 : FI := ⟨.seq (.reg [⟨some 2, .mov (.c (.int .i64 0)), none⟩]) (.kl [2] (.seq (.seq (.reg [⟨some 3, .mov (.t 0), none⟩]) (.kl [0] (.blk 0 (.seq (.reg [⟨some 5, .bin .eql (.t 3) (.c (.int .u8 84)), none⟩, ⟨some 4, .mov (.t 5), none⟩]) (.kl [5] (.cond (.t 4) (.kl [3, 4] (.seq (.reg [⟨some 2, .mov (.c (.int .i64 1)), none⟩]) (.ret))) (.kl [4] (.seq (.reg [⟨some 7, .bin .eql (.t 3) (.c (.int .u8 70)), none⟩, ⟨some 6, .mov (.t 7), none⟩]) (.kl [3, 7] (.cond (.t 6) (.kl [6] (.seq (.reg [⟨some 2, .mov (.c (.int .i64 (-1))), none⟩]) (.ret))) (.skip))))))))))) (.kl [6] (.seq (.reg [⟨some 2, .mov (.c (.int .i64 0)), none⟩]) (.ret))))), [.tmp 2]⟩
-- lp184_0 HEAD [0, 1, 7, 8] | exit 0: [] | ret: [4]
/-- slices.IndexFunc[[]string,string] -/
def lb184_0 : C := .kl [18] (.seq (.reg [⟨some 9, .bin .lss (.t 8) (.t 7), none⟩]) (.seq (.cond (.t 9) (.skip) (.kl [0, 1, 7, 8, 9] (.exit 0))) (.kl [9] (.seq (.blk 1 (.seq (.reg [⟨some 10, .mov (.t 8), none⟩, ⟨some 5, .mov (.t 10), none⟩]) (.kl [10] (.seq (.reg [⟨some 11, .mov (.t 1), none⟩, ⟨some 12, .mov (.t 0), none⟩, ⟨some 13, .mov (.t 5), none⟩, ⟨some 14, .iaddr 1 (.t 12) (.t 13), none⟩, ⟨some 15, .load false 1 (.t 14), none⟩, ⟨some 16, .callv (.t 11) [.t 15], none⟩]) (.kl [11, 12, 13, 14, 15] (.cond (.t 16) (.kl [0, 1, 7, 8, 16] (.seq (.reg [⟨some 17, .mov (.t 5), none⟩, ⟨some 4, .mov (.t 17), none⟩]) (.kl [5, 17] (.ret)))) (.skip))))))) (.kl [5, 16] (.reg [⟨some 18, .bin .add (.t 8) (.c (.int .i64 1)), none⟩, ⟨some 8, .mov (.t 18), none⟩]))))))
def lp184_0 : C := lb184_0
def fi184 : FI := ⟨.seq (.reg [⟨some 4, .mov (.c (.int .i64 0)), none⟩]) (.kl [4] (.seq (.seq (.reg [⟨some 6, .mov (.t 0), none⟩, ⟨some 7, .lenV (.t 6), none⟩, ⟨some 8, .mov (.c (.int .i64 0)), none⟩]) (.kl [6] (.blk 0 (.loop lp184_0)))) (.seq (.reg [⟨some 4, .mov (.c (.int .i64 (-1))), none⟩]) (.ret)))), [.tmp 4]⟩
/-- spec.l1OwnS -/
def fi206 : FI := ⟨.seq (.reg [⟨some 2, .mov (.c (.nilS)), none⟩]) (.kl [2] (.seq (.reg [⟨some 3, .lit0, none⟩, ⟨some 4, .mov (.t 0), none⟩, ⟨some 5, .app 1 (.t 3) (.t 4), none⟩, ⟨some 2, .mov (.t 5), none⟩]) (.kl [0, 3, 4, 5] (.ret)))), [.tmp 2]⟩
/-- impl.goal -/
def fi127 : FI := ⟨.seq (.reg [⟨some 4, .mov (.c (.int .i64 0)), none⟩, ⟨some 5, .mov (.c (.bool false)), none⟩]) (.kl [4, 5] (.seq (.reg [⟨some 7, .mov (.t 0), none⟩, ⟨some 8, .mov (.t 1), none⟩, ⟨some 9, .idxS (.t 7) (.t 8), none⟩, ⟨some 10, .call 103 [.t 9], none⟩, ⟨some 6, .mov (.t 10), none⟩]) (.kl [7, 8, 9, 10] (.seq (.blk 0 (.seq (.reg [⟨some 12, .mov (.t 6), none⟩, ⟨some 13, .bin .eql (.t 12) (.c (.int .i64 0)), none⟩, ⟨some 11, .mov (.t 13), none⟩]) (.kl [12, 13] (.cond (.t 11) (.skip) (.kl [11] (.seq (.reg [⟨some 15, .mov (.t 0), none⟩, ⟨some 16, .mov (.t 1), none⟩, ⟨some 17, .mov (.t 6), none⟩, ⟨some 18, .bin .add (.t 16) (.t 17), none⟩, ⟨some 19, .call 125 [.t 15, .t 18], none⟩, ⟨some 20, .bin .eql (.t 19) (.c (.int .u8 46)), none⟩, ⟨some 14, .mov (.t 20), none⟩]) (.kl [15, 16, 17, 18, 19, 20] (.cond (.t 14) (.kl [0, 14] (.seq (.reg [⟨some 21, .mov (.t 1), none⟩, ⟨some 22, .mov (.t 6), none⟩, ⟨some 23, .bin .add (.t 21) (.t 22), none⟩, ⟨some 4, .mov (.t 23), none⟩, ⟨some 5, .mov (.c (.bool true)), none⟩]) (.kl [1, 6, 21, 22, 23] (.ret)))) (.kl [14] (.seq (.drw [⟨some 25, .mov (.t 0), none⟩, ⟨some 26, .mov (.t 1), none⟩, ⟨some 27, .mov (.t 6), none⟩, ⟨some 28, .bin .add (.t 26) (.t 27), none⟩, ⟨some 29, .call 125 [.t 25, .t 28], none⟩, ⟨some 30, .mov (.t 0), none⟩, ⟨some 31, .mov (.t 1), none⟩, ⟨some 32, .idxS (.t 30) (.t 31), none⟩, ⟨some 33, .call 109 [.t 32], none⟩, ⟨some 34, .bin .eql (.t 29) (.t 33), none⟩, ⟨some 35, .mov (.t 34), none⟩, ⟨some 36, .mov (.t 0), some (35, true)⟩, ⟨some 37, .mov (.t 1), some (35, true)⟩, ⟨some 38, .mov (.t 6), some (35, true)⟩, ⟨some 39, .bin .mul (.c (.int .i64 2)) (.t 38), some (35, true)⟩, ⟨some 40, .bin .add (.t 37) (.t 39), some (35, true)⟩, ⟨some 41, .call 125 [.t 36, .t 40], some (35, true)⟩, ⟨some 42, .bin .eql (.t 41) (.c (.int .u8 46)), some (35, true)⟩, ⟨some 43, .pick (.t 35) (.t 42) (.c (.bool false)), none⟩, ⟨some 24, .mov (.t 43), none⟩] []) (.kl [0, 25, 26, 27, 28, 29, 30, 31, 32, 33, 34, 35, 36, 37, 38, 39, 40, 41, 42, 43] (.cond (.t 24) (.kl [24] (.seq (.reg [⟨some 44, .mov (.t 1), none⟩, ⟨some 45, .mov (.t 6), none⟩, ⟨some 46, .bin .mul (.c (.int .i64 2)) (.t 45), none⟩, ⟨some 47, .bin .add (.t 44) (.t 46), none⟩, ⟨some 4, .mov (.t 47), none⟩, ⟨some 5, .mov (.c (.bool true)), none⟩]) (.kl [1, 6, 44, 45, 46, 47] (.ret)))) (.skip))))))))))))) (.kl [0, 1, 6, 11, 24] (.seq (.reg [⟨some 4, .mov (.c (.int .i64 0)), none⟩, ⟨some 5, .mov (.c (.bool false)), none⟩]) (.ret))))))), [.tmp 4, .tmp 5]⟩
-- lp195_0 HEAD [0, 1, 7] | exit 0: [] | ret: [4]
/-- spec.pzIndex -/
def lb195_0 : C := .kl [5, 17] (.seq (.reg [⟨some 8, .nxt (.t 7), none⟩, ⟨some 9, .prj 0 (.t 8), none⟩]) (.seq (.cond (.t 9) (.skip) (.kl [0, 1, 7, 8, 9] (.exit 0))) (.kl [9] (.blk 1 (.seq (.reg [⟨some 10, .prj 1 (.t 8), none⟩, ⟨some 5, .mov (.t 10), none⟩]) (.kl [8, 10] (.seq (.reg [⟨some 11, .mov (.t 0), none⟩, ⟨some 12, .mov (.t 5), none⟩, ⟨some 13, .mov (.t 5), none⟩, ⟨some 14, .bin .add (.t 13) (.c (.int .i64 1)), none⟩, ⟨some 15, .subS (.t 11) (some (.t 12)) (some (.t 14)), none⟩, ⟨some 16, .mov (.t 1), none⟩, ⟨some 17, .bin .eql (.t 15) (.t 16), none⟩]) (.kl [11, 12, 13, 14, 15, 16] (.cond (.t 17) (.kl [0, 1, 7, 17] (.seq (.reg [⟨some 18, .mov (.t 5), none⟩, ⟨some 4, .mov (.t 18), none⟩]) (.kl [5, 18] (.ret)))) (.skip))))))))))
def lp195_0 : C := lb195_0
def fi195 : FI := ⟨.seq (.reg [⟨some 4, .mov (.c (.int .i64 0)), none⟩]) (.kl [4] (.seq (.seq (.reg [⟨some 6, .mov (.t 0), none⟩, ⟨some 7, .rng (.t 6), none⟩]) (.kl [6] (.blk 0 (.loop lp195_0)))) (.seq (.reg [⟨some 4, .mov (.c (.int .i64 0)), none⟩]) (.ret)))), [.tmp 4]⟩
-- lp196_0 HEAD [0, 3, 4, 5] | exit 0: [3]
/-- spec.liPairs -/
def lb196_0 : C := .kl [10, 11] (.seq (.seq (.reg [⟨some 6, .mov (.t 5), none⟩, ⟨some 7, .mov (.t 0), none⟩, ⟨some 8, .lenS (.t 7), none⟩, ⟨some 9, .bin .lss (.t 6) (.t 8), none⟩]) (.kl [6, 7, 8] (.cond (.t 9) (.skip) (.kl [0, 4, 5, 9] (.exit 0))))) (.kl [9] (.seq (.blk 1 (.seq (.reg [⟨some 12, .mov (.t 0), none⟩, ⟨some 13, .mov (.t 5), none⟩, ⟨some 14, .idxS (.t 12) (.t 13), none⟩]) (.kl [12, 13] (.blk 2 (.seq (.reg [⟨some 16, .bin .eql (.t 14) (.c (.int .u8 84)), none⟩, ⟨some 15, .mov (.t 16), none⟩]) (.kl [16] (.cond (.t 15) (.kl [14, 15] (.reg [⟨some 17, .mov (.t 4), none⟩, ⟨some 18, .bin .add (.t 17) (.c (.int .i64 1)), none⟩, ⟨some 4, .mov (.t 18), none⟩])) (.kl [15] (.seq (.reg [⟨some 20, .bin .eql (.t 14) (.c (.int .u8 70)), none⟩, ⟨some 19, .mov (.t 20), none⟩]) (.kl [14, 20] (.cond (.t 19) (.kl [19] (.reg [⟨some 21, .mov (.t 3), none⟩, ⟨some 22, .mov (.t 4), none⟩, ⟨some 23, .bin .add (.t 21) (.t 22), none⟩, ⟨some 3, .mov (.t 23), none⟩])) (.skip)))))))))))) (.kl [17, 18, 19, 21, 22, 23] (.reg [⟨some 10, .mov (.t 5), none⟩, ⟨some 11, .bin .add (.t 10) (.c (.int .i64 1)), none⟩, ⟨some 5, .mov (.t 11), none⟩])))))
def lp196_0 : C := lb196_0
def fi196 : FI := ⟨.seq (.reg [⟨some 2, .mov (.c (.int .i64 0)), none⟩]) (.kl [2] (.seq (.reg [⟨some 3, .mov (.c (.int .i64 0)), none⟩, ⟨some 4, .mov (.c (.int .i64 0)), none⟩]) (.seq (.seq (.reg [⟨some 5, .mov (.c (.int .i64 0)), none⟩]) (.blk 0 (.loop lp196_0))) (.seq (.reg [⟨some 24, .mov (.t 3), none⟩, ⟨some 2, .mov (.t 24), none⟩]) (.kl [3, 24] (.ret)))))), [.tmp 2]⟩
-- lp173_0 HEAD [2, 3, 16, 17, 18] | exit 0: [2, 3] | ret: []
-- lp173_1 HEAD [0, 1, 2, 3, 35, 36, 37] | exit 2: []
/-- spec.pzLook -/
def lb173_1 : C := .kl [48] (.seq (.reg [⟨some 38, .bin .lss (.t 37) (.t 36), none⟩]) (.seq (.cond (.t 38) (.skip) (.kl [0, 1, 2, 3, 35, 36, 37, 38] (.exit 2))) (.kl [38] (.seq (.blk 3 (.seq (.reg [⟨some 39, .iaddr 1 (.t 35) (.t 37), none⟩, ⟨some 40, .load false 1 (.t 39), none⟩, ⟨some 11, .mov (.t 40), none⟩]) (.kl [39, 40] (.reg [⟨some 41, .mov (.t 0), none⟩, ⟨some 42, .mov (.t 1), none⟩, ⟨some 43, .mov (.t 2), none⟩, ⟨some 44, .mov (.t 11), none⟩, ⟨some 45, .bin .add (.t 43) (.t 44), none⟩, ⟨some 46, .mov (.t 3), none⟩, ⟨some 47, .call 173 [.t 41, .t 42, .t 45, .t 46], none⟩])))) (.kl [11, 41, 42, 43, 44, 45, 46, 47] (.reg [⟨some 48, .bin .add (.t 37) (.c (.int .i64 1)), none⟩, ⟨some 37, .mov (.t 48), none⟩]))))))
def lp173_1 : C := lb173_1
def lb173_0 : C := .kl [26] (.seq (.reg [⟨some 19, .bin .lss (.t 18) (.t 17), none⟩]) (.seq (.cond (.t 19) (.skip) (.kl [16, 17, 18, 19] (.exit 0))) (.kl [19] (.seq (.blk 1 (.seq (.reg [⟨some 20, .iaddr 3 (.t 16) (.t 18), none⟩, ⟨some 21, .load true 3 (.t 20), none⟩, ⟨some 9, .new [.int .i64 0, .int .i64 0, .int .i64 0], none⟩, ⟨none, .store 3 (.t 9) (.t 21), none⟩]) (.kl [20, 21] (.seq (.reg [⟨some 22, .load true 3 (.t 9), none⟩, ⟨some 23, .mov (.t 2), none⟩, ⟨some 24, .call 181 [.t 22, .t 23], none⟩, ⟨some 25, .un .not (.t 24), none⟩]) (.kl [9, 22, 23, 24] (.cond (.t 25) (.kl [2, 3, 16, 17, 18, 25] (.ret)) (.skip))))))) (.kl [25] (.reg [⟨some 26, .bin .add (.t 18) (.c (.int .i64 1)), none⟩, ⟨some 18, .mov (.t 26), none⟩]))))))
def lp173_0 : C := lb173_0
def fi173 : FI := ⟨.seq (.seq (.reg [⟨some 12, .mov (.t 2), none⟩, ⟨some 13, .lenS (.t 12), none⟩, ⟨some 14, .mov (.t 0), none⟩, ⟨some 15, .bin .eql (.t 13) (.t 14), none⟩]) (.kl [12, 13, 14] (.cond (.t 15) (.kl [0, 15] (.seq (.seq (.reg [⟨some 16, .mov (.t 1), none⟩, ⟨some 17, .lenV (.t 16), none⟩, ⟨some 18, .mov (.c (.int .i64 0)), none⟩]) (.kl [1] (.blk 0 (.loop lp173_0)))) (.seq (.reg [⟨some 27, .mov (.t 3), none⟩, ⟨some 28, .mov (.t 3), none⟩, ⟨some 29, .nck (.t 28), none⟩, ⟨some 30, .load false 1 (.t 29), none⟩, ⟨some 31, .mov (.t 2), none⟩, ⟨some 32, .lit 1 1 [.str []] [(0, 1, .t 31)], none⟩, ⟨some 33, .app 1 (.t 30) (.t 32), none⟩, ⟨some 34, .nck (.t 27), none⟩, ⟨none, .store 1 (.t 34) (.t 33), none⟩]) (.kl [2, 3, 27, 28, 29, 30, 31, 32, 33, 34] (.ret))))) (.skip)))) (.kl [15] (.seq (.reg [⟨some 35, .lit 1 3 [.str [], .str [], .str []] [(0, 1, .c (.str [46])), (1, 1, .c (.str [70])), (2, 1, .c (.str [84]))], none⟩, ⟨some 36, .lenV (.t 35), none⟩, ⟨some 37, .mov (.c (.int .i64 0)), none⟩]) (.blk 2 (.loop lp173_1)))), []⟩
-- lp205_0 HEAD [0, 1, 7, 8] | exit 0: [] | ret: [4]
/-- slices.IndexFunc[[]impl.Move,impl.Move] -/
def lb205_0 : C := .kl [18] (.seq (.reg [⟨some 9, .bin .lss (.t 8) (.t 7), none⟩]) (.seq (.cond (.t 9) (.skip) (.kl [0, 1, 7, 8, 9] (.exit 0))) (.kl [9] (.seq (.blk 1 (.seq (.reg [⟨some 10, .mov (.t 8), none⟩, ⟨some 5, .mov (.t 10), none⟩]) (.kl [10] (.seq (.reg [⟨some 11, .mov (.t 1), none⟩, ⟨some 12, .mov (.t 0), none⟩, ⟨some 13, .mov (.t 5), none⟩, ⟨some 14, .iaddr 2 (.t 12) (.t 13), none⟩, ⟨some 15, .load true 2 (.t 14), none⟩, ⟨some 16, .callv (.t 11) [.t 15], none⟩]) (.kl [11, 12, 13, 14, 15] (.cond (.t 16) (.kl [0, 1, 7, 8, 16] (.seq (.reg [⟨some 17, .mov (.t 5), none⟩, ⟨some 4, .mov (.t 17), none⟩]) (.kl [5, 17] (.ret)))) (.skip))))))) (.kl [5, 16] (.reg [⟨some 18, .bin .add (.t 8) (.c (.int .i64 1)), none⟩, ⟨some 8, .mov (.t 18), none⟩]))))))
def lp205_0 : C := lb205_0
def fi205 : FI := ⟨.seq (.reg [⟨some 4, .mov (.c (.int .i64 0)), none⟩]) (.kl [4] (.seq (.seq (.reg [⟨some 6, .mov (.t 0), none⟩, ⟨some 7, .lenV (.t 6), none⟩, ⟨some 8, .mov (.c (.int .i64 0)), none⟩]) (.kl [6] (.blk 0 (.loop lp205_0)))) (.seq (.reg [⟨some 4, .mov (.c (.int .i64 (-1))), none⟩]) (.ret)))), [.tmp 4]⟩
/-- spec.liCan -/
def fi130 : FI := ⟨.seq (.reg [⟨some 3, .box (.t 1), none⟩, ⟨some 4, .mov (.c (.bool false)), none⟩]) (.kl [1, 4] (.seq (.seq (.reg [⟨some 7, .faddr 0 1 (.t 3), none⟩, ⟨some 8, .load false 1 (.t 7), none⟩, ⟨some 9, .mov (.t 0), none⟩, ⟨some 10, .lenS (.t 9), none⟩, ⟨some 11, .bin .sub (.t 10) (.c (.int .i64 1)), none⟩, ⟨some 12, .call 77 [.t 8, .c (.int .i64 0), .t 11], none⟩, ⟨some 13, .un .not (.t 12), none⟩, ⟨some 14, .mov (.t 13), none⟩, ⟨some 15, .faddr 1 1 (.t 3), some (14, false)⟩, ⟨some 16, .load false 1 (.t 15), some (14, false)⟩, ⟨some 17, .mov (.t 0), some (14, false)⟩, ⟨some 18, .lenS (.t 17), some (14, false)⟩, ⟨some 19, .bin .sub (.t 18) (.c (.int .i64 1)), some (14, false)⟩, ⟨some 20, .call 77 [.t 16, .c (.int .i64 0), .t 19], some (14, false)⟩, ⟨some 21, .un .not (.t 20), some (14, false)⟩, ⟨some 22, .pick (.t 14) (.c (.bool true)) (.t 21), none⟩, ⟨some 23, .mov (.t 22), none⟩, ⟨some 24, .mov (.t 0), some (23, false)⟩, ⟨some 25, .faddr 1 1 (.t 3), some (23, false)⟩, ⟨some 26, .load false 1 (.t 25), some (23, false)⟩, ⟨some 27, .idxS (.t 24) (.t 26), some (23, false)⟩, ⟨some 28, .bin .neq (.t 27) (.c (.int .u8 46)), some (23, false)⟩, ⟨some 29, .pick (.t 23) (.c (.bool true)) (.t 28), none⟩]) (.kl [7, 8, 9, 10, 11, 12, 13, 14, 15, 16, 17, 18, 19, 20, 21, 22, 23, 24, 25, 26, 27, 28] (.cond (.t 29) (.kl [0, 3, 29] (.seq (.reg [⟨some 4, .mov (.c (.bool false)), none⟩]) (.ret))) (.skip)))) (.kl [29] (.seq (.reg [⟨some 5, .mov (.c (.int .i64 1)), none⟩, ⟨some 6, .mov (.c (.int .u8 70)), none⟩]) (.seq (.seq (.reg [⟨some 30, .mov (.t 0), none⟩, ⟨some 31, .faddr 0 1 (.t 3), none⟩, ⟨some 32, .load false 1 (.t 31), none⟩, ⟨some 33, .idxS (.t 30) (.t 32), none⟩]) (.kl [30, 31, 32] (.blk 0 (.seq (.reg [⟨some 35, .bin .eql (.t 33) (.c (.int .u8 84)), none⟩, ⟨some 34, .mov (.t 35), none⟩]) (.kl [35] (.cond (.t 34) (.skip) (.kl [5, 6, 34] (.seq (.reg [⟨some 37, .bin .eql (.t 33) (.c (.int .u8 70)), none⟩, ⟨some 36, .mov (.t 37), none⟩]) (.kl [33, 37] (.cond (.t 36) (.kl [36] (.seq (.reg [⟨some 5, .mov (.c (.int .i64 (-1))), none⟩]) (.reg [⟨some 6, .mov (.c (.int .u8 84)), none⟩]))) (.kl [0, 3, 36] (.seq (.reg [⟨some 4, .mov (.c (.bool false)), none⟩]) (.ret))))))))))))) (.kl [33, 34] (.seq (.reg [⟨some 38, .faddr 1 1 (.t 3), none⟩, ⟨some 39, .load false 1 (.t 38), none⟩, ⟨some 40, .faddr 0 1 (.t 3), none⟩, ⟨some 41, .load false 1 (.t 40), none⟩, ⟨some 42, .mov (.t 5), none⟩, ⟨some 43, .bin .add (.t 41) (.t 42), none⟩, ⟨some 44, .bin .eql (.t 39) (.t 43), none⟩, ⟨some 45, .mov (.t 44), none⟩, ⟨some 46, .faddr 1 1 (.t 3), some (45, false)⟩, ⟨some 47, .load false 1 (.t 46), some (45, false)⟩, ⟨some 48, .faddr 0 1 (.t 3), some (45, false)⟩, ⟨some 49, .load false 1 (.t 48), some (45, false)⟩, ⟨some 50, .mov (.t 5), some (45, false)⟩, ⟨some 51, .bin .mul (.c (.int .i64 2)) (.t 50), some (45, false)⟩, ⟨some 52, .bin .add (.t 49) (.t 51), some (45, false)⟩, ⟨some 53, .bin .eql (.t 47) (.t 52), some (45, false)⟩, ⟨some 54, .mov (.t 53), some (45, false)⟩, ⟨some 55, .mov (.t 0), some (54, true)⟩, ⟨some 56, .faddr 0 1 (.t 3), some (54, true)⟩, ⟨some 57, .load false 1 (.t 56), some (54, true)⟩, ⟨some 58, .mov (.t 5), some (54, true)⟩, ⟨some 59, .bin .add (.t 57) (.t 58), some (54, true)⟩, ⟨some 60, .idxS (.t 55) (.t 59), some (54, true)⟩, ⟨some 61, .mov (.t 6), some (54, true)⟩, ⟨some 62, .bin .eql (.t 60) (.t 61), some (54, true)⟩, ⟨some 63, .pick (.t 54) (.t 62) (.c (.bool false)), some (45, false)⟩, ⟨some 64, .pick (.t 45) (.c (.bool true)) (.t 63), none⟩, ⟨some 4, .mov (.t 64), none⟩]) (.kl [0, 3, 5, 6, 38, 39, 40, 41, 42, 43, 44, 45, 46, 47, 48, 49, 50, 51, 52, 53, 54, 55, 56, 57, 58, 59, 60, 61, 62, 63, 64] (.ret))))))))), [.tmp 4]⟩
/-- impl.at -/
def fi125 : FI := ⟨.seq (.reg [⟨some 4, .mov (.c (.int .u8 0)), none⟩]) (.kl [4] (.seq (.seq (.reg [⟨some 5, .mov (.t 1), none⟩, ⟨some 6, .bin .lss (.t 5) (.c (.int .i64 0)), none⟩, ⟨some 7, .mov (.t 6), none⟩, ⟨some 8, .mov (.t 1), some (7, false)⟩, ⟨some 9, .mov (.t 0), some (7, false)⟩, ⟨some 10, .lenS (.t 9), some (7, false)⟩, ⟨some 11, .bin .geq (.t 8) (.t 10), some (7, false)⟩, ⟨some 12, .pick (.t 7) (.c (.bool true)) (.t 11), none⟩]) (.kl [5, 6, 7, 8, 9, 10, 11] (.cond (.t 12) (.kl [0, 1, 12] (.seq (.reg [⟨some 4, .mov (.c (.int .u8 0)), none⟩]) (.ret))) (.skip)))) (.kl [12] (.seq (.reg [⟨some 13, .mov (.t 0), none⟩, ⟨some 14, .mov (.t 1), none⟩, ⟨some 15, .idxS (.t 13) (.t 14), none⟩, ⟨some 4, .mov (.t 15), none⟩]) (.kl [0, 1, 13, 14, 15] (.ret)))))), [.tmp 4]⟩

def tab : List (Nat × FI) := [(539, fi539), (540, fi540), (541, fi541), (542, fi542), (163, fi163), (381, fi381), (185, fi185), (19, fi19), (166, fi166), (543, fi543), (214, fi214), (213, fi213), (142, fi142), (211, fi211), (544, fi544), (545, fi545), (546, fi546), (547, fi547), (548, fi548), (549, fi549), (183, fi183), (550, fi550), (82, fi82), (74, fi74), (593, fi593), (187, fi187), (594, fi594), (77, fi77), (595, fi595), (596, fi596), (167, fi167), (106, fi106), (191, fi191), (186, fi186), (59, fi59), (177, fi177), (176, fi176), (218, fi218), (217, fi217), (160, fi160), (165, fi165), (216, fi216), (138, fi138), (172, fi172), (181, fi181), (171, fi171), (192, fi192), (193, fi193), (198, fi198), (199, fi199), (197, fi197), (104, fi104), (189, fi189), (105, fi105), (188, fi188), (178, fi178), (180, fi180), (179, fi179), (182, fi182), (161, fi161), (109, fi109), (200, fi200), (202, fi202), (201, fi201), (61, fi61), (203, fi203), (119, fi119), (204, fi204), (66, fi66), (116, fi116), (108, fi108), (103, fi103), (184, fi184), (206, fi206), (127, fi127), (195, fi195), (196, fi196), (173, fi173), (205, fi205), (130, fi130), (125, fi125)]
def T (f : Nat) : Option FI := (tab.find? fun x => x.1 == f).map (·.2)
theorem T539 : T 539 = some fi539 := rfl
theorem T540 : T 540 = some fi540 := rfl
theorem T541 : T 541 = some fi541 := rfl
theorem T542 : T 542 = some fi542 := rfl
theorem T163 : T 163 = some fi163 := rfl
theorem T381 : T 381 = some fi381 := rfl
theorem T185 : T 185 = some fi185 := rfl
theorem T19 : T 19 = some fi19 := rfl
theorem T166 : T 166 = some fi166 := rfl
theorem T543 : T 543 = some fi543 := rfl
theorem T214 : T 214 = some fi214 := rfl
theorem T213 : T 213 = some fi213 := rfl
theorem T142 : T 142 = some fi142 := rfl
theorem T211 : T 211 = some fi211 := rfl
theorem T544 : T 544 = some fi544 := rfl
theorem T545 : T 545 = some fi545 := rfl
theorem T546 : T 546 = some fi546 := rfl
theorem T547 : T 547 = some fi547 := rfl
theorem T548 : T 548 = some fi548 := rfl
theorem T549 : T 549 = some fi549 := rfl
theorem T183 : T 183 = some fi183 := rfl
theorem T550 : T 550 = some fi550 := rfl
theorem T82 : T 82 = some fi82 := rfl
theorem T74 : T 74 = some fi74 := rfl
theorem T593 : T 593 = some fi593 := rfl
theorem T187 : T 187 = some fi187 := rfl
theorem T594 : T 594 = some fi594 := rfl
theorem T77 : T 77 = some fi77 := rfl
theorem T595 : T 595 = some fi595 := rfl
theorem T596 : T 596 = some fi596 := rfl
theorem T167 : T 167 = some fi167 := rfl
theorem T106 : T 106 = some fi106 := rfl
theorem T191 : T 191 = some fi191 := rfl
theorem T186 : T 186 = some fi186 := rfl
theorem T59 : T 59 = some fi59 := rfl
theorem T177 : T 177 = some fi177 := rfl
theorem T176 : T 176 = some fi176 := rfl
theorem T218 : T 218 = some fi218 := rfl
theorem T217 : T 217 = some fi217 := rfl
theorem T160 : T 160 = some fi160 := rfl
theorem T165 : T 165 = some fi165 := rfl
theorem T216 : T 216 = some fi216 := rfl
theorem T138 : T 138 = some fi138 := rfl
theorem T172 : T 172 = some fi172 := rfl
theorem T181 : T 181 = some fi181 := rfl
theorem T171 : T 171 = some fi171 := rfl
theorem T192 : T 192 = some fi192 := rfl
theorem T193 : T 193 = some fi193 := rfl
theorem T198 : T 198 = some fi198 := rfl
theorem T199 : T 199 = some fi199 := rfl
theorem T197 : T 197 = some fi197 := rfl
theorem T104 : T 104 = some fi104 := rfl
theorem T189 : T 189 = some fi189 := rfl
theorem T105 : T 105 = some fi105 := rfl
theorem T188 : T 188 = some fi188 := rfl
theorem T178 : T 178 = some fi178 := rfl
theorem T180 : T 180 = some fi180 := rfl
theorem T179 : T 179 = some fi179 := rfl
theorem T182 : T 182 = some fi182 := rfl
theorem T161 : T 161 = some fi161 := rfl
theorem T109 : T 109 = some fi109 := rfl
theorem T200 : T 200 = some fi200 := rfl
theorem T202 : T 202 = some fi202 := rfl
theorem T201 : T 201 = some fi201 := rfl
theorem T61 : T 61 = some fi61 := rfl
theorem T203 : T 203 = some fi203 := rfl
theorem T119 : T 119 = some fi119 := rfl
theorem T204 : T 204 = some fi204 := rfl
theorem T66 : T 66 = some fi66 := rfl
theorem T116 : T 116 = some fi116 := rfl
theorem T108 : T 108 = some fi108 := rfl
theorem T103 : T 103 = some fi103 := rfl
theorem T184 : T 184 = some fi184 := rfl
theorem T206 : T 206 = some fi206 := rfl
theorem T127 : T 127 = some fi127 := rfl
theorem T195 : T 195 = some fi195 := rfl
theorem T196 : T 196 = some fi196 := rfl
theorem T173 : T 173 = some fi173 := rfl
theorem T205 : T 205 = some fi205 := rfl
theorem T130 : T 130 = some fi130 := rfl
theorem T125 : T 125 = some fi125 := rfl
end Go.Proofs.YtnamhjdfegohbaaGreatDoor.Ab
-- EXT strings.Index
-- EXT strings.Trim
-- EXT strings.IndexByte
-- EXT slices.Delete[[]impl.Clue,impl.Clue]
-- EXT strings.Count
-- EXT strings.Contains
-- XF main.main|0|
-- XF gosem.cut|1|
-- XF spec.MakePuzzle|10|
-- XF impl.IsPuzzle$1|100|
-- XF slices.Clone[[]impl.Clue,impl.Clue]|101|22, 26
-- XF impl.without|102|
-- XF spec.pzGood|103|
-- XF spec.pzSolved|104|
-- XF spec.pzWithout|105|
-- XF impl.CountSolutions|106|
-- XF spec.pzClue|107|
-- XF spec.pzFits|108|
-- XF spec.pzCells|109|
-- XF laws.nPuzzle|11|
-- XF impl.turned|110|
-- XF strings.Index|111|
-- XF spec.gaSum|112|
-- XF spec.gaCompare|113|
-- XF impl.sumOf|114|
-- XF impl.newGames|115|
-- XF (impl.games).outcome|116|
-- XF strings.Repeat|117|
-- XF (impl.games).win|118|
-- XF (*spec.gaKnown).win|119|
-- XF impl.Solutions|12|
-- XF spec.gaOutcome|120|
-- XF spec.liGood|121|
-- XF spec.gaWhole|122|
-- XF impl.areCounts|123|
-- XF impl.allLines|124|
-- XF impl.CountOutcomes$1|125|
-- XF spec.liThree|126|
-- XF spec.gaCount|127|
-- XF impl.isPlayed|128|
-- XF impl.free|129|
-- XF impl.PairsToPass|13|
-- XF spec.gaFew|130|
-- XF spec.gaFree|131|
-- XF impl.lines|132|
-- XF (*spec.l1Cur).one|133|
-- XF (*spec.l1Cur).line|134|
-- XF (*spec.l1Cur).among|135|
-- XF (*spec.l1Cur).sureLine|136|
-- XF (*spec.l1Cur).pick|137|
-- XF (*spec.l1Cur).puzzle|138|
-- XF (*spec.l1Cur).clue|139|
-- XF impl.DoesFit|14|
-- XF (*spec.l1Cur).played|140|
-- XF (*spec.l1Cur).sum|141|
-- XF spec.DrawOutcomeOf|142|
-- XF impl.boardOf|143|
-- XF (impl.board).moves|144|
-- XF spec.boRows|145|
-- XF spec.boMoves|146|
-- XF (impl.board).high|147|
-- XF (impl.board).crossed|148|
-- XF (impl.board).text|149|
-- XF impl.MovesOf|15|
-- XF spec.boText|150|
-- XF spec.boCross|151|
-- XF spec.liOther|152|
-- XF strings.Split|153|
-- XF slices.ContainsFunc[[]string,string]|154|30, 9
-- XF impl.IsBoard$1|155|
-- XF impl.PlayOnBoard|156|
-- XF spec.boCan|157|
-- XF spec.boMake|158|
-- XF spec.DrawIsBoard|159|
-- XF impl.IsPuzzle|16|
-- XF (*spec.l1Cur).board|160|
-- XF strings.Trim|161|
-- XF impl.count|162|
-- XF strings.IndexByte|163|
-- XF impl.moves|164|
-- XF spec.pzValue|165|
-- XF impl.hidden|166|
-- XF slices.DeleteFunc[[]string,string]|167|30, 9
-- XF impl.solve$1|168|
-- XF laws.nText|17|
-- XF slices.Delete[[]impl.Clue,impl.Clue]|170|22, 26
-- XF spec.pzAll|171|
-- XF slices.Reverse[[]byte,byte]|172|65, 5
-- XF impl.other|173|
-- XF internal/stringslite.Index|174|
-- XF strings.Join|175|
-- XF math/bits.Mul|176|
-- XF strings.HasPrefix|177|
-- XF (*strings.Builder).Grow|178|
-- XF (*strings.Builder).WriteString|179|
-- XF impl.HarderPuzzle|18|
-- XF (*strings.Builder).Len|180|
-- XF (*strings.Builder).String|181|
-- XF impl.kindOf|182|
-- XF (impl.games).win$1|184|
-- XF impl.made|185|
-- XF spec.gaKey|186|
-- XF spec.liMoves|187|
-- XF spec.gaWith|188|
-- XF spec.liMake|189|
-- XF spec.HarderPuzzle|19|
-- XF spec.liTimes|190|
-- XF impl.allLines$1|191|
-- XF slices.Clone[[]byte,byte]|192|65, 5
-- XF spec.l1All|193|
-- XF impl.free$1|194|
-- XF spec.l1Most|195|
-- XF (*spec.l1Cur).of|196|
-- XF spec.liFirst|197|
-- XF spec.liCount|198|
-- XF spec.liPut|199|
-- XF gosem.cut.init|2|
-- XF impl.IsSolved|20|
-- XF (*spec.l1Cur).next|200|
-- XF (*spec.l1Cur).surePuzzle|201|
-- XF strings.ReplaceAll|202|
-- XF impl.stepOf|203|
-- XF (impl.board).sign|204|
-- XF slices.SortFunc[[]impl.Move,impl.Move]|205|37, 85
-- XF (impl.board).moves$1|206|
-- XF cmp.Or[int]|207|3
-- XF cmp.Compare[int]|208|3
-- XF spec.l1Split|209|
-- XF impl.NeedlessClues|21|
-- XF strings.genSplit|210|
-- XF slices.IndexFunc[[]string,string]|211|30, 9
-- XF (impl.board).play|212|
-- XF spec.boAt|213|
-- XF spec.l1OwnS|214|
-- XF (*spec.l1Cur).sureBoard|215|
-- XF strings.trimLeftByte|216|
-- XF strings.trimRightByte|217|
-- XF strings.makeASCIISet|218|
-- XF strings.trimLeftASCII|219|
-- XF laws.nTexts|22|
-- XF strings.trimRightASCII|220|
-- XF strings.trimLeftUnicode|221|
-- XF strings.trimRightUnicode|222|
-- XF strings.Count|223|
-- XF internal/stringslite.IndexByte|224|
-- XF impl.goal|225|
-- XF strings.Contains|226|
-- XF spec.pzIndex|227|
-- XF spec.liPairs|228|
-- XF spec.pzLook|229|
-- XF impl.AddClue|23|
-- XF internal/bytealg.IndexString|230|
-- XF internal/bytealg.Cutover|231|
-- XF internal/bytealg.IndexRabinKarp[string]|232|9
-- XF math/bits.Mul32|233|
-- XF math/bits.Mul64|234|
-- XF internal/stringslite.HasPrefix|235|
-- XF (*strings.Builder).copyCheck|236|
-- XF (*strings.Builder).grow|237|
-- XF spec.liCan|239|
-- XF spec.AddClue|24|
-- XF strings.Replace|240|
-- XF slices.pdqsortCmpFunc[impl.Move]|241|85
-- XF math/bits.Len|242|
-- XF cmp.isNaN[int]|243|3
-- XF strings.explode|244|
-- XF impl.played|245|
-- XF (impl.board).play$1|246|
-- XF slices.Contains[[]impl.Move,impl.Move]|247|37, 85
-- XF spec.boFirst|248|
-- XF (*strings.asciiSet).contains|249|
-- XF impl.DropClue|25|
-- XF unicode/utf8.DecodeRuneInString|250|
-- XF strings.ContainsRune|251|
-- XF unicode/utf8.DecodeLastRuneInString|252|
-- XF unicode/utf8.RuneCountInString|253|
-- XF internal/bytealg.CountString|254|
-- XF internal/bytealg.IndexByteString|255|
-- XF impl.at|256|
-- XF internal/bytealg.hashStr[string]|257|9
-- XF internal/abi.NoEscape|258|
-- XF internal/bytealg.MakeNoZero|259|
-- XF spec.DropClue|26|
-- XF slices.insertionSortCmpFunc[impl.Move]|260|85
-- XF slices.heapSortCmpFunc[impl.Move]|261|85
-- XF slices.breakPatternsCmpFunc[impl.Move]|262|85
-- XF slices.choosePivotCmpFunc[impl.Move]|263|85
-- XF slices.reverseRangeCmpFunc[impl.Move]|264|85
-- XF slices.partitionEqualCmpFunc[impl.Move]|266|85
-- XF slices.partitionCmpFunc[impl.Move]|267|85
-- XF math/bits.Len32|268|
-- XF math/bits.Len64|269|
-- XF spec.DoesFit|27|
-- XF slices.Index[[]impl.Move,impl.Move]|270|37, 85
-- XF unicode/utf8.decodeRuneInStringSlow|271|
-- XF strings.IndexRune|272|
-- XF unicode/utf8.RuneStart|273|
-- XF slices.siftDownCmpFunc[impl.Move]|274|85
-- XF slices.nextPowerOfTwo|275|
-- XF (*slices.xorshift).Next|276|
-- XF slices.medianAdjacentCmpFunc[impl.Move]|277|85
-- XF slices.medianCmpFunc[impl.Move]|278|85
-- XF unicode/utf8.ValidRune|279|
-- XF impl.IsClue|28|
-- XF slices.order2CmpFunc[impl.Move]|280|85
-- XF (runtime.boundsError).Error|281|
-- XF (runtime.boundsError).RuntimeError|282|
-- XF (runtime.errorString).Error|283|
-- XF (runtime.errorString).RuntimeError|284|
-- XF (runtime.plainError).Error|285|
-- XF (runtime.plainError).RuntimeError|286|
-- XF (runtime.errorAddressString).Error|287|
-- XF (runtime.errorAddressString).RuntimeError|288|
-- XF (*runtime.TypeAssertionError).Error|289|
-- XF spec.IsClue|29|
-- XF (*runtime.TypeAssertionError).RuntimeError|290|
-- XF (*runtime.PanicNilError).Error|291|
-- XF (*runtime.PanicNilError).RuntimeError|292|
-- XF (*internal/abi.Type).Align|293|
-- XF (internal/runtime/maps.unhashableTypeError).Error|294|
-- XF (internal/runtime/maps.unhashableTypeError).RuntimeError|295|
-- XF (impl.Puzzle).text|296|
-- XF (impl.Move).isJump|297|
-- XF (*strings.Builder).Reset|298|
-- XF (internal/abi.Kind).String|299|
-- XF laws.FnLinesHiddenOfAll|3|
-- XF impl.CompareGames|30|
-- XF var's door: unicode/utf8.acceptRanges is laid by its own initialiser, plain data (look 11)|302|
-- XF var's door: unicode/utf8.first is laid by its text alone (pinned 1)|303|
-- XF gosem.cut.vars|304|
-- XF spec.CompareGames|31|
-- XF impl.OtherLine|32|
-- XF impl.OutcomeOfSum|33|
-- XF impl.WholeValue|34|
-- XF impl.WinsSum|35|
-- XF spec.WinsSum|36|
-- XF spec.OutcomeOfSum|37|
-- XF spec.WholeValue|38|
-- XF impl.CountOutcomes|39|
-- XF laws.FnGamesComparedOfAll|4|
-- XF spec.CountOutcomes|40|
-- XF impl.FreeMoves|41|
-- XF spec.FreeMoves|42|
-- XF laws.nSame|43|
-- XF impl.WinsMoving|44|
-- XF impl.OutcomeOf|45|
-- XF impl.CountLines|46|
-- XF laws.nSum|47|
-- XF laws.big|48|
-- XF spec.DrawMakePuzzle|49|
-- XF laws.FnLinesHidden|5|
-- XF spec.DrawHarderPuzzle|50|
-- XF spec.DrawAddClue|51|
-- XF spec.DrawDropClue|52|
-- XF spec.DrawDoesFit|53|
-- XF spec.DrawIsClue|54|
-- XF spec.DrawCompareGames|55|
-- XF spec.DrawWinsSum|56|
-- XF spec.DrawWholeValue|57|
-- XF spec.DrawCountOutcomes|58|
-- XF spec.DrawFreeMoves|59|
-- XF laws.FnGamesCompared|6|
-- XF impl.BoardMoves|60|
-- XF spec.BoardMoves|61|
-- XF impl.SizeOfBoard|62|
-- XF spec.SizeOfBoard|63|
-- XF impl.CrossBoard|64|
-- XF spec.CrossBoard|65|
-- XF impl.OtherBoard|66|
-- XF spec.OtherBoard|67|
-- XF impl.IsBoardBlocked|68|
-- XF spec.IsBoardBlocked|69|
-- XF laws.FnBoardsMoveOfAll|7|
-- XF impl.WayOnBoard|70|
-- XF spec.WayOnBoard|71|
-- XF laws.nMoves|72|
-- XF impl.IsBoard|73|
-- XF spec.IsBoard|74|
-- XF laws.nBefore|75|
-- XF laws.nMove|76|
-- XF impl.RowOfBoard|77|
-- XF impl.ColumnOfBoard|78|
-- XF impl.MakeOnBoard|79|
-- XF laws.FnBoardsMove|8|
-- XF spec.MakeOnBoard|80|
-- XF spec.RowOfBoard|81|
-- XF spec.ColumnOfBoard|82|
-- XF spec.DrawBoardMoves|83|
-- XF spec.DrawMakeOnBoard|84|
-- XF spec.DrawRowOfBoard|85|
-- XF impl.isLineOf|86|
-- XF impl.within|87|
-- XF impl.MakePuzzle$1|88|
-- XF impl.clueOf|89|
-- XF impl.MakePuzzle|9|
-- XF spec.pzLine|90|
-- XF spec.l1In|91|
-- XF spec.pzNext|92|
-- XF spec.pzOf|93|
-- XF impl.solve|94|
-- XF impl.IsLine|95|
-- XF impl.pairs|96|
-- XF (impl.Clue).fits|97|
-- XF impl.movesIn|98|

/- RULES for reckoning with the evaluator: fuel is bounded by no one. -/
namespace Go.Proofs.YtnamhjdfegohbaaGreatDoor.Ab
open Go

def CF.le (a b : CF) : Prop := ∀ f xs h r, a f xs h = some r → b f xs h = some r
theorem CF.le_refl (a : CF) : a.le a := fun _ _ _ _ h => h

def AOp.isCall : AOp → Bool
  | .call .. | .callv .. => true
  | _ => false

section
variable {cf cf' : CF} {ρ : Opd → AV} {h : AH} {e : Env}

theorem evOp_mono (hle : cf.le cf') {i : AOp} {x : AV × AH} (hev : evOp cf ρ h i = some x) : evOp cf' ρ h i = some x := by
  cases i <;> first
    | exact hev
    | (simp only [evOp] at hev ⊢; exact hle _ _ _ _ hev)
    | (simp only [evOp] at hev ⊢
       split at hev
       · exact hle _ _ _ _ hev
       · cases hev)
theorem evOp_any {i : AOp} (hi : i.isCall = false) (cf cf' : CF) : evOp cf ρ h i = evOp cf' ρ h i := by
  cases i <;> first
    | rfl
    | (simp [AOp.isCall] at hi; done)

theorem evI_mono (hle : cf.le cf') {i : I} {x : Env × AH} (hev : evI cf i e h = some x) : evI cf' i e h = some x := by
  have key : ∀ x, (evOp cf (env e) h i.op).map (fun (v, h') => (put e i.dst v, h')) = some x → (evOp cf' (env e) h i.op).map (fun (v, h') => (put e i.dst v, h')) = some x := by
    intro x hx
    simp only [Option.map_eq_some_iff] at hx ⊢
    obtain ⟨y, hy, he⟩ := hx
    exact ⟨y, evOp_mono hle hy, he⟩
  unfold evI at hev ⊢
  split at hev
  · exact key _ hev
  · split at hev
    · split at hev
      · rename_i h1; rw [if_pos h1]; exact key _ hev
      · rename_i h1; rw [if_neg h1]; exact hev
    · exact hev
    · cases hev

theorem evR_mono (hle : cf.le cf') : ∀ {is : List I} {e : Env} {h : AH} {x : Env × AH}, evR cf is e h = some x → evR cf' is e h = some x
  | [], _, _, _, hev => hev
  | i :: is, e, h, x, hev => by
    simp only [evR] at hev ⊢
    split at hev
    · rename_i e1 h1 h2
      rw [evI_mono hle h2]
      exact evR_mono hle hev
    · cases hev

theorem state_some : ∀ {is : List I} {e : Env} {h : AH} {x : Env × AH}, evR cf is e h = some x → ∀ i, ∃ s, stateAt cf is i e h = some s
  | [], e, h, x, hev, i => ⟨(e, h), by simp [stateAt, evR]⟩
  | j :: is, e, h, x, hev, i => by
    cases i with
    | zero => exact ⟨(e, h), by simp [stateAt, evR]⟩
    | succ i =>
      simp only [evR] at hev
      split at hev
      · rename_i e1 h1 h2
        obtain ⟨s, hs⟩ := state_some hev i
        refine ⟨s, ?_⟩
        simp only [stateAt, List.take_succ_cons, evR, h2]
        exact hs
      · cases hev

theorem evDraw_mono (hle : cf.le cf') {is : List I} {ps : List (Nat × Nat)} {x : Env × AH} (hev : evDraw cf is ps e h = some x) : evDraw cf' is ps e h = some x := by
  unfold evDraw at hev ⊢
  split at hev
  · rename_i hst
    rw [if_pos]
    · exact evR_mono hle hev
    · intro p hp
      rcases hst p hp with hpe | hst
      · exact .inl hpe
      refine .inr ?_
      intro o e1 h1 e2 h2 e3 h3 k0 k1 k2 k3
      obtain ⟨s1, g1⟩ := state_some hev p.1
      obtain ⟨s2, g2⟩ := state_some hev p.2
      obtain ⟨s3, g3⟩ := state_some hev (p.2 + 1)
      have m1 := evR_mono hle g1
      have m2 := evR_mono hle g2
      have m3 := evR_mono hle g3
      unfold stateAt at k1 k2 k3
      rw [m1] at k1; rw [m2] at k2; rw [m3] at k3
      cases k1; cases k2; cases k3
      exact hst o e1 h1 e2 h2 e3 h3 k0 g1 g2 g3
  · cases hev

theorem evLoop_mono {s s' : Env → AH → Option (X × Env × AH)} (hs : ∀ e h x, s e h = some x → s' e h = some x) : ∀ {n n' : Nat}, n ≤ n' → ∀ {e : Env} {h : AH} {x}, evLoop s n e h = some x → evLoop s' n' e h = some x
  | 0, _, _, _, _, _, hev => by simp [evLoop] at hev
  | n + 1, 0, hn, _, _, _, _ => by omega
  | n + 1, n' + 1, hn, e, h, x, hev => by
    simp only [evLoop] at hev ⊢
    cases hst : s e h with
    | none => rw [hst] at hev; simp at hev
    | some y =>
      rw [hst] at hev
      rw [hs _ _ _ hst]
      obtain ⟨x1, e1, h1⟩ := y
      cases x1 with
      | normal => exact evLoop_mono hs (by omega) hev
      | exit i => exact hev
      | ret => exact hev

theorem evC_mono (hle : cf.le cf') {n n' : Nat} (hn : n ≤ n') : ∀ (c : C) {e : Env} {h : AH} {x}, evC cf n c e h = some x → evC cf' n' c e h = some x := by
  intro c
  induction c with
  | skip => intro e h x hev; exact hev
  | reg is =>
    intro e h x hev
    simp only [evC, Option.map_eq_some_iff] at hev ⊢
    obtain ⟨y, hy, he⟩ := hev
    exact ⟨y, evR_mono hle hy, he⟩
  | drw is ps =>
    intro e h x hev
    simp only [evC, Option.map_eq_some_iff] at hev ⊢
    obtain ⟨y, hy, he⟩ := hev
    exact ⟨y, evDraw_mono hle hy, he⟩
  | kl ts c ih => intro e h x hev; simp only [evC] at hev ⊢; exact ih hev
  | seq a b iha ihb =>
    intro e h x hev
    simp only [evC] at hev ⊢
    cases ha : evC cf n a e h with
    | none => rw [ha] at hev; simp at hev
    | some y =>
      rw [ha] at hev
      rw [iha ha]
      obtain ⟨x1, e1, h1⟩ := y
      cases x1 with
      | normal => exact ihb hev
      | exit i => exact hev
      | ret => exact hev
  | cond y a b iha ihb =>
    intro e h x hev
    simp only [evC] at hev ⊢
    split at hev
    · rename_i t ht
      split at hev
      · rename_i h1; rw [if_pos h1]; exact iha hev
      · rename_i h1; rw [if_neg h1]; exact ihb hev
    · cases hev
  | blk id a ih =>
    intro e h x hev
    simp only [evC] at hev ⊢
    cases ha : evC cf n a e h with
    | none => rw [ha] at hev; simp at hev
    | some y =>
      rw [ha] at hev
      rw [ih ha]
      exact hev
  | loop a ih =>
    intro e h x hev
    simp only [evC] at hev ⊢
    exact evLoop_mono (fun _ _ _ hh => ih hh) hn hev
  | exit i => intro e h x hev; exact hev
  | ret => intro e h x hev; exact hev
  | bad => intro e h x hev; simp [evC] at hev
end

def EMono (E : Ext) : Prop := ∀ f G, E f = some G → ∀ cf cf' : CF, cf.le cf' → ∀ xs h r, G cf xs h = some r → G cf' xs h = some r

theorem evF_mono {T : Nat → Option FI} {E : Ext} (hE : EMono E) : ∀ {n n' : Nat}, n ≤ n' → (evF T E n).le (evF T E n')
  | 0, _, _ => by intro f xs h r hev; simp [evF] at hev
  | n + 1, 0, hn => by omega
  | n + 1, n' + 1, hn => by
    intro f xs h r hev
    have ih := evF_mono (T := T) hE (show n ≤ n' by omega)
    simp only [evF] at hev ⊢
    split at hev
    · rename_i G hG
      exact hE f G hG _ _ ih _ _ _ hev
    · split at hev
      · rename_i fi hfi
        cases hc : evC (evF T E n) n fi.body (Env.init 0 xs) h with
        | none => rw [hc] at hev; cases hev
        | some y => rw [hc] at hev; rw [evC_mono ih (by omega) _ hc]; exact hev
      · cases hev

/-! ### The rules -/
section
variable (T : Nat → Option FI) (E : Ext)

def Spec (f : Nat) (xs : List AV) (h : AH) (post : AV → AH → Prop) : Prop := ∃ n r h', evF T E n f xs h = some (r, h') ∧ post r h'
def WC (c : C) (e : Env) (h : AH) (Q : X → Env → AH → Prop) : Prop := ∃ n x e' h', evC (evF T E n) n c e h = some (x, e', h') ∧ Q x e' h'
def WR (is : List I) (e : Env) (h : AH) (Q : Env → AH → Prop) : Prop := ∃ n e' h', evR (evF T E n) is e h = some (e', h') ∧ Q e' h'
def WO {α : Type} (o : Option (α × AH)) (K : α → AH → Prop) : Prop := match o with
  | some (v, h) => K v h
  | none => False
end
@[simp] theorem WO_some {α : Type} {v : α} {h : AH} {K : α → AH → Prop} : WO (some (v, h)) K ↔ K v h := Iff.rfl
@[simp] theorem WO_none {α : Type} {K : α → AH → Prop} : WO none K ↔ False := Iff.rfl
theorem WO_iff {α : Type} {o : Option (α × AH)} {K : α → AH → Prop} : WO o K ↔ ∃ v h, o = some (v, h) ∧ K v h := by
  cases o with
  | none => simp
  | some x =>
    obtain ⟨v, h⟩ := x
    exact ⟨fun hk => ⟨v, h, rfl, hk⟩, fun ⟨_, _, he, hk⟩ => by cases he; exact hk⟩

section
variable {T : Nat → Option FI} {E : Ext} (hE : EMono E) {e : Env} {h : AH} {Q : Env → AH → Prop} {R : X → Env → AH → Prop}
include hE

omit hE in
theorem WR_nil : WR T E [] e h Q ↔ Q e h := by
  constructor
  · rintro ⟨n, e', h', hev, hq⟩
    simp only [evR, Option.some.injEq, Prod.mk.injEq] at hev
    obtain ⟨rfl, rfl⟩ := hev
    exact hq
  · intro hq; exact ⟨0, e, h, rfl, hq⟩

omit hE in
/-- An operation that calls no one. -/
theorem WR_op {d : Option Nat} {op : AOp} {is : List I} (hi : op.isCall = false) : WR T E (⟨d, op, none⟩ :: is) e h Q ↔ WO (evOp noCall (env e) h op) fun v h' => WR T E is (put e d v) h' Q := by
  rw [WO_iff]
  constructor
  · rintro ⟨n, e', h', hev, hq⟩
    simp only [evR, evI] at hev
    rw [evOp_any hi (evF T E n) noCall] at hev
    cases ho : evOp noCall (env e) h op with
    | none => rw [ho] at hev; simp at hev
    | some y =>
      rw [ho] at hev
      obtain ⟨v, h1⟩ := y
      exact ⟨v, h1, rfl, n, e', h', hev, hq⟩
  · rintro ⟨v, h1, ho, n, e', h', hev, hq⟩
    refine ⟨n, e', h', ?_, hq⟩
    simp only [evR, evI]
    rw [evOp_any hi (evF T E n) noCall, ho]
    exact hev

theorem WR_call {d : Option Nat} {f : Nat} {xs : List Opd} {is : List I} : WR T E (⟨d, .call f xs, none⟩ :: is) e h Q ↔ Spec T E f (xs.map (env e)) h fun v h' => WR T E is (put e d v) h' Q := by
  constructor
  · rintro ⟨n, e', h', hev, hq⟩
    simp only [evR, evI, evOp] at hev
    cases ho : evF T E n f (xs.map (env e)) h with
    | none => rw [ho] at hev; simp at hev
    | some y =>
      rw [ho] at hev
      obtain ⟨v, h1⟩ := y
      exact ⟨n, v, h1, ho, n, e', h', hev, hq⟩
  · rintro ⟨n, v, h1, ho, n', e', h', hev, hq⟩
    refine ⟨max n n', e', h', ?_, hq⟩
    simp only [evR, evI, evOp]
    rw [evF_mono hE (Nat.le_max_left n n') _ _ _ _ ho]
    exact evR_mono (evF_mono hE (Nat.le_max_right n n')) hev

theorem WR_callv {d : Option Nat} {x : Opd} {xs : List Opd} {is : List I} {f : Nat} {cap : List AV} (hx : env e x = .fn f cap) : WR T E (⟨d, .callv x xs, none⟩ :: is) e h Q ↔ Spec T E f (xs.map (env e) ++ cap) h fun v h' => WR T E is (put e d v) h' Q := by
  constructor
  · rintro ⟨n, e', h', hev, hq⟩
    simp only [evR, evI, evOp, hx] at hev
    cases ho : evF T E n f (xs.map (env e) ++ cap) h with
    | none => rw [ho] at hev; simp at hev
    | some y =>
      rw [ho] at hev
      obtain ⟨v, h1⟩ := y
      exact ⟨n, v, h1, ho, n, e', h', hev, hq⟩
  · rintro ⟨n, v, h1, ho, n', e', h', hev, hq⟩
    refine ⟨max n n', e', h', ?_, hq⟩
    simp only [evR, evI, evOp, hx]
    rw [evF_mono hE (Nat.le_max_left n n') _ _ _ _ ho]
    exact evR_mono (evF_mono hE (Nat.le_max_right n n')) hev

omit hE in
/-- A guard that is heard, one that is not. -/
theorem WR_grd {d : Option Nat} {op : AOp} {is : List I} {t : Nat} {want b : Bool} (hb : e.get t = .bool b) : WR T E (⟨d, op, some (t, want)⟩ :: is) e h Q ↔ if b = want then WR T E (⟨d, op, none⟩ :: is) e h Q else WR T E is (put e d (.tup [])) h Q := by
  have key : ∀ n, evR (evF T E n) (⟨d, op, some (t, want)⟩ :: is) e h = if b = want then evR (evF T E n) (⟨d, op, none⟩ :: is) e h else evR (evF T E n) is (put e d (.tup [])) h := by
    intro n
    simp only [evR, evI, hb]
    by_cases hbw : b = want <;> simp [hbw]
  unfold WR
  simp only [key]
  by_cases hbw : b = want <;> simp [hbw]

omit hE in
/-- A guard on what was not done. -/
theorem WR_grd0 {d : Option Nat} {op : AOp} {is : List I} {t : Nat} {want : Bool} (hb : e.get t = .tup []) : WR T E (⟨d, op, some (t, want)⟩ :: is) e h Q ↔ WR T E is (put e d (.tup [])) h Q := by
  have key : ∀ n, evR (evF T E n) (⟨d, op, some (t, want)⟩ :: is) e h = evR (evF T E n) is (put e d (.tup [])) h := by
    intro n
    simp only [evR, evI, hb]
  unfold WR
  simp only [key]

omit hE in
theorem WC_reg {is : List I} : WC T E (.reg is) e h R ↔ WR T E is e h (R .normal) := by
  constructor
  · rintro ⟨n, x, e', h', hev, hq⟩
    simp only [evC, Option.map_eq_some_iff, Prod.mk.injEq] at hev
    obtain ⟨⟨e1, h1⟩, hev, rfl, rfl, rfl⟩ := hev
    exact ⟨n, e1, h1, hev, hq⟩
  · rintro ⟨n, e', h', hev, hq⟩
    exact ⟨n, .normal, e', h', by simp only [evC, hev]; rfl, hq⟩
omit hE in
theorem WC_skip : WC T E .skip e h R ↔ R .normal e h :=
  ⟨by rintro ⟨n, x, e', h', hev, hq⟩; simp only [evC, Option.some.injEq, Prod.mk.injEq] at hev; obtain ⟨rfl, rfl, rfl⟩ := hev; exact hq, fun hq => ⟨0, _, _, _, rfl, hq⟩⟩
omit hE in
theorem WC_ret : WC T E .ret e h R ↔ R .ret e h :=
  ⟨by rintro ⟨n, x, e', h', hev, hq⟩; simp only [evC, Option.some.injEq, Prod.mk.injEq] at hev; obtain ⟨rfl, rfl, rfl⟩ := hev; exact hq, fun hq => ⟨0, _, _, _, rfl, hq⟩⟩
omit hE in
theorem WC_exit {i : Nat} : WC T E (.exit i) e h R ↔ R (.exit i) e h :=
  ⟨by rintro ⟨n, x, e', h', hev, hq⟩; simp only [evC, Option.some.injEq, Prod.mk.injEq] at hev; obtain ⟨rfl, rfl, rfl⟩ := hev; exact hq, fun hq => ⟨0, _, _, _, rfl, hq⟩⟩
omit hE in
theorem WC_kl {ts : List Nat} {c : C} : WC T E (.kl ts c) e h R ↔ WC T E c (e.dels ts) h R := by
  unfold WC; simp only [evC]

/-- Behind a first piece: go on, or out. -/
def then' (K : Env → AH → Prop) (R : X → Env → AH → Prop) : X → Env → AH → Prop
  | .normal, e, h => K e h
  | x, e, h => R x e h
def inBlk (i : Nat) (R : X → Env → AH → Prop) : X → Env → AH → Prop
  | .exit j, e, h => if j = i then R .normal e h else R (.exit j) e h
  | x, e, h => R x e h
omit hE in
@[simp] theorem then_normal {K : Env → AH → Prop} {R : X → Env → AH → Prop} : then' K R .normal e h = K e h := rfl
omit hE in
@[simp] theorem then_exit {K : Env → AH → Prop} {R : X → Env → AH → Prop} {i : Nat} : then' K R (.exit i) e h = R (.exit i) e h := rfl
omit hE in
@[simp] theorem then_ret {K : Env → AH → Prop} {R : X → Env → AH → Prop} : then' K R .ret e h = R .ret e h := rfl
omit hE in
@[simp] theorem inBlk_normal {i : Nat} {R : X → Env → AH → Prop} : inBlk i R .normal e h = R .normal e h := rfl
omit hE in
@[simp] theorem inBlk_ret {i : Nat} {R : X → Env → AH → Prop} : inBlk i R .ret e h = R .ret e h := rfl
omit hE in
@[simp] theorem inBlk_exit {i j : Nat} {R : X → Env → AH → Prop} : inBlk i R (.exit j) e h = if j = i then R .normal e h else R (.exit j) e h := rfl

theorem WC_seq {a b : C} : WC T E (.seq a b) e h R ↔ WC T E a e h (then' (fun e' h' => WC T E b e' h' R) R) := by
  constructor
  · rintro ⟨n, x, e', h', hev, hq⟩
    simp only [evC] at hev
    cases ha : evC (evF T E n) n a e h with
    | none => rw [ha] at hev; simp at hev
    | some y =>
      rw [ha] at hev
      obtain ⟨x1, e1, h1⟩ := y
      refine ⟨n, x1, e1, h1, ha, ?_⟩
      cases x1 with
      | normal => exact ⟨n, x, e', h', hev, hq⟩
      | exit i => cases hev; exact hq
      | ret => cases hev; exact hq
  · rintro ⟨n, x1, e1, h1, ha, hq⟩
    cases x1 with
    | normal =>
      obtain ⟨n', x, e', h', hev, hq⟩ := hq
      refine ⟨max n n', x, e', h', ?_, hq⟩
      simp only [evC]
      rw [evC_mono (evF_mono hE (Nat.le_max_left n n')) (Nat.le_max_left n n') _ ha]
      exact evC_mono (evF_mono hE (Nat.le_max_right n n')) (Nat.le_max_right n n') _ hev
    | exit i => exact ⟨n, _, e1, h1, by simp only [evC, ha], hq⟩
    | ret => exact ⟨n, _, e1, h1, by simp only [evC, ha], hq⟩

omit hE in
theorem WC_cond {x : Opd} {a b : C} {t : Bool} (ht : env e x = .bool t) : WC T E (.cond x a b) e h R ↔ if t then WC T E a e h R else WC T E b e h R := by
  unfold WC
  simp only [evC, ht]
  cases t <;> simp

omit hE in
theorem WC_blk {i : Nat} {c : C} : WC T E (.blk i c) e h R ↔ WC T E c e h (inBlk i R) := by
  constructor
  · rintro ⟨n, x, e', h', hev, hq⟩
    simp only [evC] at hev
    cases ha : evC (evF T E n) n c e h with
    | none => rw [ha] at hev; simp at hev
    | some y =>
      rw [ha] at hev
      obtain ⟨x1, e1, h1⟩ := y
      refine ⟨n, x1, e1, h1, ha, ?_⟩
      cases x1 with
      | normal => cases hev; exact hq
      | exit j =>
        simp only at hev
        simp only [inBlk]
        split at hev
        · rename_i hj; rw [if_pos hj]; cases hev; exact hq
        · rename_i hj; rw [if_neg hj]; cases hev; exact hq
      | ret => cases hev; exact hq
  · rintro ⟨n, x1, e1, h1, ha, hq⟩
    cases x1 with
    | normal => exact ⟨n, _, e1, h1, by simp only [evC, ha], hq⟩
    | exit j =>
      simp only [inBlk] at hq
      by_cases hj : j = i
      · rw [if_pos hj] at hq
        exact ⟨n, _, e1, h1, by simp only [evC, ha, if_pos hj], hq⟩
      · rw [if_neg hj] at hq
        exact ⟨n, _, e1, h1, by simp only [evC, ha, if_neg hj], hq⟩
    | ret => exact ⟨n, _, e1, h1, by simp only [evC, ha], hq⟩

/-- A loop, one round unrolled. -/
theorem WC_loop {c : C} : WC T E (.loop c) e h R ↔ WC T E c e h (then' (fun e' h' => WC T E (.loop c) e' h' R) R) := by
  constructor
  · rintro ⟨n, x, e', h', hev, hq⟩
    simp only [evC] at hev
    cases n with
    | zero => simp [evLoop] at hev
    | succ n =>
      simp only [evLoop] at hev
      cases ha : evC (evF T E (n + 1)) (n + 1) c e h with
      | none => rw [ha] at hev; simp at hev
      | some y =>
        rw [ha] at hev
        obtain ⟨x1, e1, h1⟩ := y
        refine ⟨n + 1, x1, e1, h1, ha, ?_⟩
        cases x1 with
        | normal =>
          refine ⟨n + 1, x, e', h', ?_, hq⟩
          simp only [evC]
          exact evLoop_mono (fun _ _ _ hh => hh) (Nat.le_succ n) hev
        | exit i => cases hev; exact hq
        | ret => cases hev; exact hq
  · rintro ⟨n, x1, e1, h1, ha, hq⟩
    cases x1 with
    | normal =>
      obtain ⟨n', x, e', h', hev, hq⟩ := hq
      simp only [evC] at hev
      refine ⟨max n n' + 1, x, e', h', ?_, hq⟩
      simp only [evC, evLoop]
      rw [evC_mono (evF_mono hE (show n ≤ max n n' + 1 by omega)) (show n ≤ max n n' + 1 by omega) _ ha]
      exact evLoop_mono (fun _ _ _ hh => evC_mono (evF_mono hE (show n' ≤ max n n' + 1 by omega)) (show n' ≤ max n n' + 1 by omega) _ hh) (show n' ≤ max n n' by omega) hev
    | exit i =>
      refine ⟨n + 1, _, e1, h1, ?_, hq⟩
      simp only [evC, evLoop]
      rw [evC_mono (evF_mono hE (Nat.le_succ n)) (Nat.le_succ n) _ ha]
    | ret =>
      refine ⟨n + 1, _, e1, h1, ?_, hq⟩
      simp only [evC, evLoop]
      rw [evC_mono (evF_mono hE (Nat.le_succ n)) (Nat.le_succ n) _ ha]

omit hE in
/-- Into a function of the table. -/
theorem Spec_of {f : Nat} {xs : List AV} {post : AV → AH → Prop} {fi : FI} (hEf : E f = none) (hT : T f = some fi)
    (hw : WC T E fi.body (Env.init 0 xs) h fun x e' h' => (x = .normal ∨ x = .ret) ∧ ∃ r, resV e' h' fi.res = some r ∧ post r h') : Spec T E f xs h post := by
  obtain ⟨n, x, e', h', hev, hx, r, hr, hq⟩ := hw
  refine ⟨n + 1, r, h', ?_, hq⟩
  simp only [evF, hEf, hT, hev]
  rcases hx with rfl | rfl <;> simp [hr]
omit hE in
theorem Spec_ext {f : Nat} {xs : List AV} {post : AV → AH → Prop} {G : CF → List AV → AH → Option (AV × AH)} (hEf : E f = some G) {r : AV} {h' : AH} (n : Nat) (hG : G (evF T E n) xs h = some (r, h')) (hp : post r h') : Spec T E f xs h post :=
  ⟨n + 1, r, h', by simp only [evF, hEf, hG], hp⟩
omit hE in
theorem Spec.mono {f : Nat} {xs : List AV} {post post' : AV → AH → Prop} (hs : Spec T E f xs h post) (hp : ∀ r h', post r h' → post' r h') : Spec T E f xs h post' := by
  obtain ⟨n, r, h', hev, hq⟩ := hs
  exact ⟨n, r, h', hev, hp _ _ hq⟩
omit hE in
theorem WC.mono {c : C} {R' : X → Env → AH → Prop} (hs : WC T E c e h R) (hp : ∀ x e' h', R x e' h' → R' x e' h') : WC T E c e h R' := by
  obtain ⟨n, x, e', h', hev, hq⟩ := hs
  exact ⟨n, x, e', h', hev, hp _ _ _ hq⟩
end
end Go.Proofs.YtnamhjdfegohbaaGreatDoor.Ab

/- DEMONIC RUNS: pieces of code of the machine, and steps of an iterator over a map, whose order is not known. -/
namespace Go.Proofs.YtnamhjdfegohbaaGreatDoor.Ab
open Go

inductive D where
  | c (c : C)
  | nxt (it dst ok : Nat)
  | kl (ts : List Nat) (d : D)
  | seq (a b : D)
  | blk (id : Nat) (d : D)
  | loop (d : D)

abbrev RP := X → Env → AH → Prop
abbrev WCt := C → Env → AH → RP → Prop
def dRounds (W : Env → AH → RP → Prop) (R : RP) : Nat → Env → AH → Prop
  | 0, _, _ => False
  | k + 1, e, h => W e h (then' (fun e' h' => dRounds W R k e' h') R)
def dW (Wc : WCt) : D → Env → AH → RP → Prop
  | .c c, e, h, R => Wc c e h R
  | .nxt it dst ok, e, h, R => ∃ c cm seen es, e.get it = .iter c ∧ h[c]? = some (.mit cm es.length seen) ∧ h[cm]? = some (.map es) ∧
      (∀ (i : Nat) k v, es[i]? = some (k, v) → i ∉ seen → R .normal ((e.set dst (.tup [.bool true, k, v])).set ok (.bool true)) (h.set c (.mit cm es.length (seen ++ [i])))) ∧
      ((∀ i, i < es.length → i ∈ seen) → R .normal ((e.set dst (.tup [.bool false])).set ok (.bool false)) h)
  | .kl ts d, e, h, R => dW Wc d (e.dels ts) h R
  | .seq a b, e, h, R => dW Wc a e h (then' (fun e' h' => dW Wc b e' h' R) R)
  | .blk id d, e, h, R => dW Wc d e h (inBlk id R)
  | .loop d, e, h, R => ∃ n, dRounds (dW Wc d) R n e h

def WMono (Wc : WCt) : Prop := ∀ c e h (R R' : RP), (∀ x e' h', R x e' h' → R' x e' h') → Wc c e h R → Wc c e h R'
def WBoth (Wc : WCt) : Prop := ∀ c e h (R R' : RP), Wc c e h R → Wc c e h R' → ∃ x e' h', R x e' h' ∧ R' x e' h'
def Wcf (cf : CF) : WCt := fun c e h R => ∃ n x e' h', evC cf n c e h = some (x, e', h') ∧ R x e' h'
end Go.Proofs.YtnamhjdfegohbaaGreatDoor.Ab

/- CONTRACTS outside the table of bodies: functions of strings, by what they answer. -/
namespace Go.Proofs.YtnamhjdfegohbaaGreatDoor.Ab
open Go

/-- Functions that turn nothing: of strings and numbers, or of what a slice holds. -/
def pureX (G : List AV → AH → Option AV) : CF → List AV → AH → Option (AV × AH) := fun _ xs h => (G xs h).map (·, h)
def low (s : List UInt8) : Bool := s.all fun b => decide (b.toNat < 128)
def xTrim : List AV → Option AV
  | [.str s, .str c] => if s.length ≤ 4294967280 ∧ c.length ≤ 4294967280 ∧ low c = true then some (.str (Go.Lib.trimS s c)) else none
  | _ => none
def xIndexByte : List AV → Option AV
  | [.str s, .int .u8 c] => some (.int .i64 (Go.Lib.indexByte s c.toNat.toUInt8))
  | _ => none
def xIndex : List AV → Option AV
  | [.str s, .str [c]] => some (.int .i64 (Go.Lib.indexByte s c))
  | _ => none
def xContains : List AV → Option AV
  | [.str s, .str [c]] => some (.bool (decide (0 ≤ Go.Lib.indexByte s c)))
  | _ => none
def xCount : List AV → Option AV
  | [.str s, .str [c]] => some (.int .i64 (Go.Lib.countByte s c))
  | _ => none

def strsOf : List AV → Option (List (List UInt8))
  | [] => some []
  | .str s :: l => (strsOf l).map (s :: ·)
  | _ :: _ => none
def xJoin : List AV → AH → Option AV
  | [.slice c k off len e, .str sep], h => if e = 1 then match rdRow h c k off len with
    | some cs => match strsOf cs with
      | some xs => if (Go.Lib.join xs sep).length ≤ 140737488355328 ∧ len ≤ 140737488355328 then some (.str (Go.Lib.join xs sep)) else none
      | none => none
    | none => none
    else none
  | _, _ => none
def xRepeat : List AV → Option AV
  | [.str s, .int .i64 n] => if 0 ≤ n ∧ n ≤ 9223372036854775807 ∧ s.length * n.toNat ≤ 140737488355328 then some (.str (Go.Lib.repeatL s n.toNat)) else none
  | _ => none

/-- What stands ahead of i and from j on, the rest laid to zero (elements of three numbers). -/
def xDelete3 : List AV → AH → Option (AV × AH)
  | [.slice c k off n e, .int .i64 i, .int .i64 j], h => if e = 3 ∧ 0 ≤ i ∧ i < j ∧ j ≤ (n : Int) ∧ n ≤ 1099511627776 then match rdRow h c k (off + j.toNat * 3) ((n - j.toNat) * 3) with
    | some cs => match wrRow h c k (off + i.toNat * 3) cs with
      | some h1 => match wrRow h1 c k (off + (i.toNat + (n - j.toNat)) * 3) (List.replicate ((j.toNat - i.toNat) * 3) (.int .i64 0)) with
        | some h2 => some (.slice c k off (n - (j.toNat - i.toNat)) 3, h2)
        | none => none
      | none => none
    | none => none
    else none
  | _, _ => none

/-- A slice of texts in order. -/
def xSortS : List AV → AH → Option (AV × AH)
  | [.nilS], h => some (.tup [], h)
  | [.empS], h => some (.tup [], h)
  | [.slice c k off n e], h => if e = 1 ∧ 1 ≤ n ∧ n ≤ 1099511627776 then match rdRow h c k off n with
    | some cs => match strsOf cs with
      | some ss => (wrRow h c k off ((ss.mergeSort fun x y => decide (x ≤ y)).map AV.str)).map fun h' => (.tup [], h')
      | none => none
    | none => none
    else none
  | _, _ => none

/-! ### Texts parted, a sign struck, moves put in order -/
def splA (c : UInt8) : List UInt8 → List UInt8 → List (List UInt8)
  | cur, [] => [cur]
  | cur, b :: s => if b = c then cur :: splA c [] s else splA c (cur ++ [b]) s
def xSplit : List AV → AH → Option (AV × AH)
  | [.str s, .str [c]], h => if s.length ≤ 4294967280 then some (.slice h.length 0 0 (splA c [] s).length 1, h ++ [.row ((splA c [] s).map AV.str) 0 0 false]) else none
  | _, _ => none
abbrev noB (c : UInt8) (s : List UInt8) : List UInt8 := s.filter fun b => !(b == c)
def xReplaceAll : List AV → Option AV
  | [.str s, .str [c], .str []] => if s.length ≤ 4294967280 then some (.str (noB c s)) else none
  | _ => none
abbrev Mo := Int × Int
def ltMo (a b : Mo) : Prop := a.1 < b.1 ∨ (a.1 = b.1 ∧ a.2 < b.2)
instance (a b : Mo) : Decidable (ltMo a b) := by unfold ltMo; infer_instance
/-- Sorted as the program sorts. -/
def srtMo (l : List Mo) : List Mo := l.mergeSort fun x y => !decide (ltMo y x)
def mosOf : List AV → Option (List Mo)
  | [] => some []
  | .int .i64 a :: .int .i64 b :: l => (mosOf l).map ((a, b) :: ·)
  | _ => none
abbrev moC (l : List Mo) : List AV := l.flatMap fun m => [.int .i64 m.1, .int .i64 m.2]
/-- A slice of moves in order, by the function f. -/
def xSortM (f : Nat) : List AV → AH → Option (AV × AH)
  | [.nilS, .fn g []], h => if g = f then some (.tup [], h) else none
  | [.empS, .fn g []], h => if g = f then some (.tup [], h) else none
  | [.slice c k off n e, .fn g []], h => if g = f ∧ n = 0 then some (.tup [], h) else if g = f ∧ e = 2 ∧ n ≤ 1099511627776 then match rdRow h c k off (n * 2) with
    | some cs => match mosOf cs with
      | some ms => (wrRow h c k off (moC (srtMo ms))).map fun h' => (.tup [], h')
      | none => none
    | none => none
    else none
  | _, _ => none

/-! ### Texts gathered from a map, whose order is not known -/
/-- impl.someReached: the code, its steps over the map left open. -/
def dSome3 : D := .kl [8, 21, 22, 23] (.c (.cond (.t 24) (.reg [⟨some 25, .mov (.t 6), none⟩, ⟨some 26, .mov (.t 7), none⟩, ⟨some 27, .lit 1 1 [.str []] [(0, 1, .t 26)], none⟩, ⟨some 28, .app 1 (.t 25) (.t 27), none⟩, ⟨some 6, .mov (.t 28), none⟩]) .skip))
def dSome2 : D := .seq (.c (.reg [⟨some 21, .mov (.t 1), none⟩, ⟨some 22, .mov (.t 7), none⟩, ⟨some 23, .mov (.t 8), none⟩, ⟨some 24, .callv (.t 21) [.t 22, .t 23], none⟩])) dSome3
def dSome1 : D := .seq (.c (.reg [⟨some 18, .ent (.t 15), none⟩, ⟨some 19, .prj 0 (.t 18), none⟩, ⟨some 20, .prj 1 (.t 18), none⟩, ⟨some 7, .mov (.t 19), none⟩, ⟨some 8, .mov (.t 20), none⟩])) (.kl [18, 19, 20] dSome2)
def dSomeL : D := .kl [7, 8, 16, 17, 18, 19, 20, 21, 22, 23, 24, 25, 26, 27, 28] (.seq (.nxt 15 16 17) (.kl [16] (.seq (.c (.cond (.t 17) .skip (.kl [1, 15, 17] (.exit 0)))) (.kl [17] (.blk 1 dSome1)))))
def dSomeT : D := .seq (.c (.reg [⟨some 29, .mov (.t 6), none⟩, ⟨some 30, .call 275 [.t 29], none⟩])) (.kl [29, 30] (.c (.seq (.reg [⟨some 31, .mov (.t 6), none⟩, ⟨some 4, .mov (.t 31), none⟩, ⟨some 5, .mov (.c (.bool true)), none⟩]) .ret)))
def dSomeM : D := .seq (.seq (.c (.reg [⟨some 13, .mov (.t 0), none⟩, ⟨some 14, .call 273 [.t 13], none⟩, ⟨some 15, .rngM (.t 14), none⟩])) (.kl [0, 13, 14] (.blk 0 (.loop dSomeL)))) dSomeT
def dSome : D :=
  .seq (.c (.reg [⟨some 4, .mov (.c .nilS), none⟩, ⟨some 5, .mov (.c (.bool false)), none⟩]))
  (.seq (.c (.seq (.reg [⟨some 9, .mov (.t 0), none⟩, ⟨some 10, .call 56 [.t 9], none⟩, ⟨some 11, .un .not (.t 10), none⟩]) (.kl [9, 10] (.cond (.t 11) (.seq (.reg [⟨some 4, .mov (.c .nilS), none⟩, ⟨some 5, .mov (.c (.bool false)), none⟩]) .ret) .skip))))
  (.kl [4, 5, 11] (.seq (.c (.reg [⟨some 12, .lit0, none⟩, ⟨some 6, .mov (.t 12), none⟩])) (.kl [12] dSomeM))))
/-- What comes of it: nil, or nothing, or a slice of one's own; a yes or no. -/
def FinR (ra rb : Nat) (h : AH) (q : Nat × Bool × List (List UInt8)) : RP := fun x e' h' => x = .ret ∧ e'.get rb = .bool q.2.1 ∧ (∀ i, i < h.length → h'[i]? = h[i]?) ∧
  ((q.1 = 0 ∧ q.2.2 = [] ∧ e'.get ra = .nilS) ∨ (q.1 = 1 ∧ q.2.2 = [] ∧ e'.get ra = .empS) ∨
   (q.1 = 2 ∧ ∃ r k off n cells fl, e'.get ra = .slice r k off n 1 ∧ h.length ≤ r ∧ h'[r]? = some (.row cells k fl false) ∧ fl ≤ k ∧ n = q.2.2.length ∧ 1 ≤ n ∧ off + n * 1 = cells.length ∧ cells.drop off = q.2.2.map AV.str))
theorem strs_inj : ∀ {a b : List (List UInt8)}, a.map AV.str = b.map AV.str → a = b
  | [], [], _ => rfl
  | [], _ :: _, h => by simp at h
  | _ :: _, [], h => by simp at h
  | x :: a, y :: b, h => by
    simp only [List.map_cons, List.cons.injEq, AV.str.injEq] at h
    rw [h.1, strs_inj h.2]
theorem FinR.uniq {ra rb : Nat} {h h' : AH} {q q' : Nat × Bool × List (List UInt8)} {x : X} {e' : Env} (a : FinR ra rb h q x e' h') (b : FinR ra rb h q' x e' h') : q = q' := by
  obtain ⟨q1, q2, q3⟩ := q
  obtain ⟨p1, p2, p3⟩ := q'
  obtain ⟨_, a1, _, a2⟩ := a
  obtain ⟨_, b1, _, b2⟩ := b
  simp only at a1 b1 a2 b2
  rw [a1] at b1
  simp only [AV.bool.injEq] at b1
  subst b1
  rcases a2 with ⟨rfl, rfl, a3⟩ | ⟨rfl, rfl, a3⟩ | ⟨rfl, r, k, off, n, cells, fl, a3, a4, a5, a6, a7, a8, a9, a10⟩ <;> rcases b2 with ⟨rfl, rfl, b3⟩ | ⟨rfl, rfl, b3⟩ | ⟨rfl, r', k', off', n', cells', fl', b3, b4, b5, b6, b7, b8, b9, b10⟩ <;> rw [a3] at b3 <;> first
    | rfl
    | (cases b3; done)
    | (simp only [AV.slice.injEq] at b3
       obtain ⟨rfl, rfl, rfl, rfl, _⟩ := b3
       rw [a5] at b5
       simp only [Option.some.injEq, AO.row.injEq] at b5
       obtain ⟨rfl, _⟩ := b5
       rw [a10] at b10
       rw [strs_inj b10])
def ansR (h : AH) (q : Nat × Bool × List (List UInt8)) : AV × AH := match q.1 with
  | 0 => (.tup [.nilS, .bool q.2.1], h)
  | 1 => (.tup [.empS, .bool q.2.1], h)
  | _ => (.tup [.slice h.length 0 0 q.2.2.length 1, .bool q.2.1], h ++ [.row (q.2.2.map AV.str) 0 0 false])
open Classical in
noncomputable def xGather (d : D) (ra rb : Nat) : CF → List AV → AH → Option (AV × AH) := fun cf xs h =>
  if H : ∃ q, dW (Wcf cf) d (Env.init 0 xs) h (FinR ra rb h q) then some (ansR h (Classical.choose H)) else none
noncomputable def xSome : CF → List AV → AH → Option (AV × AH) := xGather dSome 4 5

/-- impl.LinesHalfway: the code, its steps over the map left open. -/
def dHalfB : C := .seq (.cond (.t 29) (.skip) (.kl [8, 27, 29] (.exit 0))) (.kl [29] (.blk 1 (.seq (.reg [⟨some 30, .ent (.t 27), none⟩, ⟨some 31, .prj 0 (.t 30), none⟩, ⟨some 32, .prj 1 (.t 30), none⟩, ⟨some 11, .mov (.t 31), none⟩, ⟨some 12, .mov (.t 32), none⟩]) (.kl [30, 31, 32] (.seq (.reg [⟨some 33, .mov (.t 12), none⟩, ⟨some 34, .mov (.t 8), none⟩, ⟨some 35, .bin .quo (.t 34) (.c (.int .i64 2)), none⟩, ⟨some 36, .bin .eql (.t 33) (.t 35), none⟩]) (.kl [12, 33, 34, 35] (.cond (.t 36) (.kl [36] (.reg [⟨some 37, .mov (.t 10), none⟩, ⟨some 38, .mov (.t 11), none⟩, ⟨some 39, .lit 1 1 [.str []] [(0, 1, .t 38)], none⟩, ⟨some 40, .app 1 (.t 37) (.t 39), none⟩, ⟨some 10, .mov (.t 40), none⟩])) (.skip))))))))
def dHalfL : D := .kl [11, 36, 37, 38, 39, 40] (.seq (.nxt 27 28 29) (.kl [28] (.c dHalfB)))
def dHalfT : C := .seq (.reg [⟨some 41, .mov (.t 10), none⟩, ⟨some 42, .call 275 [.t 41], none⟩]) (.kl [41, 42] (.seq (.reg [⟨some 43, .mov (.t 10), none⟩, ⟨some 6, .mov (.t 43), none⟩, ⟨some 7, .mov (.c (.bool true)), none⟩]) (.kl [10, 43] (.ret))))
def dHalfM : D := .seq (.seq (.c (.reg [⟨some 23, .mov (.t 0), none⟩, ⟨some 24, .mov (.t 1), none⟩, ⟨some 25, .mov (.t 2), none⟩, ⟨some 26, .call 314 [.t 23, .t 24, .t 25], none⟩, ⟨some 27, .rngM (.t 26), none⟩])) (.kl [0, 1, 2, 23, 24, 25, 26] (.blk 0 (.loop dHalfL)))) (.c dHalfT)
def dHalf : D := .seq (.c (.reg [⟨some 6, .mov (.c (.nilS)), none⟩, ⟨some 7, .mov (.c (.bool false)), none⟩])) (.kl [6, 7] (.seq (.c (.reg [⟨some 14, .mov (.t 0), none⟩, ⟨some 15, .mov (.t 1), none⟩, ⟨some 16, .mov (.t 2), none⟩, ⟨some 17, .call 313 [.t 14, .t 15, .t 16], none⟩, ⟨some 13, .mov (.t 17), none⟩, ⟨some 18, .prj 0 (.t 13), none⟩, ⟨some 19, .prj 1 (.t 13), none⟩, ⟨some 8, .mov (.t 18), none⟩, ⟨some 9, .mov (.t 19), none⟩])) (.kl [13, 14, 15, 16, 17, 18, 19] (.seq (.c (.seq (.reg [⟨some 20, .mov (.t 9), none⟩, ⟨some 21, .un .not (.t 20), none⟩]) (.kl [9, 20] (.cond (.t 21) (.kl [0, 1, 2, 8, 21] (.seq (.reg [⟨some 6, .mov (.c (.nilS)), none⟩, ⟨some 7, .mov (.c (.bool false)), none⟩]) (.ret))) (.skip))))) (.kl [21] (.seq (.c (.reg [⟨some 22, .lit0, none⟩, ⟨some 10, .mov (.t 22), none⟩])) (.kl [22] dHalfM)))))))
noncomputable def xHalf : CF → List AV → AH → Option (AV × AH) := xGather dHalf 6 7

def xtab : List (Nat × (List AV → AH → Option AV)) := [(111, fun xs _ => xTrim xs), (190, fun xs _ => xIndexByte xs), (194, fun xs _ => xIndex xs), (126, fun xs _ => xContains xs), (131, fun xs _ => xCount xs)]
def ytab : List (Nat × (List AV → AH → Option (AV × AH))) := [(220, xDelete3)]
noncomputable def ztab : List (Nat × (CF → List AV → AH → Option (AV × AH))) := []
noncomputable def E : Ext := fun f => match xtab.find? fun x => x.1 == f with
  | some x => some (pureX x.2)
  | none => match ytab.find? fun x => x.1 == f with
    | some x => some fun _ xs h => x.2 xs h
    | none => (ztab.find? fun x => x.1 == f).map fun x => x.2
theorem ztab_mono : ∀ x ∈ ztab, ∀ cf cf' : CF, cf.le cf' → ∀ xs h r, x.2 cf xs h = some r → x.2 cf' xs h = some r := by
  intro x hx
  simp only [ztab, List.mem_cons, List.not_mem_nil, or_false] at hx
  all_goals cases hx
theorem hE : EMono E := by
  intro f G h cf cf' _ xs hh r hr
  unfold E at h
  split at h
  · cases h; exact hr
  · split at h
    · cases h; exact hr
    · simp only [Option.map_eq_some_iff] at h
      obtain ⟨x, hx, rfl⟩ := h
      exact ztab_mono x (List.mem_of_find?_eq_some hx) cf cf' ‹_› xs hh r hr
end Go.Proofs.YtnamhjdfegohbaaGreatDoor.Ab

/- THE RELATION between the abstract machine's states and the model's. -/
namespace Go.Proofs.YtnamhjdfegohbaaGreatDoor.Ab
open Go Go.RowKit

structure Place where
  blk : Nat
  base : Nat
  lo : Nat
  ext : Nat
  siz : Nat

structure Emb where
  row : Nat → Nat → Option Place
  obj : Nat → Option Nat

mutual
def RelV (F : Nat → Nat) (m : Emb) : AV → Value → Prop
  | .int k n, v => v = .int k n
  | .bool b, v => v = .bool b
  | .str s, v => v = .string ⟨s.toArray⟩
  | .nilS, v => v = .slice none 0 0
  | .empS, v => ∃ a, v = .slice (some a) 0 0
  | .slice c k off len esz, v => ∃ p o cap, m.row c k = some p ∧ v = .slice (some ⟨p.blk, o, none⟩) len cap ∧ len ≤ cap ∧
      (cap = 0 ∨ (p.lo ≤ off ∧ o = p.base + (off - p.lo) ∧ off + len * esz ≤ p.ext ∧ p.base + (off - p.lo) + cap * esz ≤ p.siz))
  | .nilP, v => v = .pointer none
  | .ptr c k off n, v => ∃ p, m.row c k = some p ∧ v = .pointer (some ⟨p.blk, p.base + (off - p.lo), none⟩) ∧ p.lo ≤ off ∧ off + n ≤ p.ext
  | .nilM, v => v = .map none
  | .map c, v => ∃ b, m.obj c = some b ∧ v = .map (some b)
  | .iter c, v => ∃ b, m.obj c = some b ∧ v = .pointer (some ⟨b, 0, none⟩)
  | .fn f cap, v => ∃ vs, v = .func (.func (F f)) #[] vs ∧ RelL F m cap vs.toList
  | .nilF, v => v = .nilFunc
  | .agg xs, v => ∃ vs, v = .agg vs ∧ RelL F m xs vs.toList
  | .tup xs, v => ∃ vs, v = .tuple vs ∧ RelL F m xs vs.toList
  | .nilI, v => v = .nilIface
  | .ifc, v => ∃ t u, v = .iface t u
  | .undef, _ => True
def RelL (F : Nat → Nat) (m : Emb) : List AV → List Value → Prop
  | [], l => l = []
  | x :: xs, l => ∃ v vs, l = v :: vs ∧ RelV F m x v ∧ RelL F m xs vs
end

def RelE (F : Nat → Nat) (m : Emb) : List (AV × AV) → List MapEntry → Prop
  | [], l => l = []
  | (k, v) :: es, l => ∃ e l', l = e :: l' ∧ RelV F m k e.key ∧ RelV F m v e.val ∧ RelE F m es l'

def Emb.le (m m' : Emb) : Prop := (∀ c k p, m.row c k = some p → m'.row c k = some p) ∧ ∀ c b, m.obj c = some b → m'.obj c = some b
theorem Emb.le_refl (m : Emb) : m.le m := ⟨fun _ _ _ h => h, fun _ _ h => h⟩
theorem Emb.le_trans {m m' m'' : Emb} (h : m.le m') (h' : m'.le m'') : m.le m'' := ⟨fun _ _ _ x => h'.1 _ _ _ (h.1 _ _ _ x), fun _ _ x => h'.2 _ _ (h.2 _ _ x)⟩

mutual
theorem RelV.mono {F : Nat → Nat} {m m' : Emb} (hm : m.le m') : ∀ (x : AV) (v : Value), RelV F m x v → RelV F m' x v
  | .int .., _, h | .bool _, _, h | .str _, _, h | .nilS, _, h | .empS, _, h | .nilP, _, h | .nilM, _, h | .nilF, _, h | .nilI, _, h | .ifc, _, h | .undef, _, h => by simp only [RelV] at h ⊢ <;> exact h
  | .slice .., _, h => by
    simp only [RelV] at h ⊢
    obtain ⟨p, o, cap, h1, h2⟩ := h
    exact ⟨p, o, cap, hm.1 _ _ _ h1, h2⟩
  | .ptr .., _, h => by
    simp only [RelV] at h ⊢
    obtain ⟨p, h1, h2⟩ := h
    exact ⟨p, hm.1 _ _ _ h1, h2⟩
  | .map _, _, h => by
    simp only [RelV] at h ⊢
    obtain ⟨b, h1, h2⟩ := h
    exact ⟨b, hm.2 _ _ h1, h2⟩
  | .iter _, _, h => by
    simp only [RelV] at h ⊢
    obtain ⟨b, h1, h2⟩ := h
    exact ⟨b, hm.2 _ _ h1, h2⟩
  | .fn _ cap, _, h => by
    simp only [RelV] at h ⊢
    obtain ⟨vs, h1, h2⟩ := h
    exact ⟨vs, h1, RelL.mono hm cap _ h2⟩
  | .agg xs, _, h => by
    simp only [RelV] at h ⊢
    obtain ⟨vs, h1, h2⟩ := h
    exact ⟨vs, h1, RelL.mono hm xs _ h2⟩
  | .tup xs, _, h => by
    simp only [RelV] at h ⊢
    obtain ⟨vs, h1, h2⟩ := h
    exact ⟨vs, h1, RelL.mono hm xs _ h2⟩
theorem RelL.mono {F : Nat → Nat} {m m' : Emb} (hm : m.le m') : ∀ (xs : List AV) (l : List Value), RelL F m xs l → RelL F m' xs l
  | [], _, h => by simpa only [RelL] using h
  | x :: xs, _, h => by
    simp only [RelL] at h ⊢
    obtain ⟨v, vs, h1, h2, h3⟩ := h
    exact ⟨v, vs, h1, RelV.mono hm x v h2, RelL.mono hm xs vs h3⟩
end

theorem RelE.mono {F : Nat → Nat} {m m' : Emb} (hm : m.le m') : ∀ (es : List (AV × AV)) (l : List MapEntry), RelE F m es l → RelE F m' es l
  | [], _, h => h
  | (k, v) :: es, l, h => by
    obtain ⟨e, l', h1, h2, h3, h4⟩ := h
    exact ⟨e, l', h1, RelV.mono hm _ _ h2, RelV.mono hm _ _ h3, RelE.mono hm es l' h4⟩

/-! ### Lists -/
theorem RelL.length {F : Nat → Nat} {m : Emb} : ∀ {xs : List AV} {l : List Value}, RelL F m xs l → l.length = xs.length
  | [], _, h => by simp only [RelL] at h; subst h; rfl
  | x :: xs, _, h => by
    simp only [RelL] at h
    obtain ⟨v, vs, rfl, _, h3⟩ := h
    simp [RelL.length h3]
theorem RelL.get {F : Nat → Nat} {m : Emb} : ∀ {xs : List AV} {l : List Value}, RelL F m xs l → ∀ (i : Nat) (x : AV), xs[i]? = some x → ∃ v, l[i]? = some v ∧ RelV F m x v
  | [], _, _, i, x, hx => by simp at hx
  | y :: xs, _, h, i, x, hx => by
    simp only [RelL] at h
    obtain ⟨v, vs, rfl, h2, h3⟩ := h
    cases i with
    | zero => simp at hx; subst hx; exact ⟨v, rfl, h2⟩
    | succ i => simp at hx; simpa using RelL.get h3 i x hx
theorem RelL.of {F : Nat → Nat} {m : Emb} : ∀ {xs : List AV} {l : List Value}, l.length = xs.length → (∀ (i : Nat) (x : AV) (v : Value), xs[i]? = some x → l[i]? = some v → RelV F m x v) → RelL F m xs l
  | [], l, hl, _ => by simp only [RelL]; exact List.eq_nil_of_length_eq_zero (by simpa using hl)
  | x :: xs, [], hl, _ => by simp at hl
  | x :: xs, v :: l, hl, h => by
    simp only [RelL]
    exact ⟨v, l, rfl, h 0 x v rfl rfl, RelL.of (by simpa using hl) fun i y u hy hu => h (i + 1) y u (by simpa using hy) (by simpa using hu)⟩
theorem RelL.append {F : Nat → Nat} {m : Emb} : ∀ {xs ys : List AV} {l l' : List Value}, RelL F m xs l → RelL F m ys l' → RelL F m (xs ++ ys) (l ++ l')
  | [], _, _, _, h, h' => by simp only [RelL] at h; subst h; simpa using h'
  | x :: xs, _, _, _, h, h' => by
    simp only [RelL] at h
    obtain ⟨v, vs, rfl, h2, h3⟩ := h
    simp only [List.cons_append, RelL]
    exact ⟨v, _, rfl, h2, h3.append h'⟩
theorem RelL.take {F : Nat → Nat} {m : Emb} (n : Nat) : ∀ {xs : List AV} {l : List Value}, RelL F m xs l → RelL F m (xs.take n) (l.take n)
  | [], _, h => by simp only [RelL] at h; subst h; simp [RelL]
  | x :: xs, _, h => by
    simp only [RelL] at h
    obtain ⟨v, vs, rfl, h2, h3⟩ := h
    cases n with
    | zero => simp [RelL]
    | succ n => simp only [List.take_succ_cons, RelL]; exact ⟨v, _, rfl, h2, h3.take n⟩
theorem RelL.drop {F : Nat → Nat} {m : Emb} (n : Nat) : ∀ {xs : List AV} {l : List Value}, RelL F m xs l → RelL F m (xs.drop n) (l.drop n)
  | [], _, h => by simp only [RelL] at h; subst h; simp [RelL]
  | x :: xs, _, h => by
    cases n with
    | zero => simpa using h
    | succ n =>
      simp only [RelL] at h
      obtain ⟨v, vs, rfl, h2, h3⟩ := h
      simpa using h3.drop n

/-- The cells of related values are related. -/
theorem RelV.cells {F : Nat → Nat} {m : Emb} {x : AV} {v : Value} (h : RelV F m x v) (hx : ∀ xs, x ≠ .tup xs) (hu : x ≠ .undef) : RelL F m x.cells v.cells.toList := by
  cases x <;> first
    | exact absurd rfl hu
    | exact absurd rfl (hx _)
    | (simp only [RelV] at h; obtain ⟨vs, rfl, h2⟩ := h; exact h2)
    | (have h' := h; simp only [RelV] at h'
       first
         | (subst h'; simp only [AV.cells, Value.cells, RelL]; exact ⟨_, _, rfl, h, rfl⟩)
         | (obtain ⟨a, rfl⟩ := h'; simp only [AV.cells, Value.cells, RelL]; exact ⟨_, _, rfl, h, rfl⟩)
         | (obtain ⟨a, b, rfl⟩ := h'; simp only [AV.cells, Value.cells, RelL]; exact ⟨_, _, rfl, h, rfl⟩)
         | (obtain ⟨a, h1, rfl⟩ := h'; simp only [AV.cells, Value.cells, RelL]; exact ⟨_, _, rfl, h, rfl⟩)
         | (obtain ⟨a, rfl, h1⟩ := h'; simp only [AV.cells, Value.cells, RelL]; exact ⟨_, _, rfl, h, rfl⟩)
         | (obtain ⟨a, h1, rfl, h2⟩ := h'; simp only [AV.cells, Value.cells, RelL]; exact ⟨_, _, rfl, h, rfl⟩)
         | (obtain ⟨a, b, c, h1, rfl, h2⟩ := h'; simp only [AV.cells, Value.cells, RelL]; exact ⟨_, _, rfl, h, rfl⟩))

theorem RelV.one {F : Nat → Nat} {m : Emb} {x : AV} {v : Value} (h : RelV F m x v) (hx : x.sc = true) : v.oneCell' = true := by
  cases x <;> simp only [AV.sc] at hx <;> first
    | (cases hx; done)
    | (simp only [RelV] at h
       first
         | (subst h; rfl)
         | (obtain ⟨a, rfl⟩ := h; rfl)
         | (obtain ⟨a, b, rfl⟩ := h; rfl)
         | (obtain ⟨a, h1, rfl⟩ := h; rfl)
         | (obtain ⟨a, rfl, h1⟩ := h; rfl)
         | (obtain ⟨a, h1, rfl, h2⟩ := h; rfl)
         | (obtain ⟨a, b, c, h1, rfl, h2⟩ := h; rfl))

/-! ### Heaps -/
def ObjRel (F : Nat → Nat) (base : Nat) (m : Emb) (w : World) (c : Nat) : AO → Prop
  | .row cs ver fl ro => ∀ k p, m.row c k = some p → fl ≤ k → k ≤ ver ∧ p.ext ≤ cs.length ∧ (k = ver → p.ext = cs.length) ∧ (ro = false → base ≤ p.blk) ∧
      ∃ C e fr, w.heap[p.blk]? = some (.cells C e fr) ∧ C.size = p.siz ∧ p.base + (p.ext - p.lo) ≤ p.siz ∧ (ro = false → p.siz ≤ fr.1 ∨ fr.2 ≤ fr.1) ∧
        ∀ j, p.lo ≤ j → j < p.ext → ∃ x v, cs[j]? = some x ∧ C[p.base + (j - p.lo)]? = some v ∧ RelV F m x v
  | .map es => ∀ b, m.obj c = some b → base ≤ b ∧ ∃ E clk, w.heap[b]? = some (.map E clk) ∧ RelE F m es E.toList ∧ clk = E.size ∧ ∀ (i : Nat) (e : MapEntry), E[i]? = some e → e.born = i
  | .iter s pos => ∀ b, m.obj c = some b → base ≤ b ∧ w.heap[b]? = some (.stringIter ⟨s.toArray⟩ pos)
  | .mit cm since seen => ∀ b, m.obj c = some b → base ≤ b ∧ ∃ bm sn, m.obj cm = some bm ∧ w.heap[b]? = some (.mapIter (some bm) since sn since) ∧ sn.toList = seen

def AO.isRow : AO → Bool
  | .row .. => true
  | _ => false

structure RelH (F : Nat → Nat) (base : Nat) (m : Emb) (h : AH) (w : World) : Prop where
  rowc : ∀ c k p, m.row c k = some p → ∃ o, h[c]? = some o ∧ o.isRow = true
  objc : ∀ c b, m.obj c = some b → ∃ o, h[c]? = some o ∧ o.isRow = false
  ob : ∀ c o, h[c]? = some o → ObjRel F base m w c o
  inj : ∀ c k p c' k' p', m.row c k = some p → m.row c' k' = some p' → base ≤ p.blk → p.blk = p'.blk → c = c' ∧ p.base + p'.lo = p'.base + p.lo ∧ p.siz = p'.siz
  injo : ∀ c c' b, m.obj c = some b → m.obj c' = some b → c = c'
  injr : ∀ c k p c' b, m.row c k = some p → m.obj c' = some b → p.blk ≠ b
  ltr : ∀ c k p, m.row c k = some p → p.blk < w.heap.size
  lto : ∀ c b, m.obj c = some b → b < w.heap.size
  vers : ∀ c cs ver fl ro k p, h[c]? = some (.row cs ver fl ro) → m.row c k = some p → k ≤ ver
  le : base ≤ w.heap.size

def Emb.has (m : Emb) (b : Nat) : Prop := (∃ c k p, m.row c k = some p ∧ p.blk = b) ∨ ∃ c, m.obj c = some b
def Emb.placed (m : Emb) (c : Nat) : Prop := (∃ k p, m.row c k = some p) ∨ ∃ b, m.obj c = some b

/-- What a piece of the run does. -/
structure StepR (F : Nat → Nat) (base : Nat) (m : Emb) (h : AH) (w : World) (m' : Emb) (h' : AH) (w' : World) : Prop where
  le : m.le m'
  rel : RelH F base m' h' w'
  os : w'.os = w.os
  tape : w'.tape = w.tape
  out : w'.output = w.output
  size : w.heap.size ≤ w'.heap.size
  frame : ∀ b, b < w.heap.size → (b < base ∨ ¬ m.has b) → w'.heap[b]? = w.heap[b]?
  newr : ∀ c k p, m'.row c k = some p → m.row c k = some p ∨ ((h.length ≤ c ∨ ∃ k0 p0, m.row c k0 = some p0) ∧ (w.heap.size ≤ p.blk ∨ ∃ k0 p0, m.row c k0 = some p0 ∧ p0.blk = p.blk))
  newo : ∀ c b, m'.obj c = some b → m.obj c = some b ∨ (h.length ≤ c ∧ w.heap.size ≤ b)
  unpl : ∀ c, c < h.length → ¬ m.placed c → h'[c]? = h[c]?
  len : h.length ≤ h'.length

theorem StepR.refl {F : Nat → Nat} {base : Nat} {m : Emb} {h : AH} {w : World} (hr : RelH F base m h w) : StepR F base m h w m h w :=
  ⟨Emb.le_refl m, hr, rfl, rfl, rfl, Nat.le_refl _, fun _ _ _ => rfl, fun _ _ _ h => .inl h, fun _ _ h => .inl h, fun _ _ _ => rfl, Nat.le_refl _⟩

theorem StepR.trans {F : Nat → Nat} {base : Nat} {m m' m'' : Emb} {h h' h'' : AH} {w w' w'' : World} (a : StepR F base m h w m' h' w') (b : StepR F base m' h' w' m'' h'' w'') :
    StepR F base m h w m'' h'' w'' where
  le := Emb.le_trans a.le b.le
  rel := b.rel
  os := b.os.trans a.os
  tape := b.tape.trans a.tape
  out := b.out.trans a.out
  size := Nat.le_trans a.size b.size
  frame := by
    intro i hi hb
    rw [b.frame i (Nat.lt_of_lt_of_le hi a.size) ?_, a.frame i hi hb]
    rcases hb with hb | hb
    · exact .inl hb
    · refine .inr fun hh => hb ?_
      rcases hh with ⟨c, k, p, h1, h2⟩ | ⟨c, h1⟩
      · rcases a.newr c k p h1 with h3 | ⟨_, h3 | ⟨k0, p0, h3, h4⟩⟩
        · exact .inl ⟨c, k, p, h3, h2⟩
        · omega
        · exact .inl ⟨c, k0, p0, h3, h4.trans h2⟩
      · rcases a.newo c i h1 with h3 | ⟨_, h3⟩
        · exact .inr ⟨c, h3⟩
        · omega
  newr := by
    intro c k p h1
    rcases b.newr c k p h1 with h2 | ⟨h2, h3⟩
    · exact a.newr c k p h2
    · refine .inr ⟨?_, ?_⟩
      · rcases h2 with h2 | ⟨k0, p0, h2⟩
        · exact .inl (Nat.le_trans a.len h2)
        · rcases a.newr c k0 p0 h2 with h4 | ⟨h4, _⟩
          · exact .inr ⟨k0, p0, h4⟩
          · exact h4
      · rcases h3 with h3 | ⟨k0, p0, h3, h4⟩
        · exact .inl (Nat.le_trans a.size h3)
        · rcases a.newr c k0 p0 h3 with h5 | ⟨_, h5 | ⟨k1, p1, h5, h6⟩⟩
          · exact .inr ⟨k0, p0, h5, h4⟩
          · exact .inl (h4 ▸ h5)
          · exact .inr ⟨k1, p1, h5, h6.trans h4⟩
  newo := by
    intro c i h1
    rcases b.newo c i h1 with h2 | ⟨h2, h3⟩
    · exact a.newo c i h2
    · exact .inr ⟨Nat.le_trans a.len h2, Nat.le_trans a.size h3⟩
  unpl := by
    intro c hc hn
    rw [b.unpl c (Nat.lt_of_lt_of_le hc a.len) ?_, a.unpl c hc hn]
    rintro (⟨k, p, h1⟩ | ⟨i, h1⟩)
    · rcases a.newr c k p h1 with h2 | ⟨h2 | ⟨k0, p0, h2⟩, _⟩
      · exact hn (.inl ⟨k, p, h2⟩)
      · omega
      · exact hn (.inl ⟨k0, p0, h2⟩)
    · rcases a.newo c i h1 with h2 | ⟨h2, _⟩
      · exact hn (.inr ⟨i, h2⟩)
      · omega
  len := Nat.le_trans a.len b.len

theorem StepR.below {F : Nat → Nat} {base : Nat} {m m' : Emb} {h h' : AH} {w w' : World} (a : StepR F base m h w m' h' w') (hb : base ≤ w.heap.size) : Below base w w' :=
  ⟨a.os, a.tape, a.out, a.size, fun i hi => a.frame i (Nat.lt_of_lt_of_le hi hb) (.inl hi)⟩

/-! ### Environments -/
def RelEnv (F : Nat → Nat) (m : Emb) (e : Env) (tmps : Array Value) : Prop := ∀ t, RelV F m (e.get t) (tmps.getD t undef)
theorem RelEnv.mono {F : Nat → Nat} {m m' : Emb} {e : Env} {tmps : Array Value} (hm : m.le m') (h : RelEnv F m e tmps) : RelEnv F m' e tmps := fun t => RelV.mono hm _ _ (h t)
theorem Env.get_set (e : Env) (t u : Nat) (v : AV) : (e.set t v).get u = if t = u then v else e.get u := by
  induction e with
  | nil => simp only [Env.set, Env.get]
  | cons x e ih =>
    obtain ⟨k, y⟩ := x
    simp only [Env.set]
    by_cases h : k = t
    · simp only [if_pos h, Env.get]; subst h; split <;> rfl
    · simp only [if_neg h]
      split
      · simp only [Env.get]
      · simp only [Env.get, ih]
        by_cases h1 : k = u
        · simp only [if_pos h1]; rw [if_neg]; omega
        · simp only [if_neg h1]
theorem Env.get_del (e : Env) (t u : Nat) : (e.del t).get u = if t = u then .undef else e.get u := by
  induction e with
  | nil => simp [Env.del, Env.get]
  | cons x e ih =>
    obtain ⟨k, y⟩ := x
    simp only [Env.del]
    by_cases h : k = t
    · simp only [if_pos h, ih, Env.get]; subst h; split <;> rfl
    · simp only [if_neg h, Env.get, ih]
      by_cases h1 : k = u
      · simp only [if_pos h1]; rw [if_neg]; omega
      · simp only [if_neg h1]
theorem RelEnv.del {F : Nat → Nat} {m : Emb} {e : Env} {tmps : Array Value} (h : RelEnv F m e tmps) (t : Nat) : RelEnv F m (e.del t) tmps := by
  intro u
  rw [Env.get_del]
  split
  · simp only [RelV]
  · exact h u
theorem RelEnv.dels {F : Nat → Nat} {m : Emb} {tmps : Array Value} : ∀ (ts : List Nat) {e : Env}, RelEnv F m e tmps → RelEnv F m (e.dels ts) tmps
  | [], _, h => h
  | t :: ts, _, h => RelEnv.dels ts (h.del t)
theorem getD_set (tmps : Array Value) (t u : Nat) (v : Value) : (tmps.setIfInBounds t v).getD u undef = if t = u ∧ t < tmps.size then v else tmps.getD u undef := by
  simp only [Array.getD_eq_getD_getElem?, Array.getElem?_setIfInBounds]
  by_cases h : t = u
  · subst h
    by_cases h2 : t < tmps.size <;> simp [h2]
  · simp [h]
theorem RelEnv.put {F : Nat → Nat} {m : Emb} {e : Env} {a : Act} (h : RelEnv F m e a.tmps) {r : AV} {v : Value} (hv : RelV F m r v) (d : Option Nat) (hd : ∀ t, d = some t → t < a.tmps.size) :
    RelEnv F m (Ab.put e d r) (a.put d v).tmps := by
  cases d with
  | none => exact h
  | some t =>
    intro u
    simp only [Ab.put, Act.put, Env.get_set]
    rw [getD_set]
    have := hd t rfl
    by_cases h1 : t = u
    · simp only [if_pos h1, if_pos (And.intro h1 this)]; exact hv
    · simp only [if_neg h1, h1, false_and, if_false]; exact h u
theorem init_get : ∀ (xs : List AV) (i t : Nat), (Env.init i xs).get t = if i ≤ t ∧ t < i + xs.length then xs.getD (t - i) .undef else .undef
  | [], i, t => by simp [Env.init, Env.get]
  | x :: xs, i, t => by
    simp only [Env.init, Env.get, init_get xs (i + 1) t, List.length_cons]
    by_cases h : i = t
    · subst h; simp
    · simp only [if_neg h]
      by_cases h1 : i + 1 ≤ t ∧ t < i + 1 + xs.length
      · rw [if_pos h1, if_pos (by omega)]
        obtain ⟨d, rfl⟩ : ∃ d, t = i + 1 + d := ⟨t - (i + 1), by omega⟩
        rw [show i + 1 + d - i = d + 1 by omega, show i + 1 + d - (i + 1) = d by omega]; simp
      · rw [if_neg h1, if_neg (by omega)]

end Go.Proofs.YtnamhjdfegohbaaGreatDoor.Ab
