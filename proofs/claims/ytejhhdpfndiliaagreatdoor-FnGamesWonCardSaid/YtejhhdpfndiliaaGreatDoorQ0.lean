/- Part 1 of the proof of a law of the given program: the rules that it leans on, and what the functions that it reaches answer; the conditions stand with each theorem. -/
import Derived.Tactics
import Derived.WalkKit
import Derived.Lib.Bytealg
import Derived.Lib.SlTrimSet
import Derived.Lib.Join
import Derived.Lib.Repeat
set_option linter.unusedSimpArgs false
set_option linter.unusedVariables false
/- THE ABSTRACT MACHINE: values, heap, compact instructions, evaluator. No program in sight. -/
namespace Go.Proofs.YtejhhdpfndiliaaGreatDoor.Ab
open Go

/-! ### Values and heap -/
inductive AV where
  | int (k : IntKind) (n : Int)
  | bool (b : Bool)
  | str (s : List UInt8)
  | nilS
  | empS
  | slice (c k off len esz : Nat)
  | nilP
  | ptr (c k off n : Nat)
  | nilM
  | map (c : Nat)
  | iter (c : Nat)
  | fn (f : Nat) (cap : List AV)
  | nilF
  | agg (xs : List AV)
  | tup (xs : List AV)
  | nilI
  | ifc
  | undef
  deriving Inhabited

inductive AO where
  | row (cs : List AV) (ver floor : Nat) (ro : Bool)
  | map (es : List (AV × AV))
  | iter (s : List UInt8) (pos : Nat)
  | mit (cm since : Nat) (seen : List Nat)
  deriving Inhabited

abbrev AH := List AO

def AV.cells : AV → List AV
  | .agg xs => xs
  | v => [v]

/-- A value that fills one cell. -/
def AV.sc : AV → Bool
  | .agg _ | .tup _ | .undef => false
  | _ => true

def mkv (agg : Bool) (xs : List AV) : Option AV :=
  if agg then some (.agg xs) else match xs with
    | [v] => some v
    | _ => none

/-! ### Environments: slots that are known -/
abbrev Env := List (Nat × AV)
def Env.get : Env → Nat → AV
  | [], _ => .undef
  | (k, v) :: e, t => if k = t then v else Env.get e t
def Env.set : Env → Nat → AV → Env
  | [], t, v => [(t, v)]
  | (k, u) :: e, t, v => if k = t then (t, v) :: e else if t < k then (t, v) :: (k, u) :: e else (k, u) :: Env.set e t v
def Env.del : Env → Nat → Env
  | [], _ => []
  | (k, u) :: e, t => if k = t then Env.del e t else (k, u) :: Env.del e t
def Env.dels (e : Env) : List Nat → Env
  | [] => e
  | t :: ts => Env.dels (e.del t) ts
def Env.init : Nat → List AV → Env
  | _, [] => []
  | i, v :: vs => (i, v) :: Env.init (i + 1) vs

/-! ### Instructions -/
inductive Opd where
  | t (n : Nat)
  | c (v : AV)

inductive AOp where
  | mov (x : Opd)
  | pick (c a b : Opd)
  | bin (op : BinOp) (x y : Opd)
  | beq (neg : Bool) (x y : Opd)
  | aeq (neg : Bool) (kds : List Nat) (x y : Opd)
  | niq (neg : Bool) (kd : Nat) (x : Opd)
  | un (op : UnOp) (x : Opd)
  | conv (k : IntKind) (x : Opd)
  | toB (x : Opd)
  | ofB (x : Opd)
  | ofR (x : Opd)
  | new (zero : List AV)
  | box (x : Opd)
  | build (zero : List AV) (parts : List (Nat × Nat × Opd))
  | lit (esz len : Nat) (zero : List AV) (parts : List (Nat × Nat × Opd))
  | lit0
  | load (agg : Bool) (n : Nat) (a : Opd)
  | store (n : Nat) (a x : Opd)
  | nck (x : Opd)
  | faddr (off n : Nat) (a : Opd)
  | fld (agg : Bool) (off n : Nat) (x : Opd)
  | iaddr (esz : Nat) (x i : Opd)
  | iaddrA (len esz : Nat) (a i : Opd)
  | idx (agg : Bool) (len esz : Nat) (x i : Opd)
  | idxS (x i : Opd)
  | sub (esz : Nat) (x : Opd) (lo hi : Option Opd)
  | sub0 (x : Opd) (hi mx : Opd)
  | subS (x : Opd) (lo hi : Option Opd)
  | subA (len esz : Nat) (a : Opd) (lo hi : Option Opd)
  | make (esz : Nat) (zero : List AV) (len cap : Opd)
  | mkmap
  | mkfn (f : Nat) (caps : List Opd)
  | look (kd : Nat) (zero : AV) (ok : Bool) (m k : Opd)
  | mset (kd : Nat) (m k v : Opd)
  | mlen (m : Opd)
  | rng (x : Opd)
  | rngM (x : Opd)
  | ent (it : Opd)
  | nxt (it : Opd)
  | prj (i : Nat) (x : Opd)
  | call (f : Nat) (xs : List Opd)
  | callv (x : Opd) (xs : List Opd)
  | lenS (x : Opd)
  | lenV (x : Opd)
  | app (esz : Nat) (s x : Opd)
  | appS (s x : Opd)
  | copy (esz : Nat) (d s : Opd)
  | clr (zero : List AV) (x : Opd)
  | mmx (max : Bool) (x y : Opd)

structure I where
  dst : Option Nat
  op : AOp
  grd : Option (Nat × Bool) := none

inductive C where
  | skip
  | reg (is : List I)
  | drw (is : List I) (ps : List (Nat × Nat))
  | kl (ts : List Nat) (c : C)
  | seq (a b : C)
  | cond (x : Opd) (a b : C)
  | blk (id : Nat) (c : C)
  | loop (c : C)
  | exit (id : Nat)
  | ret
  | bad

inductive Res where
  | tmp (t : Nat)
  | cell (agg : Bool) (n : Nat) (t : Nat)

structure FI where
  body : C
  res : List Res

/-! ### Memory -/
def room : Nat := 1099511627776

def rdRow (h : AH) (c k off n : Nat) : Option (List AV) :=
  match h[c]? with
  | some (.row cs ver fl _) => if fl ≤ k ∧ k ≤ ver ∧ off + n ≤ cs.length then some ((cs.drop off).take n) else none
  | _ => none

def splice {α : Type} (cs : List α) (off : Nat) (vs : List α) : List α := cs.take off ++ vs ++ cs.drop (off + vs.length)

def wrRow (h : AH) (c k off : Nat) (vs : List AV) : Option AH :=
  match h[c]? with
  | some (.row cs ver fl false) => if k = ver ∧ fl ≤ ver ∧ off + vs.length ≤ cs.length ∧ vs.all AV.sc = true then some (h.set c (.row (splice cs off vs) ver ver false)) else none
  | _ => none

def newRow (h : AH) (cs : List AV) : Option (Nat × AH) := if cs.all AV.sc = true then some (h.length, h ++ [.row cs 0 0 false]) else none

/-- What a slice or a string holds, cell by cell. -/
def cellsOf (h : AH) : AV → Option (List AV)
  | .nilS | .empS => some []
  | .slice c k off len esz => rdRow h c k off (len * esz)
  | .str s => some (s.map fun b => .int .u8 b.toNat)
  | _ => none

/-- append: of n elements, the cells vs; where the slice ends as its row does. -/
def apRow1 (h : AH) (esz : Nat) (s : AV) (n : Nat) (vs : List AV) : Option (AV × AH) :=
  match s with
  | .nilS => if n = 0 then some (.nilS, h) else if n ≤ room then (newRow h vs).map fun (c, h') => (.slice c 0 0 n esz, h') else none
  | .empS => if n = 0 then some (.empS, h) else if n ≤ room then (newRow h vs).map fun (c, h') => (.slice c 0 0 n esz, h') else none
  | .slice c k off len e =>
    match h[c]? with
    | some (.row cs ver fl false) =>
      if e = esz ∧ k = ver ∧ off + len * esz = cs.length ∧ fl ≤ ver ∧ vs.all AV.sc = true ∧ len + n ≤ room then
        some (.slice c (ver + 1) off (len + n) esz, h.set c (.row (cs ++ vs) (ver + 1) fl false)) else none
    | _ => none
  | _ => none

/-- append: of n elements, the cells vs; what lies behind the slice is given up. -/
def apRow (h : AH) (esz : Nat) (s : AV) (n : Nat) (vs : List AV) : Option (AV × AH) :=
  match s with
  | .slice c k off len e =>
    match h[c]? with
    | some (.row cs ver fl false) =>
      if e = esz ∧ k = ver ∧ off + len * esz = cs.length ∧ fl ≤ ver ∧ vs.all AV.sc = true ∧ len + n ≤ room then
        some (.slice c (ver + 1) off (len + n) esz, h.set c (.row (cs ++ vs) (ver + 1) fl false))
      else if e = esz ∧ k = ver ∧ off + len * esz ≤ cs.length ∧ fl ≤ ver ∧ vs.all AV.sc = true ∧ len + n ≤ room then
        some (.slice c (ver + 2) off (len + n) esz, h.set c (.row (cs.take (off + len * esz) ++ vs) (ver + 2) (ver + 1) false))
      else none
    | _ => none
  | _ => apRow1 h esz s n vs

/-! ### Keys of maps -/
def keyEq : AV → AV → Option Bool
  | .int k a, .int k' b => if k = k' then some (a == b) else none
  | .str a, .str b => some (a == b)
  | .bool a, .bool b => some (a == b)
  | _, _ => none
def keyIs : Nat → AV → Bool
  | 0, .int _ _ | 1, .str _ | 2, .bool _ => true
  | _, _ => false
def seqL : List Nat → List AV → List AV → Option Bool
  | [], [], [] => some true
  | kd :: kds, x :: xs, y :: ys => match keyIs kd x, keyEq x y, seqL kds xs ys with
    | true, some a, some b => some (a && b)
    | _, _, _ => none
  | _, _, _ => none

def mfind (k : AV) : List (AV × AV) → Option (Option AV)
  | [] => some none
  | (a, v) :: es => match keyEq k a with
    | some true => some (some v)
    | some false => mfind k es
    | none => none
def mput (k v : AV) : List (AV × AV) → List (AV × AV)
  | [] => [(k, v)]
  | (a, u) :: es => match keyEq k a with
    | some true => (k, v) :: es
    | _ => (a, u) :: mput k v es

/-! ### Operations -/
def two63 : Nat := 9223372036854775807
def binI (op : BinOp) (k : IntKind) (x y : Int) : Option AV :=
  match op with
  | .add => some (.int k (k.wrap (x + y)))
  | .sub => some (.int k (k.wrap (x - y)))
  | .mul => some (.int k (k.wrap (x * y)))
  | .quo => if y = 0 then none else some (.int k (k.wrap (x.tdiv y)))
  | .rem => if y = 0 then none else some (.int k (x.tmod y))
  | .and | .or | .xor | .andNot => some (.int k (bits op k x y))
  | .eql => some (.bool (x == y))
  | .neq => some (.bool (x != y))
  | .lss => some (.bool (decide (x < y)))
  | .leq => some (.bool (decide (x ≤ y)))
  | .gtr => some (.bool (decide (x > y)))
  | .geq => some (.bool (decide (x ≥ y)))
  | .shl | .shr => none
def binSh (op : BinOp) (k : IntKind) (x y : Int) : Option AV :=
  if y < 0 then none else match op with
  | .shl => some (.int k (k.wrap (x * 2 ^ (min y.toNat k.bits))))
  | .shr => some (.int k (x.fdiv (2 ^ (min y.toNat k.bits))))
  | _ => none
def binS (op : BinOp) (x y : List UInt8) : Option AV :=
  match op with
  | .add => if x.length + y.length ≤ two63 then some (.str (x ++ y)) else none
  | .eql => some (.bool (x == y))
  | .neq => some (.bool (!(x == y)))
  | .lss => some (.bool (Op.bytesLess x y))
  | .leq => some (.bool (Op.bytesLess x y || x == y))
  | .gtr => some (.bool (!(Op.bytesLess x y || x == y)))
  | .geq => some (.bool (!(Op.bytesLess x y)))
  | _ => none
def evBin (op : BinOp) : AV → AV → Option AV
  | .int k x, .int k' y => match op with
    | .shl | .shr => binSh op k x y
    | _ => if k = k' then binI op k x y else none
  | .str x, .str y => binS op x y
  | _, _ => none

def evNil : Nat → AV → Option Bool
  | 0, .nilS | 1, .nilP | 2, .nilM | 3, .nilF | 4, .nilI => some true
  | 0, .empS | 0, .slice .. | 1, .ptr .. | 2, .map _ | 3, .fn .. | 4, .ifc => some false
  | _, _ => none

def byte1 : AV → Option UInt8
  | .int .u8 n => some (UInt8.ofNat n.toNat)
  | _ => none
def bytesL : List AV → Option (List UInt8)
  | [] => some []
  | v :: vs => match byte1 v, bytesL vs with
    | some b, some bs => some (b :: bs)
    | _, _ => none

def fillP (cells : List AV) : List (Nat × Nat × AV) → Option (List AV)
  | [] => some cells
  | (off, n, v) :: rest => if v.cells.length = n ∧ off + n ≤ cells.length ∧ v.cells.all AV.sc = true then fillP (splice cells off v.cells) rest else none

def dec (s : List UInt8) (pos : Nat) : Int × Nat := let (c, w) := Utf8.decode ⟨s.toArray⟩ pos; (c, w)

def bnd (o : Option AV) (d top : Nat) : Option Nat :=
  match o with
  | none => some d
  | some (.int _ i) => if 0 ≤ i ∧ i ≤ top then some i.toNat else none
  | _ => none

abbrev CF := Nat → List AV → AH → Option (AV × AH)

def optv (ρ : Opd → AV) : Option Opd → Option AV
  | none => none
  | some x => some (ρ x)

def evOp (cf : CF) (ρ : Opd → AV) (h : AH) : AOp → Option (AV × AH)
  | .mov x => some (ρ x, h)
  | .pick c a b => match ρ c with
    | .bool t => some (if t then ρ a else ρ b, h)
    | _ => none
  | .bin op x y => (evBin op (ρ x) (ρ y)).map (·, h)
  | .beq neg x y => match ρ x, ρ y with
    | .bool a, .bool b => some (.bool (if neg then !(a == b) else a == b), h)
    | _, _ => none
  | .aeq neg kds x y => match ρ x, ρ y with
    | .agg xs, .agg ys => (seqL kds xs ys).map fun b => (.bool (if neg then !b else b), h)
    | _, _ => none
  | .niq neg kd x => (evNil kd (ρ x)).map fun b => (.bool (if neg then !b else b), h)
  | .un op x => match op, ρ x with
    | .neg, .int k n => some (.int k (k.wrap (0 - n)), h)
    | .not, .bool b => some (.bool (!b), h)
    | _, _ => none
  | .conv k x => match ρ x with
    | .int _ n => some (.int k (k.wrap n), h)
    | _ => none
  | .toB x => match ρ x with
    | .str s => if s.length ≤ room then (newRow h (s.map fun b => .int .u8 b.toNat)).map fun (c, h') => (.slice c 0 0 s.length 1, h') else none
    | _ => none
  | .ofB x => match ρ x with
    | .nilS | .empS => some (.str [], h)
    | .slice c k off len e => if e = 1 then match rdRow h c k off len with
        | some cs => (bytesL cs).map fun s => (.str s, h)
        | none => none
      else none
    | _ => none
  | .ofR x => match ρ x with
    | .int _ n => some (.str (Utf8.encode n).data.toList, h)
    | _ => none
  | .new zero => (newRow h zero).map fun (c, h') => (.ptr c 0 0 zero.length, h')
  | .box x => match ρ x with
    | .undef | .tup _ => none
    | v => (newRow h v.cells).map fun (c, h') => (.ptr c 0 0 v.cells.length, h')
  | .build zero parts => (fillP zero (parts.map fun (o, n, x) => (o, n, ρ x))).map fun cs => (.agg cs, h)
  | .lit esz len zero parts => match fillP zero (parts.map fun (o, n, x) => (o, n, ρ x)) with
    | some cs => (newRow h cs).map fun (c, h') => (.slice c 0 0 len esz, h')
    | none => none
  | .lit0 => some (.empS, h)
  | .load agg n a => match ρ a with
    | .ptr c k off m => if n ≤ m then match rdRow h c k off n with
        | some cs => (mkv agg cs).map (·, h)
        | none => none
      else none
    | _ => none
  | .store n a x => match ρ a with
    | .ptr c k off m => if n ≤ m ∧ (ρ x).cells.length = n then (wrRow h c k off (ρ x).cells).map fun h' => (.undef, h') else none
    | _ => none
  | .nck x => match ρ x with
    | .ptr c k off n => some (.ptr c k off n, h)
    | .fn f cs => some (.fn f cs, h)
    | _ => none
  | .faddr off n a => match ρ a with
    | .ptr c k o m => if off + n ≤ m then some (.ptr c k (o + off) n, h) else none
    | _ => none
  | .fld agg off n x => match ρ x with
    | .agg xs => if off + n ≤ xs.length then (mkv agg ((xs.drop off).take n)).map (·, h) else none
    | _ => none
  | .iaddr esz x i => match ρ x, ρ i with
    | .slice c k off len e, .int _ j => if e = esz ∧ 0 ≤ j ∧ j < len then some (.ptr c k (off + j.toNat * esz) esz, h) else none
    | _, _ => none
  | .iaddrA len esz a i => match ρ a, ρ i with
    | .ptr c k off m, .int _ j => if len * esz ≤ m ∧ 0 ≤ j ∧ j < len then some (.ptr c k (off + j.toNat * esz) esz, h) else none
    | _, _ => none
  | .idx agg len esz x i => match ρ x, ρ i with
    | .agg xs, .int _ j => if xs.length = len * esz ∧ 0 ≤ j ∧ j < len then (mkv agg ((xs.drop (j.toNat * esz)).take esz)).map (·, h) else none
    | _, _ => none
  | .idxS x i => match ρ x, ρ i with
    | .str s, .int _ j => if 0 ≤ j ∧ j < s.length then some (.int .u8 (s.getD j.toNat 0).toNat, h) else none
    | _, _ => none
  | .sub esz x lo hi => match ρ x with
    | .nilS => match bnd (optv ρ hi) 0 0 with
      | some b => match bnd (optv ρ lo) 0 b with
        | some _ => some (.nilS, h)
        | none => none
      | none => none
    | .empS => match bnd (optv ρ hi) 0 0 with
      | some b => match bnd (optv ρ lo) 0 b with
        | some _ => some (.empS, h)
        | none => none
      | none => none
    | .slice c k off len e => if e = esz then match bnd (optv ρ hi) len len with
        | some b => match bnd (optv ρ lo) 0 b with
          | some a => some (.slice c k (off + a * esz) (b - a) esz, h)
          | none => none
        | none => none
      else none
    | _ => none
  | .sub0 x hi mx => match ρ x, ρ hi, ρ mx with
    | .nilS, .int _ 0, .int _ 0 => some (.nilS, h)
    | .empS, .int _ 0, .int _ 0 => some (.empS, h)
    | .slice .., .int _ 0, .int _ 0 => some (.empS, h)
    | _, _, _ => none
  | .subS x lo hi => match ρ x with
    | .str s => match bnd (optv ρ hi) s.length s.length with
      | some b => match bnd (optv ρ lo) 0 b with
        | some a => some (.str ((s.drop a).take (b - a)), h)
        | none => none
      | none => none
    | _ => none
  | .subA len esz a lo hi => match ρ a with
    | .ptr c k off m => if len * esz ≤ m ∧ (rdRow h c k off (len * esz)).isSome = true then match bnd (optv ρ hi) len len with
        | some b => match bnd (optv ρ lo) 0 b with
          | some a => some (.slice c k (off + a * esz) (b - a) esz, h)
          | none => none
        | none => none
      else none
    | _ => none
  | .make esz zero len cap => match ρ len, ρ cap with
    | .int _ n, .int _ m => if 0 ≤ n ∧ n ≤ m ∧ m ≤ room ∧ zero.length = esz then
        (newRow h (List.replicate n.toNat zero).flatten).map fun (c, h') => (.slice c 0 0 n.toNat esz, h') else none
    | _, _ => none
  | .mkmap => some (.map h.length, h ++ [.map []])
  | .mkfn f caps => some (.fn f (caps.map ρ), h)
  | .look kd zero ok m k => if keyIs kd (ρ k) = true then match (match ρ m with
      | .nilM => some []
      | .map c => match h[c]? with
        | some (.map es) => some es
        | _ => none
      | _ => none) with
    | some es => match mfind (ρ k) es with
      | some (some v) => some (if ok then .tup [v, .bool true] else v, h)
      | some none => some (if ok then .tup [zero, .bool false] else zero, h)
      | none => none
    | none => none
    else none
  | .mset kd m k v => if keyIs kd (ρ k) = true then match ρ m with
    | .map c => match h[c]? with
      | some (.map es) => match mfind (ρ k) es with
        | some _ => match ρ v with
          | .undef => none
          | u => some (.undef, h.set c (.map (mput (ρ k) u es)))
        | none => none
      | _ => none
    | _ => none
    else none
  | .mlen m => match ρ m with
    | .nilM => some (.int .i64 0, h)
    | .map c => match h[c]? with
      | some (.map es) => some (.int .i64 es.length, h)
      | _ => none
    | _ => none
  | .rng x => match ρ x with
    | .str s => some (.iter h.length, h ++ [.iter s 0])
    | _ => none
  | .rngM x => match ρ x with
    | .map c => match h[c]? with
      | some (.map es) => some (.iter h.length, h ++ [.mit c es.length []])
      | _ => none
    | _ => none
  | .ent it => match ρ it with
    | .iter c => match h[c]? with
      | some (.mit cm since seen) => match h[cm]? with
        | some (.map es) => match seen.getLast? with
          | some i => if es.length = since then (es[i]?).map fun e => (.tup [e.1, e.2], h) else none
          | none => none
        | _ => none
      | _ => none
    | _ => none
  | .nxt it => match ρ it with
    | .iter c => match h[c]? with
      | some (.iter s pos) => if pos < s.length then
          some (.tup [.bool true, .int .i64 pos, .int .i32 (dec s pos).1], h.set c (.iter s (pos + (dec s pos).2)))
        else some (.tup [.bool false], h)
      | _ => none
    | _ => none
  | .prj i x => match ρ x with
    | .tup vs => (vs[i]?).map (·, h)
    | _ => none
  | .call f xs => cf f (xs.map ρ) h
  | .callv x xs => match ρ x with
    | .fn f cap => cf f (xs.map ρ ++ cap) h
    | _ => none
  | .lenS x => match ρ x with
    | .str s => some (.int .i64 s.length, h)
    | _ => none
  | .lenV x => match ρ x with
    | .nilS | .empS => some (.int .i64 0, h)
    | .slice _ _ _ len _ => some (.int .i64 len, h)
    | _ => none
  | .app esz s x => match ρ x with
    | .nilS | .empS => apRow h esz (ρ s) 0 []
    | .slice c k off len e => if e = esz then match rdRow h c k off (len * esz) with
        | some vs => apRow h esz (ρ s) len vs
        | none => none
      else none
    | _ => none
  | .appS s x => match ρ x with
    | .str b => apRow h 1 (ρ s) b.length (b.map fun b => .int .u8 b.toNat)
    | _ => none
  | .copy esz d s => match ρ d, ρ s with
    | .slice c k off len e, .slice c' k' off' len' e' => if e = esz ∧ e' = esz then
        if min len' len = 0 then some (.int .i64 0, h) else match rdRow h c' k' off' (min len' len * esz) with
        | some vs => (wrRow h c k off vs).map fun h' => (.int .i64 ((min len' len : Nat) : Int), h')
        | none => none
      else none
    | _, _ => none
  | .clr zero x => match ρ x with
    | .nilS | .empS => some (.tup [], h)
    | .slice c k off len e => if e = zero.length then
        if len = 0 then some (.tup [], h) else (wrRow h c k off (List.replicate len zero).flatten).map fun h' => (.tup [], h')
      else none
    | _ => none
  | .mmx mx x y => match ρ x, ρ y with
    | .int k a, .int k' b => if k = k' then some (.int k (if mx then (if b > a then b else a) else (if b < a then b else a)), h) else none
    | .str a, .str b => if mx then none else some (.str (if (Op.bytesLess a b || a == b) then a else b), h)
    | _, _ => none

def env (e : Env) : Opd → AV
  | .t n => e.get n
  | .c v => v

def put (e : Env) (d : Option Nat) (v : AV) : Env :=
  match d with
  | some t => e.set t v
  | none => e

def evI (cf : CF) (i : I) (e : Env) (h : AH) : Option (Env × AH) :=
  match i.grd with
  | none => (evOp cf (env e) h i.op).map fun (v, h') => (put e i.dst v, h')
  | some (t, want) => match e.get t with
    | .bool b => if b = want then (evOp cf (env e) h i.op).map fun (v, h') => (put e i.dst v, h') else some (put e i.dst (.tup []), h)
    | .tup [] => some (put e i.dst (.tup []), h)
    | _ => none

def evR (cf : CF) : List I → Env → AH → Option (Env × AH)
  | [], e, h => some (e, h)
  | i :: is, e, h => match evI cf i e h with
    | some (e', h') => evR cf is e' h'
    | none => none

inductive X where
  | normal
  | exit (id : Nat)
  | ret

/-- The state before operation i of a region. -/
def stateAt (cf : CF) (is : List I) (i : Nat) (e : Env) (h : AH) : Option (Env × AH) := evR cf (is.take i) e h

def noCall : CF := fun _ _ _ => none

/-- What operation j reads does not turn by operation i. -/
def Stable (cf : CF) (is : List I) (e : Env) (h : AH) (j i : Nat) : Prop :=
  ∀ o e1 h1 e2 h2 e3 h3, is[j]? = some o → stateAt cf is j e h = some (e1, h1) → stateAt cf is i e h = some (e2, h2) → stateAt cf is (i + 1) e h = some (e3, h3) →
    (evOp noCall (env e1) h2 o.op).map (·.1) = (evOp noCall (env e1) h3 o.op).map (·.1)

open Classical in
/-- Pairs (j, i): a read and what does not turn it; (k, k): a literal that may be laid early. -/
noncomputable def evDraw (cf : CF) (is : List I) (ps : List (Nat × Nat)) (e : Env) (h : AH) : Option (Env × AH) :=
  if ∀ p ∈ ps, p.1 = p.2 ∨ Stable cf is e h p.1 p.2 then evR cf is e h else none

def evLoop (step : Env → AH → Option (X × Env × AH)) : Nat → Env → AH → Option (X × Env × AH)
  | 0, _, _ => none
  | n + 1, e, h => match step e h with
    | some (.normal, e', h') => evLoop step n e' h'
    | r => r

noncomputable def evC (cf : CF) (n : Nat) : C → Env → AH → Option (X × Env × AH)
  | .skip, e, h => some (.normal, e, h)
  | .reg is, e, h => (evR cf is e h).map fun (e', h') => (.normal, e', h')
  | .drw is ps, e, h => (evDraw cf is ps e h).map fun (e', h') => (.normal, e', h')
  | .kl ts c, e, h => evC cf n c (e.dels ts) h
  | .seq a b, e, h => match evC cf n a e h with
    | some (.normal, e', h') => evC cf n b e' h'
    | r => r
  | .cond x a b, e, h => match env e x with
    | .bool t => if t then evC cf n a e h else evC cf n b e h
    | _ => none
  | .blk id c, e, h => match evC cf n c e h with
    | some (.exit id', e', h') => if id' = id then some (.normal, e', h') else some (.exit id', e', h')
    | r => r
  | .loop c, e, h => evLoop (evC cf n c) n e h
  | .exit id, e, h => some (.exit id, e, h)
  | .ret, e, h => some (.ret, e, h)
  | .bad, _, _ => none

def res1 (e : Env) (h : AH) : Res → Option AV
  | .tmp t => some (e.get t)
  | .cell agg n t => match e.get t with
    | .ptr c k off m => if n ≤ m then match rdRow h c k off n with
        | some cs => mkv agg cs
        | none => none
      else none
    | _ => none
def resL (e : Env) (h : AH) : List Res → Option (List AV)
  | [] => some []
  | r :: rs => match res1 e h r, resL e h rs with
    | some v, some vs => some (v :: vs)
    | _, _ => none
def resV (e : Env) (h : AH) (rs : List Res) : Option AV :=
  match resL e h rs with
  | some [v] => some v
  | some vs => some (.tup vs)
  | none => none

abbrev Ext := Nat → Option (CF → List AV → AH → Option (AV × AH))

noncomputable def evF (T : Nat → Option FI) (E : Ext) : Nat → CF
  | 0 => fun _ _ _ => none
  | n + 1 => fun f xs h => match E f with
    | some F => F (evF T E n) xs h
    | none => match T f with
      | some fi => match evC (evF T E n) n fi.body (Env.init 0 xs) h with
        | some (.normal, e, h') => (resV e h' fi.res).map (·, h')
        | some (.ret, e, h') => (resV e h' fi.res).map (·, h')
        | _ => none
      | none => none

end Go.Proofs.YtejhhdpfndiliaaGreatDoor.Ab

/- BODIES of functions as compact literals, written by gen.py. -/
namespace Go.Proofs.YtejhhdpfndiliaaGreatDoor.Ab
open Go

-- lp432_0 HEAD [5, 6, 7, 11, 31, 42, 44, 396, 397, 398] | exit 0: [5, 6, 7, 31, 42, 44] | ret: [4]
/-- laws.FnGamesWon -/
def lb432_0 : C := .kl [442] (.seq (.reg [⟨some 399, .bin .lss (.t 398) (.t 397), none⟩]) (.seq (.cond (.t 399) (.skip) (.kl [11, 396, 397, 398, 399] (.exit 0))) (.kl [399] (.seq (.blk 1 (.seq (.reg [⟨some 400, .iaddr 2 (.t 396) (.t 398), none⟩, ⟨some 401, .load true 2 (.t 400), none⟩, ⟨some 46, .new [.int .i64 0, .int .i64 0], none⟩, ⟨none, .store 2 (.t 46) (.t 401), none⟩]) (.kl [400, 401] (.seq (.reg [⟨some 403, .mov (.t 5), none⟩, ⟨some 404, .load true 2 (.t 46), none⟩, ⟨some 405, .call 389 [.t 403, .t 404], none⟩, ⟨some 402, .mov (.t 405), none⟩, ⟨some 406, .prj 0 (.t 402), none⟩, ⟨some 407, .prj 1 (.t 402), none⟩, ⟨some 47, .mov (.t 406), none⟩, ⟨some 48, .mov (.t 407), none⟩]) (.kl [402, 403, 404, 405, 406, 407] (.seq (.reg [⟨some 409, .mov (.t 47), none⟩, ⟨some 410, .mov (.t 6), none⟩, ⟨some 411, .un .not (.t 410), none⟩, ⟨some 412, .call 415 [.t 409, .t 411], none⟩, ⟨some 408, .mov (.t 412), none⟩, ⟨some 413, .prj 0 (.t 408), none⟩, ⟨some 414, .prj 1 (.t 408), none⟩, ⟨some 49, .mov (.t 413), none⟩, ⟨some 50, .mov (.t 414), none⟩]) (.kl [408, 409, 410, 411, 412, 413, 414] (.seq (.reg [⟨some 416, .mov (.t 47), none⟩, ⟨some 417, .mov (.t 6), none⟩, ⟨some 418, .un .not (.t 417), none⟩, ⟨some 419, .call 427 [.t 416, .t 418], none⟩, ⟨some 415, .mov (.t 419), none⟩, ⟨some 420, .prj 0 (.t 415), none⟩, ⟨some 421, .prj 1 (.t 415), none⟩, ⟨some 51, .mov (.t 420), none⟩, ⟨some 52, .mov (.t 421), none⟩]) (.kl [47, 415, 416, 417, 418, 419, 420, 421] (.seq (.seq (.reg [⟨some 422, .mov (.t 48), none⟩, ⟨some 423, .un .not (.t 422), none⟩, ⟨some 424, .mov (.t 423), none⟩, ⟨some 425, .mov (.t 50), some (424, false)⟩, ⟨some 426, .un .not (.t 425), some (424, false)⟩, ⟨some 427, .pick (.t 424) (.c (.bool true)) (.t 426), none⟩, ⟨some 428, .mov (.t 427), none⟩, ⟨some 429, .mov (.t 11), some (428, false)⟩, ⟨some 430, .load true 2 (.t 46), some (428, false)⟩, ⟨some 431, .call 35 [.t 429, .t 430], some (428, false)⟩, ⟨some 432, .mov (.t 49), some (428, false)⟩, ⟨some 433, .beq false (.t 431) (.t 432), some (428, false)⟩, ⟨some 434, .pick (.t 428) (.c (.bool true)) (.t 433), none⟩, ⟨some 435, .mov (.t 434), none⟩, ⟨some 436, .mov (.t 52), some (435, false)⟩, ⟨some 437, .un .not (.t 436), some (435, false)⟩, ⟨some 438, .pick (.t 435) (.c (.bool true)) (.t 437), none⟩]) (.kl [46, 48, 49, 50, 52, 422, 423, 424, 425, 426, 427, 428, 429, 430, 431, 432, 433, 434, 435, 436, 437] (.cond (.t 438) (.kl [5, 6, 7, 11, 31, 42, 44, 51, 396, 397, 398, 438] (.seq (.reg [⟨some 4, .mov (.c (.bool false)), none⟩]) (.ret))) (.skip)))) (.kl [438] (.reg [⟨some 439, .mov (.t 44), none⟩, ⟨some 440, .mov (.t 51), none⟩, ⟨some 441, .bin .add (.t 439) (.t 440), none⟩, ⟨some 44, .mov (.t 441), none⟩])))))))))))) (.kl [51, 439, 440, 441] (.reg [⟨some 442, .bin .add (.t 398) (.c (.int .i64 1)), none⟩, ⟨some 398, .mov (.t 442), none⟩]))))))
def lp432_0 : C := lb432_0
def fi432 : FI := ⟨.seq (.reg [⟨some 4, .mov (.c (.bool false)), none⟩]) (.kl [4] (.seq (.seq (.reg [⟨some 57, .mov (.t 0), none⟩, ⟨some 58, .mov (.t 1), none⟩, ⟨some 59, .call 22 [.t 57, .t 58], none⟩]) (.kl [1, 57, 58] (.cond (.t 59) (.kl [0, 59] (.seq (.reg [⟨some 4, .mov (.c (.bool true)), none⟩]) (.ret))) (.skip)))) (.kl [59] (.seq (.reg [⟨some 61, .mov (.t 0), none⟩, ⟨some 62, .call 433 [.t 61], none⟩, ⟨some 60, .mov (.t 62), none⟩, ⟨some 63, .prj 0 (.t 60), none⟩, ⟨some 64, .prj 1 (.t 60), none⟩, ⟨some 5, .mov (.t 63), none⟩, ⟨some 6, .mov (.t 64), none⟩]) (.kl [0, 60, 61, 62, 63, 64] (.seq (.reg [⟨some 66, .mov (.t 5), none⟩, ⟨some 67, .mov (.t 6), none⟩, ⟨some 68, .call 415 [.t 66, .t 67], none⟩, ⟨some 65, .mov (.t 68), none⟩, ⟨some 69, .prj 0 (.t 65), none⟩, ⟨some 70, .prj 1 (.t 65), none⟩, ⟨some 7, .mov (.t 69), none⟩, ⟨some 8, .mov (.t 70), none⟩]) (.kl [65, 66, 67, 68, 69, 70] (.seq (.reg [⟨some 72, .mov (.t 5), none⟩, ⟨some 73, .mov (.t 6), none⟩, ⟨some 74, .call 416 [.t 72, .t 73], none⟩, ⟨some 71, .mov (.t 74), none⟩, ⟨some 75, .prj 0 (.t 71), none⟩, ⟨some 76, .prj 1 (.t 71), none⟩, ⟨some 9, .mov (.t 75), none⟩, ⟨some 10, .mov (.t 76), none⟩]) (.kl [71, 72, 73, 74, 75, 76] (.seq (.reg [⟨some 78, .mov (.t 5), none⟩, ⟨some 79, .mov (.t 6), none⟩, ⟨some 80, .call 417 [.t 78, .t 79], none⟩, ⟨some 77, .mov (.t 80), none⟩, ⟨some 81, .prj 0 (.t 77), none⟩, ⟨some 82, .prj 1 (.t 77), none⟩, ⟨some 11, .mov (.t 81), none⟩, ⟨some 12, .mov (.t 82), none⟩]) (.kl [77, 78, 79, 80, 81, 82] (.seq (.reg [⟨some 84, .mov (.t 5), none⟩, ⟨some 85, .mov (.t 6), none⟩, ⟨some 86, .call 418 [.t 84, .t 85], none⟩, ⟨some 83, .mov (.t 86), none⟩, ⟨some 87, .prj 0 (.t 83), none⟩, ⟨some 88, .prj 1 (.t 83), none⟩, ⟨some 13, .mov (.t 87), none⟩, ⟨some 14, .mov (.t 88), none⟩]) (.kl [83, 84, 85, 86, 87, 88] (.seq (.reg [⟨some 90, .mov (.t 5), none⟩, ⟨some 91, .mov (.t 6), none⟩, ⟨some 92, .call 419 [.t 90, .t 91], none⟩, ⟨some 89, .mov (.t 92), none⟩, ⟨some 93, .prj 0 (.t 89), none⟩, ⟨some 94, .prj 1 (.t 89), none⟩, ⟨some 15, .new [.int .i64 0, .int .i64 0], none⟩, ⟨none, .store 2 (.t 15) (.t 93), none⟩, ⟨some 16, .mov (.t 94), none⟩]) (.kl [89, 90, 91, 92, 93, 94] (.seq (.reg [⟨some 96, .mov (.t 5), none⟩, ⟨some 97, .mov (.t 6), none⟩, ⟨some 98, .call 420 [.t 96, .t 97], none⟩, ⟨some 95, .mov (.t 98), none⟩, ⟨some 99, .prj 0 (.t 95), none⟩, ⟨some 100, .prj 1 (.t 95), none⟩, ⟨some 17, .new [.int .i64 0, .int .i64 0], none⟩, ⟨none, .store 2 (.t 17) (.t 99), none⟩, ⟨some 18, .mov (.t 100), none⟩]) (.kl [95, 96, 97, 98, 99, 100] (.seq (.reg [⟨some 102, .mov (.t 5), none⟩, ⟨some 103, .mov (.t 6), none⟩, ⟨some 104, .call 421 [.t 102, .t 103], none⟩, ⟨some 101, .mov (.t 104), none⟩, ⟨some 105, .prj 0 (.t 101), none⟩, ⟨some 106, .prj 1 (.t 101), none⟩, ⟨some 19, .mov (.t 105), none⟩, ⟨some 20, .mov (.t 106), none⟩]) (.kl [101, 102, 103, 104, 105, 106] (.seq (.reg [⟨some 108, .mov (.t 5), none⟩, ⟨some 109, .mov (.t 6), none⟩, ⟨some 110, .call 422 [.t 108, .t 109], none⟩, ⟨some 107, .mov (.t 110), none⟩, ⟨some 111, .prj 0 (.t 107), none⟩, ⟨some 112, .prj 1 (.t 107), none⟩, ⟨some 21, .mov (.t 111), none⟩, ⟨some 22, .mov (.t 112), none⟩]) (.kl [107, 108, 109, 110, 111, 112] (.seq (.reg [⟨some 114, .mov (.t 5), none⟩, ⟨some 115, .mov (.t 6), none⟩, ⟨some 116, .call 423 [.t 114, .t 115], none⟩, ⟨some 113, .mov (.t 116), none⟩, ⟨some 117, .prj 0 (.t 113), none⟩, ⟨some 118, .prj 1 (.t 113), none⟩, ⟨some 23, .mov (.t 117), none⟩, ⟨some 24, .mov (.t 118), none⟩]) (.kl [113, 114, 115, 116, 117, 118] (.seq (.reg [⟨some 120, .mov (.t 5), none⟩, ⟨some 121, .mov (.t 6), none⟩, ⟨some 122, .call 424 [.t 120, .t 121], none⟩, ⟨some 119, .mov (.t 122), none⟩, ⟨some 123, .prj 0 (.t 119), none⟩, ⟨some 124, .prj 1 (.t 119), none⟩, ⟨some 25, .mov (.t 123), none⟩, ⟨some 26, .mov (.t 124), none⟩]) (.kl [119, 120, 121, 122, 123, 124] (.seq (.reg [⟨some 126, .mov (.t 5), none⟩, ⟨some 127, .mov (.t 6), none⟩, ⟨some 128, .call 425 [.t 126, .t 127], none⟩, ⟨some 125, .mov (.t 128), none⟩, ⟨some 129, .prj 0 (.t 125), none⟩, ⟨some 130, .prj 1 (.t 125), none⟩, ⟨some 27, .mov (.t 129), none⟩, ⟨some 28, .mov (.t 130), none⟩]) (.kl [125, 126, 127, 128, 129, 130] (.seq (.reg [⟨some 132, .mov (.t 5), none⟩, ⟨some 133, .mov (.t 6), none⟩, ⟨some 134, .call 426 [.t 132, .t 133], none⟩, ⟨some 131, .mov (.t 134), none⟩, ⟨some 135, .prj 0 (.t 131), none⟩, ⟨some 136, .prj 1 (.t 131), none⟩, ⟨some 29, .mov (.t 135), none⟩, ⟨some 30, .mov (.t 136), none⟩]) (.kl [131, 132, 133, 134, 135, 136] (.seq (.reg [⟨some 138, .mov (.t 5), none⟩, ⟨some 139, .mov (.t 6), none⟩, ⟨some 140, .call 427 [.t 138, .t 139], none⟩, ⟨some 137, .mov (.t 140), none⟩, ⟨some 141, .prj 0 (.t 137), none⟩, ⟨some 142, .prj 1 (.t 137), none⟩, ⟨some 31, .mov (.t 141), none⟩, ⟨some 32, .mov (.t 142), none⟩]) (.kl [137, 138, 139, 140, 141, 142] (.seq (.reg [⟨some 144, .mov (.t 5), none⟩, ⟨some 145, .mov (.t 6), none⟩, ⟨some 146, .call 428 [.t 144, .t 145], none⟩, ⟨some 143, .mov (.t 146), none⟩, ⟨some 147, .prj 0 (.t 143), none⟩, ⟨some 148, .prj 1 (.t 143), none⟩, ⟨some 33, .mov (.t 147), none⟩, ⟨some 34, .mov (.t 148), none⟩]) (.kl [143, 144, 145, 146, 147, 148] (.seq (.seq (.reg [⟨some 149, .mov (.t 8), none⟩, ⟨some 150, .mov (.t 10), none⟩, ⟨some 151, .beq true (.t 149) (.t 150), none⟩, ⟨some 152, .mov (.t 151), none⟩, ⟨some 153, .mov (.t 7), some (152, false)⟩, ⟨some 154, .mov (.t 9), some (152, false)⟩, ⟨some 155, .beq true (.t 153) (.t 154), some (152, false)⟩, ⟨some 156, .pick (.t 152) (.c (.bool true)) (.t 155), none⟩, ⟨some 157, .mov (.t 156), none⟩, ⟨some 158, .mov (.t 12), some (157, false)⟩, ⟨some 159, .mov (.t 14), some (157, false)⟩, ⟨some 160, .beq true (.t 158) (.t 159), some (157, false)⟩, ⟨some 161, .pick (.t 157) (.c (.bool true)) (.t 160), none⟩, ⟨some 162, .mov (.t 161), none⟩, ⟨some 163, .mov (.t 11), some (162, false)⟩, ⟨some 164, .mov (.t 13), some (162, false)⟩, ⟨some 165, .call 429 [.t 163, .t 164], some (162, false)⟩, ⟨some 166, .un .not (.t 165), some (162, false)⟩, ⟨some 167, .pick (.t 162) (.c (.bool true)) (.t 166), none⟩, ⟨some 168, .mov (.t 167), none⟩, ⟨some 169, .mov (.t 16), some (168, false)⟩, ⟨some 170, .mov (.t 18), some (168, false)⟩, ⟨some 171, .beq true (.t 169) (.t 170), some (168, false)⟩, ⟨some 172, .pick (.t 168) (.c (.bool true)) (.t 171), none⟩, ⟨some 173, .mov (.t 172), none⟩, ⟨some 174, .load true 2 (.t 15), some (173, false)⟩, ⟨some 175, .load true 2 (.t 17), some (173, false)⟩, ⟨some 176, .aeq true [0, 0] (.t 174) (.t 175), some (173, false)⟩, ⟨some 177, .pick (.t 173) (.c (.bool true)) (.t 176), none⟩, ⟨some 178, .mov (.t 177), none⟩, ⟨some 179, .mov (.t 20), some (178, false)⟩, ⟨some 180, .mov (.t 22), some (178, false)⟩, ⟨some 181, .beq true (.t 179) (.t 180), some (178, false)⟩, ⟨some 182, .pick (.t 178) (.c (.bool true)) (.t 181), none⟩, ⟨some 183, .mov (.t 182), none⟩, ⟨some 184, .mov (.t 19), some (183, false)⟩, ⟨some 185, .mov (.t 21), some (183, false)⟩, ⟨some 186, .call 429 [.t 184, .t 185], some (183, false)⟩, ⟨some 187, .un .not (.t 186), some (183, false)⟩, ⟨some 188, .pick (.t 183) (.c (.bool true)) (.t 187), none⟩, ⟨some 189, .mov (.t 188), none⟩, ⟨some 190, .mov (.t 24), some (189, false)⟩, ⟨some 191, .mov (.t 26), some (189, false)⟩, ⟨some 192, .beq true (.t 190) (.t 191), some (189, false)⟩, ⟨some 193, .pick (.t 189) (.c (.bool true)) (.t 192), none⟩, ⟨some 194, .mov (.t 193), none⟩, ⟨some 195, .mov (.t 23), some (194, false)⟩, ⟨some 196, .mov (.t 25), some (194, false)⟩, ⟨some 197, .bin .neq (.t 195) (.t 196), some (194, false)⟩, ⟨some 198, .pick (.t 194) (.c (.bool true)) (.t 197), none⟩, ⟨some 199, .mov (.t 198), none⟩, ⟨some 200, .mov (.t 28), some (199, false)⟩, ⟨some 201, .mov (.t 30), some (199, false)⟩, ⟨some 202, .beq true (.t 200) (.t 201), some (199, false)⟩, ⟨some 203, .pick (.t 199) (.c (.bool true)) (.t 202), none⟩, ⟨some 204, .mov (.t 203), none⟩, ⟨some 205, .mov (.t 27), some (204, false)⟩, ⟨some 206, .mov (.t 29), some (204, false)⟩, ⟨some 207, .bin .neq (.t 205) (.t 206), some (204, false)⟩, ⟨some 208, .pick (.t 204) (.c (.bool true)) (.t 207), none⟩, ⟨some 209, .mov (.t 208), none⟩, ⟨some 210, .mov (.t 32), some (209, false)⟩, ⟨some 211, .mov (.t 34), some (209, false)⟩, ⟨some 212, .beq true (.t 210) (.t 211), some (209, false)⟩, ⟨some 213, .pick (.t 209) (.c (.bool true)) (.t 212), none⟩, ⟨some 214, .mov (.t 213), none⟩, ⟨some 215, .mov (.t 31), some (214, false)⟩, ⟨some 216, .mov (.t 33), some (214, false)⟩, ⟨some 217, .bin .neq (.t 215) (.t 216), some (214, false)⟩, ⟨some 218, .pick (.t 214) (.c (.bool true)) (.t 217), none⟩, ⟨some 219, .mov (.t 218), none⟩, ⟨some 220, .mov (.t 12), some (219, false)⟩, ⟨some 221, .mov (.t 8), some (219, false)⟩, ⟨some 222, .beq true (.t 220) (.t 221), some (219, false)⟩, ⟨some 223, .pick (.t 219) (.c (.bool true)) (.t 222), none⟩, ⟨some 224, .mov (.t 223), none⟩, ⟨some 225, .mov (.t 20), some (224, false)⟩, ⟨some 226, .mov (.t 8), some (224, false)⟩, ⟨some 227, .beq true (.t 225) (.t 226), some (224, false)⟩, ⟨some 228, .pick (.t 224) (.c (.bool true)) (.t 227), none⟩, ⟨some 229, .mov (.t 228), none⟩, ⟨some 230, .mov (.t 24), some (229, false)⟩, ⟨some 231, .mov (.t 8), some (229, false)⟩, ⟨some 232, .beq true (.t 230) (.t 231), some (229, false)⟩, ⟨some 233, .pick (.t 229) (.c (.bool true)) (.t 232), none⟩, ⟨some 234, .mov (.t 233), none⟩, ⟨some 235, .mov (.t 28), some (234, false)⟩, ⟨some 236, .mov (.t 8), some (234, false)⟩, ⟨some 237, .beq true (.t 235) (.t 236), some (234, false)⟩, ⟨some 238, .pick (.t 234) (.c (.bool true)) (.t 237), none⟩, ⟨some 239, .mov (.t 238), none⟩, ⟨some 240, .mov (.t 32), some (239, false)⟩, ⟨some 241, .mov (.t 8), some (239, false)⟩, ⟨some 242, .beq true (.t 240) (.t 241), some (239, false)⟩, ⟨some 243, .pick (.t 239) (.c (.bool true)) (.t 242), none⟩, ⟨some 244, .mov (.t 243), none⟩, ⟨some 245, .mov (.t 16), some (244, false)⟩, ⟨some 246, .mov (.t 245), some (244, false)⟩, ⟨some 247, .mov (.t 8), some (246, true)⟩, ⟨some 248, .un .not (.t 247), some (246, true)⟩, ⟨some 249, .pick (.t 246) (.t 248) (.c (.bool false)), some (244, false)⟩, ⟨some 250, .pick (.t 244) (.c (.bool true)) (.t 249), none⟩]) (.kl [9, 10, 12, 13, 14, 17, 18, 20, 21, 22, 24, 25, 26, 28, 29, 30, 32, 33, 34, 149, 150, 151, 152, 153, 154, 155, 156, 157, 158, 159, 160, 161, 162, 163, 164, 165, 166, 167, 168, 169, 170, 171, 172, 173, 174, 175, 176, 177, 178, 179, 180, 181, 182, 183, 184, 185, 186, 187, 188, 189, 190, 191, 192, 193, 194, 195, 196, 197, 198, 199, 200, 201, 202, 203, 204, 205, 206, 207, 208, 209, 210, 211, 212, 213, 214, 215, 216, 217, 218, 219, 220, 221, 222, 223, 224, 225, 226, 227, 228, 229, 230, 231, 232, 233, 234, 235, 236, 237, 238, 239, 240, 241, 242, 243, 244, 245, 246, 247, 248, 249] (.cond (.t 250) (.kl [5, 6, 7, 8, 11, 15, 16, 19, 23, 27, 31, 250] (.seq (.reg [⟨some 4, .mov (.c (.bool false)), none⟩]) (.ret))) (.skip)))) (.kl [250] (.seq (.seq (.reg [⟨some 251, .mov (.t 8), none⟩]) (.kl [8] (.cond (.t 251) (.kl [251] (.seq (.reg [⟨some 253, .mov (.t 5), none⟩, ⟨some 254, .call 430 [.t 253], none⟩, ⟨some 252, .mov (.t 254), none⟩, ⟨some 255, .prj 0 (.t 252), none⟩, ⟨some 256, .prj 1 (.t 252), none⟩, ⟨some 35, .mov (.t 255), none⟩, ⟨some 36, .mov (.t 256), none⟩]) (.kl [252, 253, 254, 255, 256] (.seq (.reg [⟨some 258, .mov (.t 5), none⟩, ⟨some 259, .mov (.t 6), none⟩, ⟨some 260, .un .not (.t 259), none⟩, ⟨some 261, .call 415 [.t 258, .t 260], none⟩, ⟨some 257, .mov (.t 261), none⟩, ⟨some 262, .prj 0 (.t 257), none⟩, ⟨some 263, .prj 1 (.t 257), none⟩, ⟨some 37, .mov (.t 262), none⟩, ⟨some 38, .mov (.t 263), none⟩]) (.kl [257, 258, 259, 260, 261, 262, 263] (.seq (.reg [⟨some 265, .mov (.t 5), none⟩, ⟨some 266, .call 431 [.t 265], none⟩, ⟨some 264, .mov (.t 266), none⟩, ⟨some 267, .prj 0 (.t 264), none⟩, ⟨some 268, .prj 1 (.t 264), none⟩, ⟨some 39, .mov (.t 267), none⟩, ⟨some 40, .mov (.t 268), none⟩]) (.kl [264, 265, 266, 267, 268] (.seq (.seq (.drw [⟨some 269, .mov (.t 36), none⟩, ⟨some 270, .un .not (.t 269), none⟩, ⟨some 271, .mov (.t 270), none⟩, ⟨some 272, .mov (.t 38), some (271, false)⟩, ⟨some 273, .un .not (.t 272), some (271, false)⟩, ⟨some 274, .pick (.t 271) (.c (.bool true)) (.t 273), none⟩, ⟨some 275, .mov (.t 274), none⟩, ⟨some 276, .mov (.t 40), some (275, false)⟩, ⟨some 277, .un .not (.t 276), some (275, false)⟩, ⟨some 278, .pick (.t 275) (.c (.bool true)) (.t 277), none⟩, ⟨some 279, .mov (.t 278), none⟩, ⟨some 280, .mov (.t 39), some (279, false)⟩, ⟨some 281, .mov (.t 35), some (279, false)⟩, ⟨some 282, .bin .eql (.t 281) (.c (.str [50])), some (279, false)⟩, ⟨some 283, .beq true (.t 280) (.t 282), some (279, false)⟩, ⟨some 284, .pick (.t 279) (.c (.bool true)) (.t 283), none⟩, ⟨some 285, .mov (.t 284), none⟩, ⟨some 286, .mov (.t 7), some (285, false)⟩, ⟨some 287, .mov (.t 11), some (285, false)⟩, ⟨some 288, .lenV (.t 287), some (285, false)⟩, ⟨some 289, .bin .gtr (.t 288) (.c (.int .i64 0)), some (285, false)⟩, ⟨some 290, .beq true (.t 286) (.t 289), some (285, false)⟩, ⟨some 291, .pick (.t 285) (.c (.bool true)) (.t 290), none⟩, ⟨some 292, .mov (.t 291), none⟩, ⟨some 293, .mov (.t 19), some (292, false)⟩, ⟨some 294, .lenV (.t 293), some (292, false)⟩, ⟨some 295, .bin .rem (.t 294) (.c (.int .i64 2)), some (292, false)⟩, ⟨some 296, .bin .eql (.t 295) (.c (.int .i64 1)), some (292, false)⟩, ⟨some 297, .mov (.t 7), some (292, false)⟩, ⟨some 298, .beq true (.t 296) (.t 297), some (292, false)⟩, ⟨some 299, .pick (.t 292) (.c (.bool true)) (.t 298), none⟩, ⟨some 300, .mov (.t 299), none⟩, ⟨some 301, .mov (.t 19), some (300, false)⟩, ⟨some 302, .lenV (.t 301), some (300, false)⟩, ⟨some 303, .mov (.t 23), some (300, false)⟩, ⟨some 304, .bin .gtr (.t 302) (.t 303), some (300, false)⟩, ⟨some 305, .pick (.t 300) (.c (.bool true)) (.t 304), none⟩, ⟨some 306, .mov (.t 305), none⟩, ⟨some 307, .mov (.t 19), some (306, false)⟩, ⟨some 308, .lenV (.t 307), some (306, false)⟩, ⟨some 309, .mov (.t 27), some (306, false)⟩, ⟨some 310, .bin .lss (.t 308) (.t 309), some (306, false)⟩, ⟨some 311, .pick (.t 306) (.c (.bool true)) (.t 310), none⟩, ⟨some 312, .mov (.t 311), none⟩, ⟨some 313, .mov (.t 27), some (312, false)⟩, ⟨some 314, .mov (.t 23), some (312, false)⟩, ⟨some 315, .bin .gtr (.t 313) (.t 314), some (312, false)⟩, ⟨some 316, .pick (.t 312) (.c (.bool true)) (.t 315), none⟩, ⟨some 317, .mov (.t 316), none⟩, ⟨some 318, .mov (.t 31), some (317, false)⟩, ⟨some 319, .bin .lss (.t 318) (.c (.int .i64 1)), some (317, false)⟩, ⟨some 320, .pick (.t 317) (.c (.bool true)) (.t 319), none⟩, ⟨some 321, .mov (.t 320), none⟩, ⟨some 322, .mov (.t 23), some (321, false)⟩, ⟨some 323, .bin .eql (.t 322) (.c (.int .i64 0)), some (321, false)⟩, ⟨some 324, .mov (.t 19), some (321, false)⟩, ⟨some 325, .lenV (.t 324), some (321, false)⟩, ⟨some 326, .bin .eql (.t 325) (.c (.int .i64 0)), some (321, false)⟩, ⟨some 327, .beq true (.t 323) (.t 326), some (321, false)⟩, ⟨some 328, .pick (.t 321) (.c (.bool true)) (.t 327), none⟩, ⟨some 329, .mov (.t 328), none⟩, ⟨some 330, .mov (.t 16), some (329, false)⟩, ⟨some 331, .mov (.t 19), some (329, false)⟩, ⟨some 332, .lenV (.t 331), some (329, false)⟩, ⟨some 333, .bin .gtr (.t 332) (.c (.int .i64 0)), some (329, false)⟩, ⟨some 334, .beq true (.t 330) (.t 333), some (329, false)⟩, ⟨some 335, .pick (.t 329) (.c (.bool true)) (.t 334), none⟩, ⟨some 336, .mov (.t 335), none⟩, ⟨some 337, .mov (.t 16), some (336, false)⟩, ⟨some 338, .mov (.t 337), some (336, false)⟩, ⟨some 339, .load true 2 (.t 15), some (338, true)⟩, ⟨some 340, .mov (.t 19), some (338, true)⟩, ⟨some 341, .iaddr 2 (.t 340) (.c (.int .i64 0)), some (338, true)⟩, ⟨some 342, .load true 2 (.t 341), some (338, true)⟩, ⟨some 343, .aeq true [0, 0] (.t 339) (.t 342), some (338, true)⟩, ⟨some 344, .pick (.t 338) (.t 343) (.c (.bool false)), some (336, false)⟩, ⟨some 345, .pick (.t 336) (.c (.bool true)) (.t 344), none⟩] []) (.kl [15, 19, 23, 27, 36, 38, 39, 40, 269, 270, 271, 272, 273, 274, 275, 276, 277, 278, 279, 280, 281, 282, 283, 284, 285, 286, 287, 288, 289, 290, 291, 292, 293, 294, 295, 296, 297, 298, 299, 300, 301, 302, 303, 304, 305, 306, 307, 308, 309, 310, 311, 312, 313, 314, 315, 316, 317, 318, 319, 320, 321, 322, 323, 324, 325, 326, 327, 328, 329, 330, 331, 332, 333, 334, 335, 336, 337, 338, 339, 340, 341, 342, 343, 344] (.cond (.t 345) (.kl [5, 6, 7, 11, 16, 31, 35, 37, 345] (.seq (.reg [⟨some 4, .mov (.c (.bool false)), none⟩]) (.ret))) (.skip)))) (.kl [345] (.seq (.reg [⟨some 41, .mov (.c (.str [50])), none⟩]) (.seq (.seq (.reg [⟨some 346, .mov (.t 7), none⟩, ⟨some 347, .mov (.t 346), none⟩, ⟨some 348, .mov (.t 37), some (347, true)⟩, ⟨some 349, .pick (.t 347) (.t 348) (.c (.bool false)), none⟩]) (.kl [346, 347, 348] (.cond (.t 349) (.kl [37, 41, 349] (.reg [⟨some 41, .mov (.c (.str [49])), none⟩])) (.kl [349] (.seq (.reg [⟨some 350, .mov (.t 7), none⟩, ⟨some 351, .mov (.t 350), none⟩, ⟨some 352, .mov (.t 6), some (351, true)⟩, ⟨some 353, .pick (.t 351) (.t 352) (.c (.bool false)), none⟩, ⟨some 354, .mov (.t 353), none⟩, ⟨some 355, .mov (.t 37), some (354, false)⟩, ⟨some 356, .mov (.t 355), some (354, false)⟩, ⟨some 357, .mov (.t 6), some (356, true)⟩, ⟨some 358, .un .not (.t 357), some (356, true)⟩, ⟨some 359, .pick (.t 356) (.t 358) (.c (.bool false)), some (354, false)⟩, ⟨some 360, .pick (.t 354) (.c (.bool true)) (.t 359), none⟩]) (.kl [350, 351, 352, 353, 354, 355, 356, 357, 358, 359] (.cond (.t 360) (.kl [37, 41, 360] (.reg [⟨some 41, .mov (.c (.str [84])), none⟩])) (.kl [360] (.seq (.reg [⟨some 361, .mov (.t 7), none⟩, ⟨some 362, .mov (.t 361), none⟩, ⟨some 363, .mov (.t 37), some (362, false)⟩, ⟨some 364, .pick (.t 362) (.c (.bool true)) (.t 363), none⟩]) (.kl [37, 361, 362, 363] (.cond (.t 364) (.kl [41, 364] (.reg [⟨some 41, .mov (.c (.str [70])), none⟩])) (.skip)))))))))))) (.kl [364] (.seq (.seq (.reg [⟨some 365, .mov (.t 41), none⟩, ⟨some 366, .mov (.t 35), none⟩, ⟨some 367, .bin .neq (.t 365) (.t 366), none⟩]) (.kl [35, 41, 365, 366] (.cond (.t 367) (.kl [5, 6, 7, 11, 16, 31, 367] (.seq (.reg [⟨some 4, .mov (.c (.bool false)), none⟩]) (.ret))) (.skip)))) (.kl [367] (.seq (.reg [⟨some 369, .mov (.t 5), none⟩, ⟨some 370, .call 375 [.t 369], none⟩, ⟨some 368, .mov (.t 370), none⟩, ⟨some 371, .prj 0 (.t 368), none⟩, ⟨some 372, .prj 1 (.t 368), none⟩, ⟨some 42, .mov (.t 371), none⟩, ⟨some 43, .mov (.t 372), none⟩]) (.kl [368, 369, 370, 371, 372] (.seq (.seq (.reg [⟨some 373, .mov (.t 6), none⟩, ⟨some 374, .un .not (.t 373), none⟩]) (.kl [373] (.cond (.t 374) (.kl [42, 43, 374] (.reg [⟨some 376, .mov (.t 5), none⟩, ⟨some 377, .call 377 [.t 376], none⟩, ⟨some 375, .mov (.t 377), none⟩, ⟨some 378, .prj 0 (.t 375), none⟩, ⟨some 379, .prj 1 (.t 375), none⟩, ⟨some 42, .mov (.t 378), none⟩, ⟨some 43, .mov (.t 379), none⟩])) (.skip)))) (.kl [374, 375, 376, 377, 378, 379] (.seq (.seq (.reg [⟨some 380, .mov (.t 43), none⟩, ⟨some 381, .un .not (.t 380), none⟩, ⟨some 382, .mov (.t 381), none⟩, ⟨some 383, .mov (.t 11), some (382, false)⟩, ⟨some 384, .lenV (.t 383), some (382, false)⟩, ⟨some 385, .mov (.t 42), some (382, false)⟩, ⟨some 386, .lenV (.t 385), some (382, false)⟩, ⟨some 387, .bin .gtr (.t 384) (.t 386), some (382, false)⟩, ⟨some 388, .pick (.t 382) (.c (.bool true)) (.t 387), none⟩, ⟨some 389, .mov (.t 388), none⟩, ⟨some 390, .mov (.t 16), some (389, false)⟩, ⟨some 391, .mov (.t 42), some (389, false)⟩, ⟨some 392, .lenV (.t 391), some (389, false)⟩, ⟨some 393, .bin .gtr (.t 392) (.c (.int .i64 0)), some (389, false)⟩, ⟨some 394, .beq true (.t 390) (.t 393), some (389, false)⟩, ⟨some 395, .pick (.t 389) (.c (.bool true)) (.t 394), none⟩]) (.kl [16, 43, 380, 381, 382, 383, 384, 385, 386, 387, 388, 389, 390, 391, 392, 393, 394] (.cond (.t 395) (.kl [5, 6, 7, 11, 31, 42, 395] (.seq (.reg [⟨some 4, .mov (.c (.bool false)), none⟩]) (.ret))) (.skip)))) (.kl [395] (.seq (.reg [⟨some 44, .mov (.c (.int .i64 0)), none⟩]) (.seq (.seq (.reg [⟨some 396, .mov (.t 42), none⟩, ⟨some 397, .lenV (.t 396), none⟩, ⟨some 398, .mov (.c (.int .i64 0)), none⟩]) (.blk 0 (.loop lp432_0))) (.seq (.seq (.reg [⟨some 443, .mov (.t 42), none⟩, ⟨some 444, .lenV (.t 443), none⟩, ⟨some 445, .bin .gtr (.t 444) (.c (.int .i64 0)), none⟩, ⟨some 446, .mov (.t 445), none⟩, ⟨some 447, .mov (.t 44), some (446, true)⟩, ⟨some 448, .mov (.t 31), some (446, true)⟩, ⟨some 449, .bin .neq (.t 447) (.t 448), some (446, true)⟩, ⟨some 450, .pick (.t 446) (.t 449) (.c (.bool false)), none⟩, ⟨some 451, .mov (.t 450), none⟩, ⟨some 452, .mov (.t 42), some (451, false)⟩, ⟨some 453, .lenV (.t 452), some (451, false)⟩, ⟨some 454, .bin .eql (.t 453) (.c (.int .i64 0)), some (451, false)⟩, ⟨some 455, .mov (.t 454), some (451, false)⟩, ⟨some 456, .mov (.t 31), some (455, true)⟩, ⟨some 457, .bin .neq (.t 456) (.c (.int .i64 1)), some (455, true)⟩, ⟨some 458, .pick (.t 455) (.t 457) (.c (.bool false)), some (451, false)⟩, ⟨some 459, .pick (.t 451) (.c (.bool true)) (.t 458), none⟩]) (.kl [31, 42, 44, 443, 444, 445, 446, 447, 448, 449, 450, 451, 452, 453, 454, 455, 456, 457, 458] (.cond (.t 459) (.kl [5, 6, 7, 459] (.seq (.reg [⟨some 4, .mov (.c (.bool false)), none⟩]) (.ret))) (.skip)))) (.kl [459] (.seq (.reg [⟨some 461, .mov (.t 5), none⟩, ⟨some 462, .call 385 [.t 461], none⟩, ⟨some 460, .mov (.t 462), none⟩, ⟨some 463, .prj 0 (.t 460), none⟩, ⟨some 464, .prj 1 (.t 460), none⟩, ⟨some 53, .mov (.t 463), none⟩, ⟨some 54, .mov (.t 464), none⟩]) (.kl [5, 460, 461, 462, 463, 464] (.seq (.reg [⟨some 466, .mov (.t 53), none⟩, ⟨some 467, .mov (.t 6), none⟩, ⟨some 468, .un .not (.t 467), none⟩, ⟨some 469, .call 415 [.t 466, .t 468], none⟩, ⟨some 465, .mov (.t 469), none⟩, ⟨some 470, .prj 0 (.t 465), none⟩, ⟨some 471, .prj 1 (.t 465), none⟩, ⟨some 55, .mov (.t 470), none⟩, ⟨some 56, .mov (.t 471), none⟩]) (.kl [6, 53, 465, 466, 467, 468, 469, 470, 471] (.seq (.reg [⟨some 472, .mov (.t 54), none⟩, ⟨some 473, .un .not (.t 472), none⟩, ⟨some 474, .mov (.t 473), none⟩, ⟨some 475, .mov (.t 56), some (474, false)⟩, ⟨some 476, .un .not (.t 475), some (474, false)⟩, ⟨some 477, .pick (.t 474) (.c (.bool true)) (.t 476), none⟩, ⟨some 478, .mov (.t 477), none⟩, ⟨some 479, .mov (.t 55), some (478, false)⟩, ⟨some 480, .mov (.t 7), some (478, false)⟩, ⟨some 481, .beq true (.t 479) (.t 480), some (478, false)⟩, ⟨some 482, .pick (.t 478) (.c (.bool true)) (.t 481), none⟩]) (.kl [7, 54, 55, 56, 472, 473, 474, 475, 476, 477, 478, 479, 480, 481] (.cond (.t 482) (.kl [482] (.seq (.reg [⟨some 4, .mov (.c (.bool false)), none⟩]) (.ret))) (.skip)))))))))))))))))))))))))))))))) (.skip)))) (.kl [5, 6, 7, 11, 15, 16, 19, 23, 27, 31, 251, 482] (.seq (.reg [⟨some 4, .mov (.c (.bool true)), none⟩]) (.ret))))))))))))))))))))))))))))))))))))))), [.tmp 4]⟩
/-- laws.big -/
def fi22 : FI := ⟨.seq (.reg [⟨some 4, .mov (.c (.bool false)), none⟩]) (.kl [4] (.seq (.reg [⟨some 5, .mov (.t 0), none⟩, ⟨some 6, .lenV (.t 5), none⟩, ⟨some 7, .bin .gtr (.t 6) (.c (.int .i64 1048576)), none⟩, ⟨some 8, .mov (.t 7), none⟩, ⟨some 9, .mov (.t 1), some (8, false)⟩, ⟨some 10, .lenV (.t 9), some (8, false)⟩, ⟨some 11, .mov (.t 0), some (8, false)⟩, ⟨some 12, .lenV (.t 11), some (8, false)⟩, ⟨some 13, .bin .sub (.c (.int .i64 1048576)) (.t 12), some (8, false)⟩, ⟨some 14, .bin .gtr (.t 10) (.t 13), some (8, false)⟩, ⟨some 15, .pick (.t 8) (.c (.bool true)) (.t 14), none⟩, ⟨some 4, .mov (.t 15), none⟩]) (.kl [0, 1, 5, 6, 7, 8, 9, 10, 11, 12, 13, 14, 15] (.ret)))), [.tmp 4]⟩
/-- impl.MakeMove -/
def fi389 : FI := ⟨.seq (.reg [⟨some 3, .box (.t 1), none⟩, ⟨some 4, .mov (.c (.str [])), none⟩, ⟨some 5, .mov (.c (.bool false)), none⟩]) (.kl [1, 4, 5] (.seq (.seq (.reg [⟨some 6, .mov (.t 0), none⟩, ⟨some 7, .call 106 [.t 6], none⟩, ⟨some 8, .un .not (.t 7), none⟩, ⟨some 9, .mov (.t 8), none⟩, ⟨some 10, .mov (.t 0), some (9, false)⟩, ⟨some 11, .load true 2 (.t 3), some (9, false)⟩, ⟨some 12, .call 435 [.t 10, .t 11], some (9, false)⟩, ⟨some 13, .un .not (.t 12), some (9, false)⟩, ⟨some 14, .pick (.t 9) (.c (.bool true)) (.t 13), none⟩]) (.kl [6, 7, 8, 9, 10, 11, 12, 13] (.cond (.t 14) (.kl [0, 3, 14] (.seq (.reg [⟨some 4, .mov (.c (.str [])), none⟩, ⟨some 5, .mov (.c (.bool false)), none⟩]) (.ret))) (.skip)))) (.kl [14] (.seq (.reg [⟨some 15, .mov (.t 0), none⟩, ⟨some 16, .load true 2 (.t 3), none⟩, ⟨some 17, .call 61 [.t 15, .t 16], none⟩, ⟨some 4, .mov (.t 17), none⟩, ⟨some 5, .mov (.c (.bool true)), none⟩]) (.kl [0, 3, 15, 16, 17] (.ret)))))), [.tmp 4, .tmp 5]⟩
/-- impl.WinsMoving -/
def fi415 : FI := ⟨.seq (.reg [⟨some 4, .mov (.c (.bool false)), none⟩, ⟨some 5, .mov (.c (.bool false)), none⟩]) (.kl [4, 5] (.seq (.reg [⟨some 6, .mov (.t 0), none⟩, ⟨some 7, .lit 1 1 [.str []] [(0, 1, .t 6)], none⟩, ⟨some 8, .mov (.t 1), none⟩, ⟨some 9, .call 446 [.t 7, .t 8], none⟩, ⟨some 10, .prj 0 (.t 9), none⟩, ⟨some 11, .prj 1 (.t 9), none⟩, ⟨some 4, .mov (.t 10), none⟩, ⟨some 5, .mov (.t 11), none⟩]) (.kl [0, 1, 6, 7, 8, 9, 10, 11] (.ret)))), [.tmp 4, .tmp 5]⟩
/-- spec.WinsMoving -/
def fi416 : FI := ⟨.seq (.reg [⟨some 4, .mov (.c (.bool false)), none⟩, ⟨some 5, .mov (.c (.bool false)), none⟩]) (.kl [4, 5] (.seq (.seq (.reg [⟨some 6, .mov (.t 0), none⟩, ⟨some 7, .call 447 [.t 6], none⟩, ⟨some 8, .un .not (.t 7), none⟩]) (.kl [6, 7] (.cond (.t 8) (.kl [0, 1, 8] (.seq (.reg [⟨some 4, .mov (.c (.bool false)), none⟩, ⟨some 5, .mov (.c (.bool false)), none⟩]) (.ret))) (.skip)))) (.kl [8] (.seq (.reg [⟨some 9, .build [.nilS, .nilS] [], none⟩, ⟨some 10, .box (.t 9), none⟩, ⟨some 11, .mov (.t 0), none⟩, ⟨some 12, .lit 1 1 [.str []] [(0, 1, .t 11)], none⟩, ⟨some 13, .mov (.t 1), none⟩, ⟨some 14, .call 199 [.t 10, .t 12, .t 13], none⟩, ⟨some 4, .mov (.t 14), none⟩, ⟨some 5, .mov (.c (.bool true)), none⟩]) (.kl [0, 1, 9, 10, 11, 12, 13, 14] (.ret)))))), [.tmp 4, .tmp 5]⟩
/-- impl.BestMoves -/
def fi417 : FI := ⟨.seq (.reg [⟨some 4, .mov (.c (.nilS)), none⟩, ⟨some 5, .mov (.c (.bool false)), none⟩]) (.kl [4, 5] (.seq (.seq (.reg [⟨some 6, .mov (.t 0), none⟩, ⟨some 7, .call 254 [.t 6], none⟩, ⟨some 8, .un .not (.t 7), none⟩]) (.kl [6, 7] (.cond (.t 8) (.kl [0, 1, 8] (.seq (.reg [⟨some 4, .mov (.c (.nilS)), none⟩, ⟨some 5, .mov (.c (.bool false)), none⟩]) (.ret))) (.skip)))) (.kl [8] (.seq (.reg [⟨some 9, .call 192 [], none⟩, ⟨some 10, .mov (.t 0), none⟩, ⟨some 11, .mov (.t 1), none⟩, ⟨some 12, .call 448 [.t 9, .t 10, .t 11], none⟩, ⟨some 4, .mov (.t 12), none⟩, ⟨some 5, .mov (.c (.bool true)), none⟩]) (.kl [0, 1, 9, 10, 11, 12] (.ret)))))), [.tmp 4, .tmp 5]⟩
/-- spec.BestMoves -/
def fi418 : FI := ⟨.seq (.reg [⟨some 4, .mov (.c (.nilS)), none⟩, ⟨some 5, .mov (.c (.bool false)), none⟩]) (.kl [4, 5] (.seq (.seq (.reg [⟨some 6, .mov (.t 0), none⟩, ⟨some 7, .call 447 [.t 6], none⟩, ⟨some 8, .un .not (.t 7), none⟩]) (.kl [6, 7] (.cond (.t 8) (.kl [0, 1, 8] (.seq (.reg [⟨some 4, .mov (.c (.nilS)), none⟩, ⟨some 5, .mov (.c (.bool false)), none⟩]) (.ret))) (.skip)))) (.kl [8] (.seq (.reg [⟨some 9, .build [.nilS, .nilS] [], none⟩, ⟨some 10, .box (.t 9), none⟩, ⟨some 11, .mov (.t 0), none⟩, ⟨some 12, .mov (.t 1), none⟩, ⟨some 13, .call 449 [.t 10, .t 11, .t 12], none⟩, ⟨some 4, .mov (.t 13), none⟩, ⟨some 5, .mov (.c (.bool true)), none⟩]) (.kl [0, 1, 9, 10, 11, 12, 13] (.ret)))))), [.tmp 4, .tmp 5]⟩
/-- impl.GameMove -/
def fi419 : FI := ⟨.seq (.reg [⟨some 4, .new [.int .i64 0, .int .i64 0], none⟩, ⟨some 5, .mov (.c (.bool false)), none⟩]) (.kl [5] (.seq (.seq (.reg [⟨some 6, .mov (.t 0), none⟩, ⟨some 7, .call 254 [.t 6], none⟩, ⟨some 8, .un .not (.t 7), none⟩]) (.kl [6, 7] (.cond (.t 8) (.kl [0, 1, 8] (.seq (.reg [⟨some 9, .build [.int .i64 0, .int .i64 0] [], none⟩, ⟨none, .store 2 (.t 4) (.t 9), none⟩, ⟨some 5, .mov (.c (.bool false)), none⟩]) (.kl [9] (.ret)))) (.skip)))) (.kl [8] (.seq (.reg [⟨some 10, .call 192 [], none⟩, ⟨some 11, .mov (.t 0), none⟩, ⟨some 12, .mov (.t 1), none⟩, ⟨some 13, .call 450 [.t 10, .t 11, .t 12], none⟩, ⟨some 14, .prj 0 (.t 13), none⟩, ⟨some 15, .prj 1 (.t 13), none⟩, ⟨none, .store 2 (.t 4) (.t 14), none⟩, ⟨some 5, .mov (.t 15), none⟩]) (.kl [0, 1, 10, 11, 12, 13, 14, 15] (.ret)))))), [.cell true 2 4, .tmp 5]⟩
/-- spec.GameMove -/
def fi420 : FI := ⟨.seq (.reg [⟨some 4, .new [.int .i64 0, .int .i64 0], none⟩, ⟨some 5, .mov (.c (.bool false)), none⟩]) (.kl [5] (.seq (.seq (.reg [⟨some 6, .mov (.t 0), none⟩, ⟨some 7, .call 447 [.t 6], none⟩, ⟨some 8, .un .not (.t 7), none⟩]) (.kl [6, 7] (.cond (.t 8) (.kl [0, 1, 8] (.seq (.reg [⟨some 9, .build [.int .i64 0, .int .i64 0] [], none⟩, ⟨none, .store 2 (.t 4) (.t 9), none⟩, ⟨some 5, .mov (.c (.bool false)), none⟩]) (.kl [9] (.ret)))) (.skip)))) (.kl [8] (.seq (.reg [⟨some 10, .build [.nilS, .nilS] [], none⟩, ⟨some 11, .box (.t 10), none⟩, ⟨some 12, .mov (.t 0), none⟩, ⟨some 13, .mov (.t 1), none⟩, ⟨some 14, .call 451 [.t 11, .t 12, .t 13], none⟩, ⟨some 15, .prj 0 (.t 14), none⟩, ⟨some 16, .prj 1 (.t 14), none⟩, ⟨none, .store 2 (.t 4) (.t 15), none⟩, ⟨some 5, .mov (.t 16), none⟩]) (.kl [0, 1, 10, 11, 12, 13, 14, 15, 16] (.ret)))))), [.cell true 2 4, .tmp 5]⟩
-- lp421_0 HEAD [0, 1, 6, 7] | ret: [4, 5]
/-- impl.GamePlay -/
def lb421_0 : C := .kl [8, 29, 30, 31, 32, 33] (.blk 1 (.seq (.reg [⟨some 16, .load true 1 (.t 6), none⟩, ⟨some 17, .mov (.t 0), none⟩, ⟨some 18, .mov (.t 1), none⟩, ⟨some 19, .call 450 [.t 16, .t 17, .t 18], none⟩, ⟨some 15, .mov (.t 19), none⟩, ⟨some 20, .prj 0 (.t 15), none⟩, ⟨some 21, .prj 1 (.t 15), none⟩, ⟨some 8, .new [.int .i64 0, .int .i64 0], none⟩, ⟨none, .store 2 (.t 8) (.t 20), none⟩, ⟨some 9, .mov (.t 21), none⟩]) (.kl [15, 16, 17, 18, 19, 20, 21] (.seq (.seq (.reg [⟨some 22, .mov (.t 9), none⟩, ⟨some 23, .un .not (.t 22), none⟩]) (.kl [9, 22] (.cond (.t 23) (.kl [0, 1, 6, 8, 23] (.seq (.reg [⟨some 24, .mov (.t 7), none⟩, ⟨some 4, .mov (.t 24), none⟩, ⟨some 5, .mov (.c (.bool true)), none⟩]) (.kl [7, 24] (.ret)))) (.skip)))) (.kl [23] (.seq (.reg [⟨some 25, .mov (.t 7), none⟩, ⟨some 26, .load true 2 (.t 8), none⟩, ⟨some 27, .lit 2 1 [.int .i64 0, .int .i64 0] [(0, 2, .t 26)], none⟩, ⟨some 28, .app 2 (.t 25) (.t 27), none⟩, ⟨some 7, .mov (.t 28), none⟩]) (.kl [25, 26, 27, 28] (.reg [⟨some 29, .mov (.t 0), none⟩, ⟨some 30, .load true 2 (.t 8), none⟩, ⟨some 31, .call 61 [.t 29, .t 30], none⟩, ⟨some 32, .mov (.t 1), none⟩, ⟨some 33, .un .not (.t 32), none⟩, ⟨some 0, .mov (.t 31), none⟩, ⟨some 1, .mov (.t 33), none⟩]))))))))
def lp421_0 : C := lb421_0
def fi421 : FI := ⟨.seq (.reg [⟨some 4, .mov (.c (.nilS)), none⟩, ⟨some 5, .mov (.c (.bool false)), none⟩]) (.kl [4, 5] (.seq (.seq (.reg [⟨some 10, .mov (.t 0), none⟩, ⟨some 11, .call 254 [.t 10], none⟩, ⟨some 12, .un .not (.t 11), none⟩]) (.kl [10, 11] (.cond (.t 12) (.kl [0, 1, 12] (.seq (.reg [⟨some 4, .mov (.c (.nilS)), none⟩, ⟨some 5, .mov (.c (.bool false)), none⟩]) (.ret))) (.skip)))) (.kl [12] (.seq (.reg [⟨some 13, .call 192 [], none⟩, ⟨some 14, .lit0, none⟩, ⟨some 6, .new [.nilM], none⟩, ⟨none, .store 1 (.t 6) (.t 13), none⟩, ⟨some 7, .mov (.t 14), none⟩]) (.kl [13, 14] (.blk 0 (.loop lp421_0))))))), [.tmp 4, .tmp 5]⟩
-- lp422_0 HEAD [0, 1, 6, 7] | ret: [4, 5]
/-- spec.GamePlay -/
def lb422_0 : C := .kl [32, 33] (.blk 1 (.seq (.reg [⟨some 16, .mov (.t 6), none⟩, ⟨some 17, .mov (.t 0), none⟩, ⟨some 18, .mov (.t 1), none⟩, ⟨some 19, .call 451 [.t 16, .t 17, .t 18], none⟩, ⟨some 15, .mov (.t 19), none⟩, ⟨some 20, .prj 0 (.t 15), none⟩, ⟨some 21, .prj 1 (.t 15), none⟩, ⟨some 8, .new [.int .i64 0, .int .i64 0], none⟩, ⟨none, .store 2 (.t 8) (.t 20), none⟩, ⟨some 9, .mov (.t 21), none⟩]) (.kl [15, 16, 17, 18, 19, 20, 21] (.seq (.seq (.reg [⟨some 22, .mov (.t 9), none⟩, ⟨some 23, .un .not (.t 22), none⟩]) (.kl [9, 22] (.cond (.t 23) (.kl [0, 1, 6, 8, 23] (.seq (.reg [⟨some 24, .mov (.t 7), none⟩, ⟨some 4, .mov (.t 24), none⟩, ⟨some 5, .mov (.c (.bool true)), none⟩]) (.kl [7, 24] (.ret)))) (.skip)))) (.kl [23] (.seq (.reg [⟨some 25, .mov (.t 7), none⟩, ⟨some 26, .load true 2 (.t 8), none⟩, ⟨some 27, .lit 2 1 [.int .i64 0, .int .i64 0] [(0, 2, .t 26)], none⟩, ⟨some 28, .app 2 (.t 25) (.t 27), none⟩, ⟨some 7, .mov (.t 28), none⟩]) (.kl [25, 26, 27, 28] (.seq (.reg [⟨some 29, .mov (.t 0), none⟩, ⟨some 30, .load true 2 (.t 8), none⟩, ⟨some 31, .call 66 [.t 29, .t 30], none⟩, ⟨some 0, .mov (.t 31), none⟩]) (.kl [8, 29, 30, 31] (.reg [⟨some 32, .mov (.t 1), none⟩, ⟨some 33, .un .not (.t 32), none⟩, ⟨some 1, .mov (.t 33), none⟩]))))))))))
def lp422_0 : C := lb422_0
def fi422 : FI := ⟨.seq (.reg [⟨some 4, .mov (.c (.nilS)), none⟩, ⟨some 5, .mov (.c (.bool false)), none⟩]) (.kl [4, 5] (.seq (.seq (.reg [⟨some 10, .mov (.t 0), none⟩, ⟨some 11, .call 447 [.t 10], none⟩, ⟨some 12, .un .not (.t 11), none⟩]) (.kl [10, 11] (.cond (.t 12) (.kl [0, 1, 12] (.seq (.reg [⟨some 4, .mov (.c (.nilS)), none⟩, ⟨some 5, .mov (.c (.bool false)), none⟩]) (.ret))) (.skip)))) (.kl [12] (.seq (.reg [⟨some 13, .build [.nilS, .nilS] [], none⟩, ⟨some 14, .box (.t 13), none⟩, ⟨some 6, .mov (.t 14), none⟩]) (.kl [13, 14] (.seq (.reg [⟨some 7, .mov (.c (.nilS)), none⟩]) (.blk 0 (.loop lp422_0)))))))), [.tmp 4, .tmp 5]⟩
/-- impl.LongestGame -/
def fi423 : FI := ⟨.seq (.reg [⟨some 4, .mov (.c (.int .i64 0)), none⟩, ⟨some 5, .mov (.c (.bool false)), none⟩]) (.kl [4, 5] (.seq (.reg [⟨some 9, .mov (.t 0), none⟩, ⟨some 10, .mov (.t 1), none⟩, ⟨some 11, .call 452 [.t 9, .t 10], none⟩, ⟨some 8, .mov (.t 11), none⟩, ⟨some 12, .prj 0 (.t 8), none⟩, ⟨some 13, .prj 1 (.t 8), none⟩, ⟨some 6, .new [.int .i64 0, .int .i64 0, .int .i64 0], none⟩, ⟨none, .store 3 (.t 6) (.t 12), none⟩, ⟨some 7, .mov (.t 13), none⟩]) (.kl [0, 1, 8, 9, 10, 11, 12, 13] (.seq (.reg [⟨some 14, .faddr 0 1 (.t 6), none⟩, ⟨some 15, .load false 1 (.t 14), none⟩, ⟨some 16, .mov (.t 7), none⟩, ⟨some 4, .mov (.t 15), none⟩, ⟨some 5, .mov (.t 16), none⟩]) (.kl [6, 7, 14, 15, 16] (.ret)))))), [.tmp 4, .tmp 5]⟩
/-- spec.LongestGame -/
def fi424 : FI := ⟨.seq (.reg [⟨some 4, .mov (.c (.int .i64 0)), none⟩, ⟨some 5, .mov (.c (.bool false)), none⟩]) (.kl [4, 5] (.seq (.seq (.reg [⟨some 8, .mov (.t 0), none⟩, ⟨some 9, .call 447 [.t 8], none⟩, ⟨some 10, .un .not (.t 9), none⟩]) (.kl [8, 9] (.cond (.t 10) (.kl [0, 1, 10] (.seq (.reg [⟨some 4, .mov (.c (.int .i64 0)), none⟩, ⟨some 5, .mov (.c (.bool false)), none⟩]) (.ret))) (.skip)))) (.kl [10] (.seq (.reg [⟨some 11, .build [.nilS, .nilS, .nilS, .nilS] [], none⟩, ⟨some 12, .box (.t 11), none⟩, ⟨some 6, .mov (.t 12), none⟩]) (.kl [11, 12] (.seq (.reg [⟨some 13, .mov (.t 6), none⟩, ⟨some 14, .mov (.t 0), none⟩, ⟨some 15, .mov (.t 1), none⟩, ⟨some 16, .call 453 [.t 13, .t 14, .t 15], none⟩, ⟨some 7, .mov (.t 16), none⟩]) (.kl [0, 1, 13, 14, 15, 16] (.seq (.reg [⟨some 17, .mov (.t 6), none⟩, ⟨some 18, .nck (.t 17), none⟩, ⟨some 19, .faddr 1 1 (.t 18), none⟩, ⟨some 20, .load false 1 (.t 19), none⟩, ⟨some 21, .mov (.t 7), none⟩, ⟨some 22, .iaddr 1 (.t 20) (.t 21), none⟩, ⟨some 23, .load false 1 (.t 22), none⟩, ⟨some 4, .mov (.t 23), none⟩, ⟨some 5, .mov (.c (.bool true)), none⟩]) (.kl [6, 7, 17, 18, 19, 20, 21, 22, 23] (.ret)))))))))), [.tmp 4, .tmp 5]⟩
/-- impl.ShortestGame -/
def fi425 : FI := ⟨.seq (.reg [⟨some 4, .mov (.c (.int .i64 0)), none⟩, ⟨some 5, .mov (.c (.bool false)), none⟩]) (.kl [4, 5] (.seq (.reg [⟨some 9, .mov (.t 0), none⟩, ⟨some 10, .mov (.t 1), none⟩, ⟨some 11, .call 452 [.t 9, .t 10], none⟩, ⟨some 8, .mov (.t 11), none⟩, ⟨some 12, .prj 0 (.t 8), none⟩, ⟨some 13, .prj 1 (.t 8), none⟩, ⟨some 6, .new [.int .i64 0, .int .i64 0, .int .i64 0], none⟩, ⟨none, .store 3 (.t 6) (.t 12), none⟩, ⟨some 7, .mov (.t 13), none⟩]) (.kl [0, 1, 8, 9, 10, 11, 12, 13] (.seq (.reg [⟨some 14, .faddr 1 1 (.t 6), none⟩, ⟨some 15, .load false 1 (.t 14), none⟩, ⟨some 16, .mov (.t 7), none⟩, ⟨some 4, .mov (.t 15), none⟩, ⟨some 5, .mov (.t 16), none⟩]) (.kl [6, 7, 14, 15, 16] (.ret)))))), [.tmp 4, .tmp 5]⟩
/-- spec.ShortestGame -/
def fi426 : FI := ⟨.seq (.reg [⟨some 4, .mov (.c (.int .i64 0)), none⟩, ⟨some 5, .mov (.c (.bool false)), none⟩]) (.kl [4, 5] (.seq (.seq (.reg [⟨some 8, .mov (.t 0), none⟩, ⟨some 9, .call 447 [.t 8], none⟩, ⟨some 10, .un .not (.t 9), none⟩]) (.kl [8, 9] (.cond (.t 10) (.kl [0, 1, 10] (.seq (.reg [⟨some 4, .mov (.c (.int .i64 0)), none⟩, ⟨some 5, .mov (.c (.bool false)), none⟩]) (.ret))) (.skip)))) (.kl [10] (.seq (.reg [⟨some 11, .build [.nilS, .nilS, .nilS, .nilS] [], none⟩, ⟨some 12, .box (.t 11), none⟩, ⟨some 6, .mov (.t 12), none⟩]) (.kl [11, 12] (.seq (.reg [⟨some 13, .mov (.t 6), none⟩, ⟨some 14, .mov (.t 0), none⟩, ⟨some 15, .mov (.t 1), none⟩, ⟨some 16, .call 453 [.t 13, .t 14, .t 15], none⟩, ⟨some 7, .mov (.t 16), none⟩]) (.kl [0, 1, 13, 14, 15, 16] (.seq (.reg [⟨some 17, .mov (.t 6), none⟩, ⟨some 18, .nck (.t 17), none⟩, ⟨some 19, .faddr 2 1 (.t 18), none⟩, ⟨some 20, .load false 1 (.t 19), none⟩, ⟨some 21, .mov (.t 7), none⟩, ⟨some 22, .iaddr 1 (.t 20) (.t 21), none⟩, ⟨some 23, .load false 1 (.t 22), none⟩, ⟨some 4, .mov (.t 23), none⟩, ⟨some 5, .mov (.c (.bool true)), none⟩]) (.kl [6, 7, 17, 18, 19, 20, 21, 22, 23] (.ret)))))))))), [.tmp 4, .tmp 5]⟩
/-- impl.CountGames -/
def fi427 : FI := ⟨.seq (.reg [⟨some 4, .mov (.c (.int .i64 0)), none⟩, ⟨some 5, .mov (.c (.bool false)), none⟩]) (.kl [4, 5] (.seq (.reg [⟨some 9, .mov (.t 0), none⟩, ⟨some 10, .mov (.t 1), none⟩, ⟨some 11, .call 452 [.t 9, .t 10], none⟩, ⟨some 8, .mov (.t 11), none⟩, ⟨some 12, .prj 0 (.t 8), none⟩, ⟨some 13, .prj 1 (.t 8), none⟩, ⟨some 6, .new [.int .i64 0, .int .i64 0, .int .i64 0], none⟩, ⟨none, .store 3 (.t 6) (.t 12), none⟩, ⟨some 7, .mov (.t 13), none⟩]) (.kl [0, 1, 8, 9, 10, 11, 12, 13] (.seq (.reg [⟨some 14, .faddr 2 1 (.t 6), none⟩, ⟨some 15, .load false 1 (.t 14), none⟩, ⟨some 16, .mov (.t 7), none⟩, ⟨some 4, .mov (.t 15), none⟩, ⟨some 5, .mov (.t 16), none⟩]) (.kl [6, 7, 14, 15, 16] (.ret)))))), [.tmp 4, .tmp 5]⟩
/-- spec.CountGames -/
def fi428 : FI := ⟨.seq (.reg [⟨some 4, .mov (.c (.int .i64 0)), none⟩, ⟨some 5, .mov (.c (.bool false)), none⟩]) (.kl [4, 5] (.seq (.seq (.reg [⟨some 8, .mov (.t 0), none⟩, ⟨some 9, .call 447 [.t 8], none⟩, ⟨some 10, .un .not (.t 9), none⟩]) (.kl [8, 9] (.cond (.t 10) (.kl [0, 1, 10] (.seq (.reg [⟨some 4, .mov (.c (.int .i64 0)), none⟩, ⟨some 5, .mov (.c (.bool false)), none⟩]) (.ret))) (.skip)))) (.kl [10] (.seq (.reg [⟨some 11, .build [.nilS, .nilS, .nilS, .nilS] [], none⟩, ⟨some 12, .box (.t 11), none⟩, ⟨some 6, .mov (.t 12), none⟩]) (.kl [11, 12] (.seq (.reg [⟨some 13, .mov (.t 6), none⟩, ⟨some 14, .mov (.t 0), none⟩, ⟨some 15, .mov (.t 1), none⟩, ⟨some 16, .call 453 [.t 13, .t 14, .t 15], none⟩, ⟨some 7, .mov (.t 16), none⟩]) (.kl [0, 1, 13, 14, 15, 16] (.seq (.reg [⟨some 17, .mov (.t 6), none⟩, ⟨some 18, .nck (.t 17), none⟩, ⟨some 19, .faddr 3 1 (.t 18), none⟩, ⟨some 20, .load false 1 (.t 19), none⟩, ⟨some 21, .mov (.t 7), none⟩, ⟨some 22, .iaddr 1 (.t 20) (.t 21), none⟩, ⟨some 23, .load false 1 (.t 22), none⟩, ⟨some 4, .mov (.t 23), none⟩, ⟨some 5, .mov (.c (.bool true)), none⟩]) (.kl [6, 7, 17, 18, 19, 20, 21, 22, 23] (.ret)))))))))), [.tmp 4, .tmp 5]⟩
-- lp429_0 HEAD [0, 1, 12, 13] | exit 0: [] | ret: [4]
/-- laws.nMoves -/
def lb429_0 : C := .kl [25] (.seq (.reg [⟨some 14, .bin .lss (.t 13) (.t 12), none⟩]) (.seq (.cond (.t 14) (.skip) (.kl [0, 1, 12, 13, 14] (.exit 0))) (.kl [14] (.seq (.blk 1 (.seq (.reg [⟨some 15, .mov (.t 13), none⟩, ⟨some 5, .mov (.t 15), none⟩]) (.kl [15] (.seq (.drw [⟨some 16, .mov (.t 0), none⟩, ⟨some 17, .mov (.t 5), none⟩, ⟨some 18, .iaddr 2 (.t 16) (.t 17), none⟩, ⟨some 19, .load true 2 (.t 18), none⟩, ⟨some 20, .mov (.t 1), none⟩, ⟨some 21, .mov (.t 5), none⟩, ⟨some 22, .iaddr 2 (.t 20) (.t 21), none⟩, ⟨some 23, .load true 2 (.t 22), none⟩, ⟨some 24, .aeq true [0, 0] (.t 19) (.t 23), none⟩] []) (.kl [5, 16, 17, 18, 19, 20, 21, 22, 23] (.cond (.t 24) (.kl [0, 1, 12, 13, 24] (.seq (.reg [⟨some 4, .mov (.c (.bool false)), none⟩]) (.ret))) (.skip))))))) (.kl [24] (.reg [⟨some 25, .bin .add (.t 13) (.c (.int .i64 1)), none⟩, ⟨some 13, .mov (.t 25), none⟩]))))))
def lp429_0 : C := lb429_0
def fi429 : FI := ⟨.seq (.reg [⟨some 4, .mov (.c (.bool false)), none⟩]) (.kl [4] (.seq (.seq (.reg [⟨some 6, .mov (.t 0), none⟩, ⟨some 7, .lenV (.t 6), none⟩, ⟨some 8, .mov (.t 1), none⟩, ⟨some 9, .lenV (.t 8), none⟩, ⟨some 10, .bin .neq (.t 7) (.t 9), none⟩]) (.kl [6, 7, 8, 9] (.cond (.t 10) (.kl [0, 1, 10] (.seq (.reg [⟨some 4, .mov (.c (.bool false)), none⟩]) (.ret))) (.skip)))) (.kl [10] (.seq (.seq (.reg [⟨some 11, .mov (.t 0), none⟩, ⟨some 12, .lenV (.t 11), none⟩, ⟨some 13, .mov (.c (.int .i64 0)), none⟩]) (.kl [11] (.blk 0 (.loop lp429_0)))) (.seq (.reg [⟨some 4, .mov (.c (.bool true)), none⟩]) (.ret)))))), [.tmp 4]⟩
/-- impl.OutcomeOf -/
def fi430 : FI := ⟨.seq (.reg [⟨some 2, .mov (.c (.str [])), none⟩, ⟨some 3, .mov (.c (.bool false)), none⟩]) (.kl [2, 3] (.seq (.reg [⟨some 4, .mov (.t 0), none⟩, ⟨some 5, .lit 1 1 [.str []] [(0, 1, .t 4)], none⟩, ⟨some 6, .call 241 [.t 5], none⟩, ⟨some 7, .prj 0 (.t 6), none⟩, ⟨some 8, .prj 1 (.t 6), none⟩, ⟨some 2, .mov (.t 7), none⟩, ⟨some 3, .mov (.t 8), none⟩]) (.kl [0, 4, 5, 6, 7, 8] (.ret)))), [.tmp 2, .tmp 3]⟩
/-- impl.IsNothing -/
def fi431 : FI := ⟨.seq (.reg [⟨some 2, .mov (.c (.bool false)), none⟩, ⟨some 3, .mov (.c (.bool false)), none⟩]) (.kl [2, 3] (.seq (.reg [⟨some 7, .mov (.t 0), none⟩, ⟨some 8, .call 430 [.t 7], none⟩, ⟨some 6, .mov (.t 8), none⟩, ⟨some 9, .prj 0 (.t 6), none⟩, ⟨some 10, .prj 1 (.t 6), none⟩, ⟨some 4, .mov (.t 9), none⟩, ⟨some 5, .mov (.t 10), none⟩]) (.kl [0, 6, 7, 8, 9, 10] (.seq (.reg [⟨some 11, .mov (.t 4), none⟩, ⟨some 12, .bin .eql (.t 11) (.c (.str [50])), none⟩, ⟨some 13, .mov (.t 5), none⟩, ⟨some 2, .mov (.t 12), none⟩, ⟨some 3, .mov (.t 13), none⟩]) (.kl [4, 5, 11, 12, 13] (.ret)))))), [.tmp 2, .tmp 3]⟩
/-- impl.ToadMoves -/
def fi375 : FI := ⟨.seq (.reg [⟨some 2, .mov (.c (.nilS)), none⟩, ⟨some 3, .mov (.c (.bool false)), none⟩]) (.kl [2, 3] (.seq (.reg [⟨some 4, .mov (.t 0), none⟩, ⟨some 5, .call 59 [.t 4, .c (.str [84])], none⟩, ⟨some 6, .prj 0 (.t 5), none⟩, ⟨some 7, .prj 1 (.t 5), none⟩, ⟨some 2, .mov (.t 6), none⟩, ⟨some 3, .mov (.t 7), none⟩]) (.kl [0, 4, 5, 6, 7] (.ret)))), [.tmp 2, .tmp 3]⟩
/-- impl.FrogMoves -/
def fi377 : FI := ⟨.seq (.reg [⟨some 2, .mov (.c (.nilS)), none⟩, ⟨some 3, .mov (.c (.bool false)), none⟩]) (.kl [2, 3] (.seq (.reg [⟨some 4, .mov (.t 0), none⟩, ⟨some 5, .call 59 [.t 4, .c (.str [70])], none⟩, ⟨some 6, .prj 0 (.t 5), none⟩, ⟨some 7, .prj 1 (.t 5), none⟩, ⟨some 2, .mov (.t 6), none⟩, ⟨some 3, .mov (.t 7), none⟩]) (.kl [0, 4, 5, 6, 7] (.ret)))), [.tmp 2, .tmp 3]⟩
-- lp35_0 HEAD [3, 7, 8, 9] | exit 0: [] | ret: [4]
/-- laws.nMove -/
def lb35_0 : C := .kl [16] (.seq (.reg [⟨some 10, .bin .lss (.t 9) (.t 8), none⟩]) (.seq (.cond (.t 10) (.skip) (.kl [3, 7, 8, 9, 10] (.exit 0))) (.kl [10] (.seq (.blk 1 (.seq (.reg [⟨some 11, .iaddr 2 (.t 7) (.t 9), none⟩, ⟨some 12, .load true 2 (.t 11), none⟩, ⟨some 6, .new [.int .i64 0, .int .i64 0], none⟩, ⟨none, .store 2 (.t 6) (.t 12), none⟩]) (.kl [11, 12] (.seq (.reg [⟨some 13, .load true 2 (.t 6), none⟩, ⟨some 14, .load true 2 (.t 3), none⟩, ⟨some 15, .aeq false [0, 0] (.t 13) (.t 14), none⟩]) (.kl [6, 13, 14] (.cond (.t 15) (.kl [3, 7, 8, 9, 15] (.seq (.reg [⟨some 4, .mov (.c (.bool true)), none⟩]) (.ret))) (.skip))))))) (.kl [15] (.reg [⟨some 16, .bin .add (.t 9) (.c (.int .i64 1)), none⟩, ⟨some 9, .mov (.t 16), none⟩]))))))
def lp35_0 : C := lb35_0
def fi35 : FI := ⟨.seq (.reg [⟨some 3, .box (.t 1), none⟩, ⟨some 4, .mov (.c (.bool false)), none⟩]) (.kl [1, 4] (.seq (.seq (.reg [⟨some 7, .mov (.t 0), none⟩, ⟨some 8, .lenV (.t 7), none⟩, ⟨some 9, .mov (.c (.int .i64 0)), none⟩]) (.kl [0] (.blk 0 (.loop lp35_0)))) (.seq (.reg [⟨some 4, .mov (.c (.bool false)), none⟩]) (.ret)))), [.tmp 4]⟩
/-- impl.OtherLine -/
def fi385 : FI := ⟨.seq (.reg [⟨some 2, .mov (.c (.str [])), none⟩, ⟨some 3, .mov (.c (.bool false)), none⟩]) (.kl [2, 3] (.seq (.seq (.reg [⟨some 4, .mov (.t 0), none⟩, ⟨some 5, .call 106 [.t 4], none⟩, ⟨some 6, .un .not (.t 5), none⟩]) (.kl [4, 5] (.cond (.t 6) (.kl [0, 6] (.seq (.reg [⟨some 2, .mov (.c (.str [])), none⟩, ⟨some 3, .mov (.c (.bool false)), none⟩]) (.ret))) (.skip)))) (.kl [6] (.seq (.reg [⟨some 7, .mov (.t 0), none⟩, ⟨some 8, .call 80 [.t 7], none⟩, ⟨some 2, .mov (.t 8), none⟩, ⟨some 3, .mov (.c (.bool true)), none⟩]) (.kl [0, 7, 8] (.ret)))))), [.tmp 2, .tmp 3]⟩
/-- spec.DrawWinsMoving -/
def fi433 : FI := ⟨.seq (.reg [⟨some 2, .mov (.c (.str [])), none⟩, ⟨some 3, .mov (.c (.bool false)), none⟩]) (.kl [2, 3] (.seq (.reg [⟨some 5, .mov (.t 0), none⟩, ⟨some 6, .build [.nilS, .int .i64 0, .int .u64 0] [(0, 1, .t 5)], none⟩, ⟨some 7, .box (.t 6), none⟩, ⟨some 4, .mov (.t 7), none⟩]) (.kl [0, 5, 6, 7] (.seq (.reg [⟨some 8, .mov (.t 4), none⟩, ⟨some 9, .call 454 [.t 8], none⟩, ⟨some 10, .mov (.t 4), none⟩, ⟨some 11, .call 64 [.t 10, .c (.int .i64 2)], none⟩, ⟨some 2, .mov (.t 9), none⟩, ⟨some 3, .mov (.t 11), none⟩]) (.kl [4, 8, 9, 10, 11] (.ret)))))), [.tmp 2, .tmp 3]⟩
/-- impl.IsLine -/
def fi106 : FI := ⟨.seq (.reg [⟨some 2, .mov (.c (.bool false)), none⟩]) (.kl [2] (.seq (.reg [⟨some 3, .mov (.t 0), none⟩, ⟨some 4, .call 82 [.t 3, .c (.int .i64 12)], none⟩, ⟨some 2, .mov (.t 4), none⟩]) (.kl [0, 3, 4] (.ret)))), [.tmp 2]⟩
-- lp104_0 HEAD [0, 3] | exit 0: [] | ret: [2]
/-- spec.liGood -/
def lb104_0 : C := .kl [12, 13] (.seq (.seq (.reg [⟨some 8, .mov (.t 3), none⟩, ⟨some 9, .mov (.t 0), none⟩, ⟨some 10, .lenS (.t 9), none⟩, ⟨some 11, .bin .lss (.t 8) (.t 10), none⟩]) (.kl [8, 9, 10] (.cond (.t 11) (.skip) (.kl [0, 3, 11] (.exit 0))))) (.kl [11] (.seq (.blk 1 (.seq (.reg [⟨some 14, .mov (.t 0), none⟩, ⟨some 15, .mov (.t 3), none⟩, ⟨some 16, .idxS (.t 14) (.t 15), none⟩, ⟨some 17, .bin .neq (.t 16) (.c (.int .u8 84)), none⟩, ⟨some 18, .mov (.t 17), none⟩, ⟨some 19, .mov (.t 0), some (18, true)⟩, ⟨some 20, .mov (.t 3), some (18, true)⟩, ⟨some 21, .idxS (.t 19) (.t 20), some (18, true)⟩, ⟨some 22, .bin .neq (.t 21) (.c (.int .u8 70)), some (18, true)⟩, ⟨some 23, .pick (.t 18) (.t 22) (.c (.bool false)), none⟩, ⟨some 24, .mov (.t 23), none⟩, ⟨some 25, .mov (.t 0), some (24, true)⟩, ⟨some 26, .mov (.t 3), some (24, true)⟩, ⟨some 27, .idxS (.t 25) (.t 26), some (24, true)⟩, ⟨some 28, .bin .neq (.t 27) (.c (.int .u8 46)), some (24, true)⟩, ⟨some 29, .pick (.t 24) (.t 28) (.c (.bool false)), none⟩]) (.kl [14, 15, 16, 17, 18, 19, 20, 21, 22, 23, 24, 25, 26, 27, 28] (.cond (.t 29) (.kl [0, 3, 29] (.seq (.reg [⟨some 2, .mov (.c (.bool false)), none⟩]) (.ret))) (.skip))))) (.kl [29] (.reg [⟨some 12, .mov (.t 3), none⟩, ⟨some 13, .bin .add (.t 12) (.c (.int .i64 1)), none⟩, ⟨some 3, .mov (.t 13), none⟩])))))
def lp104_0 : C := lb104_0
def fi104 : FI := ⟨.seq (.reg [⟨some 2, .mov (.c (.bool false)), none⟩]) (.kl [2] (.seq (.seq (.reg [⟨some 4, .mov (.t 0), none⟩, ⟨some 5, .lenS (.t 4), none⟩, ⟨some 6, .call 77 [.t 5, .c (.int .i64 1), .c (.int .i64 12)], none⟩, ⟨some 7, .un .not (.t 6), none⟩]) (.kl [4, 5, 6] (.cond (.t 7) (.kl [0, 7] (.seq (.reg [⟨some 2, .mov (.c (.bool false)), none⟩]) (.ret))) (.skip)))) (.kl [7] (.seq (.seq (.reg [⟨some 3, .mov (.c (.int .i64 0)), none⟩]) (.blk 0 (.loop lp104_0))) (.seq (.reg [⟨some 2, .mov (.c (.bool true)), none⟩]) (.ret)))))), [.tmp 2]⟩
-- lp116_0 HEAD [0, 1, 5, 6] | exit 0: [5]
/-- spec.liCount -/
def lb116_0 : C := .kl [11, 12] (.seq (.seq (.reg [⟨some 7, .mov (.t 6), none⟩, ⟨some 8, .mov (.t 0), none⟩, ⟨some 9, .lenS (.t 8), none⟩, ⟨some 10, .bin .lss (.t 7) (.t 9), none⟩]) (.kl [7, 8, 9] (.cond (.t 10) (.skip) (.kl [0, 1, 6, 10] (.exit 0))))) (.kl [10] (.seq (.blk 1 (.seq (.reg [⟨some 13, .mov (.t 0), none⟩, ⟨some 14, .mov (.t 6), none⟩, ⟨some 15, .idxS (.t 13) (.t 14), none⟩, ⟨some 16, .mov (.t 1), none⟩, ⟨some 17, .bin .eql (.t 15) (.t 16), none⟩]) (.kl [13, 14, 15, 16] (.cond (.t 17) (.kl [17] (.reg [⟨some 18, .mov (.t 5), none⟩, ⟨some 19, .bin .add (.t 18) (.c (.int .i64 1)), none⟩, ⟨some 5, .mov (.t 19), none⟩])) (.skip))))) (.kl [17, 18, 19] (.reg [⟨some 11, .mov (.t 6), none⟩, ⟨some 12, .bin .add (.t 11) (.c (.int .i64 1)), none⟩, ⟨some 6, .mov (.t 12), none⟩])))))
def lp116_0 : C := lb116_0
def fi116 : FI := ⟨.seq (.reg [⟨some 4, .mov (.c (.int .i64 0)), none⟩]) (.kl [4] (.seq (.reg [⟨some 5, .mov (.c (.int .i64 0)), none⟩]) (.seq (.seq (.reg [⟨some 6, .mov (.c (.int .i64 0)), none⟩]) (.blk 0 (.loop lp116_0))) (.seq (.reg [⟨some 20, .mov (.t 5), none⟩, ⟨some 4, .mov (.t 20), none⟩]) (.kl [5, 20] (.ret)))))), [.tmp 4]⟩
/-- impl.within -/
def fi74 : FI := ⟨.seq (.reg [⟨some 6, .mov (.c (.bool false)), none⟩]) (.kl [6] (.seq (.reg [⟨some 7, .mov (.t 1), none⟩, ⟨some 8, .mov (.t 0), none⟩, ⟨some 9, .bin .leq (.t 7) (.t 8), none⟩, ⟨some 10, .mov (.t 9), none⟩, ⟨some 11, .mov (.t 0), some (10, true)⟩, ⟨some 12, .mov (.t 2), some (10, true)⟩, ⟨some 13, .bin .leq (.t 11) (.t 12), some (10, true)⟩, ⟨some 14, .pick (.t 10) (.t 13) (.c (.bool false)), none⟩, ⟨some 6, .mov (.t 14), none⟩]) (.kl [0, 1, 2, 7, 8, 9, 10, 11, 12, 13, 14] (.ret)))), [.tmp 6]⟩
/-- (*spec.l1Cur).pick -/
def fi63 : FI := ⟨.seq (.reg [⟨some 4, .mov (.c (.int .i64 0)), none⟩]) (.kl [4] (.seq (.seq (.reg [⟨some 6, .mov (.t 1), none⟩, ⟨some 7, .bin .leq (.t 6) (.c (.int .i64 1)), none⟩]) (.kl [6] (.cond (.t 7) (.kl [0, 1, 7] (.seq (.reg [⟨some 4, .mov (.c (.int .i64 0)), none⟩]) (.ret))) (.skip)))) (.kl [7] (.seq (.reg [⟨some 8, .mov (.t 0), none⟩, ⟨some 9, .call 107 [.t 8], none⟩, ⟨some 5, .mov (.t 9), none⟩]) (.kl [8, 9] (.seq (.seq (.reg [⟨some 10, .mov (.t 1), none⟩, ⟨some 11, .bin .gtr (.t 10) (.c (.int .i64 200)), none⟩]) (.kl [10] (.cond (.t 11) (.kl [11] (.reg [⟨some 12, .mov (.t 5), none⟩, ⟨some 13, .bin .mul (.t 12) (.c (.int .i64 256)), none⟩, ⟨some 14, .mov (.t 0), none⟩, ⟨some 15, .call 107 [.t 14], none⟩, ⟨some 16, .bin .add (.t 13) (.t 15), none⟩, ⟨some 5, .mov (.t 16), none⟩])) (.skip)))) (.kl [0, 11, 12, 13, 14, 15, 16] (.seq (.reg [⟨some 17, .mov (.t 5), none⟩, ⟨some 18, .mov (.t 1), none⟩, ⟨some 19, .bin .rem (.t 17) (.t 18), none⟩, ⟨some 4, .mov (.t 19), none⟩]) (.kl [1, 5, 17, 18, 19] (.ret)))))))))), [.tmp 4]⟩
/-- spec.l1In -/
def fi77 : FI := ⟨.seq (.reg [⟨some 6, .mov (.c (.bool false)), none⟩]) (.kl [6] (.seq (.reg [⟨some 7, .mov (.t 0), none⟩, ⟨some 8, .mov (.t 1), none⟩, ⟨some 9, .bin .geq (.t 7) (.t 8), none⟩, ⟨some 10, .mov (.t 9), none⟩, ⟨some 11, .mov (.t 0), some (10, true)⟩, ⟨some 12, .mov (.t 2), some (10, true)⟩, ⟨some 13, .bin .leq (.t 11) (.t 12), some (10, true)⟩, ⟨some 14, .pick (.t 10) (.t 13) (.c (.bool false)), none⟩, ⟨some 6, .mov (.t 14), none⟩]) (.kl [0, 1, 2, 7, 8, 9, 10, 11, 12, 13, 14] (.ret)))), [.tmp 6]⟩
/-- spec.liFirst -/
def fi100 : FI := ⟨.seq (.reg [⟨some 6, .mov (.c (.str [])), none⟩]) (.kl [6] (.seq (.reg [⟨some 7, .mov (.t 0), none⟩, ⟨some 8, .call 124 [.c (.str [84]), .t 7], none⟩, ⟨some 9, .mov (.t 1), none⟩, ⟨some 10, .call 124 [.c (.str [46]), .t 9], none⟩, ⟨some 11, .bin .add (.t 8) (.t 10), none⟩, ⟨some 12, .mov (.t 2), none⟩, ⟨some 13, .call 124 [.c (.str [70]), .t 12], none⟩, ⟨some 14, .bin .add (.t 11) (.t 13), none⟩, ⟨some 6, .mov (.t 14), none⟩]) (.kl [0, 1, 2, 7, 8, 9, 10, 11, 12, 13, 14] (.ret)))), [.tmp 6]⟩
/-- impl.can -/
def fi435 : FI := ⟨.seq (.reg [⟨some 3, .box (.t 1), none⟩, ⟨some 4, .mov (.c (.bool false)), none⟩]) (.kl [1, 4] (.seq (.seq (.reg [⟨some 7, .faddr 0 1 (.t 3), none⟩, ⟨some 8, .load false 1 (.t 7), none⟩, ⟨some 9, .mov (.t 0), none⟩, ⟨some 10, .lenS (.t 9), none⟩, ⟨some 11, .bin .sub (.t 10) (.c (.int .i64 1)), none⟩, ⟨some 12, .call 74 [.t 8, .c (.int .i64 0), .t 11], none⟩, ⟨some 13, .un .not (.t 12), none⟩]) (.kl [7, 8, 9, 10, 11, 12] (.cond (.t 13) (.kl [0, 3, 13] (.seq (.reg [⟨some 4, .mov (.c (.bool false)), none⟩]) (.ret))) (.skip)))) (.kl [13] (.seq (.reg [⟨some 15, .mov (.t 0), none⟩, ⟨some 16, .faddr 0 1 (.t 3), none⟩, ⟨some 17, .load false 1 (.t 16), none⟩, ⟨some 18, .call 127 [.t 15, .t 17], none⟩, ⟨some 14, .mov (.t 18), none⟩, ⟨some 19, .prj 0 (.t 14), none⟩, ⟨some 20, .prj 1 (.t 14), none⟩, ⟨some 5, .mov (.t 19), none⟩, ⟨some 6, .mov (.t 20), none⟩]) (.kl [0, 14, 15, 16, 17, 18, 19, 20] (.seq (.reg [⟨some 21, .mov (.t 6), none⟩, ⟨some 22, .mov (.t 21), none⟩, ⟨some 23, .mov (.t 5), some (22, true)⟩, ⟨some 24, .faddr 1 1 (.t 3), some (22, true)⟩, ⟨some 25, .load false 1 (.t 24), some (22, true)⟩, ⟨some 26, .bin .eql (.t 23) (.t 25), some (22, true)⟩, ⟨some 27, .pick (.t 22) (.t 26) (.c (.bool false)), none⟩, ⟨some 4, .mov (.t 27), none⟩]) (.kl [3, 5, 6, 21, 22, 23, 24, 25, 26, 27] (.ret)))))))), [.tmp 4]⟩
/-- impl.made -/
def fi61 : FI := ⟨.seq (.reg [⟨some 3, .box (.t 1), none⟩, ⟨some 4, .mov (.c (.str [])), none⟩]) (.kl [1, 4] (.seq (.reg [⟨some 6, .mov (.t 0), none⟩, ⟨some 7, .toB (.t 6), none⟩, ⟨some 5, .mov (.t 7), none⟩]) (.kl [0, 6, 7] (.seq (.drw [⟨some 8, .mov (.t 5), none⟩, ⟨some 9, .faddr 1 1 (.t 3), none⟩, ⟨some 10, .load false 1 (.t 9), none⟩, ⟨some 11, .mov (.t 5), none⟩, ⟨some 12, .faddr 0 1 (.t 3), none⟩, ⟨some 13, .load false 1 (.t 12), none⟩, ⟨some 14, .mov (.t 5), none⟩, ⟨some 15, .faddr 0 1 (.t 3), none⟩, ⟨some 16, .load false 1 (.t 15), none⟩, ⟨some 17, .iaddr 1 (.t 14) (.t 16), none⟩, ⟨some 18, .load false 1 (.t 17), none⟩, ⟨some 19, .iaddr 1 (.t 8) (.t 10), none⟩, ⟨none, .store 1 (.t 19) (.t 18), none⟩, ⟨some 20, .iaddr 1 (.t 11) (.t 13), none⟩, ⟨none, .store 1 (.t 20) (.c (.int .u8 46)), none⟩] [(5, 12)]) (.kl [3, 8, 9, 10, 11, 12, 13, 14, 15, 16, 17, 18, 19, 20] (.seq (.reg [⟨some 21, .mov (.t 5), none⟩, ⟨some 22, .ofB (.t 21), none⟩, ⟨some 4, .mov (.t 22), none⟩]) (.kl [5, 21, 22] (.ret)))))))), [.tmp 4]⟩
/-- impl.WinsSum -/
def fi446 : FI := ⟨.seq (.reg [⟨some 4, .mov (.c (.bool false)), none⟩, ⟨some 5, .mov (.c (.bool false)), none⟩]) (.kl [4, 5] (.seq (.reg [⟨some 9, .mov (.t 0), none⟩, ⟨some 10, .call 249 [.t 9], none⟩, ⟨some 8, .mov (.t 10), none⟩, ⟨some 11, .prj 0 (.t 8), none⟩, ⟨some 12, .prj 1 (.t 8), none⟩, ⟨some 6, .mov (.t 11), none⟩, ⟨some 7, .mov (.t 12), none⟩]) (.kl [0, 8, 9, 10, 11, 12] (.seq (.reg [⟨some 13, .mov (.t 7), none⟩, ⟨some 14, .mov (.t 13), none⟩, ⟨some 15, .call 192 [], some (14, true)⟩, ⟨some 16, .mov (.t 6), some (14, true)⟩, ⟨some 17, .mov (.t 1), some (14, true)⟩, ⟨some 18, .call 198 [.t 15, .t 16, .t 17], some (14, true)⟩, ⟨some 19, .pick (.t 14) (.t 18) (.c (.bool false)), none⟩, ⟨some 20, .mov (.t 7), none⟩, ⟨some 4, .mov (.t 19), none⟩, ⟨some 5, .mov (.t 20), none⟩]) (.kl [1, 6, 7, 13, 14, 15, 16, 17, 18, 19, 20] (.ret)))))), [.tmp 4, .tmp 5]⟩
/-- spec.gaFew -/
def fi447 : FI := ⟨.seq (.reg [⟨some 2, .mov (.c (.bool false)), none⟩]) (.kl [2] (.seq (.reg [⟨some 3, .mov (.t 0), none⟩, ⟨some 4, .call 104 [.t 3], none⟩, ⟨some 5, .mov (.t 4), none⟩, ⟨some 6, .mov (.t 0), some (5, true)⟩, ⟨some 7, .lenS (.t 6), some (5, true)⟩, ⟨some 8, .bin .leq (.t 7) (.c (.int .i64 10)), some (5, true)⟩, ⟨some 9, .pick (.t 5) (.t 8) (.c (.bool false)), none⟩, ⟨some 2, .mov (.t 9), none⟩]) (.kl [0, 3, 4, 5, 6, 7, 8, 9] (.ret)))), [.tmp 2]⟩
-- lp199_0 HEAD [0, 1, 2, 7, 21, 22, 23] | exit 0: [0, 1, 2, 7] | ret: [6]
-- lp199_1 HEAD [0, 1, 2, 7, 10, 39, 40, 41] | exit 2: [0, 7, 10] | exit 4: [0, 1, 2, 7, 10, 39, 40, 41]
-- lp199_2 HEAD [0, 1, 2, 7, 10, 11, 12, 39, 40, 41, 50, 51, 52] | exit 4: [0, 1, 2, 7, 10, 39, 40, 41]
/-- (*spec.gaKnown).win -/
def lb199_2 : C := .kl [67] (.seq (.reg [⟨some 53, .bin .lss (.t 52) (.t 51), none⟩]) (.seq (.cond (.t 53) (.skip) (.kl [11, 12, 50, 51, 52, 53] (.exit 4))) (.kl [53] (.seq (.blk 5 (.seq (.reg [⟨some 54, .iaddr 2 (.t 50) (.t 52), none⟩, ⟨some 55, .load true 2 (.t 54), none⟩, ⟨some 14, .new [.int .i64 0, .int .i64 0], none⟩, ⟨none, .store 2 (.t 14) (.t 55), none⟩]) (.kl [54, 55] (.seq (.reg [⟨some 56, .mov (.t 0), none⟩, ⟨some 57, .mov (.t 1), none⟩, ⟨some 58, .mov (.t 11), none⟩, ⟨some 59, .mov (.t 12), none⟩, ⟨some 60, .load true 2 (.t 14), none⟩, ⟨some 61, .call 66 [.t 59, .t 60], none⟩, ⟨some 62, .call 204 [.t 57, .t 58, .t 61], none⟩, ⟨some 63, .mov (.t 2), none⟩, ⟨some 64, .un .not (.t 63), none⟩, ⟨some 65, .call 199 [.t 56, .t 62, .t 64], none⟩, ⟨some 66, .un .not (.t 65), none⟩]) (.kl [14, 56, 57, 58, 59, 60, 61, 62, 63, 64, 65] (.cond (.t 66) (.kl [10, 11, 12, 50, 51, 52, 66] (.seq (.reg [⟨some 10, .mov (.c (.bool true)), none⟩]) (.exit 4))) (.skip))))))) (.kl [66] (.reg [⟨some 67, .bin .add (.t 52) (.c (.int .i64 1)), none⟩, ⟨some 52, .mov (.t 67), none⟩]))))))
def lp199_2 : C := lb199_2
def lb199_1 : C := .kl [69] (.seq (.reg [⟨some 42, .bin .lss (.t 41) (.t 40), none⟩]) (.seq (.cond (.t 42) (.skip) (.kl [1, 2, 39, 40, 41, 42] (.exit 2))) (.kl [42] (.seq (.blk 3 (.seq (.reg [⟨some 43, .mov (.t 41), none⟩, ⟨some 44, .iaddr 1 (.t 39) (.t 41), none⟩, ⟨some 45, .load false 1 (.t 44), none⟩, ⟨some 11, .mov (.t 43), none⟩, ⟨some 12, .mov (.t 45), none⟩]) (.kl [43, 44, 45] (.seq (.seq (.reg [⟨some 46, .mov (.t 12), none⟩, ⟨some 47, .mov (.t 2), none⟩, ⟨some 48, .mov (.t 2), none⟩, ⟨some 49, .un .not (.t 48), none⟩, ⟨some 50, .call 119 [.t 46, .t 47, .t 49], none⟩, ⟨some 51, .lenV (.t 50), none⟩, ⟨some 52, .mov (.c (.int .i64 0)), none⟩]) (.kl [46, 47, 48, 49] (.blk 4 (.loop lp199_2)))) (.seq (.reg [⟨some 68, .mov (.t 10), none⟩]) (.cond (.t 68) (.kl [1, 2, 39, 40, 41, 68] (.exit 2)) (.skip))))))) (.kl [68] (.reg [⟨some 69, .bin .add (.t 41) (.c (.int .i64 1)), none⟩, ⟨some 41, .mov (.t 69), none⟩]))))))
def lp199_1 : C := lb199_1
def lb199_0 : C := .kl [38] (.seq (.reg [⟨some 24, .bin .lss (.t 23) (.t 22), none⟩]) (.seq (.cond (.t 24) (.skip) (.kl [21, 22, 23, 24] (.exit 0))) (.kl [24] (.seq (.blk 1 (.seq (.reg [⟨some 25, .mov (.t 23), none⟩, ⟨some 26, .iaddr 1 (.t 21) (.t 23), none⟩, ⟨some 27, .load false 1 (.t 26), none⟩, ⟨some 8, .mov (.t 25), none⟩, ⟨some 9, .mov (.t 27), none⟩]) (.kl [25, 26, 27] (.seq (.reg [⟨some 28, .mov (.t 9), none⟩, ⟨some 29, .mov (.t 7), none⟩, ⟨some 30, .bin .eql (.t 28) (.t 29), none⟩]) (.kl [9, 28, 29] (.cond (.t 30) (.kl [1, 2, 7, 21, 22, 23, 30] (.seq (.reg [⟨some 31, .mov (.t 0), none⟩, ⟨some 32, .nck (.t 31), none⟩, ⟨some 33, .faddr 1 1 (.t 32), none⟩, ⟨some 34, .load false 1 (.t 33), none⟩, ⟨some 35, .mov (.t 8), none⟩, ⟨some 36, .iaddr 1 (.t 34) (.t 35), none⟩, ⟨some 37, .load false 1 (.t 36), none⟩, ⟨some 6, .mov (.t 37), none⟩]) (.kl [0, 8, 31, 32, 33, 34, 35, 36, 37] (.ret)))) (.skip))))))) (.kl [8, 30] (.reg [⟨some 38, .bin .add (.t 23) (.c (.int .i64 1)), none⟩, ⟨some 23, .mov (.t 38), none⟩]))))))
def lp199_0 : C := lb199_0
def fi199 : FI := ⟨.seq (.reg [⟨some 6, .mov (.c (.bool false)), none⟩]) (.kl [6] (.seq (.reg [⟨some 15, .mov (.t 1), none⟩, ⟨some 16, .mov (.t 2), none⟩, ⟨some 17, .call 203 [.t 15, .t 16], none⟩, ⟨some 7, .mov (.t 17), none⟩]) (.kl [15, 16, 17] (.seq (.seq (.reg [⟨some 18, .mov (.t 0), none⟩, ⟨some 19, .nck (.t 18), none⟩, ⟨some 20, .faddr 0 1 (.t 19), none⟩, ⟨some 21, .load false 1 (.t 20), none⟩, ⟨some 22, .lenV (.t 21), none⟩, ⟨some 23, .mov (.c (.int .i64 0)), none⟩]) (.kl [18, 19, 20] (.blk 0 (.loop lp199_0)))) (.seq (.reg [⟨some 10, .mov (.c (.bool false)), none⟩]) (.seq (.seq (.reg [⟨some 39, .mov (.t 1), none⟩, ⟨some 40, .lenV (.t 39), none⟩, ⟨some 41, .mov (.c (.int .i64 0)), none⟩]) (.blk 2 (.loop lp199_1))) (.seq (.reg [⟨some 70, .mov (.t 0), none⟩, ⟨some 71, .mov (.t 0), none⟩, ⟨some 72, .nck (.t 71), none⟩, ⟨some 73, .faddr 0 1 (.t 72), none⟩, ⟨some 74, .load false 1 (.t 73), none⟩, ⟨some 75, .mov (.t 7), none⟩, ⟨some 76, .lit 1 1 [.str []] [(0, 1, .t 75)], none⟩, ⟨some 77, .app 1 (.t 74) (.t 76), none⟩, ⟨some 78, .nck (.t 70), none⟩, ⟨some 79, .faddr 0 1 (.t 78), none⟩, ⟨none, .store 1 (.t 79) (.t 77), none⟩]) (.kl [7, 70, 71, 72, 73, 74, 75, 76, 77, 78, 79] (.seq (.reg [⟨some 80, .mov (.t 0), none⟩, ⟨some 81, .mov (.t 0), none⟩, ⟨some 82, .nck (.t 81), none⟩, ⟨some 83, .faddr 1 1 (.t 82), none⟩, ⟨some 84, .load false 1 (.t 83), none⟩, ⟨some 85, .mov (.t 10), none⟩, ⟨some 86, .lit 1 1 [.bool false] [(0, 1, .t 85)], none⟩, ⟨some 87, .app 1 (.t 84) (.t 86), none⟩, ⟨some 88, .nck (.t 80), none⟩, ⟨some 89, .faddr 1 1 (.t 88), none⟩, ⟨none, .store 1 (.t 89) (.t 87), none⟩]) (.kl [0, 80, 81, 82, 83, 84, 85, 86, 87, 88, 89] (.seq (.reg [⟨some 90, .mov (.t 10), none⟩, ⟨some 6, .mov (.t 90), none⟩]) (.kl [10, 90] (.ret))))))))))))), [.tmp 6]⟩
/-- impl.isPlayed -/
def fi254 : FI := ⟨.seq (.reg [⟨some 2, .mov (.c (.bool false)), none⟩]) (.kl [2] (.seq (.reg [⟨some 3, .mov (.t 0), none⟩, ⟨some 4, .call 82 [.t 3, .c (.int .i64 10)], none⟩, ⟨some 2, .mov (.t 4), none⟩]) (.kl [0, 3, 4] (.ret)))), [.tmp 2]⟩
/-- impl.newGames -/
def fi192 : FI := ⟨.seq (.reg [⟨some 0, .new [.nilM], none⟩]) (.seq (.reg [⟨some 1, .mkmap, none⟩, ⟨some 2, .build [.nilM] [(0, 1, .t 1)], none⟩, ⟨none, .store 1 (.t 0) (.t 2), none⟩]) (.kl [1, 2] (.ret))), [.cell true 1 0]⟩
/-- (impl.games).best -/
def fi448 : FI := ⟨.seq (.reg [⟨some 3, .box (.t 0), none⟩, ⟨some 4, .box (.t 1), none⟩, ⟨some 5, .box (.t 2), none⟩, ⟨some 6, .mov (.c (.nilS)), none⟩]) (.kl [0, 1, 2, 6] (.seq (.drw [⟨some 7, .load false 1 (.t 4), none⟩, ⟨some 8, .load false 1 (.t 5), none⟩, ⟨some 9, .call 200 [.t 8], none⟩, ⟨some 10, .call 105 [.t 7, .t 9], none⟩, ⟨some 11, .mkfn 456 [.t 3, .t 4, .t 5], none⟩, ⟨some 12, .call 248 [.t 10, .t 11], none⟩, ⟨some 6, .mov (.t 12), none⟩] [(0, 2)]) (.kl [3, 4, 5, 7, 8, 9, 10, 11, 12] (.ret)))), [.tmp 6]⟩
-- lp449_0 HEAD [0, 1, 2, 7, 14, 15, 16] | exit 0: [7]
/-- spec.gaBest -/
def lb449_0 : C := .kl [33] (.seq (.reg [⟨some 17, .bin .lss (.t 16) (.t 15), none⟩]) (.seq (.cond (.t 17) (.skip) (.kl [0, 1, 2, 14, 15, 16, 17] (.exit 0))) (.kl [17] (.seq (.blk 1 (.seq (.reg [⟨some 18, .iaddr 2 (.t 14) (.t 16), none⟩, ⟨some 19, .load true 2 (.t 18), none⟩, ⟨some 9, .new [.int .i64 0, .int .i64 0], none⟩, ⟨none, .store 2 (.t 9) (.t 19), none⟩]) (.kl [18, 19] (.seq (.reg [⟨some 20, .mov (.t 0), none⟩, ⟨some 21, .mov (.t 1), none⟩, ⟨some 22, .load true 2 (.t 9), none⟩, ⟨some 23, .call 66 [.t 21, .t 22], none⟩, ⟨some 24, .lit 1 1 [.str []] [(0, 1, .t 23)], none⟩, ⟨some 25, .mov (.t 2), none⟩, ⟨some 26, .un .not (.t 25), none⟩, ⟨some 27, .call 199 [.t 20, .t 24, .t 26], none⟩, ⟨some 28, .un .not (.t 27), none⟩]) (.kl [20, 21, 22, 23, 24, 25, 26, 27] (.cond (.t 28) (.kl [28] (.reg [⟨some 29, .mov (.t 7), none⟩, ⟨some 30, .load true 2 (.t 9), none⟩, ⟨some 31, .lit 2 1 [.int .i64 0, .int .i64 0] [(0, 2, .t 30)], none⟩, ⟨some 32, .app 2 (.t 29) (.t 31), none⟩, ⟨some 7, .mov (.t 32), none⟩])) (.skip))))))) (.kl [9, 28, 29, 30, 31, 32] (.reg [⟨some 33, .bin .add (.t 16) (.c (.int .i64 1)), none⟩, ⟨some 16, .mov (.t 33), none⟩]))))))
def lp449_0 : C := lb449_0
def fi449 : FI := ⟨.seq (.reg [⟨some 6, .mov (.c (.nilS)), none⟩]) (.kl [6] (.seq (.reg [⟨some 7, .mov (.c (.nilS)), none⟩]) (.seq (.seq (.reg [⟨some 10, .mov (.t 1), none⟩, ⟨some 11, .mov (.t 2), none⟩, ⟨some 12, .mov (.t 2), none⟩, ⟨some 13, .un .not (.t 12), none⟩, ⟨some 14, .call 119 [.t 10, .t 11, .t 13], none⟩, ⟨some 15, .lenV (.t 14), none⟩, ⟨some 16, .mov (.c (.int .i64 0)), none⟩]) (.kl [10, 11, 12, 13] (.blk 0 (.loop lp449_0)))) (.seq (.reg [⟨some 34, .mov (.t 7), none⟩, ⟨some 6, .mov (.t 34), none⟩]) (.kl [7, 34] (.ret)))))), [.tmp 6]⟩
/-- (impl.games).move -/
def fi450 : FI := ⟨.seq (.reg [⟨some 3, .box (.t 0), none⟩, ⟨some 6, .new [.int .i64 0, .int .i64 0], none⟩, ⟨some 7, .mov (.c (.bool false)), none⟩]) (.kl [0, 7] (.seq (.reg [⟨some 9, .load true 1 (.t 3), none⟩, ⟨some 10, .mov (.t 1), none⟩, ⟨some 11, .mov (.t 2), none⟩, ⟨some 12, .call 448 [.t 9, .t 10, .t 11], none⟩, ⟨some 13, .mov (.t 1), none⟩, ⟨some 14, .mov (.t 2), none⟩, ⟨some 15, .call 200 [.t 14], none⟩, ⟨some 16, .call 105 [.t 13, .t 15], none⟩, ⟨some 17, .app 2 (.t 12) (.t 16), none⟩, ⟨some 8, .mov (.t 17), none⟩]) (.kl [1, 2, 3, 9, 10, 11, 12, 13, 14, 15, 16, 17] (.seq (.seq (.reg [⟨some 18, .mov (.t 8), none⟩, ⟨some 19, .lenV (.t 18), none⟩, ⟨some 20, .bin .eql (.t 19) (.c (.int .i64 0)), none⟩]) (.kl [18, 19] (.cond (.t 20) (.kl [8, 20] (.seq (.reg [⟨some 21, .build [.int .i64 0, .int .i64 0] [], none⟩, ⟨none, .store 2 (.t 6) (.t 21), none⟩, ⟨some 7, .mov (.c (.bool false)), none⟩]) (.kl [21] (.ret)))) (.skip)))) (.kl [20] (.seq (.reg [⟨some 22, .mov (.t 8), none⟩, ⟨some 23, .iaddr 2 (.t 22) (.c (.int .i64 0)), none⟩, ⟨some 24, .load true 2 (.t 23), none⟩, ⟨none, .store 2 (.t 6) (.t 24), none⟩, ⟨some 7, .mov (.c (.bool true)), none⟩]) (.kl [8, 22, 23, 24] (.ret)))))))), [.cell true 2 6, .tmp 7]⟩
/-- spec.gaMove -/
def fi451 : FI := ⟨.seq (.reg [⟨some 6, .new [.int .i64 0, .int .i64 0], none⟩, ⟨some 7, .mov (.c (.bool false)), none⟩]) (.kl [7] (.seq (.seq (.reg [⟨some 10, .mov (.t 0), none⟩, ⟨some 11, .mov (.t 1), none⟩, ⟨some 12, .mov (.t 2), none⟩, ⟨some 13, .call 449 [.t 10, .t 11, .t 12], none⟩, ⟨some 8, .mov (.t 13), none⟩]) (.kl [0, 10, 11, 12, 13] (.seq (.reg [⟨some 14, .mov (.t 8), none⟩, ⟨some 15, .lenV (.t 14), none⟩, ⟨some 16, .bin .gtr (.t 15) (.c (.int .i64 0)), none⟩]) (.kl [14, 15] (.cond (.t 16) (.kl [1, 2, 16] (.seq (.reg [⟨some 17, .mov (.t 8), none⟩, ⟨some 18, .iaddr 2 (.t 17) (.c (.int .i64 0)), none⟩, ⟨some 19, .load true 2 (.t 18), none⟩, ⟨none, .store 2 (.t 6) (.t 19), none⟩, ⟨some 7, .mov (.c (.bool true)), none⟩]) (.kl [8, 17, 18, 19] (.ret)))) (.skip)))))) (.kl [8, 16] (.seq (.seq (.reg [⟨some 20, .mov (.t 1), none⟩, ⟨some 21, .mov (.t 2), none⟩, ⟨some 22, .mov (.t 2), none⟩, ⟨some 23, .un .not (.t 22), none⟩, ⟨some 24, .call 119 [.t 20, .t 21, .t 23], none⟩, ⟨some 9, .mov (.t 24), none⟩]) (.kl [1, 2, 20, 21, 22, 23, 24] (.seq (.reg [⟨some 25, .mov (.t 9), none⟩, ⟨some 26, .lenV (.t 25), none⟩, ⟨some 27, .bin .gtr (.t 26) (.c (.int .i64 0)), none⟩]) (.kl [25, 26] (.cond (.t 27) (.kl [27] (.seq (.reg [⟨some 28, .mov (.t 9), none⟩, ⟨some 29, .iaddr 2 (.t 28) (.c (.int .i64 0)), none⟩, ⟨some 30, .load true 2 (.t 29), none⟩, ⟨none, .store 2 (.t 6) (.t 30), none⟩, ⟨some 7, .mov (.c (.bool true)), none⟩]) (.kl [9, 28, 29, 30] (.ret)))) (.skip)))))) (.kl [9, 27] (.seq (.reg [⟨some 31, .build [.int .i64 0, .int .i64 0] [], none⟩, ⟨none, .store 2 (.t 6) (.t 31), none⟩, ⟨some 7, .mov (.c (.bool false)), none⟩]) (.kl [31] (.ret)))))))), [.cell true 2 6, .tmp 7]⟩
/-- spec.liMake -/
def fi66 : FI := ⟨.seq (.reg [⟨some 3, .box (.t 1), none⟩, ⟨some 4, .mov (.c (.str [])), none⟩]) (.kl [1, 4] (.seq (.reg [⟨some 6, .mov (.t 0), none⟩, ⟨some 7, .faddr 0 1 (.t 3), none⟩, ⟨some 8, .load false 1 (.t 7), none⟩, ⟨some 9, .faddr 0 1 (.t 3), none⟩, ⟨some 10, .load false 1 (.t 9), none⟩, ⟨some 11, .bin .add (.t 10) (.c (.int .i64 1)), none⟩, ⟨some 12, .subS (.t 6) (some (.t 8)) (some (.t 11)), none⟩, ⟨some 5, .mov (.t 12), none⟩]) (.kl [6, 7, 8, 9, 10, 11, 12] (.seq (.drw [⟨some 13, .mov (.t 0), none⟩, ⟨some 14, .faddr 0 1 (.t 3), none⟩, ⟨some 15, .load false 1 (.t 14), none⟩, ⟨some 16, .call 108 [.t 13, .t 15, .c (.str [46])], none⟩, ⟨some 17, .faddr 1 1 (.t 3), none⟩, ⟨some 18, .load false 1 (.t 17), none⟩, ⟨some 19, .mov (.t 5), none⟩, ⟨some 20, .call 108 [.t 16, .t 18, .t 19], none⟩, ⟨some 4, .mov (.t 20), none⟩] [(5, 3)]) (.kl [0, 3, 5, 13, 14, 15, 16, 17, 18, 19, 20] (.ret)))))), [.tmp 4]⟩
/-- impl.gamesFrom -/
def fi452 : FI := ⟨.seq (.reg [⟨some 4, .new [.int .i64 0, .int .i64 0, .int .i64 0], none⟩, ⟨some 5, .mov (.c (.bool false)), none⟩]) (.kl [5] (.seq (.seq (.reg [⟨some 8, .mov (.t 0), none⟩, ⟨some 9, .call 254 [.t 8], none⟩, ⟨some 10, .un .not (.t 9), none⟩]) (.kl [8, 9] (.cond (.t 10) (.kl [0, 1, 10] (.seq (.reg [⟨some 11, .build [.int .i64 0, .int .i64 0, .int .i64 0] [], none⟩, ⟨none, .store 3 (.t 4) (.t 11), none⟩, ⟨some 5, .mov (.c (.bool false)), none⟩]) (.kl [11] (.ret)))) (.skip)))) (.kl [10] (.seq (.reg [⟨some 12, .mkmap, none⟩, ⟨some 6, .new [.nilM], none⟩, ⟨none, .store 1 (.t 6) (.t 12), none⟩]) (.kl [12] (.seq (.reg [⟨some 7, .new [.nilF], none⟩]) (.seq (.reg [⟨some 13, .mkfn 457 [.t 6, .t 7], none⟩, ⟨none, .store 1 (.t 7) (.t 13), none⟩]) (.kl [6, 13] (.seq (.reg [⟨some 14, .load false 1 (.t 7), none⟩, ⟨some 15, .mov (.t 0), none⟩, ⟨some 16, .mov (.t 1), none⟩, ⟨some 17, .callv (.t 14) [.t 15, .t 16], none⟩, ⟨none, .store 3 (.t 4) (.t 17), none⟩, ⟨some 5, .mov (.c (.bool true)), none⟩]) (.kl [0, 1, 7, 14, 15, 16, 17] (.ret))))))))))), [.cell true 3 4, .tmp 5]⟩
-- lp453_0 HEAD [0, 1, 2, 7, 24, 25, 26] | exit 0: [0, 1, 2, 7] | ret: [6]
-- lp453_1 HEAD [0, 1, 2, 7, 10, 11, 12, 44, 45, 46] | exit 2: [0, 7, 10, 11, 12]
/-- (*spec.gaLengths).of -/
def lb453_1 : C := .kl [99] (.seq (.reg [⟨some 47, .bin .lss (.t 46) (.t 45), none⟩]) (.seq (.cond (.t 47) (.skip) (.kl [1, 2, 44, 45, 46, 47] (.exit 2))) (.kl [47] (.seq (.blk 3 (.seq (.reg [⟨some 48, .mov (.t 46), none⟩, ⟨some 49, .iaddr 2 (.t 44) (.t 46), none⟩, ⟨some 50, .load true 2 (.t 49), none⟩, ⟨some 15, .new [.int .i64 0, .int .i64 0], none⟩, ⟨some 14, .mov (.t 48), none⟩, ⟨none, .store 2 (.t 15) (.t 50), none⟩]) (.kl [48, 49, 50] (.seq (.reg [⟨some 51, .mov (.t 0), none⟩, ⟨some 52, .mov (.t 1), none⟩, ⟨some 53, .load true 2 (.t 15), none⟩, ⟨some 54, .call 66 [.t 52, .t 53], none⟩, ⟨some 55, .mov (.t 2), none⟩, ⟨some 56, .un .not (.t 55), none⟩, ⟨some 57, .call 453 [.t 51, .t 54, .t 56], none⟩, ⟨some 16, .mov (.t 57), none⟩]) (.kl [15, 51, 52, 53, 54, 55, 56, 57] (.seq (.reg [⟨some 58, .mov (.t 10), none⟩, ⟨some 59, .mov (.t 0), none⟩, ⟨some 60, .nck (.t 59), none⟩, ⟨some 61, .faddr 1 1 (.t 60), none⟩, ⟨some 62, .load false 1 (.t 61), none⟩, ⟨some 63, .mov (.t 16), none⟩, ⟨some 64, .iaddr 1 (.t 62) (.t 63), none⟩, ⟨some 65, .load false 1 (.t 64), none⟩, ⟨some 66, .bin .add (.t 65) (.c (.int .i64 1)), none⟩, ⟨some 67, .call 455 [.t 58, .t 66], none⟩, ⟨some 10, .mov (.t 67), none⟩]) (.kl [58, 59, 60, 61, 62, 63, 64, 65, 66, 67] (.seq (.seq (.reg [⟨some 68, .mov (.t 14), none⟩, ⟨some 69, .bin .eql (.t 68) (.c (.int .i64 0)), none⟩, ⟨some 70, .mov (.t 69), none⟩, ⟨some 71, .mov (.t 0), some (70, false)⟩, ⟨some 72, .nck (.t 71), some (70, false)⟩, ⟨some 73, .faddr 2 1 (.t 72), some (70, false)⟩, ⟨some 74, .load false 1 (.t 73), some (70, false)⟩, ⟨some 75, .mov (.t 16), some (70, false)⟩, ⟨some 76, .iaddr 1 (.t 74) (.t 75), some (70, false)⟩, ⟨some 77, .load false 1 (.t 76), some (70, false)⟩, ⟨some 78, .bin .add (.t 77) (.c (.int .i64 1)), some (70, false)⟩, ⟨some 79, .mov (.t 11), some (70, false)⟩, ⟨some 80, .bin .lss (.t 78) (.t 79), some (70, false)⟩, ⟨some 81, .pick (.t 70) (.c (.bool true)) (.t 80), none⟩]) (.kl [14, 68, 69, 70, 71, 72, 73, 74, 75, 76, 77, 78, 79, 80] (.cond (.t 81) (.kl [11, 81] (.reg [⟨some 82, .mov (.t 0), none⟩, ⟨some 83, .nck (.t 82), none⟩, ⟨some 84, .faddr 2 1 (.t 83), none⟩, ⟨some 85, .load false 1 (.t 84), none⟩, ⟨some 86, .mov (.t 16), none⟩, ⟨some 87, .iaddr 1 (.t 85) (.t 86), none⟩, ⟨some 88, .load false 1 (.t 87), none⟩, ⟨some 89, .bin .add (.t 88) (.c (.int .i64 1)), none⟩, ⟨some 11, .mov (.t 89), none⟩])) (.skip)))) (.kl [81, 82, 83, 84, 85, 86, 87, 88, 89] (.reg [⟨some 90, .mov (.t 12), none⟩, ⟨some 91, .mov (.t 0), none⟩, ⟨some 92, .nck (.t 91), none⟩, ⟨some 93, .faddr 3 1 (.t 92), none⟩, ⟨some 94, .load false 1 (.t 93), none⟩, ⟨some 95, .mov (.t 16), none⟩, ⟨some 96, .iaddr 1 (.t 94) (.t 95), none⟩, ⟨some 97, .load false 1 (.t 96), none⟩, ⟨some 98, .bin .add (.t 90) (.t 97), none⟩, ⟨some 12, .mov (.t 98), none⟩])))))))))) (.kl [16, 90, 91, 92, 93, 94, 95, 96, 97, 98] (.reg [⟨some 99, .bin .add (.t 46) (.c (.int .i64 1)), none⟩, ⟨some 46, .mov (.t 99), none⟩]))))))
def lp453_1 : C := lb453_1
def lb453_0 : C := .kl [35] (.seq (.reg [⟨some 27, .bin .lss (.t 26) (.t 25), none⟩]) (.seq (.cond (.t 27) (.skip) (.kl [24, 25, 26, 27] (.exit 0))) (.kl [27] (.seq (.blk 1 (.seq (.reg [⟨some 28, .mov (.t 26), none⟩, ⟨some 29, .iaddr 1 (.t 24) (.t 26), none⟩, ⟨some 30, .load false 1 (.t 29), none⟩, ⟨some 8, .mov (.t 28), none⟩, ⟨some 9, .mov (.t 30), none⟩]) (.kl [28, 29, 30] (.seq (.reg [⟨some 31, .mov (.t 9), none⟩, ⟨some 32, .mov (.t 7), none⟩, ⟨some 33, .bin .eql (.t 31) (.t 32), none⟩]) (.kl [9, 31, 32] (.cond (.t 33) (.kl [0, 1, 2, 7, 24, 25, 26, 33] (.seq (.reg [⟨some 34, .mov (.t 8), none⟩, ⟨some 6, .mov (.t 34), none⟩]) (.kl [8, 34] (.ret)))) (.skip))))))) (.kl [8, 33] (.reg [⟨some 35, .bin .add (.t 26) (.c (.int .i64 1)), none⟩, ⟨some 26, .mov (.t 35), none⟩]))))))
def lp453_0 : C := lb453_0
def fi453 : FI := ⟨.seq (.reg [⟨some 6, .mov (.c (.int .i64 0)), none⟩]) (.kl [6] (.seq (.reg [⟨some 17, .mov (.t 1), none⟩, ⟨some 18, .lit 1 1 [.str []] [(0, 1, .t 17)], none⟩, ⟨some 19, .mov (.t 2), none⟩, ⟨some 20, .call 203 [.t 18, .t 19], none⟩, ⟨some 7, .mov (.t 20), none⟩]) (.kl [17, 18, 19, 20] (.seq (.seq (.reg [⟨some 21, .mov (.t 0), none⟩, ⟨some 22, .nck (.t 21), none⟩, ⟨some 23, .faddr 0 1 (.t 22), none⟩, ⟨some 24, .load false 1 (.t 23), none⟩, ⟨some 25, .lenV (.t 24), none⟩, ⟨some 26, .mov (.c (.int .i64 0)), none⟩]) (.kl [21, 22, 23] (.blk 0 (.loop lp453_0)))) (.seq (.reg [⟨some 10, .mov (.c (.int .i64 0)), none⟩, ⟨some 11, .mov (.c (.int .i64 0)), none⟩, ⟨some 12, .mov (.c (.int .i64 0)), none⟩]) (.seq (.reg [⟨some 36, .mov (.t 1), none⟩, ⟨some 37, .mov (.t 2), none⟩, ⟨some 38, .mov (.t 2), none⟩, ⟨some 39, .un .not (.t 38), none⟩, ⟨some 40, .call 119 [.t 36, .t 37, .t 39], none⟩, ⟨some 13, .mov (.t 40), none⟩]) (.kl [36, 37, 38, 39, 40] (.seq (.seq (.reg [⟨some 41, .mov (.t 13), none⟩, ⟨some 42, .lenV (.t 41), none⟩, ⟨some 43, .bin .eql (.t 42) (.c (.int .i64 0)), none⟩]) (.kl [41, 42] (.cond (.t 43) (.kl [12, 43] (.reg [⟨some 12, .mov (.c (.int .i64 1)), none⟩])) (.skip)))) (.kl [43] (.seq (.seq (.reg [⟨some 44, .mov (.t 13), none⟩, ⟨some 45, .lenV (.t 44), none⟩, ⟨some 46, .mov (.c (.int .i64 0)), none⟩]) (.kl [13] (.blk 2 (.loop lp453_1)))) (.seq (.reg [⟨some 100, .mov (.t 0), none⟩, ⟨some 101, .mov (.t 0), none⟩, ⟨some 102, .nck (.t 101), none⟩, ⟨some 103, .faddr 0 1 (.t 102), none⟩, ⟨some 104, .load false 1 (.t 103), none⟩, ⟨some 105, .mov (.t 7), none⟩, ⟨some 106, .lit 1 1 [.str []] [(0, 1, .t 105)], none⟩, ⟨some 107, .app 1 (.t 104) (.t 106), none⟩, ⟨some 108, .nck (.t 100), none⟩, ⟨some 109, .faddr 0 1 (.t 108), none⟩, ⟨none, .store 1 (.t 109) (.t 107), none⟩]) (.kl [7, 100, 101, 102, 103, 104, 105, 106, 107, 108, 109] (.seq (.reg [⟨some 110, .mov (.t 0), none⟩, ⟨some 111, .mov (.t 0), none⟩, ⟨some 112, .nck (.t 111), none⟩, ⟨some 113, .faddr 1 1 (.t 112), none⟩, ⟨some 114, .load false 1 (.t 113), none⟩, ⟨some 115, .mov (.t 10), none⟩, ⟨some 116, .lit 1 1 [.int .i64 0] [(0, 1, .t 115)], none⟩, ⟨some 117, .app 1 (.t 114) (.t 116), none⟩, ⟨some 118, .nck (.t 110), none⟩, ⟨some 119, .faddr 1 1 (.t 118), none⟩, ⟨none, .store 1 (.t 119) (.t 117), none⟩]) (.kl [10, 110, 111, 112, 113, 114, 115, 116, 117, 118, 119] (.seq (.reg [⟨some 120, .mov (.t 0), none⟩, ⟨some 121, .mov (.t 0), none⟩, ⟨some 122, .nck (.t 121), none⟩, ⟨some 123, .faddr 2 1 (.t 122), none⟩, ⟨some 124, .load false 1 (.t 123), none⟩, ⟨some 125, .mov (.t 11), none⟩, ⟨some 126, .lit 1 1 [.int .i64 0] [(0, 1, .t 125)], none⟩, ⟨some 127, .app 1 (.t 124) (.t 126), none⟩, ⟨some 128, .nck (.t 120), none⟩, ⟨some 129, .faddr 2 1 (.t 128), none⟩, ⟨none, .store 1 (.t 129) (.t 127), none⟩]) (.kl [11, 120, 121, 122, 123, 124, 125, 126, 127, 128, 129] (.seq (.reg [⟨some 130, .mov (.t 0), none⟩, ⟨some 131, .mov (.t 0), none⟩, ⟨some 132, .nck (.t 131), none⟩, ⟨some 133, .faddr 3 1 (.t 132), none⟩, ⟨some 134, .load false 1 (.t 133), none⟩, ⟨some 135, .mov (.t 12), none⟩, ⟨some 136, .lit 1 1 [.int .i64 0] [(0, 1, .t 135)], none⟩, ⟨some 137, .app 1 (.t 134) (.t 136), none⟩, ⟨some 138, .nck (.t 130), none⟩, ⟨some 139, .faddr 3 1 (.t 138), none⟩, ⟨none, .store 1 (.t 139) (.t 137), none⟩]) (.kl [12, 130, 131, 132, 133, 134, 135, 136, 137, 138, 139] (.seq (.reg [⟨some 140, .mov (.t 0), none⟩, ⟨some 141, .nck (.t 140), none⟩, ⟨some 142, .faddr 0 1 (.t 141), none⟩, ⟨some 143, .load false 1 (.t 142), none⟩, ⟨some 144, .lenV (.t 143), none⟩, ⟨some 145, .bin .sub (.t 144) (.c (.int .i64 1)), none⟩, ⟨some 6, .mov (.t 145), none⟩]) (.kl [0, 140, 141, 142, 143, 144, 145] (.ret))))))))))))))))))))), [.tmp 6]⟩
/-- impl.OutcomeOfSum -/
def fi241 : FI := ⟨.seq (.reg [⟨some 2, .mov (.c (.str [])), none⟩, ⟨some 3, .mov (.c (.bool false)), none⟩]) (.kl [2, 3] (.seq (.reg [⟨some 7, .mov (.t 0), none⟩, ⟨some 8, .call 249 [.t 7], none⟩, ⟨some 6, .mov (.t 8), none⟩, ⟨some 9, .prj 0 (.t 6), none⟩, ⟨some 10, .prj 1 (.t 6), none⟩, ⟨some 4, .mov (.t 9), none⟩, ⟨some 5, .mov (.t 10), none⟩]) (.kl [0, 6, 7, 8, 9, 10] (.seq (.seq (.reg [⟨some 11, .mov (.t 5), none⟩, ⟨some 12, .un .not (.t 11), none⟩]) (.kl [5, 11] (.cond (.t 12) (.kl [4, 12] (.seq (.reg [⟨some 2, .mov (.c (.str [])), none⟩, ⟨some 3, .mov (.c (.bool false)), none⟩]) (.ret))) (.skip)))) (.kl [12] (.seq (.reg [⟨some 13, .call 192 [], none⟩, ⟨some 14, .mov (.t 4), none⟩, ⟨some 15, .call 193 [.t 13, .t 14], none⟩, ⟨some 2, .mov (.t 15), none⟩, ⟨some 3, .mov (.c (.bool true)), none⟩]) (.kl [4, 13, 14, 15] (.ret)))))))), [.tmp 2, .tmp 3]⟩
/-- impl.movesIn -/
def fi59 : FI := ⟨.seq (.reg [⟨some 4, .mov (.c (.nilS)), none⟩, ⟨some 5, .mov (.c (.bool false)), none⟩]) (.kl [4, 5] (.seq (.seq (.reg [⟨some 6, .mov (.t 0), none⟩, ⟨some 7, .call 106 [.t 6], none⟩, ⟨some 8, .un .not (.t 7), none⟩]) (.kl [6, 7] (.cond (.t 8) (.kl [0, 1, 8] (.seq (.reg [⟨some 4, .mov (.c (.nilS)), none⟩, ⟨some 5, .mov (.c (.bool false)), none⟩]) (.ret))) (.skip)))) (.kl [8] (.seq (.reg [⟨some 9, .mov (.t 0), none⟩, ⟨some 10, .mov (.t 1), none⟩, ⟨some 11, .call 105 [.t 9, .t 10], none⟩, ⟨some 4, .mov (.t 11), none⟩, ⟨some 5, .mov (.c (.bool true)), none⟩]) (.kl [0, 1, 9, 10, 11] (.ret)))))), [.tmp 4, .tmp 5]⟩
-- lp80_0 HEAD [3, 10, 11, 12] | exit 0: [3]
/-- impl.turned -/
def lb80_0 : C := .kl [22] (.seq (.reg [⟨some 13, .bin .lss (.t 12) (.t 11), none⟩]) (.seq (.cond (.t 13) (.skip) (.kl [10, 11, 12, 13] (.exit 0))) (.kl [13] (.seq (.blk 1 (.seq (.reg [⟨some 14, .mov (.t 12), none⟩, ⟨some 15, .iaddr 1 (.t 10) (.t 12), none⟩, ⟨some 16, .load false 1 (.t 15), none⟩, ⟨some 4, .mov (.t 14), none⟩, ⟨some 5, .mov (.t 16), none⟩]) (.kl [14, 15, 16] (.reg [⟨some 17, .mov (.t 3), none⟩, ⟨some 18, .mov (.t 4), none⟩, ⟨some 19, .mov (.t 5), none⟩, ⟨some 20, .call 109 [.t 19], none⟩, ⟨some 21, .iaddr 1 (.t 17) (.t 18), none⟩, ⟨none, .store 1 (.t 21) (.t 20), none⟩])))) (.kl [4, 5, 17, 18, 19, 20, 21] (.reg [⟨some 22, .bin .add (.t 12) (.c (.int .i64 1)), none⟩, ⟨some 12, .mov (.t 22), none⟩]))))))
def lp80_0 : C := lb80_0
def fi80 : FI := ⟨.seq (.reg [⟨some 2, .mov (.c (.str [])), none⟩]) (.kl [2] (.seq (.reg [⟨some 6, .mov (.t 0), none⟩, ⟨some 7, .toB (.t 6), none⟩, ⟨some 3, .mov (.t 7), none⟩]) (.kl [0, 6, 7] (.seq (.reg [⟨some 8, .mov (.t 3), none⟩, ⟨some 9, .call 110 [.t 8], none⟩]) (.kl [8, 9] (.seq (.seq (.reg [⟨some 10, .mov (.t 3), none⟩, ⟨some 11, .lenV (.t 10), none⟩, ⟨some 12, .mov (.c (.int .i64 0)), none⟩]) (.blk 0 (.loop lp80_0))) (.seq (.reg [⟨some 23, .mov (.t 3), none⟩, ⟨some 24, .ofB (.t 23), none⟩, ⟨some 2, .mov (.t 24), none⟩]) (.kl [3, 23, 24] (.ret))))))))), [.tmp 2]⟩
/-- (*spec.l1Cur).played -/
def fi454 : FI := ⟨.seq (.reg [⟨some 2, .mov (.c (.str [])), none⟩]) (.kl [2] (.seq (.seq (.reg [⟨some 3, .mov (.t 0), none⟩, ⟨some 4, .call 63 [.t 3, .c (.int .i64 16)], none⟩]) (.kl [3] (.blk 0 (.seq (.reg [⟨some 6, .bin .eql (.t 4) (.c (.int .i64 0)), none⟩, ⟨some 5, .mov (.t 6), none⟩]) (.kl [6] (.cond (.t 5) (.kl [4, 5] (.seq (.reg [⟨some 7, .mov (.t 0), none⟩, ⟨some 8, .lit 1 5 [.str [], .str [], .str [], .str [], .str []] [(0, 1, .c (.str [])), (1, 1, .c (.str [120])), (2, 1, .c (.str [84, 84, 84, 46, 46, 46, 46, 70, 70, 70])), (3, 1, .c (.str [84, 84, 46, 84, 46, 70, 46, 70, 46, 70, 70])), (4, 1, .c (.str [46]))], none⟩, ⟨some 9, .call 71 [.t 7, .t 8], none⟩, ⟨some 2, .mov (.t 9), none⟩]) (.kl [0, 7, 8, 9] (.ret)))) (.kl [5] (.seq (.seq (.reg [⟨some 11, .bin .eql (.t 4) (.c (.int .i64 1)), none⟩, ⟨some 10, .mov (.t 11), none⟩]) (.kl [11] (.cond (.t 10) (.skip) (.kl [10] (.seq (.reg [⟨some 12, .bin .eql (.t 4) (.c (.int .i64 2)), none⟩, ⟨some 10, .mov (.t 12), none⟩]) (.kl [12] (.cond (.t 10) (.skip) (.kl [10] (.reg [⟨some 13, .bin .eql (.t 4) (.c (.int .i64 3)), none⟩, ⟨some 10, .mov (.t 13), none⟩]))))))))) (.kl [4, 13] (.cond (.t 10) (.kl [10] (.seq (.reg [⟨some 14, .mov (.t 0), none⟩, ⟨some 15, .call 63 [.t 14, .c (.int .i64 3)], none⟩, ⟨some 16, .bin .add (.c (.int .i64 1)) (.t 15), none⟩, ⟨some 17, .mov (.t 0), none⟩, ⟨some 18, .call 63 [.t 17, .c (.int .i64 2)], none⟩, ⟨some 19, .bin .add (.c (.int .i64 1)) (.t 18), none⟩, ⟨some 20, .mov (.t 0), none⟩, ⟨some 21, .call 63 [.t 20, .c (.int .i64 3)], none⟩, ⟨some 22, .bin .add (.c (.int .i64 1)) (.t 21), none⟩, ⟨some 23, .call 100 [.t 16, .t 19, .t 22], none⟩, ⟨some 2, .mov (.t 23), none⟩]) (.kl [0, 14, 15, 16, 17, 18, 19, 20, 21, 22, 23] (.ret)))) (.skip))))))))))) (.kl [10] (.seq (.reg [⟨some 24, .mov (.t 0), none⟩, ⟨some 25, .call 99 [.t 24, .c (.int .i64 8)], none⟩, ⟨some 2, .mov (.t 25), none⟩]) (.kl [0, 24, 25] (.ret)))))), [.tmp 2]⟩
/-- (*spec.l1Cur).one -/
def fi64 : FI := ⟨.seq (.reg [⟨some 4, .mov (.c (.bool false)), none⟩]) (.kl [4] (.seq (.reg [⟨some 5, .mov (.t 0), none⟩, ⟨some 6, .mov (.t 1), none⟩, ⟨some 7, .call 63 [.t 5, .t 6], none⟩, ⟨some 8, .bin .eql (.t 7) (.c (.int .i64 0)), none⟩, ⟨some 4, .mov (.t 8), none⟩]) (.kl [0, 1, 5, 6, 7, 8] (.ret)))), [.tmp 4]⟩
/-- impl.isLineOf -/
def fi82 : FI := ⟨.seq (.reg [⟨some 4, .mov (.c (.bool false)), none⟩]) (.kl [4] (.seq (.reg [⟨some 5, .mov (.t 0), none⟩, ⟨some 6, .lenS (.t 5), none⟩, ⟨some 7, .mov (.t 1), none⟩, ⟨some 8, .call 74 [.t 6, .c (.int .i64 1), .t 7], none⟩, ⟨some 9, .mov (.t 8), none⟩, ⟨some 10, .mov (.t 0), some (9, true)⟩, ⟨some 11, .call 111 [.t 10, .c (.str [46, 70, 84])], some (9, true)⟩, ⟨some 12, .bin .eql (.t 11) (.c (.str [])), some (9, true)⟩, ⟨some 13, .pick (.t 9) (.t 12) (.c (.bool false)), none⟩, ⟨some 4, .mov (.t 13), none⟩]) (.kl [0, 1, 5, 6, 7, 8, 9, 10, 11, 12, 13] (.ret)))), [.tmp 4]⟩
-- lp124_0 HEAD [0, 1, 5] | exit 0: [5]
/-- spec.liTimes -/
def lb124_0 : C := .kl [8, 9] (.seq (.seq (.reg [⟨some 6, .mov (.t 1), none⟩, ⟨some 7, .bin .gtr (.t 6) (.c (.int .i64 0)), none⟩]) (.kl [6] (.cond (.t 7) (.skip) (.kl [0, 1, 7] (.exit 0))))) (.kl [7] (.seq (.blk 1 (.reg [⟨some 10, .mov (.t 5), none⟩, ⟨some 11, .mov (.t 0), none⟩, ⟨some 12, .bin .add (.t 10) (.t 11), none⟩, ⟨some 5, .mov (.t 12), none⟩])) (.kl [10, 11, 12] (.reg [⟨some 8, .mov (.t 1), none⟩, ⟨some 9, .bin .sub (.t 8) (.c (.int .i64 1)), none⟩, ⟨some 1, .mov (.t 9), none⟩])))))
def lp124_0 : C := lb124_0
def fi124 : FI := ⟨.seq (.reg [⟨some 4, .mov (.c (.str [])), none⟩]) (.kl [4] (.seq (.reg [⟨some 5, .mov (.c (.str [])), none⟩]) (.seq (.blk 0 (.loop lp124_0)) (.seq (.reg [⟨some 13, .mov (.t 5), none⟩, ⟨some 4, .mov (.t 13), none⟩]) (.kl [5, 13] (.ret)))))), [.tmp 4]⟩
/-- (*spec.l1Cur).next -/
def fi107 : FI := ⟨.seq (.reg [⟨some 2, .mov (.c (.int .i64 0)), none⟩]) (.kl [2] (.seq (.reg [⟨some 3, .mov (.c (.int .i64 0)), none⟩]) (.seq (.seq (.drw [⟨some 4, .mov (.t 0), none⟩, ⟨some 5, .nck (.t 4), none⟩, ⟨some 6, .faddr 1 1 (.t 5), none⟩, ⟨some 7, .load false 1 (.t 6), none⟩, ⟨some 8, .mov (.t 0), none⟩, ⟨some 9, .nck (.t 8), none⟩, ⟨some 10, .faddr 0 1 (.t 9), none⟩, ⟨some 11, .load false 1 (.t 10), none⟩, ⟨some 12, .lenV (.t 11), none⟩, ⟨some 13, .bin .lss (.t 7) (.t 12), none⟩] []) (.kl [4, 5, 6, 7, 8, 9, 10, 11, 12] (.cond (.t 13) (.kl [3, 13] (.drw [⟨some 14, .mov (.t 0), none⟩, ⟨some 15, .nck (.t 14), none⟩, ⟨some 16, .faddr 0 1 (.t 15), none⟩, ⟨some 17, .load false 1 (.t 16), none⟩, ⟨some 18, .mov (.t 0), none⟩, ⟨some 19, .nck (.t 18), none⟩, ⟨some 20, .faddr 1 1 (.t 19), none⟩, ⟨some 21, .load false 1 (.t 20), none⟩, ⟨some 22, .iaddr 1 (.t 17) (.t 21), none⟩, ⟨some 23, .load false 1 (.t 22), none⟩, ⟨some 24, .conv .i64 (.t 23), none⟩, ⟨some 3, .mov (.t 24), none⟩] [])) (.skip)))) (.kl [13, 14, 15, 16, 17, 18, 19, 20, 21, 22, 23, 24] (.seq (.reg [⟨some 25, .mov (.t 0), none⟩, ⟨some 26, .nck (.t 25), none⟩, ⟨some 27, .faddr 1 1 (.t 26), none⟩, ⟨some 28, .load false 1 (.t 27), none⟩, ⟨some 29, .bin .add (.t 28) (.c (.int .i64 1)), none⟩, ⟨some 30, .nck (.t 25), none⟩, ⟨some 31, .faddr 1 1 (.t 30), none⟩, ⟨none, .store 1 (.t 31) (.t 29), none⟩]) (.kl [25, 26, 27, 28, 29, 30, 31] (.seq (.reg [⟨some 32, .mov (.t 0), none⟩, ⟨some 33, .mov (.t 0), none⟩, ⟨some 34, .nck (.t 33), none⟩, ⟨some 35, .faddr 2 1 (.t 34), none⟩, ⟨some 36, .load false 1 (.t 35), none⟩, ⟨some 37, .bin .mul (.t 36) (.c (.int .u64 6364136223846793005)), none⟩, ⟨some 38, .mov (.t 3), none⟩, ⟨some 39, .conv .u64 (.t 38), none⟩, ⟨some 40, .bin .add (.t 37) (.t 39), none⟩, ⟨some 41, .bin .add (.t 40) (.c (.int .u64 1442695040888963407)), none⟩, ⟨some 42, .nck (.t 32), none⟩, ⟨some 43, .faddr 2 1 (.t 42), none⟩, ⟨none, .store 1 (.t 43) (.t 41), none⟩]) (.kl [32, 33, 34, 35, 36, 37, 38, 39, 40, 41, 42, 43] (.seq (.seq (.drw [⟨some 44, .mov (.t 0), none⟩, ⟨some 45, .nck (.t 44), none⟩, ⟨some 46, .faddr 1 1 (.t 45), none⟩, ⟨some 47, .load false 1 (.t 46), none⟩, ⟨some 48, .mov (.t 0), none⟩, ⟨some 49, .nck (.t 48), none⟩, ⟨some 50, .faddr 0 1 (.t 49), none⟩, ⟨some 51, .load false 1 (.t 50), none⟩, ⟨some 52, .lenV (.t 51), none⟩, ⟨some 53, .bin .leq (.t 47) (.t 52), none⟩] []) (.kl [44, 45, 46, 47, 48, 49, 50, 51, 52] (.cond (.t 53) (.kl [0, 53] (.seq (.reg [⟨some 54, .mov (.t 3), none⟩, ⟨some 2, .mov (.t 54), none⟩]) (.kl [3, 54] (.ret)))) (.skip)))) (.kl [3, 53] (.seq (.reg [⟨some 55, .mov (.t 0), none⟩, ⟨some 56, .nck (.t 55), none⟩, ⟨some 57, .faddr 2 1 (.t 56), none⟩, ⟨some 58, .load false 1 (.t 57), none⟩, ⟨some 59, .bin .shr (.t 58) (.c (.int .u64 40)), none⟩, ⟨some 60, .bin .and (.t 59) (.c (.int .u64 255)), none⟩, ⟨some 61, .conv .i64 (.t 60), none⟩, ⟨some 2, .mov (.t 61), none⟩]) (.kl [0, 55, 56, 57, 58, 59, 60, 61] (.ret))))))))))))), [.tmp 2]⟩
/-- (*spec.l1Cur).of -/
def fi71 : FI := ⟨.seq (.reg [⟨some 4, .mov (.c (.str [])), none⟩]) (.kl [4] (.seq (.reg [⟨some 5, .mov (.t 1), none⟩, ⟨some 6, .mov (.t 0), none⟩, ⟨some 7, .mov (.t 1), none⟩, ⟨some 8, .lenV (.t 7), none⟩, ⟨some 9, .call 63 [.t 6, .t 8], none⟩, ⟨some 10, .iaddr 1 (.t 5) (.t 9), none⟩, ⟨some 11, .load false 1 (.t 10), none⟩, ⟨some 4, .mov (.t 11), none⟩]) (.kl [0, 1, 5, 6, 7, 8, 9, 10, 11] (.ret)))), [.tmp 4]⟩
-- lp99_0 HEAD [0, 5, 6] | exit 0: [0, 5]
/-- (*spec.l1Cur).sureLine -/
def lb99_0 : C := .kl [13, 14] (.seq (.seq (.reg [⟨some 11, .mov (.t 6), none⟩, ⟨some 12, .bin .gtr (.t 11) (.c (.int .i64 0)), none⟩]) (.kl [11] (.cond (.t 12) (.skip) (.kl [6, 12] (.exit 0))))) (.kl [12] (.seq (.blk 1 (.reg [⟨some 15, .mov (.t 5), none⟩, ⟨some 16, .mov (.t 0), none⟩, ⟨some 17, .lit 1 5 [.str [], .str [], .str [], .str [], .str []] [(0, 1, .c (.str [84])), (1, 1, .c (.str [70])), (2, 1, .c (.str [46])), (3, 1, .c (.str [84])), (4, 1, .c (.str [70]))], none⟩, ⟨some 18, .call 71 [.t 16, .t 17], none⟩, ⟨some 19, .bin .add (.t 15) (.t 18), none⟩, ⟨some 5, .mov (.t 19), none⟩])) (.kl [15, 16, 17, 18, 19] (.reg [⟨some 13, .mov (.t 6), none⟩, ⟨some 14, .bin .sub (.t 13) (.c (.int .i64 1)), none⟩, ⟨some 6, .mov (.t 14), none⟩])))))
def lp99_0 : C := lb99_0
def fi99 : FI := ⟨.seq (.reg [⟨some 4, .mov (.c (.str [])), none⟩]) (.kl [4] (.seq (.reg [⟨some 5, .mov (.c (.str [])), none⟩]) (.seq (.seq (.reg [⟨some 7, .mov (.t 0), none⟩, ⟨some 8, .mov (.t 1), none⟩, ⟨some 9, .call 63 [.t 7, .t 8], none⟩, ⟨some 10, .bin .add (.c (.int .i64 1)) (.t 9), none⟩, ⟨some 6, .mov (.t 10), none⟩]) (.kl [1, 7, 8, 9, 10] (.blk 0 (.loop lp99_0)))) (.seq (.seq (.reg [⟨some 20, .mov (.t 5), none⟩, ⟨some 21, .call 116 [.t 20, .c (.int .u8 46)], none⟩, ⟨some 22, .bin .eql (.t 21) (.c (.int .i64 0)), none⟩, ⟨some 23, .mov (.t 22), none⟩, ⟨some 24, .mov (.t 0), some (23, true)⟩, ⟨some 25, .call 64 [.t 24, .c (.int .i64 8)], some (23, true)⟩, ⟨some 26, .un .not (.t 25), some (23, true)⟩, ⟨some 27, .pick (.t 23) (.t 26) (.c (.bool false)), none⟩]) (.kl [20, 21, 22, 23, 24, 25, 26] (.cond (.t 27) (.kl [27] (.seq (.reg [⟨some 28, .mov (.t 5), none⟩, ⟨some 29, .mov (.t 0), none⟩, ⟨some 30, .mov (.t 5), none⟩, ⟨some 31, .lenS (.t 30), none⟩, ⟨some 32, .call 63 [.t 29, .t 31], none⟩, ⟨some 33, .call 108 [.t 28, .t 32, .c (.str [46])], none⟩, ⟨some 4, .mov (.t 33), none⟩]) (.kl [0, 5, 28, 29, 30, 31, 32, 33] (.ret)))) (.skip)))) (.kl [0, 27] (.seq (.reg [⟨some 34, .mov (.t 5), none⟩, ⟨some 4, .mov (.t 34), none⟩]) (.kl [5, 34] (.ret)))))))), [.tmp 4]⟩
-- lp119_0 HEAD [0, 1, 2, 7, 12] | exit 0: [7] | exit 1: [0, 1, 2, 7, 12] | exit 2: [0, 1, 2, 7, 12]
-- lp119_1 HEAD [0, 1, 2, 7, 8, 9, 12] | exit 2: [0, 1, 2, 7, 12]
/-- spec.liMoves -/
def lb119_1 : C := .kl [40, 41] (.seq (.seq (.reg [⟨some 36, .mov (.t 9), none⟩, ⟨some 37, .mov (.t 8), none⟩, ⟨some 38, .bin .add (.t 37) (.c (.int .i64 2)), none⟩, ⟨some 39, .bin .leq (.t 36) (.t 38), none⟩]) (.kl [36, 37, 38] (.cond (.t 39) (.skip) (.kl [8, 9, 39] (.exit 2))))) (.kl [39] (.seq (.blk 3 (.seq (.reg [⟨some 42, .mov (.t 8), none⟩, ⟨some 43, .mov (.t 9), none⟩, ⟨some 44, .build [.int .i64 0, .int .i64 0] [(0, 1, .t 42), (1, 1, .t 43)], none⟩, ⟨some 10, .new [.int .i64 0, .int .i64 0], none⟩, ⟨none, .store 2 (.t 10) (.t 44), none⟩]) (.kl [42, 43, 44] (.seq (.reg [⟨some 45, .mov (.t 0), none⟩, ⟨some 46, .load true 2 (.t 10), none⟩, ⟨some 47, .call 130 [.t 45, .t 46], none⟩]) (.kl [45, 46] (.cond (.t 47) (.kl [47] (.reg [⟨some 48, .mov (.t 7), none⟩, ⟨some 49, .load true 2 (.t 10), none⟩, ⟨some 50, .lit 2 1 [.int .i64 0, .int .i64 0] [(0, 2, .t 49)], none⟩, ⟨some 51, .app 2 (.t 48) (.t 50), none⟩, ⟨some 7, .mov (.t 51), none⟩])) (.skip))))))) (.kl [10, 47, 48, 49, 50, 51] (.reg [⟨some 40, .mov (.t 9), none⟩, ⟨some 41, .bin .add (.t 40) (.c (.int .i64 1)), none⟩, ⟨some 9, .mov (.t 41), none⟩])))))
def lp119_1 : C := lb119_1
def lb119_0 : C := .kl [] (.seq (.reg [⟨some 13, .nxt (.t 12), none⟩, ⟨some 14, .prj 0 (.t 13), none⟩]) (.seq (.cond (.t 14) (.skip) (.kl [0, 1, 2, 12, 13, 14] (.exit 0))) (.kl [14] (.blk 1 (.seq (.reg [⟨some 15, .prj 1 (.t 13), none⟩, ⟨some 8, .mov (.t 15), none⟩]) (.kl [13, 15] (.seq (.seq (.reg [⟨some 16, .mov (.t 0), none⟩, ⟨some 17, .mov (.t 8), none⟩, ⟨some 18, .idxS (.t 16) (.t 17), none⟩, ⟨some 19, .bin .eql (.t 18) (.c (.int .u8 84)), none⟩, ⟨some 20, .mov (.t 19), none⟩, ⟨some 21, .mov (.t 1), some (20, true)⟩, ⟨some 22, .un .not (.t 21), some (20, true)⟩, ⟨some 23, .pick (.t 20) (.t 22) (.c (.bool false)), none⟩, ⟨some 24, .mov (.t 23), none⟩, ⟨some 25, .mov (.t 0), some (24, false)⟩, ⟨some 26, .mov (.t 8), some (24, false)⟩, ⟨some 27, .idxS (.t 25) (.t 26), some (24, false)⟩, ⟨some 28, .bin .eql (.t 27) (.c (.int .u8 70)), some (24, false)⟩, ⟨some 29, .mov (.t 28), some (24, false)⟩, ⟨some 30, .mov (.t 2), some (29, true)⟩, ⟨some 31, .un .not (.t 30), some (29, true)⟩, ⟨some 32, .pick (.t 29) (.t 31) (.c (.bool false)), some (24, false)⟩, ⟨some 33, .pick (.t 24) (.c (.bool true)) (.t 32), none⟩]) (.kl [16, 17, 18, 19, 20, 21, 22, 23, 24, 25, 26, 27, 28, 29, 30, 31, 32] (.cond (.t 33) (.kl [8, 33] (.exit 1)) (.skip)))) (.kl [33] (.seq (.reg [⟨some 34, .mov (.t 8), none⟩, ⟨some 35, .bin .sub (.t 34) (.c (.int .i64 2)), none⟩, ⟨some 9, .mov (.t 35), none⟩]) (.kl [34, 35] (.blk 2 (.loop lp119_1))))))))))))
def lp119_0 : C := lb119_0
def fi119 : FI := ⟨.seq (.reg [⟨some 6, .mov (.c (.nilS)), none⟩]) (.kl [6] (.seq (.reg [⟨some 7, .mov (.c (.nilS)), none⟩]) (.seq (.seq (.reg [⟨some 11, .mov (.t 0), none⟩, ⟨some 12, .rng (.t 11), none⟩]) (.kl [11] (.blk 0 (.loop lp119_0)))) (.seq (.reg [⟨some 52, .mov (.t 7), none⟩, ⟨some 6, .mov (.t 52), none⟩]) (.kl [7, 52] (.ret)))))), [.tmp 6]⟩
/-- impl.goal -/
def fi127 : FI := ⟨.seq (.reg [⟨some 4, .mov (.c (.int .i64 0)), none⟩, ⟨some 5, .mov (.c (.bool false)), none⟩]) (.kl [4, 5] (.seq (.reg [⟨some 7, .mov (.t 0), none⟩, ⟨some 8, .mov (.t 1), none⟩, ⟨some 9, .idxS (.t 7) (.t 8), none⟩, ⟨some 10, .call 103 [.t 9], none⟩, ⟨some 6, .mov (.t 10), none⟩]) (.kl [7, 8, 9, 10] (.seq (.blk 0 (.seq (.reg [⟨some 12, .mov (.t 6), none⟩, ⟨some 13, .bin .eql (.t 12) (.c (.int .i64 0)), none⟩, ⟨some 11, .mov (.t 13), none⟩]) (.kl [12, 13] (.cond (.t 11) (.skip) (.kl [11] (.seq (.reg [⟨some 15, .mov (.t 0), none⟩, ⟨some 16, .mov (.t 1), none⟩, ⟨some 17, .mov (.t 6), none⟩, ⟨some 18, .bin .add (.t 16) (.t 17), none⟩, ⟨some 19, .call 125 [.t 15, .t 18], none⟩, ⟨some 20, .bin .eql (.t 19) (.c (.int .u8 46)), none⟩, ⟨some 14, .mov (.t 20), none⟩]) (.kl [15, 16, 17, 18, 19, 20] (.cond (.t 14) (.kl [0, 14] (.seq (.reg [⟨some 21, .mov (.t 1), none⟩, ⟨some 22, .mov (.t 6), none⟩, ⟨some 23, .bin .add (.t 21) (.t 22), none⟩, ⟨some 4, .mov (.t 23), none⟩, ⟨some 5, .mov (.c (.bool true)), none⟩]) (.kl [1, 6, 21, 22, 23] (.ret)))) (.kl [14] (.seq (.drw [⟨some 25, .mov (.t 0), none⟩, ⟨some 26, .mov (.t 1), none⟩, ⟨some 27, .mov (.t 6), none⟩, ⟨some 28, .bin .add (.t 26) (.t 27), none⟩, ⟨some 29, .call 125 [.t 25, .t 28], none⟩, ⟨some 30, .mov (.t 0), none⟩, ⟨some 31, .mov (.t 1), none⟩, ⟨some 32, .idxS (.t 30) (.t 31), none⟩, ⟨some 33, .call 109 [.t 32], none⟩, ⟨some 34, .bin .eql (.t 29) (.t 33), none⟩, ⟨some 35, .mov (.t 34), none⟩, ⟨some 36, .mov (.t 0), some (35, true)⟩, ⟨some 37, .mov (.t 1), some (35, true)⟩, ⟨some 38, .mov (.t 6), some (35, true)⟩, ⟨some 39, .bin .mul (.c (.int .i64 2)) (.t 38), some (35, true)⟩, ⟨some 40, .bin .add (.t 37) (.t 39), some (35, true)⟩, ⟨some 41, .call 125 [.t 36, .t 40], some (35, true)⟩, ⟨some 42, .bin .eql (.t 41) (.c (.int .u8 46)), some (35, true)⟩, ⟨some 43, .pick (.t 35) (.t 42) (.c (.bool false)), none⟩, ⟨some 24, .mov (.t 43), none⟩] []) (.kl [0, 25, 26, 27, 28, 29, 30, 31, 32, 33, 34, 35, 36, 37, 38, 39, 40, 41, 42, 43] (.cond (.t 24) (.kl [24] (.seq (.reg [⟨some 44, .mov (.t 1), none⟩, ⟨some 45, .mov (.t 6), none⟩, ⟨some 46, .bin .mul (.c (.int .i64 2)) (.t 45), none⟩, ⟨some 47, .bin .add (.t 44) (.t 46), none⟩, ⟨some 4, .mov (.t 47), none⟩, ⟨some 5, .mov (.c (.bool true)), none⟩]) (.kl [1, 6, 44, 45, 46, 47] (.ret)))) (.skip))))))))))))) (.kl [0, 1, 6, 11, 24] (.seq (.reg [⟨some 4, .mov (.c (.int .i64 0)), none⟩, ⟨some 5, .mov (.c (.bool false)), none⟩]) (.ret))))))), [.tmp 4, .tmp 5]⟩
/-- spec.liCan -/
def fi130 : FI := ⟨.seq (.reg [⟨some 3, .box (.t 1), none⟩, ⟨some 4, .mov (.c (.bool false)), none⟩]) (.kl [1, 4] (.seq (.seq (.reg [⟨some 7, .faddr 0 1 (.t 3), none⟩, ⟨some 8, .load false 1 (.t 7), none⟩, ⟨some 9, .mov (.t 0), none⟩, ⟨some 10, .lenS (.t 9), none⟩, ⟨some 11, .bin .sub (.t 10) (.c (.int .i64 1)), none⟩, ⟨some 12, .call 77 [.t 8, .c (.int .i64 0), .t 11], none⟩, ⟨some 13, .un .not (.t 12), none⟩, ⟨some 14, .mov (.t 13), none⟩, ⟨some 15, .faddr 1 1 (.t 3), some (14, false)⟩, ⟨some 16, .load false 1 (.t 15), some (14, false)⟩, ⟨some 17, .mov (.t 0), some (14, false)⟩, ⟨some 18, .lenS (.t 17), some (14, false)⟩, ⟨some 19, .bin .sub (.t 18) (.c (.int .i64 1)), some (14, false)⟩, ⟨some 20, .call 77 [.t 16, .c (.int .i64 0), .t 19], some (14, false)⟩, ⟨some 21, .un .not (.t 20), some (14, false)⟩, ⟨some 22, .pick (.t 14) (.c (.bool true)) (.t 21), none⟩, ⟨some 23, .mov (.t 22), none⟩, ⟨some 24, .mov (.t 0), some (23, false)⟩, ⟨some 25, .faddr 1 1 (.t 3), some (23, false)⟩, ⟨some 26, .load false 1 (.t 25), some (23, false)⟩, ⟨some 27, .idxS (.t 24) (.t 26), some (23, false)⟩, ⟨some 28, .bin .neq (.t 27) (.c (.int .u8 46)), some (23, false)⟩, ⟨some 29, .pick (.t 23) (.c (.bool true)) (.t 28), none⟩]) (.kl [7, 8, 9, 10, 11, 12, 13, 14, 15, 16, 17, 18, 19, 20, 21, 22, 23, 24, 25, 26, 27, 28] (.cond (.t 29) (.kl [0, 3, 29] (.seq (.reg [⟨some 4, .mov (.c (.bool false)), none⟩]) (.ret))) (.skip)))) (.kl [29] (.seq (.reg [⟨some 5, .mov (.c (.int .i64 1)), none⟩, ⟨some 6, .mov (.c (.int .u8 70)), none⟩]) (.seq (.seq (.reg [⟨some 30, .mov (.t 0), none⟩, ⟨some 31, .faddr 0 1 (.t 3), none⟩, ⟨some 32, .load false 1 (.t 31), none⟩, ⟨some 33, .idxS (.t 30) (.t 32), none⟩]) (.kl [30, 31, 32] (.blk 0 (.seq (.reg [⟨some 35, .bin .eql (.t 33) (.c (.int .u8 84)), none⟩, ⟨some 34, .mov (.t 35), none⟩]) (.kl [35] (.cond (.t 34) (.skip) (.kl [5, 6, 34] (.seq (.reg [⟨some 37, .bin .eql (.t 33) (.c (.int .u8 70)), none⟩, ⟨some 36, .mov (.t 37), none⟩]) (.kl [33, 37] (.cond (.t 36) (.kl [36] (.seq (.reg [⟨some 5, .mov (.c (.int .i64 (-1))), none⟩]) (.reg [⟨some 6, .mov (.c (.int .u8 84)), none⟩]))) (.kl [0, 3, 36] (.seq (.reg [⟨some 4, .mov (.c (.bool false)), none⟩]) (.ret))))))))))))) (.kl [33, 34] (.seq (.reg [⟨some 38, .faddr 1 1 (.t 3), none⟩, ⟨some 39, .load false 1 (.t 38), none⟩, ⟨some 40, .faddr 0 1 (.t 3), none⟩, ⟨some 41, .load false 1 (.t 40), none⟩, ⟨some 42, .mov (.t 5), none⟩, ⟨some 43, .bin .add (.t 41) (.t 42), none⟩, ⟨some 44, .bin .eql (.t 39) (.t 43), none⟩, ⟨some 45, .mov (.t 44), none⟩, ⟨some 46, .faddr 1 1 (.t 3), some (45, false)⟩, ⟨some 47, .load false 1 (.t 46), some (45, false)⟩, ⟨some 48, .faddr 0 1 (.t 3), some (45, false)⟩, ⟨some 49, .load false 1 (.t 48), some (45, false)⟩, ⟨some 50, .mov (.t 5), some (45, false)⟩, ⟨some 51, .bin .mul (.c (.int .i64 2)) (.t 50), some (45, false)⟩, ⟨some 52, .bin .add (.t 49) (.t 51), some (45, false)⟩, ⟨some 53, .bin .eql (.t 47) (.t 52), some (45, false)⟩, ⟨some 54, .mov (.t 53), some (45, false)⟩, ⟨some 55, .mov (.t 0), some (54, true)⟩, ⟨some 56, .faddr 0 1 (.t 3), some (54, true)⟩, ⟨some 57, .load false 1 (.t 56), some (54, true)⟩, ⟨some 58, .mov (.t 5), some (54, true)⟩, ⟨some 59, .bin .add (.t 57) (.t 58), some (54, true)⟩, ⟨some 60, .idxS (.t 55) (.t 59), some (54, true)⟩, ⟨some 61, .mov (.t 6), some (54, true)⟩, ⟨some 62, .bin .eql (.t 60) (.t 61), some (54, true)⟩, ⟨some 63, .pick (.t 54) (.t 62) (.c (.bool false)), some (45, false)⟩, ⟨some 64, .pick (.t 45) (.c (.bool true)) (.t 63), none⟩, ⟨some 4, .mov (.t 64), none⟩]) (.kl [0, 3, 5, 6, 38, 39, 40, 41, 42, 43, 44, 45, 46, 47, 48, 49, 50, 51, 52, 53, 54, 55, 56, 57, 58, 59, 60, 61, 62, 63, 64] (.ret))))))))), [.tmp 4]⟩
-- lp249_0 HEAD [0, 4, 7, 8, 9] | exit 0: [0, 4] | ret: [2, 3]
/-- impl.sumOf -/
def lb249_0 : C := .kl [20] (.seq (.reg [⟨some 10, .bin .lss (.t 9) (.t 8), none⟩]) (.seq (.cond (.t 10) (.skip) (.kl [7, 8, 9, 10] (.exit 0))) (.kl [10] (.seq (.blk 1 (.seq (.reg [⟨some 11, .iaddr 1 (.t 7) (.t 9), none⟩, ⟨some 12, .load false 1 (.t 11), none⟩, ⟨some 6, .mov (.t 12), none⟩]) (.kl [11, 12] (.seq (.seq (.reg [⟨some 13, .mov (.t 6), none⟩, ⟨some 14, .call 254 [.t 13], none⟩, ⟨some 15, .un .not (.t 14), none⟩]) (.kl [13, 14] (.cond (.t 15) (.kl [0, 4, 6, 7, 8, 9, 15] (.seq (.reg [⟨some 2, .mov (.c (.str [])), none⟩, ⟨some 3, .mov (.c (.bool false)), none⟩]) (.ret))) (.skip)))) (.kl [15] (.reg [⟨some 16, .mov (.t 4), none⟩, ⟨some 17, .mov (.t 6), none⟩, ⟨some 18, .lenS (.t 17), none⟩, ⟨some 19, .bin .add (.t 16) (.t 18), none⟩, ⟨some 4, .mov (.t 19), none⟩])))))) (.kl [6, 16, 17, 18, 19] (.reg [⟨some 20, .bin .add (.t 9) (.c (.int .i64 1)), none⟩, ⟨some 9, .mov (.t 20), none⟩]))))))
def lp249_0 : C := lb249_0
def fi249 : FI := ⟨.seq (.reg [⟨some 2, .mov (.c (.str [])), none⟩, ⟨some 3, .mov (.c (.bool false)), none⟩]) (.kl [2, 3] (.seq (.reg [⟨some 4, .mov (.c (.int .i64 0)), none⟩]) (.seq (.seq (.reg [⟨some 7, .mov (.t 0), none⟩, ⟨some 8, .lenV (.t 7), none⟩, ⟨some 9, .mov (.c (.int .i64 0)), none⟩]) (.blk 0 (.loop lp249_0))) (.seq (.reg [⟨some 21, .mov (.t 0), none⟩, ⟨some 22, .call 255 [.t 21, .c (.str [32])], none⟩, ⟨some 23, .mov (.t 0), none⟩, ⟨some 24, .lenV (.t 23), none⟩, ⟨some 25, .call 74 [.t 24, .c (.int .i64 1), .c (.int .i64 3)], none⟩, ⟨some 26, .mov (.t 25), none⟩, ⟨some 27, .mov (.t 4), some (26, true)⟩, ⟨some 28, .bin .leq (.t 27) (.c (.int .i64 10)), some (26, true)⟩, ⟨some 29, .pick (.t 26) (.t 28) (.c (.bool false)), none⟩, ⟨some 2, .mov (.t 22), none⟩, ⟨some 3, .mov (.t 29), none⟩]) (.kl [0, 4, 21, 22, 23, 24, 25, 26, 27, 28, 29] (.ret)))))), [.tmp 2, .tmp 3]⟩
/-- (impl.games).win -/
def fi198 : FI := ⟨.seq (.reg [⟨some 3, .box (.t 0), none⟩, ⟨some 4, .box (.t 1), none⟩, ⟨some 5, .box (.t 2), none⟩, ⟨some 6, .mov (.c (.bool false)), none⟩]) (.kl [0, 1, 2, 6] (.seq (.drw [⟨some 11, .load false 1 (.t 5), none⟩, ⟨some 12, .call 200 [.t 11], none⟩, ⟨some 13, .load false 1 (.t 4), none⟩, ⟨some 14, .bin .add (.t 12) (.t 13), none⟩, ⟨some 7, .mov (.t 14), none⟩] [(2, 1)]) (.kl [11, 12, 13, 14] (.seq (.seq (.reg [⟨some 16, .faddr 0 1 (.t 3), none⟩, ⟨some 17, .load false 1 (.t 16), none⟩, ⟨some 18, .mov (.t 7), none⟩, ⟨some 19, .look 1 (.bool false) true (.t 17) (.t 18), none⟩, ⟨some 15, .mov (.t 19), none⟩, ⟨some 20, .prj 0 (.t 15), none⟩, ⟨some 21, .prj 1 (.t 15), none⟩, ⟨some 8, .mov (.t 20), none⟩, ⟨some 9, .mov (.t 21), none⟩]) (.kl [15, 16, 17, 18, 19, 20, 21] (.seq (.reg [⟨some 22, .mov (.t 9), none⟩]) (.kl [9] (.cond (.t 22) (.kl [3, 4, 5, 7, 22] (.seq (.reg [⟨some 23, .mov (.t 8), none⟩, ⟨some 6, .mov (.t 23), none⟩]) (.kl [8, 23] (.ret)))) (.skip)))))) (.kl [8, 22] (.seq (.drw [⟨some 24, .load false 1 (.t 4), none⟩, ⟨some 25, .load false 1 (.t 5), none⟩, ⟨some 26, .call 200 [.t 25], none⟩, ⟨some 27, .call 105 [.t 24, .t 26], none⟩, ⟨some 28, .mkfn 201 [.t 3, .t 4, .t 5], none⟩, ⟨some 29, .call 202 [.t 27, .t 28], none⟩, ⟨some 10, .mov (.t 29), none⟩] [(0, 2)]) (.kl [4, 5, 24, 25, 26, 27, 28, 29] (.seq (.reg [⟨some 30, .faddr 0 1 (.t 3), none⟩, ⟨some 31, .load false 1 (.t 30), none⟩, ⟨some 32, .mov (.t 7), none⟩, ⟨some 33, .mov (.t 10), none⟩, ⟨none, .mset 1 (.t 31) (.t 32) (.t 33), none⟩]) (.kl [3, 7, 30, 31, 32, 33] (.seq (.reg [⟨some 34, .mov (.t 10), none⟩, ⟨some 6, .mov (.t 34), none⟩]) (.kl [10, 34] (.ret)))))))))))), [.tmp 6]⟩
-- lp203_0 HEAD [5, 9, 10, 11] | exit 0: [5]
/-- spec.gaKey -/
def lb203_0 : C := .kl [19] (.seq (.reg [⟨some 12, .bin .lss (.t 11) (.t 10), none⟩]) (.seq (.cond (.t 12) (.skip) (.kl [9, 10, 11, 12] (.exit 0))) (.kl [12] (.seq (.blk 1 (.seq (.reg [⟨some 13, .iaddr 1 (.t 9) (.t 11), none⟩, ⟨some 14, .load false 1 (.t 13), none⟩, ⟨some 7, .mov (.t 14), none⟩]) (.kl [13, 14] (.reg [⟨some 15, .mov (.t 5), none⟩, ⟨some 16, .mov (.t 7), none⟩, ⟨some 17, .bin .add (.c (.str [47])) (.t 16), none⟩, ⟨some 18, .bin .add (.t 15) (.t 17), none⟩, ⟨some 5, .mov (.t 18), none⟩])))) (.kl [7, 15, 16, 17, 18] (.reg [⟨some 19, .bin .add (.t 11) (.c (.int .i64 1)), none⟩, ⟨some 11, .mov (.t 19), none⟩]))))))
def lp203_0 : C := lb203_0
def fi203 : FI := ⟨.seq (.reg [⟨some 4, .mov (.c (.str [])), none⟩]) (.kl [4] (.seq (.reg [⟨some 5, .mov (.c (.str [102])), none⟩]) (.seq (.seq (.reg [⟨some 8, .mov (.t 1), none⟩]) (.kl [1] (.cond (.t 8) (.kl [5, 8] (.reg [⟨some 5, .mov (.c (.str [116])), none⟩])) (.skip)))) (.kl [8] (.seq (.seq (.reg [⟨some 9, .mov (.t 0), none⟩, ⟨some 10, .lenV (.t 9), none⟩, ⟨some 11, .mov (.c (.int .i64 0)), none⟩]) (.kl [0] (.blk 0 (.loop lp203_0)))) (.seq (.reg [⟨some 20, .mov (.t 5), none⟩, ⟨some 4, .mov (.t 20), none⟩]) (.kl [5, 20] (.ret)))))))), [.tmp 4]⟩
/-- spec.gaWith -/
def fi204 : FI := ⟨.seq (.reg [⟨some 6, .mov (.c (.nilS)), none⟩]) (.kl [6] (.seq (.reg [⟨some 8, .mov (.t 0), none⟩, ⟨some 9, .call 206 [.t 8], none⟩, ⟨some 7, .mov (.t 9), none⟩]) (.kl [0, 8, 9] (.seq (.reg [⟨some 10, .mov (.t 7), none⟩, ⟨some 11, .mov (.t 1), none⟩, ⟨some 12, .mov (.t 2), none⟩, ⟨some 13, .iaddr 1 (.t 10) (.t 11), none⟩, ⟨none, .store 1 (.t 13) (.t 12), none⟩]) (.kl [1, 2, 10, 11, 12, 13] (.seq (.reg [⟨some 14, .mov (.t 7), none⟩, ⟨some 6, .mov (.t 14), none⟩]) (.kl [7, 14] (.ret)))))))), [.tmp 6]⟩
-- lp248_0 HEAD [0, 1, 5, 6] | exit 0: [0, 5]
/-- slices.DeleteFunc[[]impl.Move,impl.Move] -/
def lb248_0 : C := .kl [20, 21] (.seq (.seq (.reg [⟨some 16, .mov (.t 6), none⟩, ⟨some 17, .mov (.t 0), none⟩, ⟨some 18, .lenV (.t 17), none⟩, ⟨some 19, .bin .lss (.t 16) (.t 18), none⟩]) (.kl [16, 17, 18] (.cond (.t 19) (.skip) (.kl [1, 6, 19] (.exit 0))))) (.kl [19] (.seq (.blk 1 (.seq (.reg [⟨some 22, .mov (.t 0), none⟩, ⟨some 23, .mov (.t 6), none⟩, ⟨some 24, .iaddr 2 (.t 22) (.t 23), none⟩, ⟨some 25, .load true 2 (.t 24), none⟩, ⟨some 7, .new [.int .i64 0, .int .i64 0], none⟩, ⟨none, .store 2 (.t 7) (.t 25), none⟩]) (.kl [22, 23, 24, 25] (.seq (.reg [⟨some 26, .mov (.t 1), none⟩, ⟨some 27, .load true 2 (.t 7), none⟩, ⟨some 28, .callv (.t 26) [.t 27], none⟩, ⟨some 29, .un .not (.t 28), none⟩]) (.kl [26, 27, 28] (.cond (.t 29) (.kl [29] (.seq (.reg [⟨some 30, .mov (.t 0), none⟩, ⟨some 31, .mov (.t 5), none⟩, ⟨some 32, .load true 2 (.t 7), none⟩, ⟨some 33, .iaddr 2 (.t 30) (.t 31), none⟩, ⟨none, .store 2 (.t 33) (.t 32), none⟩]) (.kl [7, 30, 31, 32, 33] (.reg [⟨some 34, .mov (.t 5), none⟩, ⟨some 35, .bin .add (.t 34) (.c (.int .i64 1)), none⟩, ⟨some 5, .mov (.t 35), none⟩])))) (.skip))))))) (.kl [7, 29, 34, 35] (.reg [⟨some 20, .mov (.t 6), none⟩, ⟨some 21, .bin .add (.t 20) (.c (.int .i64 1)), none⟩, ⟨some 6, .mov (.t 21), none⟩])))))
def lp248_0 : C := lb248_0
def fi248 : FI := ⟨.seq (.reg [⟨some 4, .mov (.c (.nilS)), none⟩]) (.kl [4] (.seq (.reg [⟨some 8, .mov (.t 0), none⟩, ⟨some 9, .mov (.t 1), none⟩, ⟨some 10, .call 205 [.t 8, .t 9], none⟩, ⟨some 5, .mov (.t 10), none⟩]) (.kl [8, 9, 10] (.seq (.seq (.reg [⟨some 11, .mov (.t 5), none⟩, ⟨some 12, .bin .eql (.t 11) (.c (.int .i64 (-1))), none⟩]) (.kl [11] (.cond (.t 12) (.kl [1, 5, 12] (.seq (.reg [⟨some 13, .mov (.t 0), none⟩, ⟨some 4, .mov (.t 13), none⟩]) (.kl [0, 13] (.ret)))) (.skip)))) (.kl [12] (.seq (.seq (.reg [⟨some 14, .mov (.t 5), none⟩, ⟨some 15, .bin .add (.t 14) (.c (.int .i64 1)), none⟩, ⟨some 6, .mov (.t 15), none⟩]) (.kl [14, 15] (.blk 0 (.loop lp248_0)))) (.seq (.reg [⟨some 36, .mov (.t 0), none⟩, ⟨some 37, .mov (.t 5), none⟩, ⟨some 38, .sub 2 (.t 36) (some (.t 37)) none, none⟩, ⟨none, .clr [.int .i64 0, .int .i64 0] (.t 38), none⟩]) (.kl [36, 37, 38] (.seq (.reg [⟨some 39, .mov (.t 0), none⟩, ⟨some 40, .mov (.t 5), none⟩, ⟨some 41, .sub 2 (.t 39) none (some (.t 40)), none⟩, ⟨some 4, .mov (.t 41), none⟩]) (.kl [0, 5, 39, 40, 41] (.ret))))))))))), [.tmp 4]⟩
-- lp105_0 HEAD [0, 1, 5, 11, 12] | exit 0: [5]
/-- impl.moves -/
def lb105_0 : C := .kl [37] (.seq (.reg [⟨some 13, .bin .lss (.t 12) (.t 11), none⟩]) (.seq (.cond (.t 13) (.skip) (.kl [0, 1, 11, 12, 13] (.exit 0))) (.kl [13] (.seq (.blk 1 (.seq (.reg [⟨some 14, .mov (.t 12), none⟩, ⟨some 6, .mov (.t 14), none⟩]) (.kl [14] (.seq (.reg [⟨some 16, .mov (.t 0), none⟩, ⟨some 17, .mov (.t 6), none⟩, ⟨some 18, .call 127 [.t 16, .t 17], none⟩, ⟨some 15, .mov (.t 18), none⟩, ⟨some 19, .prj 0 (.t 15), none⟩, ⟨some 20, .prj 1 (.t 15), none⟩, ⟨some 7, .mov (.t 19), none⟩, ⟨some 8, .mov (.t 20), none⟩]) (.kl [15, 16, 17, 18, 19, 20] (.seq (.reg [⟨some 21, .mov (.t 8), none⟩, ⟨some 22, .mov (.t 21), none⟩, ⟨some 23, .mov (.t 1), some (22, true)⟩, ⟨some 24, .mov (.t 0), some (22, true)⟩, ⟨some 25, .mov (.t 6), some (22, true)⟩, ⟨some 26, .mov (.t 6), some (22, true)⟩, ⟨some 27, .bin .add (.t 26) (.c (.int .i64 1)), some (22, true)⟩, ⟨some 28, .subS (.t 24) (some (.t 25)) (some (.t 27)), some (22, true)⟩, ⟨some 29, .call 126 [.t 23, .t 28], some (22, true)⟩, ⟨some 30, .pick (.t 22) (.t 29) (.c (.bool false)), none⟩]) (.kl [8, 21, 22, 23, 24, 25, 26, 27, 28, 29] (.cond (.t 30) (.kl [30] (.reg [⟨some 31, .mov (.t 5), none⟩, ⟨some 32, .mov (.t 6), none⟩, ⟨some 33, .mov (.t 7), none⟩, ⟨some 34, .build [.int .i64 0, .int .i64 0] [(0, 1, .t 32), (1, 1, .t 33)], none⟩, ⟨some 35, .lit 2 1 [.int .i64 0, .int .i64 0] [(0, 2, .t 34)], none⟩, ⟨some 36, .app 2 (.t 31) (.t 35), none⟩, ⟨some 5, .mov (.t 36), none⟩])) (.skip))))))))) (.kl [6, 7, 30, 31, 32, 33, 34, 35, 36] (.reg [⟨some 37, .bin .add (.t 12) (.c (.int .i64 1)), none⟩, ⟨some 12, .mov (.t 37), none⟩]))))))
def lp105_0 : C := lb105_0
def fi105 : FI := ⟨.seq (.reg [⟨some 4, .mov (.c (.nilS)), none⟩]) (.kl [4] (.seq (.reg [⟨some 9, .lit0, none⟩, ⟨some 5, .mov (.t 9), none⟩]) (.kl [9] (.seq (.seq (.reg [⟨some 10, .mov (.t 0), none⟩, ⟨some 11, .lenS (.t 10), none⟩, ⟨some 12, .mov (.c (.int .i64 0)), none⟩]) (.kl [10] (.blk 0 (.loop lp105_0)))) (.seq (.reg [⟨some 38, .mov (.t 5), none⟩, ⟨some 4, .mov (.t 38), none⟩]) (.kl [5, 38] (.ret))))))), [.tmp 4]⟩
/-- impl.kindOf -/
def fi200 : FI := ⟨.seq (.reg [⟨some 2, .mov (.c (.str [])), none⟩]) (.kl [2] (.seq (.seq (.reg [⟨some 3, .mov (.t 0), none⟩]) (.kl [0] (.cond (.t 3) (.kl [3] (.seq (.reg [⟨some 2, .mov (.c (.str [84])), none⟩]) (.ret))) (.skip)))) (.kl [3] (.seq (.reg [⟨some 2, .mov (.c (.str [70])), none⟩]) (.ret))))), [.tmp 2]⟩
/-- (impl.games).best$1 -/
def fi456 : FI := ⟨.seq (.reg [⟨some 4, .box (.t 0), none⟩, ⟨some 5, .mov (.c (.bool false)), none⟩]) (.kl [0, 5] (.seq (.drw [⟨some 6, .load true 1 (.t 1), none⟩, ⟨some 7, .load false 1 (.t 2), none⟩, ⟨some 8, .load true 2 (.t 4), none⟩, ⟨some 9, .call 61 [.t 7, .t 8], none⟩, ⟨some 10, .load false 1 (.t 3), none⟩, ⟨some 11, .un .not (.t 10), none⟩, ⟨some 12, .call 198 [.t 6, .t 9, .t 11], none⟩, ⟨some 5, .mov (.t 12), none⟩] [(0, 3), (4, 3)]) (.kl [1, 2, 3, 4, 6, 7, 8, 9, 10, 11, 12] (.ret)))), [.tmp 5]⟩
/-- spec.liPut -/
def fi108 : FI := ⟨.seq (.reg [⟨some 6, .mov (.c (.str [])), none⟩]) (.kl [6] (.seq (.drw [⟨some 7, .mov (.t 0), none⟩, ⟨some 8, .mov (.t 1), none⟩, ⟨some 9, .subS (.t 7) none (some (.t 8)), none⟩, ⟨some 10, .mov (.t 2), none⟩, ⟨some 11, .bin .add (.t 9) (.t 10), none⟩, ⟨some 12, .mov (.t 0), none⟩, ⟨some 13, .mov (.t 1), none⟩, ⟨some 14, .bin .add (.t 13) (.c (.int .i64 1)), none⟩, ⟨some 15, .subS (.t 12) (some (.t 14)) none, none⟩, ⟨some 16, .bin .add (.t 11) (.t 15), none⟩, ⟨some 6, .mov (.t 16), none⟩] []) (.kl [0, 1, 2, 7, 8, 9, 10, 11, 12, 13, 14, 15, 16] (.ret)))), [.tmp 6]⟩
-- lp457_0 HEAD [0, 1, 2, 3, 6, 7, 10, 30, 31, 32] | exit 0: [2, 6, 7, 10]
/-- impl.gamesFrom$1 -/
def lb457_0 : C := .kl [70] (.seq (.reg [⟨some 33, .bin .lss (.t 32) (.t 31), none⟩]) (.seq (.cond (.t 33) (.skip) (.kl [0, 1, 3, 30, 31, 32, 33] (.exit 0))) (.kl [33] (.seq (.blk 1 (.seq (.reg [⟨some 34, .mov (.t 32), none⟩, ⟨some 35, .iaddr 2 (.t 30) (.t 32), none⟩, ⟨some 36, .load true 2 (.t 35), none⟩, ⟨some 12, .new [.int .i64 0, .int .i64 0], none⟩, ⟨some 11, .mov (.t 34), none⟩, ⟨none, .store 2 (.t 12) (.t 36), none⟩]) (.kl [34, 35, 36] (.seq (.drw [⟨some 37, .load false 1 (.t 3), none⟩, ⟨some 38, .mov (.t 0), none⟩, ⟨some 39, .load true 2 (.t 12), none⟩, ⟨some 40, .call 61 [.t 38, .t 39], none⟩, ⟨some 41, .mov (.t 1), none⟩, ⟨some 42, .un .not (.t 41), none⟩, ⟨some 43, .callv (.t 37) [.t 40, .t 42], none⟩, ⟨some 13, .new [.int .i64 0, .int .i64 0, .int .i64 0], none⟩, ⟨none, .store 3 (.t 13) (.t 43), none⟩] [(7, 7), (0, 3), (0, 7), (2, 7)]) (.kl [12, 37, 38, 39, 40, 41, 42, 43] (.seq (.seq (.reg [⟨some 44, .mov (.t 11), none⟩, ⟨some 45, .bin .eql (.t 44) (.c (.int .i64 0)), none⟩]) (.kl [11, 44] (.cond (.t 45) (.kl [45] (.reg [⟨some 46, .faddr 1 1 (.t 13), none⟩, ⟨some 47, .load false 1 (.t 46), none⟩, ⟨some 48, .bin .add (.t 47) (.c (.int .i64 1)), none⟩, ⟨some 49, .faddr 1 1 (.t 10), none⟩, ⟨none, .store 1 (.t 49) (.t 48), none⟩])) (.skip)))) (.kl [45, 46, 47, 48, 49] (.drw [⟨some 50, .faddr 0 1 (.t 10), none⟩, ⟨some 51, .load false 1 (.t 50), none⟩, ⟨some 52, .faddr 0 1 (.t 13), none⟩, ⟨some 53, .load false 1 (.t 52), none⟩, ⟨some 54, .bin .add (.t 53) (.c (.int .i64 1)), none⟩, ⟨some 55, .mmx true (.t 51) (.t 54), none⟩, ⟨some 56, .faddr 1 1 (.t 10), none⟩, ⟨some 57, .load false 1 (.t 56), none⟩, ⟨some 58, .faddr 1 1 (.t 13), none⟩, ⟨some 59, .load false 1 (.t 58), none⟩, ⟨some 60, .bin .add (.t 59) (.c (.int .i64 1)), none⟩, ⟨some 61, .mmx false (.t 57) (.t 60), none⟩, ⟨some 62, .faddr 2 1 (.t 10), none⟩, ⟨some 63, .load false 1 (.t 62), none⟩, ⟨some 64, .faddr 2 1 (.t 13), none⟩, ⟨some 65, .load false 1 (.t 64), none⟩, ⟨some 66, .bin .add (.t 63) (.t 65), none⟩, ⟨some 67, .faddr 0 1 (.t 10), none⟩, ⟨none, .store 1 (.t 67) (.t 55), none⟩, ⟨some 68, .faddr 1 1 (.t 10), none⟩, ⟨none, .store 1 (.t 68) (.t 61), none⟩, ⟨some 69, .faddr 2 1 (.t 10), none⟩, ⟨none, .store 1 (.t 69) (.t 66), none⟩] [(9, 18), (15, 18), (15, 20)])))))))) (.kl [13, 50, 51, 52, 53, 54, 55, 56, 57, 58, 59, 60, 61, 62, 63, 64, 65, 66, 67, 68, 69] (.reg [⟨some 70, .bin .add (.t 32) (.c (.int .i64 1)), none⟩, ⟨some 32, .mov (.t 70), none⟩]))))))
def lp457_0 : C := lb457_0
def fi457 : FI := ⟨.seq (.reg [⟨some 6, .new [.int .i64 0, .int .i64 0, .int .i64 0], none⟩]) (.seq (.reg [⟨some 14, .mov (.t 1), none⟩, ⟨some 15, .call 200 [.t 14], none⟩, ⟨some 16, .mov (.t 0), none⟩, ⟨some 17, .bin .add (.t 15) (.t 16), none⟩, ⟨some 7, .mov (.t 17), none⟩]) (.kl [14, 15, 16, 17] (.seq (.seq (.reg [⟨some 19, .load false 1 (.t 2), none⟩, ⟨some 20, .mov (.t 7), none⟩, ⟨some 21, .look 1 (.agg [.int .i64 0, .int .i64 0, .int .i64 0]) true (.t 19) (.t 20), none⟩, ⟨some 18, .mov (.t 21), none⟩, ⟨some 22, .prj 0 (.t 18), none⟩, ⟨some 23, .prj 1 (.t 18), none⟩, ⟨some 8, .new [.int .i64 0, .int .i64 0, .int .i64 0], none⟩, ⟨none, .store 3 (.t 8) (.t 22), none⟩, ⟨some 9, .mov (.t 23), none⟩]) (.kl [18, 19, 20, 21, 22, 23] (.seq (.reg [⟨some 24, .mov (.t 9), none⟩]) (.kl [9] (.cond (.t 24) (.kl [0, 1, 2, 3, 7, 24] (.seq (.reg [⟨some 25, .load true 3 (.t 8), none⟩, ⟨none, .store 3 (.t 6) (.t 25), none⟩]) (.kl [8, 25] (.ret)))) (.skip)))))) (.kl [8, 24] (.seq (.reg [⟨some 26, .build [.int .i64 0, .int .i64 0, .int .i64 0] [], none⟩, ⟨some 10, .new [.int .i64 0, .int .i64 0, .int .i64 0], none⟩, ⟨none, .store 3 (.t 10) (.t 26), none⟩]) (.kl [26] (.seq (.seq (.reg [⟨some 27, .mov (.t 0), none⟩, ⟨some 28, .mov (.t 1), none⟩, ⟨some 29, .call 200 [.t 28], none⟩, ⟨some 30, .call 105 [.t 27, .t 29], none⟩, ⟨some 31, .lenV (.t 30), none⟩, ⟨some 32, .mov (.c (.int .i64 0)), none⟩]) (.kl [27, 28, 29] (.blk 0 (.loop lp457_0)))) (.seq (.reg [⟨some 71, .faddr 2 1 (.t 10), none⟩, ⟨some 72, .load false 1 (.t 71), none⟩, ⟨some 73, .mmx true (.c (.int .i64 1)) (.t 72), none⟩, ⟨some 74, .faddr 2 1 (.t 10), none⟩, ⟨none, .store 1 (.t 74) (.t 73), none⟩]) (.kl [71, 72, 73, 74] (.seq (.reg [⟨some 75, .load false 1 (.t 2), none⟩, ⟨some 76, .mov (.t 7), none⟩, ⟨some 77, .load true 3 (.t 10), none⟩, ⟨none, .mset 1 (.t 75) (.t 76) (.t 77), none⟩]) (.kl [2, 7, 75, 76, 77] (.seq (.reg [⟨some 78, .load true 3 (.t 10), none⟩, ⟨none, .store 3 (.t 6) (.t 78), none⟩]) (.kl [10, 78] (.ret)))))))))))))), [.cell true 3 6]⟩
/-- spec.l1Most -/
def fi455 : FI := ⟨.seq (.reg [⟨some 4, .mov (.c (.int .i64 0)), none⟩]) (.kl [4] (.seq (.seq (.reg [⟨some 5, .mov (.t 0), none⟩, ⟨some 6, .mov (.t 1), none⟩, ⟨some 7, .bin .gtr (.t 5) (.t 6), none⟩]) (.kl [5, 6] (.cond (.t 7) (.kl [1, 7] (.seq (.reg [⟨some 8, .mov (.t 0), none⟩, ⟨some 4, .mov (.t 8), none⟩]) (.kl [0, 8] (.ret)))) (.skip)))) (.kl [0, 7] (.seq (.reg [⟨some 9, .mov (.t 1), none⟩, ⟨some 4, .mov (.t 9), none⟩]) (.kl [1, 9] (.ret)))))), [.tmp 4]⟩
/-- (impl.games).outcome -/
def fi193 : FI := ⟨.seq (.reg [⟨some 2, .box (.t 0), none⟩, ⟨some 4, .mov (.c (.str [])), none⟩]) (.kl [0, 4] (.seq (.drw [⟨some 7, .load true 1 (.t 2), none⟩, ⟨some 8, .mov (.t 1), none⟩, ⟨some 9, .call 198 [.t 7, .t 8, .c (.bool true)], none⟩, ⟨some 10, .load true 1 (.t 2), none⟩, ⟨some 11, .mov (.t 1), none⟩, ⟨some 12, .call 198 [.t 10, .t 11, .c (.bool false)], none⟩, ⟨some 5, .mov (.t 9), none⟩, ⟨some 6, .mov (.t 12), none⟩] [(3, 2)]) (.kl [1, 2, 7, 8, 9, 10, 11, 12] (.seq (.blk 0 (.seq (.reg [⟨some 14, .mov (.t 5), none⟩, ⟨some 15, .mov (.t 14), none⟩, ⟨some 16, .mov (.t 6), some (15, true)⟩, ⟨some 17, .pick (.t 15) (.t 16) (.c (.bool false)), none⟩, ⟨some 13, .mov (.t 17), none⟩]) (.kl [14, 15, 16, 17] (.cond (.t 13) (.kl [5, 6, 13] (.seq (.reg [⟨some 4, .mov (.c (.str [49])), none⟩]) (.ret))) (.kl [13] (.seq (.reg [⟨some 19, .mov (.t 5), none⟩, ⟨some 18, .mov (.t 19), none⟩]) (.kl [5, 19] (.cond (.t 18) (.kl [6, 18] (.seq (.reg [⟨some 4, .mov (.c (.str [84])), none⟩]) (.ret))) (.kl [18] (.seq (.reg [⟨some 21, .mov (.t 6), none⟩, ⟨some 20, .mov (.t 21), none⟩]) (.kl [6, 21] (.cond (.t 20) (.kl [20] (.seq (.reg [⟨some 4, .mov (.c (.str [70])), none⟩]) (.ret))) (.skip))))))))))))) (.kl [20] (.seq (.reg [⟨some 4, .mov (.c (.str [50])), none⟩]) (.ret))))))), [.tmp 4]⟩
-- lp110_0 HEAD [0, 2, 3] | exit 0: []
/-- slices.Reverse[[]byte,byte] -/
def lb110_0 : C := .kl [10, 11, 12, 13] (.seq (.seq (.reg [⟨some 7, .mov (.t 2), none⟩, ⟨some 8, .mov (.t 3), none⟩, ⟨some 9, .bin .lss (.t 7) (.t 8), none⟩]) (.kl [7, 8] (.cond (.t 9) (.skip) (.kl [0, 2, 3, 9] (.exit 0))))) (.kl [9] (.seq (.blk 1 (.drw [⟨some 14, .mov (.t 0), none⟩, ⟨some 15, .mov (.t 2), none⟩, ⟨some 16, .mov (.t 0), none⟩, ⟨some 17, .mov (.t 3), none⟩, ⟨some 18, .mov (.t 0), none⟩, ⟨some 19, .mov (.t 3), none⟩, ⟨some 20, .iaddr 1 (.t 18) (.t 19), none⟩, ⟨some 21, .load false 1 (.t 20), none⟩, ⟨some 22, .mov (.t 0), none⟩, ⟨some 23, .mov (.t 2), none⟩, ⟨some 24, .iaddr 1 (.t 22) (.t 23), none⟩, ⟨some 25, .load false 1 (.t 24), none⟩, ⟨some 26, .iaddr 1 (.t 14) (.t 15), none⟩, ⟨none, .store 1 (.t 26) (.t 21), none⟩, ⟨some 27, .iaddr 1 (.t 16) (.t 17), none⟩, ⟨none, .store 1 (.t 27) (.t 25), none⟩] [])) (.kl [14, 15, 16, 17, 18, 19, 20, 21, 22, 23, 24, 25, 26, 27] (.reg [⟨some 10, .mov (.t 2), none⟩, ⟨some 11, .bin .add (.t 10) (.c (.int .i64 1)), none⟩, ⟨some 12, .mov (.t 3), none⟩, ⟨some 13, .bin .sub (.t 12) (.c (.int .i64 1)), none⟩, ⟨some 2, .mov (.t 11), none⟩, ⟨some 3, .mov (.t 13), none⟩])))))
def lp110_0 : C := lb110_0
def fi110 : FI := ⟨.seq (.reg [⟨some 4, .mov (.t 0), none⟩, ⟨some 5, .lenV (.t 4), none⟩, ⟨some 6, .bin .sub (.t 5) (.c (.int .i64 1)), none⟩, ⟨some 2, .mov (.c (.int .i64 0)), none⟩, ⟨some 3, .mov (.t 6), none⟩]) (.kl [4, 5, 6] (.blk 0 (.loop lp110_0))), []⟩
/-- impl.other -/
def fi109 : FI := ⟨.seq (.reg [⟨some 2, .mov (.c (.int .u8 0)), none⟩]) (.kl [2] (.seq (.seq (.reg [⟨some 3, .mov (.t 0), none⟩]) (.blk 0 (.seq (.reg [⟨some 5, .bin .eql (.t 3) (.c (.int .u8 84)), none⟩, ⟨some 4, .mov (.t 5), none⟩]) (.kl [5] (.cond (.t 4) (.kl [0, 3, 4] (.seq (.reg [⟨some 2, .mov (.c (.int .u8 70)), none⟩]) (.ret))) (.kl [4] (.seq (.reg [⟨some 7, .bin .eql (.t 3) (.c (.int .u8 70)), none⟩, ⟨some 6, .mov (.t 7), none⟩]) (.kl [3, 7] (.cond (.t 6) (.kl [0, 6] (.seq (.reg [⟨some 2, .mov (.c (.int .u8 84)), none⟩]) (.ret))) (.skip)))))))))) (.kl [6] (.seq (.reg [⟨some 8, .mov (.t 0), none⟩, ⟨some 2, .mov (.t 8), none⟩]) (.kl [0, 8] (.ret)))))), [.tmp 2]⟩
/-- impl.stepOf -/
def fi103 : FI := ⟨.seq (.reg [⟨some 2, .mov (.c (.int .i64 0)), none⟩]) (.kl [2] (.seq (.seq (.reg [⟨some 3, .mov (.t 0), none⟩]) (.kl [0] (.blk 0 (.seq (.reg [⟨some 5, .bin .eql (.t 3) (.c (.int .u8 84)), none⟩, ⟨some 4, .mov (.t 5), none⟩]) (.kl [5] (.cond (.t 4) (.kl [3, 4] (.seq (.reg [⟨some 2, .mov (.c (.int .i64 1)), none⟩]) (.ret))) (.kl [4] (.seq (.reg [⟨some 7, .bin .eql (.t 3) (.c (.int .u8 70)), none⟩, ⟨some 6, .mov (.t 7), none⟩]) (.kl [3, 7] (.cond (.t 6) (.kl [6] (.seq (.reg [⟨some 2, .mov (.c (.int .i64 (-1))), none⟩]) (.ret))) (.skip))))))))))) (.kl [6] (.seq (.reg [⟨some 2, .mov (.c (.int .i64 0)), none⟩]) (.ret))))), [.tmp 2]⟩
/-- impl.at -/
def fi125 : FI := ⟨.seq (.reg [⟨some 4, .mov (.c (.int .u8 0)), none⟩]) (.kl [4] (.seq (.seq (.reg [⟨some 5, .mov (.t 1), none⟩, ⟨some 6, .bin .lss (.t 5) (.c (.int .i64 0)), none⟩, ⟨some 7, .mov (.t 6), none⟩, ⟨some 8, .mov (.t 1), some (7, false)⟩, ⟨some 9, .mov (.t 0), some (7, false)⟩, ⟨some 10, .lenS (.t 9), some (7, false)⟩, ⟨some 11, .bin .geq (.t 8) (.t 10), some (7, false)⟩, ⟨some 12, .pick (.t 7) (.c (.bool true)) (.t 11), none⟩]) (.kl [5, 6, 7, 8, 9, 10, 11] (.cond (.t 12) (.kl [0, 1, 12] (.seq (.reg [⟨some 4, .mov (.c (.int .u8 0)), none⟩]) (.ret))) (.skip)))) (.kl [12] (.seq (.reg [⟨some 13, .mov (.t 0), none⟩, ⟨some 14, .mov (.t 1), none⟩, ⟨some 15, .idxS (.t 13) (.t 14), none⟩, ⟨some 4, .mov (.t 15), none⟩]) (.kl [0, 1, 13, 14, 15] (.ret)))))), [.tmp 4]⟩
/-- slices.ContainsFunc[[]impl.Move,impl.Move] -/
def fi202 : FI := ⟨.seq (.reg [⟨some 4, .mov (.c (.bool false)), none⟩]) (.kl [4] (.seq (.reg [⟨some 5, .mov (.t 0), none⟩, ⟨some 6, .mov (.t 1), none⟩, ⟨some 7, .call 205 [.t 5, .t 6], none⟩, ⟨some 8, .bin .geq (.t 7) (.c (.int .i64 0)), none⟩, ⟨some 4, .mov (.t 8), none⟩]) (.kl [0, 1, 5, 6, 7, 8] (.ret)))), [.tmp 4]⟩
/-- (impl.games).win$1 -/
def fi201 : FI := ⟨.seq (.reg [⟨some 4, .box (.t 0), none⟩, ⟨some 5, .mov (.c (.bool false)), none⟩]) (.kl [0, 5] (.seq (.drw [⟨some 6, .load true 1 (.t 1), none⟩, ⟨some 7, .load false 1 (.t 2), none⟩, ⟨some 8, .load true 2 (.t 4), none⟩, ⟨some 9, .call 61 [.t 7, .t 8], none⟩, ⟨some 10, .load false 1 (.t 3), none⟩, ⟨some 11, .un .not (.t 10), none⟩, ⟨some 12, .call 198 [.t 6, .t 9, .t 11], none⟩, ⟨some 13, .un .not (.t 12), none⟩, ⟨some 5, .mov (.t 13), none⟩] [(0, 3), (4, 3)]) (.kl [1, 2, 3, 4, 6, 7, 8, 9, 10, 11, 12, 13] (.ret)))), [.tmp 5]⟩
/-- spec.l1OwnS -/
def fi206 : FI := ⟨.seq (.reg [⟨some 2, .mov (.c (.nilS)), none⟩]) (.kl [2] (.seq (.reg [⟨some 3, .lit0, none⟩, ⟨some 4, .mov (.t 0), none⟩, ⟨some 5, .app 1 (.t 3) (.t 4), none⟩, ⟨some 2, .mov (.t 5), none⟩]) (.kl [0, 3, 4, 5] (.ret)))), [.tmp 2]⟩
-- lp205_0 HEAD [0, 1, 7, 8] | exit 0: [] | ret: [4]
/-- slices.IndexFunc[[]impl.Move,impl.Move] -/
def lb205_0 : C := .kl [18] (.seq (.reg [⟨some 9, .bin .lss (.t 8) (.t 7), none⟩]) (.seq (.cond (.t 9) (.skip) (.kl [0, 1, 7, 8, 9] (.exit 0))) (.kl [9] (.seq (.blk 1 (.seq (.reg [⟨some 10, .mov (.t 8), none⟩, ⟨some 5, .mov (.t 10), none⟩]) (.kl [10] (.seq (.reg [⟨some 11, .mov (.t 1), none⟩, ⟨some 12, .mov (.t 0), none⟩, ⟨some 13, .mov (.t 5), none⟩, ⟨some 14, .iaddr 2 (.t 12) (.t 13), none⟩, ⟨some 15, .load true 2 (.t 14), none⟩, ⟨some 16, .callv (.t 11) [.t 15], none⟩]) (.kl [11, 12, 13, 14, 15] (.cond (.t 16) (.kl [0, 1, 7, 8, 16] (.seq (.reg [⟨some 17, .mov (.t 5), none⟩, ⟨some 4, .mov (.t 17), none⟩]) (.kl [5, 17] (.ret)))) (.skip))))))) (.kl [5, 16] (.reg [⟨some 18, .bin .add (.t 8) (.c (.int .i64 1)), none⟩, ⟨some 8, .mov (.t 18), none⟩]))))))
def lp205_0 : C := lb205_0
def fi205 : FI := ⟨.seq (.reg [⟨some 4, .mov (.c (.int .i64 0)), none⟩]) (.kl [4] (.seq (.seq (.reg [⟨some 6, .mov (.t 0), none⟩, ⟨some 7, .lenV (.t 6), none⟩, ⟨some 8, .mov (.c (.int .i64 0)), none⟩]) (.kl [6] (.blk 0 (.loop lp205_0)))) (.seq (.reg [⟨some 4, .mov (.c (.int .i64 (-1))), none⟩]) (.ret)))), [.tmp 4]⟩

def tab : List (Nat × FI) := [(432, fi432), (22, fi22), (389, fi389), (415, fi415), (416, fi416), (417, fi417), (418, fi418), (419, fi419), (420, fi420), (421, fi421), (422, fi422), (423, fi423), (424, fi424), (425, fi425), (426, fi426), (427, fi427), (428, fi428), (429, fi429), (430, fi430), (431, fi431), (375, fi375), (377, fi377), (35, fi35), (385, fi385), (433, fi433), (106, fi106), (104, fi104), (116, fi116), (74, fi74), (63, fi63), (77, fi77), (100, fi100), (435, fi435), (61, fi61), (446, fi446), (447, fi447), (199, fi199), (254, fi254), (192, fi192), (448, fi448), (449, fi449), (450, fi450), (451, fi451), (66, fi66), (452, fi452), (453, fi453), (241, fi241), (59, fi59), (80, fi80), (454, fi454), (64, fi64), (82, fi82), (124, fi124), (107, fi107), (71, fi71), (99, fi99), (119, fi119), (127, fi127), (130, fi130), (249, fi249), (198, fi198), (203, fi203), (204, fi204), (248, fi248), (105, fi105), (200, fi200), (456, fi456), (108, fi108), (457, fi457), (455, fi455), (193, fi193), (110, fi110), (109, fi109), (103, fi103), (125, fi125), (202, fi202), (201, fi201), (206, fi206), (205, fi205)]
def T (f : Nat) : Option FI := (tab.find? fun x => x.1 == f).map (·.2)
theorem T432 : T 432 = some fi432 := rfl
theorem T22 : T 22 = some fi22 := rfl
theorem T389 : T 389 = some fi389 := rfl
theorem T415 : T 415 = some fi415 := rfl
theorem T416 : T 416 = some fi416 := rfl
theorem T417 : T 417 = some fi417 := rfl
theorem T418 : T 418 = some fi418 := rfl
theorem T419 : T 419 = some fi419 := rfl
theorem T420 : T 420 = some fi420 := rfl
theorem T421 : T 421 = some fi421 := rfl
theorem T422 : T 422 = some fi422 := rfl
theorem T423 : T 423 = some fi423 := rfl
theorem T424 : T 424 = some fi424 := rfl
theorem T425 : T 425 = some fi425 := rfl
theorem T426 : T 426 = some fi426 := rfl
theorem T427 : T 427 = some fi427 := rfl
theorem T428 : T 428 = some fi428 := rfl
theorem T429 : T 429 = some fi429 := rfl
theorem T430 : T 430 = some fi430 := rfl
theorem T431 : T 431 = some fi431 := rfl
theorem T375 : T 375 = some fi375 := rfl
theorem T377 : T 377 = some fi377 := rfl
theorem T35 : T 35 = some fi35 := rfl
theorem T385 : T 385 = some fi385 := rfl
theorem T433 : T 433 = some fi433 := rfl
theorem T106 : T 106 = some fi106 := rfl
theorem T104 : T 104 = some fi104 := rfl
theorem T116 : T 116 = some fi116 := rfl
theorem T74 : T 74 = some fi74 := rfl
theorem T63 : T 63 = some fi63 := rfl
theorem T77 : T 77 = some fi77 := rfl
theorem T100 : T 100 = some fi100 := rfl
theorem T435 : T 435 = some fi435 := rfl
theorem T61 : T 61 = some fi61 := rfl
theorem T446 : T 446 = some fi446 := rfl
theorem T447 : T 447 = some fi447 := rfl
theorem T199 : T 199 = some fi199 := rfl
theorem T254 : T 254 = some fi254 := rfl
theorem T192 : T 192 = some fi192 := rfl
theorem T448 : T 448 = some fi448 := rfl
theorem T449 : T 449 = some fi449 := rfl
theorem T450 : T 450 = some fi450 := rfl
theorem T451 : T 451 = some fi451 := rfl
theorem T66 : T 66 = some fi66 := rfl
theorem T452 : T 452 = some fi452 := rfl
theorem T453 : T 453 = some fi453 := rfl
theorem T241 : T 241 = some fi241 := rfl
theorem T59 : T 59 = some fi59 := rfl
theorem T80 : T 80 = some fi80 := rfl
theorem T454 : T 454 = some fi454 := rfl
theorem T64 : T 64 = some fi64 := rfl
theorem T82 : T 82 = some fi82 := rfl
theorem T124 : T 124 = some fi124 := rfl
theorem T107 : T 107 = some fi107 := rfl
theorem T71 : T 71 = some fi71 := rfl
theorem T99 : T 99 = some fi99 := rfl
theorem T119 : T 119 = some fi119 := rfl
theorem T127 : T 127 = some fi127 := rfl
theorem T130 : T 130 = some fi130 := rfl
theorem T249 : T 249 = some fi249 := rfl
theorem T198 : T 198 = some fi198 := rfl
theorem T203 : T 203 = some fi203 := rfl
theorem T204 : T 204 = some fi204 := rfl
theorem T248 : T 248 = some fi248 := rfl
theorem T105 : T 105 = some fi105 := rfl
theorem T200 : T 200 = some fi200 := rfl
theorem T456 : T 456 = some fi456 := rfl
theorem T108 : T 108 = some fi108 := rfl
theorem T457 : T 457 = some fi457 := rfl
theorem T455 : T 455 = some fi455 := rfl
theorem T193 : T 193 = some fi193 := rfl
theorem T110 : T 110 = some fi110 := rfl
theorem T109 : T 109 = some fi109 := rfl
theorem T103 : T 103 = some fi103 := rfl
theorem T125 : T 125 = some fi125 := rfl
theorem T202 : T 202 = some fi202 := rfl
theorem T201 : T 201 = some fi201 := rfl
theorem T206 : T 206 = some fi206 := rfl
theorem T205 : T 205 = some fi205 := rfl
end Go.Proofs.YtejhhdpfndiliaaGreatDoor.Ab
-- EXT strings.Trim
-- EXT strings.Join
-- EXT strings.Contains
-- XF main.main|0|
-- XF gosem.cut|1|
-- XF impl.CountOf|10|
-- XF impl.ordered|100|
-- XF spec.liTimes|101|
-- XF (*spec.l1Cur).among|102|
-- XF spec.l1All|103|
-- XF (*spec.l1Cur).next|104|
-- XF (*spec.l1Cur).of|105|
-- XF (*spec.l1Cur).sureLine|106|
-- XF spec.liMoves|107|
-- XF impl.goal|108|
-- XF spec.liCan|109|
-- XF spec.CountOf|11|
-- XF impl.sumOf|110|
-- XF (impl.games).win|111|
-- XF spec.gaKey|112|
-- XF spec.gaWith|113|
-- XF impl.moves|115|
-- XF impl.kindOf|116|
-- XF (impl.games).best$1|117|
-- XF spec.liPut|118|
-- XF impl.gamesFrom$1|119|
-- XF impl.LastLine|12|
-- XF spec.l1Most|120|
-- XF (impl.games).outcome|121|
-- XF slices.Reverse[[]byte,byte]|122|22, 5
-- XF impl.other|123|
-- XF strings.Trim|124|
-- XF unicode/utf8.RuneCountInString|125|
-- XF internal/bytealg.CountString|126|
-- XF strings.Index|127|
-- XF internal/bytealg.IndexByteString|128|
-- XF strings.Repeat|129|
-- XF spec.LastLine|13|
-- XF impl.stepOf|130|
-- XF impl.at|131|
-- XF strings.Join|132|
-- XF (impl.games).win$1|134|
-- XF spec.l1OwnS|135|
-- XF strings.Contains|137|
-- XF strings.trimLeftByte|138|
-- XF strings.trimRightByte|139|
-- XF impl.CountLines|14|
-- XF strings.makeASCIISet|140|
-- XF strings.trimLeftASCII|141|
-- XF strings.trimRightASCII|142|
-- XF strings.trimLeftUnicode|143|
-- XF strings.trimRightUnicode|144|
-- XF internal/stringslite.Index|145|
-- XF math/bits.Mul|146|
-- XF strings.HasPrefix|147|
-- XF (*strings.Builder).Grow|148|
-- XF (*strings.Builder).WriteString|149|
-- XF impl.LineOfRank|15|
-- XF (*strings.Builder).Len|150|
-- XF (*strings.Builder).String|151|
-- XF (*strings.asciiSet).contains|152|
-- XF unicode/utf8.DecodeRuneInString|153|
-- XF strings.ContainsRune|154|
-- XF unicode/utf8.DecodeLastRuneInString|155|
-- XF internal/bytealg.IndexString|156|
-- XF internal/bytealg.Cutover|157|
-- XF internal/bytealg.IndexRabinKarp[string]|158|9
-- XF math/bits.Mul32|159|
-- XF impl.WayToGo|16|
-- XF math/bits.Mul64|160|
-- XF internal/stringslite.HasPrefix|161|
-- XF (*strings.Builder).copyCheck|162|
-- XF (*strings.Builder).grow|163|
-- XF unicode/utf8.decodeRuneInStringSlow|164|
-- XF strings.IndexRune|165|
-- XF unicode/utf8.RuneStart|166|
-- XF internal/bytealg.hashStr[string]|167|9
-- XF internal/abi.NoEscape|168|
-- XF internal/bytealg.MakeNoZero|169|
-- XF spec.DrawLineOfRank|17|
-- XF unicode/utf8.ValidRune|170|
-- XF (runtime.boundsError).Error|171|
-- XF (runtime.boundsError).RuntimeError|172|
-- XF (runtime.errorString).Error|173|
-- XF (runtime.errorString).RuntimeError|174|
-- XF (runtime.plainError).Error|175|
-- XF (runtime.plainError).RuntimeError|176|
-- XF (runtime.errorAddressString).Error|177|
-- XF (runtime.errorAddressString).RuntimeError|178|
-- XF (*runtime.TypeAssertionError).Error|179|
-- XF spec.LineOfRank|18|
-- XF (*runtime.TypeAssertionError).RuntimeError|180|
-- XF (*runtime.PanicNilError).Error|181|
-- XF (*runtime.PanicNilError).RuntimeError|182|
-- XF (*internal/abi.Type).Align|183|
-- XF (internal/runtime/maps.unhashableTypeError).Error|184|
-- XF (internal/runtime/maps.unhashableTypeError).RuntimeError|185|
-- XF (impl.Move).isJump|186|
-- XF (*spec.l1Cur).board|187|
-- XF (*strings.Builder).Reset|188|
-- XF (internal/abi.Kind).String|189|
-- XF impl.FirstLine|19|
-- XF var's door: unicode/utf8.acceptRanges is laid by its own initialiser, plain data (look 11)|192|
-- XF var's door: unicode/utf8.first is laid by its text alone (pinned 1)|193|
-- XF gosem.cut.vars|194|
-- XF gosem.cut.init|2|
-- XF spec.FirstLine|20|
-- XF spec.CountLines|21|
-- XF spec.DrawPlayMoves|22|
-- XF impl.PlayMoves|23|
-- XF spec.PlayMoves|24|
-- XF impl.MoveThatFails|25|
-- XF spec.MoveThatFails|26|
-- XF impl.PairsToPass|27|
-- XF impl.MakeMove|28|
-- XF impl.CanMove|29|
-- XF laws.FnLinesRanked|3|
-- XF impl.WinsMoving|30|
-- XF spec.WinsMoving|31|
-- XF impl.BestMoves|32|
-- XF spec.BestMoves|33|
-- XF impl.GameMove|34|
-- XF spec.GameMove|35|
-- XF impl.GamePlay|36|
-- XF spec.GamePlay|37|
-- XF impl.LongestGame|38|
-- XF spec.LongestGame|39|
-- XF laws.FnGamesWonOfAll|4|
-- XF impl.ShortestGame|40|
-- XF spec.ShortestGame|41|
-- XF impl.CountGames|42|
-- XF spec.CountGames|43|
-- XF laws.nMoves|44|
-- XF impl.OutcomeOf|45|
-- XF impl.IsNothing|46|
-- XF impl.ToadMoves|47|
-- XF impl.FrogMoves|48|
-- XF laws.nMove|49|
-- XF laws.FnGamesWon|5|
-- XF impl.OtherLine|50|
-- XF spec.DrawWinsMoving|51|
-- XF spec.DrawIsLine|52|
-- XF impl.IsLine|53|
-- XF impl.count|54|
-- XF strings.IndexByte|55|
-- XF impl.below|56|
-- XF spec.liGood|57|
-- XF spec.liCount|58|
-- XF spec.liMany|59|
-- XF laws.big|6|
-- XF impl.last|60|
-- XF spec.liLast|61|
-- XF impl.areCounts|62|
-- XF impl.lines|63|
-- XF impl.within|64|
-- XF impl.way|65|
-- XF (*spec.l1Cur).three|66|
-- XF spec.liThree|67|
-- XF (*spec.l1Cur).pick|68|
-- XF spec.l1In|69|
-- XF spec.DrawRankOfLine|7|
-- XF impl.first|70|
-- XF spec.liFirst|71|
-- XF (*spec.l1Cur).line|72|
-- XF (*spec.l1Cur).moves|73|
-- XF impl.played|74|
-- XF impl.can|75|
-- XF spec.liAsked|76|
-- XF spec.liPlay|77|
-- XF impl.pairs|78|
-- XF impl.made|79|
-- XF impl.RankOfLine|8|
-- XF impl.WinsSum|80|
-- XF spec.gaFew|81|
-- XF (*spec.gaKnown).win|82|
-- XF impl.isPlayed|83|
-- XF impl.newGames|84|
-- XF (impl.games).best|85|
-- XF spec.gaBest|86|
-- XF (impl.games).move|87|
-- XF spec.gaMove|88|
-- XF spec.liMake|89|
-- XF spec.RankOfLine|9|
-- XF impl.gamesFrom|90|
-- XF (*spec.gaLengths).of|91|
-- XF impl.OutcomeOfSum|92|
-- XF impl.movesIn|93|
-- XF impl.turned|94|
-- XF (*spec.l1Cur).played|95|
-- XF (*spec.l1Cur).one|96|
-- XF impl.isLineOf|97|
-- XF strings.Count|98|
-- XF internal/stringslite.IndexByte|99|

/- RULES for reckoning with the evaluator: fuel is bounded by no one. -/
namespace Go.Proofs.YtejhhdpfndiliaaGreatDoor.Ab
open Go

def CF.le (a b : CF) : Prop := ∀ f xs h r, a f xs h = some r → b f xs h = some r
theorem CF.le_refl (a : CF) : a.le a := fun _ _ _ _ h => h

def AOp.isCall : AOp → Bool
  | .call .. | .callv .. => true
  | _ => false

section
variable {cf cf' : CF} {ρ : Opd → AV} {h : AH} {e : Env}

theorem evOp_mono (hle : cf.le cf') {i : AOp} {x : AV × AH} (hev : evOp cf ρ h i = some x) : evOp cf' ρ h i = some x := by
  cases i <;> first
    | exact hev
    | (simp only [evOp] at hev ⊢; exact hle _ _ _ _ hev)
    | (simp only [evOp] at hev ⊢
       split at hev
       · exact hle _ _ _ _ hev
       · cases hev)
theorem evOp_any {i : AOp} (hi : i.isCall = false) (cf cf' : CF) : evOp cf ρ h i = evOp cf' ρ h i := by
  cases i <;> first
    | rfl
    | (simp [AOp.isCall] at hi; done)

theorem evI_mono (hle : cf.le cf') {i : I} {x : Env × AH} (hev : evI cf i e h = some x) : evI cf' i e h = some x := by
  have key : ∀ x, (evOp cf (env e) h i.op).map (fun (v, h') => (put e i.dst v, h')) = some x → (evOp cf' (env e) h i.op).map (fun (v, h') => (put e i.dst v, h')) = some x := by
    intro x hx
    simp only [Option.map_eq_some_iff] at hx ⊢
    obtain ⟨y, hy, he⟩ := hx
    exact ⟨y, evOp_mono hle hy, he⟩
  unfold evI at hev ⊢
  split at hev
  · exact key _ hev
  · split at hev
    · split at hev
      · rename_i h1; rw [if_pos h1]; exact key _ hev
      · rename_i h1; rw [if_neg h1]; exact hev
    · exact hev
    · cases hev

theorem evR_mono (hle : cf.le cf') : ∀ {is : List I} {e : Env} {h : AH} {x : Env × AH}, evR cf is e h = some x → evR cf' is e h = some x
  | [], _, _, _, hev => hev
  | i :: is, e, h, x, hev => by
    simp only [evR] at hev ⊢
    split at hev
    · rename_i e1 h1 h2
      rw [evI_mono hle h2]
      exact evR_mono hle hev
    · cases hev

theorem state_some : ∀ {is : List I} {e : Env} {h : AH} {x : Env × AH}, evR cf is e h = some x → ∀ i, ∃ s, stateAt cf is i e h = some s
  | [], e, h, x, hev, i => ⟨(e, h), by simp [stateAt, evR]⟩
  | j :: is, e, h, x, hev, i => by
    cases i with
    | zero => exact ⟨(e, h), by simp [stateAt, evR]⟩
    | succ i =>
      simp only [evR] at hev
      split at hev
      · rename_i e1 h1 h2
        obtain ⟨s, hs⟩ := state_some hev i
        refine ⟨s, ?_⟩
        simp only [stateAt, List.take_succ_cons, evR, h2]
        exact hs
      · cases hev

theorem evDraw_mono (hle : cf.le cf') {is : List I} {ps : List (Nat × Nat)} {x : Env × AH} (hev : evDraw cf is ps e h = some x) : evDraw cf' is ps e h = some x := by
  unfold evDraw at hev ⊢
  split at hev
  · rename_i hst
    rw [if_pos]
    · exact evR_mono hle hev
    · intro p hp
      rcases hst p hp with hpe | hst
      · exact .inl hpe
      refine .inr ?_
      intro o e1 h1 e2 h2 e3 h3 k0 k1 k2 k3
      obtain ⟨s1, g1⟩ := state_some hev p.1
      obtain ⟨s2, g2⟩ := state_some hev p.2
      obtain ⟨s3, g3⟩ := state_some hev (p.2 + 1)
      have m1 := evR_mono hle g1
      have m2 := evR_mono hle g2
      have m3 := evR_mono hle g3
      unfold stateAt at k1 k2 k3
      rw [m1] at k1; rw [m2] at k2; rw [m3] at k3
      cases k1; cases k2; cases k3
      exact hst o e1 h1 e2 h2 e3 h3 k0 g1 g2 g3
  · cases hev

theorem evLoop_mono {s s' : Env → AH → Option (X × Env × AH)} (hs : ∀ e h x, s e h = some x → s' e h = some x) : ∀ {n n' : Nat}, n ≤ n' → ∀ {e : Env} {h : AH} {x}, evLoop s n e h = some x → evLoop s' n' e h = some x
  | 0, _, _, _, _, _, hev => by simp [evLoop] at hev
  | n + 1, 0, hn, _, _, _, _ => by omega
  | n + 1, n' + 1, hn, e, h, x, hev => by
    simp only [evLoop] at hev ⊢
    cases hst : s e h with
    | none => rw [hst] at hev; simp at hev
    | some y =>
      rw [hst] at hev
      rw [hs _ _ _ hst]
      obtain ⟨x1, e1, h1⟩ := y
      cases x1 with
      | normal => exact evLoop_mono hs (by omega) hev
      | exit i => exact hev
      | ret => exact hev

theorem evC_mono (hle : cf.le cf') {n n' : Nat} (hn : n ≤ n') : ∀ (c : C) {e : Env} {h : AH} {x}, evC cf n c e h = some x → evC cf' n' c e h = some x := by
  intro c
  induction c with
  | skip => intro e h x hev; exact hev
  | reg is =>
    intro e h x hev
    simp only [evC, Option.map_eq_some_iff] at hev ⊢
    obtain ⟨y, hy, he⟩ := hev
    exact ⟨y, evR_mono hle hy, he⟩
  | drw is ps =>
    intro e h x hev
    simp only [evC, Option.map_eq_some_iff] at hev ⊢
    obtain ⟨y, hy, he⟩ := hev
    exact ⟨y, evDraw_mono hle hy, he⟩
  | kl ts c ih => intro e h x hev; simp only [evC] at hev ⊢; exact ih hev
  | seq a b iha ihb =>
    intro e h x hev
    simp only [evC] at hev ⊢
    cases ha : evC cf n a e h with
    | none => rw [ha] at hev; simp at hev
    | some y =>
      rw [ha] at hev
      rw [iha ha]
      obtain ⟨x1, e1, h1⟩ := y
      cases x1 with
      | normal => exact ihb hev
      | exit i => exact hev
      | ret => exact hev
  | cond y a b iha ihb =>
    intro e h x hev
    simp only [evC] at hev ⊢
    split at hev
    · rename_i t ht
      split at hev
      · rename_i h1; rw [if_pos h1]; exact iha hev
      · rename_i h1; rw [if_neg h1]; exact ihb hev
    · cases hev
  | blk id a ih =>
    intro e h x hev
    simp only [evC] at hev ⊢
    cases ha : evC cf n a e h with
    | none => rw [ha] at hev; simp at hev
    | some y =>
      rw [ha] at hev
      rw [ih ha]
      exact hev
  | loop a ih =>
    intro e h x hev
    simp only [evC] at hev ⊢
    exact evLoop_mono (fun _ _ _ hh => ih hh) hn hev
  | exit i => intro e h x hev; exact hev
  | ret => intro e h x hev; exact hev
  | bad => intro e h x hev; simp [evC] at hev
end

def EMono (E : Ext) : Prop := ∀ f G, E f = some G → ∀ cf cf' : CF, cf.le cf' → ∀ xs h r, G cf xs h = some r → G cf' xs h = some r

theorem evF_mono {T : Nat → Option FI} {E : Ext} (hE : EMono E) : ∀ {n n' : Nat}, n ≤ n' → (evF T E n).le (evF T E n')
  | 0, _, _ => by intro f xs h r hev; simp [evF] at hev
  | n + 1, 0, hn => by omega
  | n + 1, n' + 1, hn => by
    intro f xs h r hev
    have ih := evF_mono (T := T) hE (show n ≤ n' by omega)
    simp only [evF] at hev ⊢
    split at hev
    · rename_i G hG
      exact hE f G hG _ _ ih _ _ _ hev
    · split at hev
      · rename_i fi hfi
        cases hc : evC (evF T E n) n fi.body (Env.init 0 xs) h with
        | none => rw [hc] at hev; cases hev
        | some y => rw [hc] at hev; rw [evC_mono ih (by omega) _ hc]; exact hev
      · cases hev

/-! ### The rules -/
section
variable (T : Nat → Option FI) (E : Ext)

def Spec (f : Nat) (xs : List AV) (h : AH) (post : AV → AH → Prop) : Prop := ∃ n r h', evF T E n f xs h = some (r, h') ∧ post r h'
def WC (c : C) (e : Env) (h : AH) (Q : X → Env → AH → Prop) : Prop := ∃ n x e' h', evC (evF T E n) n c e h = some (x, e', h') ∧ Q x e' h'
def WR (is : List I) (e : Env) (h : AH) (Q : Env → AH → Prop) : Prop := ∃ n e' h', evR (evF T E n) is e h = some (e', h') ∧ Q e' h'
def WO {α : Type} (o : Option (α × AH)) (K : α → AH → Prop) : Prop := match o with
  | some (v, h) => K v h
  | none => False
end
@[simp] theorem WO_some {α : Type} {v : α} {h : AH} {K : α → AH → Prop} : WO (some (v, h)) K ↔ K v h := Iff.rfl
@[simp] theorem WO_none {α : Type} {K : α → AH → Prop} : WO none K ↔ False := Iff.rfl
theorem WO_iff {α : Type} {o : Option (α × AH)} {K : α → AH → Prop} : WO o K ↔ ∃ v h, o = some (v, h) ∧ K v h := by
  cases o with
  | none => simp
  | some x =>
    obtain ⟨v, h⟩ := x
    exact ⟨fun hk => ⟨v, h, rfl, hk⟩, fun ⟨_, _, he, hk⟩ => by cases he; exact hk⟩

section
variable {T : Nat → Option FI} {E : Ext} (hE : EMono E) {e : Env} {h : AH} {Q : Env → AH → Prop} {R : X → Env → AH → Prop}
include hE

omit hE in
theorem WR_nil : WR T E [] e h Q ↔ Q e h := by
  constructor
  · rintro ⟨n, e', h', hev, hq⟩
    simp only [evR, Option.some.injEq, Prod.mk.injEq] at hev
    obtain ⟨rfl, rfl⟩ := hev
    exact hq
  · intro hq; exact ⟨0, e, h, rfl, hq⟩

omit hE in
/-- An operation that calls no one. -/
theorem WR_op {d : Option Nat} {op : AOp} {is : List I} (hi : op.isCall = false) : WR T E (⟨d, op, none⟩ :: is) e h Q ↔ WO (evOp noCall (env e) h op) fun v h' => WR T E is (put e d v) h' Q := by
  rw [WO_iff]
  constructor
  · rintro ⟨n, e', h', hev, hq⟩
    simp only [evR, evI] at hev
    rw [evOp_any hi (evF T E n) noCall] at hev
    cases ho : evOp noCall (env e) h op with
    | none => rw [ho] at hev; simp at hev
    | some y =>
      rw [ho] at hev
      obtain ⟨v, h1⟩ := y
      exact ⟨v, h1, rfl, n, e', h', hev, hq⟩
  · rintro ⟨v, h1, ho, n, e', h', hev, hq⟩
    refine ⟨n, e', h', ?_, hq⟩
    simp only [evR, evI]
    rw [evOp_any hi (evF T E n) noCall, ho]
    exact hev

theorem WR_call {d : Option Nat} {f : Nat} {xs : List Opd} {is : List I} : WR T E (⟨d, .call f xs, none⟩ :: is) e h Q ↔ Spec T E f (xs.map (env e)) h fun v h' => WR T E is (put e d v) h' Q := by
  constructor
  · rintro ⟨n, e', h', hev, hq⟩
    simp only [evR, evI, evOp] at hev
    cases ho : evF T E n f (xs.map (env e)) h with
    | none => rw [ho] at hev; simp at hev
    | some y =>
      rw [ho] at hev
      obtain ⟨v, h1⟩ := y
      exact ⟨n, v, h1, ho, n, e', h', hev, hq⟩
  · rintro ⟨n, v, h1, ho, n', e', h', hev, hq⟩
    refine ⟨max n n', e', h', ?_, hq⟩
    simp only [evR, evI, evOp]
    rw [evF_mono hE (Nat.le_max_left n n') _ _ _ _ ho]
    exact evR_mono (evF_mono hE (Nat.le_max_right n n')) hev

theorem WR_callv {d : Option Nat} {x : Opd} {xs : List Opd} {is : List I} {f : Nat} {cap : List AV} (hx : env e x = .fn f cap) : WR T E (⟨d, .callv x xs, none⟩ :: is) e h Q ↔ Spec T E f (xs.map (env e) ++ cap) h fun v h' => WR T E is (put e d v) h' Q := by
  constructor
  · rintro ⟨n, e', h', hev, hq⟩
    simp only [evR, evI, evOp, hx] at hev
    cases ho : evF T E n f (xs.map (env e) ++ cap) h with
    | none => rw [ho] at hev; simp at hev
    | some y =>
      rw [ho] at hev
      obtain ⟨v, h1⟩ := y
      exact ⟨n, v, h1, ho, n, e', h', hev, hq⟩
  · rintro ⟨n, v, h1, ho, n', e', h', hev, hq⟩
    refine ⟨max n n', e', h', ?_, hq⟩
    simp only [evR, evI, evOp, hx]
    rw [evF_mono hE (Nat.le_max_left n n') _ _ _ _ ho]
    exact evR_mono (evF_mono hE (Nat.le_max_right n n')) hev

omit hE in
/-- A guard that is heard, one that is not. -/
theorem WR_grd {d : Option Nat} {op : AOp} {is : List I} {t : Nat} {want b : Bool} (hb : e.get t = .bool b) : WR T E (⟨d, op, some (t, want)⟩ :: is) e h Q ↔ if b = want then WR T E (⟨d, op, none⟩ :: is) e h Q else WR T E is (put e d (.tup [])) h Q := by
  have key : ∀ n, evR (evF T E n) (⟨d, op, some (t, want)⟩ :: is) e h = if b = want then evR (evF T E n) (⟨d, op, none⟩ :: is) e h else evR (evF T E n) is (put e d (.tup [])) h := by
    intro n
    simp only [evR, evI, hb]
    by_cases hbw : b = want <;> simp [hbw]
  unfold WR
  simp only [key]
  by_cases hbw : b = want <;> simp [hbw]

omit hE in
/-- A guard on what was not done. -/
theorem WR_grd0 {d : Option Nat} {op : AOp} {is : List I} {t : Nat} {want : Bool} (hb : e.get t = .tup []) : WR T E (⟨d, op, some (t, want)⟩ :: is) e h Q ↔ WR T E is (put e d (.tup [])) h Q := by
  have key : ∀ n, evR (evF T E n) (⟨d, op, some (t, want)⟩ :: is) e h = evR (evF T E n) is (put e d (.tup [])) h := by
    intro n
    simp only [evR, evI, hb]
  unfold WR
  simp only [key]

omit hE in
theorem WC_reg {is : List I} : WC T E (.reg is) e h R ↔ WR T E is e h (R .normal) := by
  constructor
  · rintro ⟨n, x, e', h', hev, hq⟩
    simp only [evC, Option.map_eq_some_iff, Prod.mk.injEq] at hev
    obtain ⟨⟨e1, h1⟩, hev, rfl, rfl, rfl⟩ := hev
    exact ⟨n, e1, h1, hev, hq⟩
  · rintro ⟨n, e', h', hev, hq⟩
    exact ⟨n, .normal, e', h', by simp only [evC, hev]; rfl, hq⟩
omit hE in
theorem WC_skip : WC T E .skip e h R ↔ R .normal e h :=
  ⟨by rintro ⟨n, x, e', h', hev, hq⟩; simp only [evC, Option.some.injEq, Prod.mk.injEq] at hev; obtain ⟨rfl, rfl, rfl⟩ := hev; exact hq, fun hq => ⟨0, _, _, _, rfl, hq⟩⟩
omit hE in
theorem WC_ret : WC T E .ret e h R ↔ R .ret e h :=
  ⟨by rintro ⟨n, x, e', h', hev, hq⟩; simp only [evC, Option.some.injEq, Prod.mk.injEq] at hev; obtain ⟨rfl, rfl, rfl⟩ := hev; exact hq, fun hq => ⟨0, _, _, _, rfl, hq⟩⟩
omit hE in
theorem WC_exit {i : Nat} : WC T E (.exit i) e h R ↔ R (.exit i) e h :=
  ⟨by rintro ⟨n, x, e', h', hev, hq⟩; simp only [evC, Option.some.injEq, Prod.mk.injEq] at hev; obtain ⟨rfl, rfl, rfl⟩ := hev; exact hq, fun hq => ⟨0, _, _, _, rfl, hq⟩⟩
omit hE in
theorem WC_kl {ts : List Nat} {c : C} : WC T E (.kl ts c) e h R ↔ WC T E c (e.dels ts) h R := by
  unfold WC; simp only [evC]

/-- Behind a first piece: go on, or out. -/
def then' (K : Env → AH → Prop) (R : X → Env → AH → Prop) : X → Env → AH → Prop
  | .normal, e, h => K e h
  | x, e, h => R x e h
def inBlk (i : Nat) (R : X → Env → AH → Prop) : X → Env → AH → Prop
  | .exit j, e, h => if j = i then R .normal e h else R (.exit j) e h
  | x, e, h => R x e h
omit hE in
@[simp] theorem then_normal {K : Env → AH → Prop} {R : X → Env → AH → Prop} : then' K R .normal e h = K e h := rfl
omit hE in
@[simp] theorem then_exit {K : Env → AH → Prop} {R : X → Env → AH → Prop} {i : Nat} : then' K R (.exit i) e h = R (.exit i) e h := rfl
omit hE in
@[simp] theorem then_ret {K : Env → AH → Prop} {R : X → Env → AH → Prop} : then' K R .ret e h = R .ret e h := rfl
omit hE in
@[simp] theorem inBlk_normal {i : Nat} {R : X → Env → AH → Prop} : inBlk i R .normal e h = R .normal e h := rfl
omit hE in
@[simp] theorem inBlk_ret {i : Nat} {R : X → Env → AH → Prop} : inBlk i R .ret e h = R .ret e h := rfl
omit hE in
@[simp] theorem inBlk_exit {i j : Nat} {R : X → Env → AH → Prop} : inBlk i R (.exit j) e h = if j = i then R .normal e h else R (.exit j) e h := rfl

theorem WC_seq {a b : C} : WC T E (.seq a b) e h R ↔ WC T E a e h (then' (fun e' h' => WC T E b e' h' R) R) := by
  constructor
  · rintro ⟨n, x, e', h', hev, hq⟩
    simp only [evC] at hev
    cases ha : evC (evF T E n) n a e h with
    | none => rw [ha] at hev; simp at hev
    | some y =>
      rw [ha] at hev
      obtain ⟨x1, e1, h1⟩ := y
      refine ⟨n, x1, e1, h1, ha, ?_⟩
      cases x1 with
      | normal => exact ⟨n, x, e', h', hev, hq⟩
      | exit i => cases hev; exact hq
      | ret => cases hev; exact hq
  · rintro ⟨n, x1, e1, h1, ha, hq⟩
    cases x1 with
    | normal =>
      obtain ⟨n', x, e', h', hev, hq⟩ := hq
      refine ⟨max n n', x, e', h', ?_, hq⟩
      simp only [evC]
      rw [evC_mono (evF_mono hE (Nat.le_max_left n n')) (Nat.le_max_left n n') _ ha]
      exact evC_mono (evF_mono hE (Nat.le_max_right n n')) (Nat.le_max_right n n') _ hev
    | exit i => exact ⟨n, _, e1, h1, by simp only [evC, ha], hq⟩
    | ret => exact ⟨n, _, e1, h1, by simp only [evC, ha], hq⟩

omit hE in
theorem WC_cond {x : Opd} {a b : C} {t : Bool} (ht : env e x = .bool t) : WC T E (.cond x a b) e h R ↔ if t then WC T E a e h R else WC T E b e h R := by
  unfold WC
  simp only [evC, ht]
  cases t <;> simp

omit hE in
theorem WC_blk {i : Nat} {c : C} : WC T E (.blk i c) e h R ↔ WC T E c e h (inBlk i R) := by
  constructor
  · rintro ⟨n, x, e', h', hev, hq⟩
    simp only [evC] at hev
    cases ha : evC (evF T E n) n c e h with
    | none => rw [ha] at hev; simp at hev
    | some y =>
      rw [ha] at hev
      obtain ⟨x1, e1, h1⟩ := y
      refine ⟨n, x1, e1, h1, ha, ?_⟩
      cases x1 with
      | normal => cases hev; exact hq
      | exit j =>
        simp only at hev
        simp only [inBlk]
        split at hev
        · rename_i hj; rw [if_pos hj]; cases hev; exact hq
        · rename_i hj; rw [if_neg hj]; cases hev; exact hq
      | ret => cases hev; exact hq
  · rintro ⟨n, x1, e1, h1, ha, hq⟩
    cases x1 with
    | normal => exact ⟨n, _, e1, h1, by simp only [evC, ha], hq⟩
    | exit j =>
      simp only [inBlk] at hq
      by_cases hj : j = i
      · rw [if_pos hj] at hq
        exact ⟨n, _, e1, h1, by simp only [evC, ha, if_pos hj], hq⟩
      · rw [if_neg hj] at hq
        exact ⟨n, _, e1, h1, by simp only [evC, ha, if_neg hj], hq⟩
    | ret => exact ⟨n, _, e1, h1, by simp only [evC, ha], hq⟩

/-- A loop, one round unrolled. -/
theorem WC_loop {c : C} : WC T E (.loop c) e h R ↔ WC T E c e h (then' (fun e' h' => WC T E (.loop c) e' h' R) R) := by
  constructor
  · rintro ⟨n, x, e', h', hev, hq⟩
    simp only [evC] at hev
    cases n with
    | zero => simp [evLoop] at hev
    | succ n =>
      simp only [evLoop] at hev
      cases ha : evC (evF T E (n + 1)) (n + 1) c e h with
      | none => rw [ha] at hev; simp at hev
      | some y =>
        rw [ha] at hev
        obtain ⟨x1, e1, h1⟩ := y
        refine ⟨n + 1, x1, e1, h1, ha, ?_⟩
        cases x1 with
        | normal =>
          refine ⟨n + 1, x, e', h', ?_, hq⟩
          simp only [evC]
          exact evLoop_mono (fun _ _ _ hh => hh) (Nat.le_succ n) hev
        | exit i => cases hev; exact hq
        | ret => cases hev; exact hq
  · rintro ⟨n, x1, e1, h1, ha, hq⟩
    cases x1 with
    | normal =>
      obtain ⟨n', x, e', h', hev, hq⟩ := hq
      simp only [evC] at hev
      refine ⟨max n n' + 1, x, e', h', ?_, hq⟩
      simp only [evC, evLoop]
      rw [evC_mono (evF_mono hE (show n ≤ max n n' + 1 by omega)) (show n ≤ max n n' + 1 by omega) _ ha]
      exact evLoop_mono (fun _ _ _ hh => evC_mono (evF_mono hE (show n' ≤ max n n' + 1 by omega)) (show n' ≤ max n n' + 1 by omega) _ hh) (show n' ≤ max n n' by omega) hev
    | exit i =>
      refine ⟨n + 1, _, e1, h1, ?_, hq⟩
      simp only [evC, evLoop]
      rw [evC_mono (evF_mono hE (Nat.le_succ n)) (Nat.le_succ n) _ ha]
    | ret =>
      refine ⟨n + 1, _, e1, h1, ?_, hq⟩
      simp only [evC, evLoop]
      rw [evC_mono (evF_mono hE (Nat.le_succ n)) (Nat.le_succ n) _ ha]

omit hE in
/-- Into a function of the table. -/
theorem Spec_of {f : Nat} {xs : List AV} {post : AV → AH → Prop} {fi : FI} (hEf : E f = none) (hT : T f = some fi)
    (hw : WC T E fi.body (Env.init 0 xs) h fun x e' h' => (x = .normal ∨ x = .ret) ∧ ∃ r, resV e' h' fi.res = some r ∧ post r h') : Spec T E f xs h post := by
  obtain ⟨n, x, e', h', hev, hx, r, hr, hq⟩ := hw
  refine ⟨n + 1, r, h', ?_, hq⟩
  simp only [evF, hEf, hT, hev]
  rcases hx with rfl | rfl <;> simp [hr]
omit hE in
theorem Spec_ext {f : Nat} {xs : List AV} {post : AV → AH → Prop} {G : CF → List AV → AH → Option (AV × AH)} (hEf : E f = some G) {r : AV} {h' : AH} (n : Nat) (hG : G (evF T E n) xs h = some (r, h')) (hp : post r h') : Spec T E f xs h post :=
  ⟨n + 1, r, h', by simp only [evF, hEf, hG], hp⟩
omit hE in
theorem Spec.mono {f : Nat} {xs : List AV} {post post' : AV → AH → Prop} (hs : Spec T E f xs h post) (hp : ∀ r h', post r h' → post' r h') : Spec T E f xs h post' := by
  obtain ⟨n, r, h', hev, hq⟩ := hs
  exact ⟨n, r, h', hev, hp _ _ hq⟩
omit hE in
theorem WC.mono {c : C} {R' : X → Env → AH → Prop} (hs : WC T E c e h R) (hp : ∀ x e' h', R x e' h' → R' x e' h') : WC T E c e h R' := by
  obtain ⟨n, x, e', h', hev, hq⟩ := hs
  exact ⟨n, x, e', h', hev, hp _ _ _ hq⟩
end
end Go.Proofs.YtejhhdpfndiliaaGreatDoor.Ab

/- DEMONIC RUNS: pieces of code of the machine, and steps of an iterator over a map, whose order is not known. -/
namespace Go.Proofs.YtejhhdpfndiliaaGreatDoor.Ab
open Go

inductive D where
  | c (c : C)
  | nxt (it dst ok : Nat)
  | kl (ts : List Nat) (d : D)
  | seq (a b : D)
  | blk (id : Nat) (d : D)
  | loop (d : D)

abbrev RP := X → Env → AH → Prop
abbrev WCt := C → Env → AH → RP → Prop
def dRounds (W : Env → AH → RP → Prop) (R : RP) : Nat → Env → AH → Prop
  | 0, _, _ => False
  | k + 1, e, h => W e h (then' (fun e' h' => dRounds W R k e' h') R)
def dW (Wc : WCt) : D → Env → AH → RP → Prop
  | .c c, e, h, R => Wc c e h R
  | .nxt it dst ok, e, h, R => ∃ c cm seen es, e.get it = .iter c ∧ h[c]? = some (.mit cm es.length seen) ∧ h[cm]? = some (.map es) ∧
      (∀ (i : Nat) k v, es[i]? = some (k, v) → i ∉ seen → R .normal ((e.set dst (.tup [.bool true, k, v])).set ok (.bool true)) (h.set c (.mit cm es.length (seen ++ [i])))) ∧
      ((∀ i, i < es.length → i ∈ seen) → R .normal ((e.set dst (.tup [.bool false])).set ok (.bool false)) h)
  | .kl ts d, e, h, R => dW Wc d (e.dels ts) h R
  | .seq a b, e, h, R => dW Wc a e h (then' (fun e' h' => dW Wc b e' h' R) R)
  | .blk id d, e, h, R => dW Wc d e h (inBlk id R)
  | .loop d, e, h, R => ∃ n, dRounds (dW Wc d) R n e h

def WMono (Wc : WCt) : Prop := ∀ c e h (R R' : RP), (∀ x e' h', R x e' h' → R' x e' h') → Wc c e h R → Wc c e h R'
theorem then_mono {K K' : Env → AH → Prop} {R R' : RP} (hk : ∀ e h, K e h → K' e h) (hr : ∀ x e h, R x e h → R' x e h) : ∀ x e h, then' K R x e h → then' K' R' x e h := by
  intro x e h
  cases x <;> simp only [then'] <;> first | exact hk _ _ | exact hr _ _ _
theorem inBlk_mono {id : Nat} {R R' : RP} (hr : ∀ x e h, R x e h → R' x e h) : ∀ x e h, inBlk id R x e h → inBlk id R' x e h := by
  intro x e h
  cases x <;> simp only [inBlk] <;> first
    | exact hr _ _ _
    | (split <;> exact hr _ _ _)
theorem dW_mono {Wc : WCt} (hW : WMono Wc) : ∀ (d : D) (e : Env) (h : AH) (R R' : RP), (∀ x e' h', R x e' h' → R' x e' h') → dW Wc d e h R → dW Wc d e h R'
  | .c c, e, h, R, R', hr, hw => hW c e h R R' hr hw
  | .nxt it dst ok, e, h, R, R', hr, ⟨c, cm, seen, es, h1, h2, h3, h4, h5⟩ => ⟨c, cm, seen, es, h1, h2, h3, fun i k v a b => hr _ _ _ (h4 i k v a b), fun a => hr _ _ _ (h5 a)⟩
  | .kl ts d, e, h, R, R', hr, hw => dW_mono hW d _ h R R' hr hw
  | .seq a b, e, h, R, R', hr, hw => dW_mono hW a e h _ _ (then_mono (fun e' h' => dW_mono hW b e' h' R R' hr) hr) hw
  | .blk id d, e, h, R, R', hr, hw => dW_mono hW d e h _ _ (inBlk_mono hr) hw
  | .loop d, e, h, R, R', hr, ⟨n, hn⟩ => by
    refine ⟨n, ?_⟩
    induction n generalizing e h with
    | zero => exact hn
    | succ n ih => exact dW_mono hW d e h _ _ (then_mono (fun e' h' => ih e' h') hr) hn
theorem dW_imp {Wc Wc' : WCt} (hm : WMono Wc') (hi : ∀ c e h R, Wc c e h R → Wc' c e h R) : ∀ (d : D) (e : Env) (h : AH) (R : RP), dW Wc d e h R → dW Wc' d e h R
  | .c c, e, h, R, hw => hi c e h R hw
  | .nxt _ _ _, _, _, _, hw => hw
  | .kl ts d, e, h, R, hw => dW_imp hm hi d _ h R hw
  | .seq a b, e, h, R, hw => dW_mono hm a e h _ _ (then_mono (fun e' h' => dW_imp hm hi b e' h' R) fun _ _ _ x => x) (dW_imp hm hi a e h _ hw)
  | .blk id d, e, h, R, hw => dW_imp hm hi d e h _ hw
  | .loop d, e, h, R, ⟨n, hn⟩ => by
    refine ⟨n, ?_⟩
    induction n generalizing e h with
    | zero => exact hn
    | succ n ih => exact dW_mono hm d e h _ _ (then_mono (fun e' h' => ih e' h') fun _ _ _ x => x) (dW_imp hm hi d e h _ hn)

/-! ### Two answers of one run meet -/
def WBoth (Wc : WCt) : Prop := ∀ c e h (R R' : RP), Wc c e h R → Wc c e h R' → ∃ x e' h', R x e' h' ∧ R' x e' h'
theorem then_both {K K' : Env → AH → Prop} {R R' : RP} (hk : ∀ e h, K e h → K' e h → ∃ x e' h', R x e' h' ∧ R' x e' h') {x : X} {e : Env} {h : AH} (h1 : then' K R x e h) (h2 : then' K' R' x e h) : ∃ x e' h', R x e' h' ∧ R' x e' h' := by
  cases x <;> simp only [then'] at h1 h2 <;> first | exact hk _ _ h1 h2 | exact ⟨_, _, _, h1, h2⟩
theorem dW_both {Wc : WCt} (hW : WBoth Wc) : ∀ (d : D) (e : Env) (h : AH) (R R' : RP), dW Wc d e h R → dW Wc d e h R' → ∃ x e' h', R x e' h' ∧ R' x e' h'
  | .c c, e, h, R, R', h1, h2 => hW c e h R R' h1 h2
  | .nxt it dst ok, e, h, R, R', ⟨c, cm, seen, es, a1, a2, a3, a4, a5⟩, ⟨c', cm', seen', es', b1, b2, b3, b4, b5⟩ => by
    rw [a1] at b1; cases b1
    rw [a2] at b2
    simp only [Option.some.injEq, AO.mit.injEq] at b2
    obtain ⟨rfl, _, rfl⟩ := b2
    rw [a3] at b3; cases b3
    by_cases hall : ∀ i, i < es.length → i ∈ seen
    · exact ⟨_, _, _, a5 hall, b5 hall⟩
    · simp only [Classical.not_forall] at hall
      obtain ⟨i, hi, hs⟩ := hall
      have he : es[i]? = some (es[i].1, es[i].2) := List.getElem?_eq_getElem hi
      exact ⟨_, _, _, a4 i _ _ he hs, b4 i _ _ he hs⟩
  | .kl ts d, e, h, R, R', h1, h2 => dW_both hW d _ h R R' h1 h2
  | .seq a b, e, h, R, R', h1, h2 => by
    obtain ⟨x, e', h', k1, k2⟩ := dW_both hW a e h _ _ h1 h2
    exact then_both (fun e' h' => dW_both hW b e' h' R R') k1 k2
  | .blk id d, e, h, R, R', h1, h2 => by
    obtain ⟨x, e', h', k1, k2⟩ := dW_both hW d e h _ _ h1 h2
    cases x <;> simp only [inBlk] at k1 k2
    · exact ⟨_, _, _, k1, k2⟩
    · split at k1
      · rename_i hid; rw [if_pos hid] at k2; exact ⟨_, _, _, k1, k2⟩
      · rename_i hid; rw [if_neg hid] at k2; exact ⟨_, _, _, k1, k2⟩
    · exact ⟨_, _, _, k1, k2⟩
  | .loop d, e, h, R, R', ⟨n, h1⟩, ⟨n', h2⟩ => by
    induction n generalizing e h n' with
    | zero => exact h1.elim
    | succ n ih =>
      cases n' with
      | zero => exact h2.elim
      | succ n' =>
        obtain ⟨x, e', h', k1, k2⟩ := dW_both hW d e h _ _ h1 h2
        exact then_both (fun e' h' a b => ih e' h' a n' b) k1 k2

/-! ### One fuel is enough: a step has few ways on -/
def Wcf (cf : CF) : WCt := fun c e h R => ∃ n x e' h', evC cf n c e h = some (x, e', h') ∧ R x e' h'
theorem Wcf_mono (cf : CF) : WMono (Wcf cf) := fun _ _ _ _ _ hr ⟨n, x, e', h', h1, h2⟩ => ⟨n, x, e', h', h1, hr _ _ _ h2⟩
theorem Wcf_both (cf : CF) : WBoth (Wcf cf) := by
  rintro c e h R R' ⟨n, x, e', h', h1, h2⟩ ⟨n', y, f, g, k1, k2⟩
  have a := evC_mono (CF.le_refl cf) (Nat.le_max_left n n') c h1
  have b := evC_mono (CF.le_refl cf) (Nat.le_max_right n n') c k1
  rw [a] at b; cases b
  exact ⟨_, _, _, h2, k2⟩
theorem Wcf_le {cf cf' : CF} (hle : cf.le cf') (c : C) (e : Env) (h : AH) (R : RP) (hw : Wcf cf c e h R) : Wcf cf' c e h R := by
  obtain ⟨n, x, e', h', h1, h2⟩ := hw
  exact ⟨n, x, e', h', evC_mono hle (Nat.le_refl n) c h1, h2⟩
theorem up_fin {n : Nat} {Q : Nat → Nat → Prop} (hm : ∀ i N N', N ≤ N' → Q i N → Q i N') (h : ∀ i, i < n → ∃ N, Q i N) : ∃ N, ∀ i, i < n → Q i N := by
  induction n with
  | zero => exact ⟨0, fun i hi => by omega⟩
  | succ n ih =>
    obtain ⟨N, hN⟩ := ih fun i hi => h i (by omega)
    obtain ⟨M, hM⟩ := h n (by omega)
    refine ⟨max N M, fun i hi => ?_⟩
    by_cases e : i = n
    · subst e; exact hm _ _ _ (Nat.le_max_right N M) hM
    · exact hm _ _ _ (Nat.le_max_left N M) (hN i (by omega))
theorem dW_fuel {T : Nat → Option FI} {E : Ext} (hE : EMono E) : ∀ (d : D) (e : Env) (h : AH) (R : Nat → RP), (∀ N N', N ≤ N' → ∀ x e' h', R N x e' h' → R N' x e' h') → dW (WC T E) d e h (fun x e' h' => ∃ N, R N x e' h') → ∃ N, dW (Wcf (evF T E N)) d e h (R N) := by
  have le : ∀ {N N' : Nat}, N ≤ N' → (evF T E N).le (evF T E N') := fun hn => evF_mono hE hn
  have up : ∀ {N N' : Nat} (d : D) (e : Env) (h : AH) (R R' : RP), N ≤ N' → (∀ x e' h', R x e' h' → R' x e' h') → dW (Wcf (evF T E N)) d e h R → dW (Wcf (evF T E N')) d e h R' := fun d e h R R' hn hr hw => dW_mono (Wcf_mono _) d e h R R' hr (dW_imp (Wcf_mono _) (fun c e h R => Wcf_le (le hn) c e h R) d e h R hw)
  have tup : ∀ {K : Nat → Env → AH → Prop} {R : Nat → RP}, (∀ N N', N ≤ N' → ∀ e' h', K N e' h' → K N' e' h') → (∀ N N', N ≤ N' → ∀ x e' h', R N x e' h' → R N' x e' h') → ∀ N N', N ≤ N' → ∀ x e' h', then' (K N) (R N) x e' h' → then' (K N') (R N') x e' h' :=
    fun hk hr N N' hn => then_mono (hk N N' hn) (hr N N' hn)
  intro d
  induction d with
  | c c =>
    rintro e h R hm ⟨n, x, e', h', h1, N, h2⟩
    exact ⟨max n N, n, x, e', h', evC_mono (le (Nat.le_max_left n N)) (Nat.le_refl n) c h1, hm _ _ (Nat.le_max_right n N) _ _ _ h2⟩
  | nxt it dst ok =>
    rintro e h R hm ⟨c, cm, seen, es, h1, h2, h3, h4, h5⟩
    have a : ∃ N, ∀ i, i < es.length → ∀ k v, es[i]? = some (k, v) → i ∉ seen → R N .normal ((e.set dst (.tup [.bool true, k, v])).set ok (.bool true)) (h.set c (.mit cm es.length (seen ++ [i]))) := by
      refine up_fin (Q := fun i N => ∀ k v, es[i]? = some (k, v) → i ∉ seen → R N .normal ((e.set dst (.tup [.bool true, k, v])).set ok (.bool true)) (h.set c (.mit cm es.length (seen ++ [i])))) (fun i N N' hn hq k v a b => hm N N' hn _ _ _ (hq k v a b)) fun i hi => ?_
      by_cases hs : i ∈ seen
      · exact ⟨0, fun _ _ _ hns => absurd hs hns⟩
      · obtain ⟨N, hN⟩ := h4 i es[i].1 es[i].2 (List.getElem?_eq_getElem hi) hs
        refine ⟨N, fun k v hkv _ => ?_⟩
        have : es[i]? = some (es[i].1, es[i].2) := List.getElem?_eq_getElem hi
        rw [this] at hkv; cases hkv
        exact hN
    have b : ∃ N, (∀ i, i < es.length → i ∈ seen) → R N .normal ((e.set dst (.tup [.bool false])).set ok (.bool false)) h := by
      by_cases hall : ∀ i, i < es.length → i ∈ seen
      · obtain ⟨N, hN⟩ := h5 hall
        exact ⟨N, fun _ => hN⟩
      · exact ⟨0, fun x => absurd x hall⟩
    obtain ⟨N, hN⟩ := a
    obtain ⟨M, hM⟩ := b
    exact ⟨max N M, c, cm, seen, es, h1, h2, h3, fun i k v hk hs => hm _ _ (Nat.le_max_left N M) _ _ _ (hN i (List.getElem?_eq_some_iff.1 hk).1 k v hk hs), fun hall => hm _ _ (Nat.le_max_right N M) _ _ _ (hM hall)⟩
  | kl ts d ih => intro e h R hm hw; exact ih _ h R hm hw
  | seq a b iha ihb =>
    intro e h R hm hw
    refine iha e h (fun N => then' (fun e' h' => dW (Wcf (evF T E N)) b e' h' (R N)) (R N)) (tup (fun N N' hn e' h' => up b e' h' _ _ hn (hm N N' hn)) hm) ?_
    refine dW_mono (fun c e h R R' hr ⟨n, x, e', h', h1, h2⟩ => ⟨n, x, e', h', h1, hr _ _ _ h2⟩) a e h _ _ ?_ hw
    intro x e' h' hx
    cases x <;> simp only [then'] at hx ⊢
    · exact ihb e' h' R hm hx
    · exact hx
    · exact hx
  | blk id d ih =>
    intro e h R hm hw
    refine ih e h (fun N => inBlk id (R N)) (fun N N' hn => inBlk_mono (hm N N' hn)) ?_
    refine dW_mono (fun c e h R R' hr ⟨n, x, e', h', h1, h2⟩ => ⟨n, x, e', h', h1, hr _ _ _ h2⟩) d e h _ _ ?_ hw
    intro x e' h' hx
    cases x <;> simp only [inBlk] at hx ⊢
    · exact hx
    · split at hx
      · rename_i hid
        obtain ⟨N, hN⟩ := hx
        exact ⟨N, by rw [if_pos hid]; exact hN⟩
      · rename_i hid
        obtain ⟨N, hN⟩ := hx
        exact ⟨N, by rw [if_neg hid]; exact hN⟩
    · exact hx
  | loop d ih =>
    intro e h R hm ⟨n, hn⟩
    have main : ∀ n e h, dRounds (dW (WC T E) d) (fun x e' h' => ∃ N, R N x e' h') n e h → ∃ N, dRounds (dW (Wcf (evF T E N)) d) (R N) n e h := by
      intro n
      induction n with
      | zero => intro e h hw; exact hw.elim
      | succ n ihn =>
        intro e h hw
        have upr : ∀ N N', N ≤ N' → ∀ e' h', dRounds (dW (Wcf (evF T E N)) d) (R N) n e' h' → dRounds (dW (Wcf (evF T E N')) d) (R N') n e' h' := by
          intro N N' hn'
          clear ihn hw hn
          induction n with
          | zero => intro e' h' hx; exact hx
          | succ n ih2 => intro e' h' hx; exact up d e' h' _ _ hn' (then_mono (fun e2 h2 => ih2 e2 h2) (hm N N' hn')) hx
        refine ih e h (fun N => then' (fun e' h' => dRounds (dW (Wcf (evF T E N)) d) (R N) n e' h') (R N)) (tup upr hm) ?_
        refine dW_mono (fun c e h R R' hr ⟨n, x, e', h', h1, h2⟩ => ⟨n, x, e', h', h1, hr _ _ _ h2⟩) d e h _ _ ?_ hw
        intro x e' h' hx
        cases x <;> simp only [then'] at hx ⊢
        · exact ihn e' h' hx
        · exact hx
        · exact hx
    obtain ⟨N, hN⟩ := main n e h hn
    exact ⟨N, n, hN⟩
end Go.Proofs.YtejhhdpfndiliaaGreatDoor.Ab

/- CONTRACTS outside the table of bodies: functions of strings, by what they answer. -/
namespace Go.Proofs.YtejhhdpfndiliaaGreatDoor.Ab
open Go

/-- Functions that turn nothing: of strings and numbers, or of what a slice holds. -/
def pureX (G : List AV → AH → Option AV) : CF → List AV → AH → Option (AV × AH) := fun _ xs h => (G xs h).map (·, h)
def low (s : List UInt8) : Bool := s.all fun b => decide (b.toNat < 128)
def xTrim : List AV → Option AV
  | [.str s, .str c] => if s.length ≤ 4294967280 ∧ c.length ≤ 4294967280 ∧ low c = true then some (.str (Go.Lib.trimS s c)) else none
  | _ => none
def xIndexByte : List AV → Option AV
  | [.str s, .int .u8 c] => some (.int .i64 (Go.Lib.indexByte s c.toNat.toUInt8))
  | _ => none
def xIndex : List AV → Option AV
  | [.str s, .str [c]] => some (.int .i64 (Go.Lib.indexByte s c))
  | _ => none
def xContains : List AV → Option AV
  | [.str s, .str [c]] => some (.bool (decide (0 ≤ Go.Lib.indexByte s c)))
  | _ => none
def xCount : List AV → Option AV
  | [.str s, .str [c]] => some (.int .i64 (Go.Lib.countByte s c))
  | _ => none

def strsOf : List AV → Option (List (List UInt8))
  | [] => some []
  | .str s :: l => (strsOf l).map (s :: ·)
  | _ :: _ => none
def xJoin : List AV → AH → Option AV
  | [.slice c k off len e, .str sep], h => if e = 1 then match rdRow h c k off len with
    | some cs => match strsOf cs with
      | some xs => if (Go.Lib.join xs sep).length ≤ 140737488355328 ∧ len ≤ 140737488355328 then some (.str (Go.Lib.join xs sep)) else none
      | none => none
    | none => none
    else none
  | _, _ => none
def xRepeat : List AV → Option AV
  | [.str s, .int .i64 n] => if 0 ≤ n ∧ n ≤ 9223372036854775807 ∧ s.length * n.toNat ≤ 140737488355328 then some (.str (Go.Lib.repeatL s n.toNat)) else none
  | _ => none

/-- What stands ahead of i and from j on, the rest laid to zero (elements of three numbers). -/
def xDelete3 : List AV → AH → Option (AV × AH)
  | [.slice c k off n e, .int .i64 i, .int .i64 j], h => if e = 3 ∧ 0 ≤ i ∧ i < j ∧ j ≤ (n : Int) ∧ n ≤ 1099511627776 then match rdRow h c k (off + j.toNat * 3) ((n - j.toNat) * 3) with
    | some cs => match wrRow h c k (off + i.toNat * 3) cs with
      | some h1 => match wrRow h1 c k (off + (i.toNat + (n - j.toNat)) * 3) (List.replicate ((j.toNat - i.toNat) * 3) (.int .i64 0)) with
        | some h2 => some (.slice c k off (n - (j.toNat - i.toNat)) 3, h2)
        | none => none
      | none => none
    | none => none
    else none
  | _, _ => none

/-- A slice of texts in order. -/
def xSortS : List AV → AH → Option (AV × AH)
  | [.nilS], h => some (.tup [], h)
  | [.empS], h => some (.tup [], h)
  | [.slice c k off n e], h => if e = 1 ∧ 1 ≤ n ∧ n ≤ 1099511627776 then match rdRow h c k off n with
    | some cs => match strsOf cs with
      | some ss => (wrRow h c k off ((ss.mergeSort fun x y => decide (x ≤ y)).map AV.str)).map fun h' => (.tup [], h')
      | none => none
    | none => none
    else none
  | _, _ => none

/-! ### Texts parted, a sign struck, moves put in order -/
def splA (c : UInt8) : List UInt8 → List UInt8 → List (List UInt8)
  | cur, [] => [cur]
  | cur, b :: s => if b = c then cur :: splA c [] s else splA c (cur ++ [b]) s
theorem splA_cons (c : UInt8) (cur : List UInt8) (b : UInt8) (s : List UInt8) : splA c cur (b :: s) = if b = c then cur :: splA c [] s else splA c (cur ++ [b]) s := rfl
def xSplit : List AV → AH → Option (AV × AH)
  | [.str s, .str [c]], h => if s.length ≤ 4294967280 then some (.slice h.length 0 0 (splA c [] s).length 1, h ++ [.row ((splA c [] s).map AV.str) 0 0 false]) else none
  | _, _ => none
abbrev noB (c : UInt8) (s : List UInt8) : List UInt8 := s.filter fun b => !(b == c)
def xReplaceAll : List AV → Option AV
  | [.str s, .str [c], .str []] => if s.length ≤ 4294967280 then some (.str (noB c s)) else none
  | _ => none
abbrev Mo := Int × Int
def ltMo (a b : Mo) : Prop := a.1 < b.1 ∨ (a.1 = b.1 ∧ a.2 < b.2)
instance (a b : Mo) : Decidable (ltMo a b) := by unfold ltMo; infer_instance
/-- Sorted as the program sorts. -/
def srtMo (l : List Mo) : List Mo := l.mergeSort fun x y => !decide (ltMo y x)
def mosOf : List AV → Option (List Mo)
  | [] => some []
  | .int .i64 a :: .int .i64 b :: l => (mosOf l).map ((a, b) :: ·)
  | _ => none
abbrev moC (l : List Mo) : List AV := l.flatMap fun m => [.int .i64 m.1, .int .i64 m.2]
/-- A slice of moves in order, by the function f. -/
def xSortM (f : Nat) : List AV → AH → Option (AV × AH)
  | [.nilS, .fn g []], h => if g = f then some (.tup [], h) else none
  | [.empS, .fn g []], h => if g = f then some (.tup [], h) else none
  | [.slice c k off n e, .fn g []], h => if g = f ∧ n = 0 then some (.tup [], h) else if g = f ∧ e = 2 ∧ n ≤ 1099511627776 then match rdRow h c k off (n * 2) with
    | some cs => match mosOf cs with
      | some ms => (wrRow h c k off (moC (srtMo ms))).map fun h' => (.tup [], h')
      | none => none
    | none => none
    else none
  | _, _ => none

/-! ### Texts gathered from a map, whose order is not known -/
/-- impl.someReached: the code, its steps over the map left open. -/
def dSome3 : D := .kl [8, 21, 22, 23] (.c (.cond (.t 24) (.reg [⟨some 25, .mov (.t 6), none⟩, ⟨some 26, .mov (.t 7), none⟩, ⟨some 27, .lit 1 1 [.str []] [(0, 1, .t 26)], none⟩, ⟨some 28, .app 1 (.t 25) (.t 27), none⟩, ⟨some 6, .mov (.t 28), none⟩]) .skip))
def dSome2 : D := .seq (.c (.reg [⟨some 21, .mov (.t 1), none⟩, ⟨some 22, .mov (.t 7), none⟩, ⟨some 23, .mov (.t 8), none⟩, ⟨some 24, .callv (.t 21) [.t 22, .t 23], none⟩])) dSome3
def dSome1 : D := .seq (.c (.reg [⟨some 18, .ent (.t 15), none⟩, ⟨some 19, .prj 0 (.t 18), none⟩, ⟨some 20, .prj 1 (.t 18), none⟩, ⟨some 7, .mov (.t 19), none⟩, ⟨some 8, .mov (.t 20), none⟩])) (.kl [18, 19, 20] dSome2)
def dSomeL : D := .kl [7, 8, 16, 17, 18, 19, 20, 21, 22, 23, 24, 25, 26, 27, 28] (.seq (.nxt 15 16 17) (.kl [16] (.seq (.c (.cond (.t 17) .skip (.kl [1, 15, 17] (.exit 0)))) (.kl [17] (.blk 1 dSome1)))))
def dSomeT : D := .seq (.c (.reg [⟨some 29, .mov (.t 6), none⟩, ⟨some 30, .call 275 [.t 29], none⟩])) (.kl [29, 30] (.c (.seq (.reg [⟨some 31, .mov (.t 6), none⟩, ⟨some 4, .mov (.t 31), none⟩, ⟨some 5, .mov (.c (.bool true)), none⟩]) .ret)))
def dSomeM : D := .seq (.seq (.c (.reg [⟨some 13, .mov (.t 0), none⟩, ⟨some 14, .call 273 [.t 13], none⟩, ⟨some 15, .rngM (.t 14), none⟩])) (.kl [0, 13, 14] (.blk 0 (.loop dSomeL)))) dSomeT
def dSome : D :=
  .seq (.c (.reg [⟨some 4, .mov (.c .nilS), none⟩, ⟨some 5, .mov (.c (.bool false)), none⟩]))
  (.seq (.c (.seq (.reg [⟨some 9, .mov (.t 0), none⟩, ⟨some 10, .call 56 [.t 9], none⟩, ⟨some 11, .un .not (.t 10), none⟩]) (.kl [9, 10] (.cond (.t 11) (.seq (.reg [⟨some 4, .mov (.c .nilS), none⟩, ⟨some 5, .mov (.c (.bool false)), none⟩]) .ret) .skip))))
  (.kl [4, 5, 11] (.seq (.c (.reg [⟨some 12, .lit0, none⟩, ⟨some 6, .mov (.t 12), none⟩])) (.kl [12] dSomeM))))
/-- What comes of it: nil, or nothing, or a slice of one's own; a yes or no. -/
def FinR (ra rb : Nat) (h : AH) (q : Nat × Bool × List (List UInt8)) : RP := fun x e' h' => x = .ret ∧ e'.get rb = .bool q.2.1 ∧ (∀ i, i < h.length → h'[i]? = h[i]?) ∧
  ((q.1 = 0 ∧ q.2.2 = [] ∧ e'.get ra = .nilS) ∨ (q.1 = 1 ∧ q.2.2 = [] ∧ e'.get ra = .empS) ∨
   (q.1 = 2 ∧ ∃ r k off n cells fl, e'.get ra = .slice r k off n 1 ∧ h.length ≤ r ∧ h'[r]? = some (.row cells k fl false) ∧ fl ≤ k ∧ n = q.2.2.length ∧ 1 ≤ n ∧ off + n * 1 = cells.length ∧ cells.drop off = q.2.2.map AV.str))
theorem strs_inj : ∀ {a b : List (List UInt8)}, a.map AV.str = b.map AV.str → a = b
  | [], [], _ => rfl
  | [], _ :: _, h => by simp at h
  | _ :: _, [], h => by simp at h
  | x :: a, y :: b, h => by
    simp only [List.map_cons, List.cons.injEq, AV.str.injEq] at h
    rw [h.1, strs_inj h.2]
theorem FinR.uniq {ra rb : Nat} {h h' : AH} {q q' : Nat × Bool × List (List UInt8)} {x : X} {e' : Env} (a : FinR ra rb h q x e' h') (b : FinR ra rb h q' x e' h') : q = q' := by
  obtain ⟨q1, q2, q3⟩ := q
  obtain ⟨p1, p2, p3⟩ := q'
  obtain ⟨_, a1, _, a2⟩ := a
  obtain ⟨_, b1, _, b2⟩ := b
  simp only at a1 b1 a2 b2
  rw [a1] at b1
  simp only [AV.bool.injEq] at b1
  subst b1
  rcases a2 with ⟨rfl, rfl, a3⟩ | ⟨rfl, rfl, a3⟩ | ⟨rfl, r, k, off, n, cells, fl, a3, a4, a5, a6, a7, a8, a9, a10⟩ <;> rcases b2 with ⟨rfl, rfl, b3⟩ | ⟨rfl, rfl, b3⟩ | ⟨rfl, r', k', off', n', cells', fl', b3, b4, b5, b6, b7, b8, b9, b10⟩ <;> rw [a3] at b3 <;> first
    | rfl
    | (cases b3; done)
    | (simp only [AV.slice.injEq] at b3
       obtain ⟨rfl, rfl, rfl, rfl, _⟩ := b3
       rw [a5] at b5
       simp only [Option.some.injEq, AO.row.injEq] at b5
       obtain ⟨rfl, _⟩ := b5
       rw [a10] at b10
       rw [strs_inj b10])
def ansR (h : AH) (q : Nat × Bool × List (List UInt8)) : AV × AH := match q.1 with
  | 0 => (.tup [.nilS, .bool q.2.1], h)
  | 1 => (.tup [.empS, .bool q.2.1], h)
  | _ => (.tup [.slice h.length 0 0 q.2.2.length 1, .bool q.2.1], h ++ [.row (q.2.2.map AV.str) 0 0 false])
open Classical in
noncomputable def xGather (d : D) (ra rb : Nat) : CF → List AV → AH → Option (AV × AH) := fun cf xs h =>
  if H : ∃ q, dW (Wcf cf) d (Env.init 0 xs) h (FinR ra rb h q) then some (ansR h (Classical.choose H)) else none
theorem xGather_at {d : D} {ra rb : Nat} {cf : CF} {xs : List AV} {h : AH} {q : Nat × Bool × List (List UInt8)} (hq : dW (Wcf cf) d (Env.init 0 xs) h (FinR ra rb h q)) : xGather d ra rb cf xs h = some (ansR h q) := by
  have H : ∃ q, dW (Wcf cf) d (Env.init 0 xs) h (FinR ra rb h q) := ⟨q, hq⟩
  unfold xGather
  rw [dif_pos H]
  obtain ⟨x, e', h', a, b⟩ := dW_both (Wcf_both cf) d _ _ _ _ (Classical.choose_spec H) hq
  rw [FinR.uniq a b]
theorem xGather_some {d : D} {ra rb : Nat} {cf : CF} {xs : List AV} {h : AH} {r : AV × AH} (hr : xGather d ra rb cf xs h = some r) : ∃ q, dW (Wcf cf) d (Env.init 0 xs) h (FinR ra rb h q) ∧ r = ansR h q := by
  unfold xGather at hr
  split at hr
  · rename_i H
    cases hr
    exact ⟨_, Classical.choose_spec H, rfl⟩
  · cases hr
theorem xGather_mono {d : D} {ra rb : Nat} {cf cf' : CF} (hle : cf.le cf') {xs : List AV} {h : AH} {r : AV × AH} (hr : xGather d ra rb cf xs h = some r) : xGather d ra rb cf' xs h = some r := by
  obtain ⟨q, hq, rfl⟩ := xGather_some hr
  exact xGather_at (dW_imp (Wcf_mono _) (fun c e h R => Wcf_le hle c e h R) d _ _ _ hq)
noncomputable def xSome : CF → List AV → AH → Option (AV × AH) := xGather dSome 4 5

/-- impl.LinesHalfway: the code, its steps over the map left open. -/
def dHalfB : C := .seq (.cond (.t 29) (.skip) (.kl [8, 27, 29] (.exit 0))) (.kl [29] (.blk 1 (.seq (.reg [⟨some 30, .ent (.t 27), none⟩, ⟨some 31, .prj 0 (.t 30), none⟩, ⟨some 32, .prj 1 (.t 30), none⟩, ⟨some 11, .mov (.t 31), none⟩, ⟨some 12, .mov (.t 32), none⟩]) (.kl [30, 31, 32] (.seq (.reg [⟨some 33, .mov (.t 12), none⟩, ⟨some 34, .mov (.t 8), none⟩, ⟨some 35, .bin .quo (.t 34) (.c (.int .i64 2)), none⟩, ⟨some 36, .bin .eql (.t 33) (.t 35), none⟩]) (.kl [12, 33, 34, 35] (.cond (.t 36) (.kl [36] (.reg [⟨some 37, .mov (.t 10), none⟩, ⟨some 38, .mov (.t 11), none⟩, ⟨some 39, .lit 1 1 [.str []] [(0, 1, .t 38)], none⟩, ⟨some 40, .app 1 (.t 37) (.t 39), none⟩, ⟨some 10, .mov (.t 40), none⟩])) (.skip))))))))
def dHalfL : D := .kl [11, 36, 37, 38, 39, 40] (.seq (.nxt 27 28 29) (.kl [28] (.c dHalfB)))
def dHalfT : C := .seq (.reg [⟨some 41, .mov (.t 10), none⟩, ⟨some 42, .call 275 [.t 41], none⟩]) (.kl [41, 42] (.seq (.reg [⟨some 43, .mov (.t 10), none⟩, ⟨some 6, .mov (.t 43), none⟩, ⟨some 7, .mov (.c (.bool true)), none⟩]) (.kl [10, 43] (.ret))))
def dHalfM : D := .seq (.seq (.c (.reg [⟨some 23, .mov (.t 0), none⟩, ⟨some 24, .mov (.t 1), none⟩, ⟨some 25, .mov (.t 2), none⟩, ⟨some 26, .call 314 [.t 23, .t 24, .t 25], none⟩, ⟨some 27, .rngM (.t 26), none⟩])) (.kl [0, 1, 2, 23, 24, 25, 26] (.blk 0 (.loop dHalfL)))) (.c dHalfT)
def dHalf : D := .seq (.c (.reg [⟨some 6, .mov (.c (.nilS)), none⟩, ⟨some 7, .mov (.c (.bool false)), none⟩])) (.kl [6, 7] (.seq (.c (.reg [⟨some 14, .mov (.t 0), none⟩, ⟨some 15, .mov (.t 1), none⟩, ⟨some 16, .mov (.t 2), none⟩, ⟨some 17, .call 313 [.t 14, .t 15, .t 16], none⟩, ⟨some 13, .mov (.t 17), none⟩, ⟨some 18, .prj 0 (.t 13), none⟩, ⟨some 19, .prj 1 (.t 13), none⟩, ⟨some 8, .mov (.t 18), none⟩, ⟨some 9, .mov (.t 19), none⟩])) (.kl [13, 14, 15, 16, 17, 18, 19] (.seq (.c (.seq (.reg [⟨some 20, .mov (.t 9), none⟩, ⟨some 21, .un .not (.t 20), none⟩]) (.kl [9, 20] (.cond (.t 21) (.kl [0, 1, 2, 8, 21] (.seq (.reg [⟨some 6, .mov (.c (.nilS)), none⟩, ⟨some 7, .mov (.c (.bool false)), none⟩]) (.ret))) (.skip))))) (.kl [21] (.seq (.c (.reg [⟨some 22, .lit0, none⟩, ⟨some 10, .mov (.t 22), none⟩])) (.kl [22] dHalfM)))))))
noncomputable def xHalf : CF → List AV → AH → Option (AV × AH) := xGather dHalf 6 7

def xtab : List (Nat × (List AV → AH → Option AV)) := [(111, fun xs _ => xTrim xs), (126, fun xs _ => xContains xs), (255, xJoin)]
def ytab : List (Nat × (List AV → AH → Option (AV × AH))) := []
noncomputable def ztab : List (Nat × (CF → List AV → AH → Option (AV × AH))) := []
noncomputable def E : Ext := fun f => match xtab.find? fun x => x.1 == f with
  | some x => some (pureX x.2)
  | none => match ytab.find? fun x => x.1 == f with
    | some x => some fun _ xs h => x.2 xs h
    | none => (ztab.find? fun x => x.1 == f).map fun x => x.2
theorem ztab_mono : ∀ x ∈ ztab, ∀ cf cf' : CF, cf.le cf' → ∀ xs h r, x.2 cf xs h = some r → x.2 cf' xs h = some r := by
  intro x hx
  simp only [ztab, List.mem_cons, List.not_mem_nil, or_false] at hx
  all_goals cases hx
theorem hE : EMono E := by
  intro f G h cf cf' _ xs hh r hr
  unfold E at h
  split at h
  · cases h; exact hr
  · split at h
    · cases h; exact hr
    · simp only [Option.map_eq_some_iff] at h
      obtain ⟨x, hx, rfl⟩ := h
      exact ztab_mono x (List.mem_of_find?_eq_some hx) cf cf' ‹_› xs hh r hr
end Go.Proofs.YtejhhdpfndiliaaGreatDoor.Ab
