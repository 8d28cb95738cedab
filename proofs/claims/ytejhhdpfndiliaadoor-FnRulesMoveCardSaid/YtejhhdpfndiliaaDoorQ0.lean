/- Part 1 of the proof of a law of the given program: the rules that it leans on, and what the functions that it reaches answer; the conditions stand with each theorem. -/
import Derived.Tactics
import Derived.WalkKit
import Derived.Lib.Bytealg
import Derived.Lib.SlTrimSet
import Derived.Lib.Join
import Derived.Lib.Repeat
set_option linter.unusedSimpArgs false
set_option linter.unusedVariables false
/- THE ABSTRACT MACHINE: values, heap, compact instructions, evaluator. No program in sight. -/
namespace Go.Proofs.YtejhhdpfndiliaaDoor.Ab
open Go

/-! ### Values and heap -/
inductive AV where
  | int (k : IntKind) (n : Int)
  | bool (b : Bool)
  | str (s : List UInt8)
  | nilS
  | empS
  | slice (c k off len esz : Nat)
  | nilP
  | ptr (c k off n : Nat)
  | nilM
  | map (c : Nat)
  | iter (c : Nat)
  | fn (f : Nat) (cap : List AV)
  | nilF
  | agg (xs : List AV)
  | tup (xs : List AV)
  | nilI
  | ifc
  | undef
  deriving Inhabited

inductive AO where
  | row (cs : List AV) (ver floor : Nat) (ro : Bool)
  | map (es : List (AV × AV))
  | iter (s : List UInt8) (pos : Nat)
  | mit (cm since : Nat) (seen : List Nat)
  deriving Inhabited

abbrev AH := List AO

def AV.cells : AV → List AV
  | .agg xs => xs
  | v => [v]

/-- A value that fills one cell. -/
def AV.sc : AV → Bool
  | .agg _ | .tup _ | .undef => false
  | _ => true

def mkv (agg : Bool) (xs : List AV) : Option AV :=
  if agg then some (.agg xs) else match xs with
    | [v] => some v
    | _ => none

/-! ### Environments: slots that are known -/
abbrev Env := List (Nat × AV)
def Env.get : Env → Nat → AV
  | [], _ => .undef
  | (k, v) :: e, t => if k = t then v else Env.get e t
def Env.set : Env → Nat → AV → Env
  | [], t, v => [(t, v)]
  | (k, u) :: e, t, v => if k = t then (t, v) :: e else if t < k then (t, v) :: (k, u) :: e else (k, u) :: Env.set e t v
def Env.del : Env → Nat → Env
  | [], _ => []
  | (k, u) :: e, t => if k = t then Env.del e t else (k, u) :: Env.del e t
def Env.dels (e : Env) : List Nat → Env
  | [] => e
  | t :: ts => Env.dels (e.del t) ts
def Env.init : Nat → List AV → Env
  | _, [] => []
  | i, v :: vs => (i, v) :: Env.init (i + 1) vs

/-! ### Instructions -/
inductive Opd where
  | t (n : Nat)
  | c (v : AV)

inductive AOp where
  | mov (x : Opd)
  | pick (c a b : Opd)
  | bin (op : BinOp) (x y : Opd)
  | beq (neg : Bool) (x y : Opd)
  | aeq (neg : Bool) (kds : List Nat) (x y : Opd)
  | niq (neg : Bool) (kd : Nat) (x : Opd)
  | un (op : UnOp) (x : Opd)
  | conv (k : IntKind) (x : Opd)
  | toB (x : Opd)
  | ofB (x : Opd)
  | ofR (x : Opd)
  | new (zero : List AV)
  | box (x : Opd)
  | build (zero : List AV) (parts : List (Nat × Nat × Opd))
  | lit (esz len : Nat) (zero : List AV) (parts : List (Nat × Nat × Opd))
  | lit0
  | load (agg : Bool) (n : Nat) (a : Opd)
  | store (n : Nat) (a x : Opd)
  | nck (x : Opd)
  | faddr (off n : Nat) (a : Opd)
  | fld (agg : Bool) (off n : Nat) (x : Opd)
  | iaddr (esz : Nat) (x i : Opd)
  | iaddrA (len esz : Nat) (a i : Opd)
  | idx (agg : Bool) (len esz : Nat) (x i : Opd)
  | idxS (x i : Opd)
  | sub (esz : Nat) (x : Opd) (lo hi : Option Opd)
  | sub0 (x : Opd) (hi mx : Opd)
  | subS (x : Opd) (lo hi : Option Opd)
  | subA (len esz : Nat) (a : Opd) (lo hi : Option Opd)
  | make (esz : Nat) (zero : List AV) (len cap : Opd)
  | mkmap
  | mkfn (f : Nat) (caps : List Opd)
  | look (kd : Nat) (zero : AV) (ok : Bool) (m k : Opd)
  | mset (kd : Nat) (m k v : Opd)
  | mlen (m : Opd)
  | rng (x : Opd)
  | rngM (x : Opd)
  | ent (it : Opd)
  | nxt (it : Opd)
  | prj (i : Nat) (x : Opd)
  | call (f : Nat) (xs : List Opd)
  | callv (x : Opd) (xs : List Opd)
  | lenS (x : Opd)
  | lenV (x : Opd)
  | app (esz : Nat) (s x : Opd)
  | appS (s x : Opd)
  | copy (esz : Nat) (d s : Opd)
  | clr (zero : List AV) (x : Opd)
  | mmx (max : Bool) (x y : Opd)

structure I where
  dst : Option Nat
  op : AOp
  grd : Option (Nat × Bool) := none

inductive C where
  | skip
  | reg (is : List I)
  | drw (is : List I) (ps : List (Nat × Nat))
  | kl (ts : List Nat) (c : C)
  | seq (a b : C)
  | cond (x : Opd) (a b : C)
  | blk (id : Nat) (c : C)
  | loop (c : C)
  | exit (id : Nat)
  | ret
  | bad

inductive Res where
  | tmp (t : Nat)
  | cell (agg : Bool) (n : Nat) (t : Nat)

structure FI where
  body : C
  res : List Res

/-! ### Memory -/
def room : Nat := 1099511627776

def rdRow (h : AH) (c k off n : Nat) : Option (List AV) :=
  match h[c]? with
  | some (.row cs ver fl _) => if fl ≤ k ∧ k ≤ ver ∧ off + n ≤ cs.length then some ((cs.drop off).take n) else none
  | _ => none

def splice {α : Type} (cs : List α) (off : Nat) (vs : List α) : List α := cs.take off ++ vs ++ cs.drop (off + vs.length)

def wrRow (h : AH) (c k off : Nat) (vs : List AV) : Option AH :=
  match h[c]? with
  | some (.row cs ver fl false) => if k = ver ∧ fl ≤ ver ∧ off + vs.length ≤ cs.length ∧ vs.all AV.sc = true then some (h.set c (.row (splice cs off vs) ver ver false)) else none
  | _ => none

def newRow (h : AH) (cs : List AV) : Option (Nat × AH) := if cs.all AV.sc = true then some (h.length, h ++ [.row cs 0 0 false]) else none

/-- What a slice or a string holds, cell by cell. -/
def cellsOf (h : AH) : AV → Option (List AV)
  | .nilS | .empS => some []
  | .slice c k off len esz => rdRow h c k off (len * esz)
  | .str s => some (s.map fun b => .int .u8 b.toNat)
  | _ => none

/-- append: of n elements, the cells vs; where the slice ends as its row does. -/
def apRow1 (h : AH) (esz : Nat) (s : AV) (n : Nat) (vs : List AV) : Option (AV × AH) :=
  match s with
  | .nilS => if n = 0 then some (.nilS, h) else if n ≤ room then (newRow h vs).map fun (c, h') => (.slice c 0 0 n esz, h') else none
  | .empS => if n = 0 then some (.empS, h) else if n ≤ room then (newRow h vs).map fun (c, h') => (.slice c 0 0 n esz, h') else none
  | .slice c k off len e =>
    match h[c]? with
    | some (.row cs ver fl false) =>
      if e = esz ∧ k = ver ∧ off + len * esz = cs.length ∧ fl ≤ ver ∧ vs.all AV.sc = true ∧ len + n ≤ room then
        some (.slice c (ver + 1) off (len + n) esz, h.set c (.row (cs ++ vs) (ver + 1) fl false)) else none
    | _ => none
  | _ => none

/-- append: of n elements, the cells vs; what lies behind the slice is given up. -/
def apRow (h : AH) (esz : Nat) (s : AV) (n : Nat) (vs : List AV) : Option (AV × AH) :=
  match s with
  | .slice c k off len e =>
    match h[c]? with
    | some (.row cs ver fl false) =>
      if e = esz ∧ k = ver ∧ off + len * esz = cs.length ∧ fl ≤ ver ∧ vs.all AV.sc = true ∧ len + n ≤ room then
        some (.slice c (ver + 1) off (len + n) esz, h.set c (.row (cs ++ vs) (ver + 1) fl false))
      else if e = esz ∧ k = ver ∧ off + len * esz ≤ cs.length ∧ fl ≤ ver ∧ vs.all AV.sc = true ∧ len + n ≤ room then
        some (.slice c (ver + 2) off (len + n) esz, h.set c (.row (cs.take (off + len * esz) ++ vs) (ver + 2) (ver + 1) false))
      else none
    | _ => none
  | _ => apRow1 h esz s n vs

/-! ### Keys of maps -/
def keyEq : AV → AV → Option Bool
  | .int k a, .int k' b => if k = k' then some (a == b) else none
  | .str a, .str b => some (a == b)
  | .bool a, .bool b => some (a == b)
  | _, _ => none
def keyIs : Nat → AV → Bool
  | 0, .int _ _ | 1, .str _ | 2, .bool _ => true
  | _, _ => false
def seqL : List Nat → List AV → List AV → Option Bool
  | [], [], [] => some true
  | kd :: kds, x :: xs, y :: ys => match keyIs kd x, keyEq x y, seqL kds xs ys with
    | true, some a, some b => some (a && b)
    | _, _, _ => none
  | _, _, _ => none

def mfind (k : AV) : List (AV × AV) → Option (Option AV)
  | [] => some none
  | (a, v) :: es => match keyEq k a with
    | some true => some (some v)
    | some false => mfind k es
    | none => none
def mput (k v : AV) : List (AV × AV) → List (AV × AV)
  | [] => [(k, v)]
  | (a, u) :: es => match keyEq k a with
    | some true => (k, v) :: es
    | _ => (a, u) :: mput k v es

/-! ### Operations -/
def two63 : Nat := 9223372036854775807
def binI (op : BinOp) (k : IntKind) (x y : Int) : Option AV :=
  match op with
  | .add => some (.int k (k.wrap (x + y)))
  | .sub => some (.int k (k.wrap (x - y)))
  | .mul => some (.int k (k.wrap (x * y)))
  | .quo => if y = 0 then none else some (.int k (k.wrap (x.tdiv y)))
  | .rem => if y = 0 then none else some (.int k (x.tmod y))
  | .and | .or | .xor | .andNot => some (.int k (bits op k x y))
  | .eql => some (.bool (x == y))
  | .neq => some (.bool (x != y))
  | .lss => some (.bool (decide (x < y)))
  | .leq => some (.bool (decide (x ≤ y)))
  | .gtr => some (.bool (decide (x > y)))
  | .geq => some (.bool (decide (x ≥ y)))
  | .shl | .shr => none
def binSh (op : BinOp) (k : IntKind) (x y : Int) : Option AV :=
  if y < 0 then none else match op with
  | .shl => some (.int k (k.wrap (x * 2 ^ (min y.toNat k.bits))))
  | .shr => some (.int k (x.fdiv (2 ^ (min y.toNat k.bits))))
  | _ => none
def binS (op : BinOp) (x y : List UInt8) : Option AV :=
  match op with
  | .add => if x.length + y.length ≤ two63 then some (.str (x ++ y)) else none
  | .eql => some (.bool (x == y))
  | .neq => some (.bool (!(x == y)))
  | .lss => some (.bool (Op.bytesLess x y))
  | .leq => some (.bool (Op.bytesLess x y || x == y))
  | .gtr => some (.bool (!(Op.bytesLess x y || x == y)))
  | .geq => some (.bool (!(Op.bytesLess x y)))
  | _ => none
def evBin (op : BinOp) : AV → AV → Option AV
  | .int k x, .int k' y => match op with
    | .shl | .shr => binSh op k x y
    | _ => if k = k' then binI op k x y else none
  | .str x, .str y => binS op x y
  | _, _ => none

def evNil : Nat → AV → Option Bool
  | 0, .nilS | 1, .nilP | 2, .nilM | 3, .nilF | 4, .nilI => some true
  | 0, .empS | 0, .slice .. | 1, .ptr .. | 2, .map _ | 3, .fn .. | 4, .ifc => some false
  | _, _ => none

def byte1 : AV → Option UInt8
  | .int .u8 n => some (UInt8.ofNat n.toNat)
  | _ => none
def bytesL : List AV → Option (List UInt8)
  | [] => some []
  | v :: vs => match byte1 v, bytesL vs with
    | some b, some bs => some (b :: bs)
    | _, _ => none

def fillP (cells : List AV) : List (Nat × Nat × AV) → Option (List AV)
  | [] => some cells
  | (off, n, v) :: rest => if v.cells.length = n ∧ off + n ≤ cells.length ∧ v.cells.all AV.sc = true then fillP (splice cells off v.cells) rest else none

def dec (s : List UInt8) (pos : Nat) : Int × Nat := let (c, w) := Utf8.decode ⟨s.toArray⟩ pos; (c, w)

def bnd (o : Option AV) (d top : Nat) : Option Nat :=
  match o with
  | none => some d
  | some (.int _ i) => if 0 ≤ i ∧ i ≤ top then some i.toNat else none
  | _ => none

abbrev CF := Nat → List AV → AH → Option (AV × AH)

def optv (ρ : Opd → AV) : Option Opd → Option AV
  | none => none
  | some x => some (ρ x)

def evOp (cf : CF) (ρ : Opd → AV) (h : AH) : AOp → Option (AV × AH)
  | .mov x => some (ρ x, h)
  | .pick c a b => match ρ c with
    | .bool t => some (if t then ρ a else ρ b, h)
    | _ => none
  | .bin op x y => (evBin op (ρ x) (ρ y)).map (·, h)
  | .beq neg x y => match ρ x, ρ y with
    | .bool a, .bool b => some (.bool (if neg then !(a == b) else a == b), h)
    | _, _ => none
  | .aeq neg kds x y => match ρ x, ρ y with
    | .agg xs, .agg ys => (seqL kds xs ys).map fun b => (.bool (if neg then !b else b), h)
    | _, _ => none
  | .niq neg kd x => (evNil kd (ρ x)).map fun b => (.bool (if neg then !b else b), h)
  | .un op x => match op, ρ x with
    | .neg, .int k n => some (.int k (k.wrap (0 - n)), h)
    | .not, .bool b => some (.bool (!b), h)
    | _, _ => none
  | .conv k x => match ρ x with
    | .int _ n => some (.int k (k.wrap n), h)
    | _ => none
  | .toB x => match ρ x with
    | .str s => if s.length ≤ room then (newRow h (s.map fun b => .int .u8 b.toNat)).map fun (c, h') => (.slice c 0 0 s.length 1, h') else none
    | _ => none
  | .ofB x => match ρ x with
    | .nilS | .empS => some (.str [], h)
    | .slice c k off len e => if e = 1 then match rdRow h c k off len with
        | some cs => (bytesL cs).map fun s => (.str s, h)
        | none => none
      else none
    | _ => none
  | .ofR x => match ρ x with
    | .int _ n => some (.str (Utf8.encode n).data.toList, h)
    | _ => none
  | .new zero => (newRow h zero).map fun (c, h') => (.ptr c 0 0 zero.length, h')
  | .box x => match ρ x with
    | .undef | .tup _ => none
    | v => (newRow h v.cells).map fun (c, h') => (.ptr c 0 0 v.cells.length, h')
  | .build zero parts => (fillP zero (parts.map fun (o, n, x) => (o, n, ρ x))).map fun cs => (.agg cs, h)
  | .lit esz len zero parts => match fillP zero (parts.map fun (o, n, x) => (o, n, ρ x)) with
    | some cs => (newRow h cs).map fun (c, h') => (.slice c 0 0 len esz, h')
    | none => none
  | .lit0 => some (.empS, h)
  | .load agg n a => match ρ a with
    | .ptr c k off m => if n ≤ m then match rdRow h c k off n with
        | some cs => (mkv agg cs).map (·, h)
        | none => none
      else none
    | _ => none
  | .store n a x => match ρ a with
    | .ptr c k off m => if n ≤ m ∧ (ρ x).cells.length = n then (wrRow h c k off (ρ x).cells).map fun h' => (.undef, h') else none
    | _ => none
  | .nck x => match ρ x with
    | .ptr c k off n => some (.ptr c k off n, h)
    | .fn f cs => some (.fn f cs, h)
    | _ => none
  | .faddr off n a => match ρ a with
    | .ptr c k o m => if off + n ≤ m then some (.ptr c k (o + off) n, h) else none
    | _ => none
  | .fld agg off n x => match ρ x with
    | .agg xs => if off + n ≤ xs.length then (mkv agg ((xs.drop off).take n)).map (·, h) else none
    | _ => none
  | .iaddr esz x i => match ρ x, ρ i with
    | .slice c k off len e, .int _ j => if e = esz ∧ 0 ≤ j ∧ j < len then some (.ptr c k (off + j.toNat * esz) esz, h) else none
    | _, _ => none
  | .iaddrA len esz a i => match ρ a, ρ i with
    | .ptr c k off m, .int _ j => if len * esz ≤ m ∧ 0 ≤ j ∧ j < len then some (.ptr c k (off + j.toNat * esz) esz, h) else none
    | _, _ => none
  | .idx agg len esz x i => match ρ x, ρ i with
    | .agg xs, .int _ j => if xs.length = len * esz ∧ 0 ≤ j ∧ j < len then (mkv agg ((xs.drop (j.toNat * esz)).take esz)).map (·, h) else none
    | _, _ => none
  | .idxS x i => match ρ x, ρ i with
    | .str s, .int _ j => if 0 ≤ j ∧ j < s.length then some (.int .u8 (s.getD j.toNat 0).toNat, h) else none
    | _, _ => none
  | .sub esz x lo hi => match ρ x with
    | .nilS => match bnd (optv ρ hi) 0 0 with
      | some b => match bnd (optv ρ lo) 0 b with
        | some _ => some (.nilS, h)
        | none => none
      | none => none
    | .empS => match bnd (optv ρ hi) 0 0 with
      | some b => match bnd (optv ρ lo) 0 b with
        | some _ => some (.empS, h)
        | none => none
      | none => none
    | .slice c k off len e => if e = esz then match bnd (optv ρ hi) len len with
        | some b => match bnd (optv ρ lo) 0 b with
          | some a => some (.slice c k (off + a * esz) (b - a) esz, h)
          | none => none
        | none => none
      else none
    | _ => none
  | .sub0 x hi mx => match ρ x, ρ hi, ρ mx with
    | .nilS, .int _ 0, .int _ 0 => some (.nilS, h)
    | .empS, .int _ 0, .int _ 0 => some (.empS, h)
    | .slice .., .int _ 0, .int _ 0 => some (.empS, h)
    | _, _, _ => none
  | .subS x lo hi => match ρ x with
    | .str s => match bnd (optv ρ hi) s.length s.length with
      | some b => match bnd (optv ρ lo) 0 b with
        | some a => some (.str ((s.drop a).take (b - a)), h)
        | none => none
      | none => none
    | _ => none
  | .subA len esz a lo hi => match ρ a with
    | .ptr c k off m => if len * esz ≤ m ∧ (rdRow h c k off (len * esz)).isSome = true then match bnd (optv ρ hi) len len with
        | some b => match bnd (optv ρ lo) 0 b with
          | some a => some (.slice c k (off + a * esz) (b - a) esz, h)
          | none => none
        | none => none
      else none
    | _ => none
  | .make esz zero len cap => match ρ len, ρ cap with
    | .int _ n, .int _ m => if 0 ≤ n ∧ n ≤ m ∧ m ≤ room ∧ zero.length = esz then
        (newRow h (List.replicate n.toNat zero).flatten).map fun (c, h') => (.slice c 0 0 n.toNat esz, h') else none
    | _, _ => none
  | .mkmap => some (.map h.length, h ++ [.map []])
  | .mkfn f caps => some (.fn f (caps.map ρ), h)
  | .look kd zero ok m k => if keyIs kd (ρ k) = true then match (match ρ m with
      | .nilM => some []
      | .map c => match h[c]? with
        | some (.map es) => some es
        | _ => none
      | _ => none) with
    | some es => match mfind (ρ k) es with
      | some (some v) => some (if ok then .tup [v, .bool true] else v, h)
      | some none => some (if ok then .tup [zero, .bool false] else zero, h)
      | none => none
    | none => none
    else none
  | .mset kd m k v => if keyIs kd (ρ k) = true then match ρ m with
    | .map c => match h[c]? with
      | some (.map es) => match mfind (ρ k) es with
        | some _ => match ρ v with
          | .undef => none
          | u => some (.undef, h.set c (.map (mput (ρ k) u es)))
        | none => none
      | _ => none
    | _ => none
    else none
  | .mlen m => match ρ m with
    | .nilM => some (.int .i64 0, h)
    | .map c => match h[c]? with
      | some (.map es) => some (.int .i64 es.length, h)
      | _ => none
    | _ => none
  | .rng x => match ρ x with
    | .str s => some (.iter h.length, h ++ [.iter s 0])
    | _ => none
  | .rngM x => match ρ x with
    | .map c => match h[c]? with
      | some (.map es) => some (.iter h.length, h ++ [.mit c es.length []])
      | _ => none
    | _ => none
  | .ent it => match ρ it with
    | .iter c => match h[c]? with
      | some (.mit cm since seen) => match h[cm]? with
        | some (.map es) => match seen.getLast? with
          | some i => if es.length = since then (es[i]?).map fun e => (.tup [e.1, e.2], h) else none
          | none => none
        | _ => none
      | _ => none
    | _ => none
  | .nxt it => match ρ it with
    | .iter c => match h[c]? with
      | some (.iter s pos) => if pos < s.length then
          some (.tup [.bool true, .int .i64 pos, .int .i32 (dec s pos).1], h.set c (.iter s (pos + (dec s pos).2)))
        else some (.tup [.bool false], h)
      | _ => none
    | _ => none
  | .prj i x => match ρ x with
    | .tup vs => (vs[i]?).map (·, h)
    | _ => none
  | .call f xs => cf f (xs.map ρ) h
  | .callv x xs => match ρ x with
    | .fn f cap => cf f (xs.map ρ ++ cap) h
    | _ => none
  | .lenS x => match ρ x with
    | .str s => some (.int .i64 s.length, h)
    | _ => none
  | .lenV x => match ρ x with
    | .nilS | .empS => some (.int .i64 0, h)
    | .slice _ _ _ len _ => some (.int .i64 len, h)
    | _ => none
  | .app esz s x => match ρ x with
    | .nilS | .empS => apRow h esz (ρ s) 0 []
    | .slice c k off len e => if e = esz then match rdRow h c k off (len * esz) with
        | some vs => apRow h esz (ρ s) len vs
        | none => none
      else none
    | _ => none
  | .appS s x => match ρ x with
    | .str b => apRow h 1 (ρ s) b.length (b.map fun b => .int .u8 b.toNat)
    | _ => none
  | .copy esz d s => match ρ d, ρ s with
    | .slice c k off len e, .slice c' k' off' len' e' => if e = esz ∧ e' = esz then
        if min len' len = 0 then some (.int .i64 0, h) else match rdRow h c' k' off' (min len' len * esz) with
        | some vs => (wrRow h c k off vs).map fun h' => (.int .i64 ((min len' len : Nat) : Int), h')
        | none => none
      else none
    | _, _ => none
  | .clr zero x => match ρ x with
    | .nilS | .empS => some (.tup [], h)
    | .slice c k off len e => if e = zero.length then
        if len = 0 then some (.tup [], h) else (wrRow h c k off (List.replicate len zero).flatten).map fun h' => (.tup [], h')
      else none
    | _ => none
  | .mmx mx x y => match ρ x, ρ y with
    | .int k a, .int k' b => if k = k' then some (.int k (if mx then (if b > a then b else a) else (if b < a then b else a)), h) else none
    | .str a, .str b => if mx then none else some (.str (if (Op.bytesLess a b || a == b) then a else b), h)
    | _, _ => none

def env (e : Env) : Opd → AV
  | .t n => e.get n
  | .c v => v

def put (e : Env) (d : Option Nat) (v : AV) : Env :=
  match d with
  | some t => e.set t v
  | none => e

def evI (cf : CF) (i : I) (e : Env) (h : AH) : Option (Env × AH) :=
  match i.grd with
  | none => (evOp cf (env e) h i.op).map fun (v, h') => (put e i.dst v, h')
  | some (t, want) => match e.get t with
    | .bool b => if b = want then (evOp cf (env e) h i.op).map fun (v, h') => (put e i.dst v, h') else some (put e i.dst (.tup []), h)
    | .tup [] => some (put e i.dst (.tup []), h)
    | _ => none

def evR (cf : CF) : List I → Env → AH → Option (Env × AH)
  | [], e, h => some (e, h)
  | i :: is, e, h => match evI cf i e h with
    | some (e', h') => evR cf is e' h'
    | none => none

inductive X where
  | normal
  | exit (id : Nat)
  | ret

/-- The state before operation i of a region. -/
def stateAt (cf : CF) (is : List I) (i : Nat) (e : Env) (h : AH) : Option (Env × AH) := evR cf (is.take i) e h

def noCall : CF := fun _ _ _ => none

/-- What operation j reads does not turn by operation i. -/
def Stable (cf : CF) (is : List I) (e : Env) (h : AH) (j i : Nat) : Prop :=
  ∀ o e1 h1 e2 h2 e3 h3, is[j]? = some o → stateAt cf is j e h = some (e1, h1) → stateAt cf is i e h = some (e2, h2) → stateAt cf is (i + 1) e h = some (e3, h3) →
    (evOp noCall (env e1) h2 o.op).map (·.1) = (evOp noCall (env e1) h3 o.op).map (·.1)

open Classical in
/-- Pairs (j, i): a read and what does not turn it; (k, k): a literal that may be laid early. -/
noncomputable def evDraw (cf : CF) (is : List I) (ps : List (Nat × Nat)) (e : Env) (h : AH) : Option (Env × AH) :=
  if ∀ p ∈ ps, p.1 = p.2 ∨ Stable cf is e h p.1 p.2 then evR cf is e h else none

def evLoop (step : Env → AH → Option (X × Env × AH)) : Nat → Env → AH → Option (X × Env × AH)
  | 0, _, _ => none
  | n + 1, e, h => match step e h with
    | some (.normal, e', h') => evLoop step n e' h'
    | r => r

noncomputable def evC (cf : CF) (n : Nat) : C → Env → AH → Option (X × Env × AH)
  | .skip, e, h => some (.normal, e, h)
  | .reg is, e, h => (evR cf is e h).map fun (e', h') => (.normal, e', h')
  | .drw is ps, e, h => (evDraw cf is ps e h).map fun (e', h') => (.normal, e', h')
  | .kl ts c, e, h => evC cf n c (e.dels ts) h
  | .seq a b, e, h => match evC cf n a e h with
    | some (.normal, e', h') => evC cf n b e' h'
    | r => r
  | .cond x a b, e, h => match env e x with
    | .bool t => if t then evC cf n a e h else evC cf n b e h
    | _ => none
  | .blk id c, e, h => match evC cf n c e h with
    | some (.exit id', e', h') => if id' = id then some (.normal, e', h') else some (.exit id', e', h')
    | r => r
  | .loop c, e, h => evLoop (evC cf n c) n e h
  | .exit id, e, h => some (.exit id, e, h)
  | .ret, e, h => some (.ret, e, h)
  | .bad, _, _ => none

def res1 (e : Env) (h : AH) : Res → Option AV
  | .tmp t => some (e.get t)
  | .cell agg n t => match e.get t with
    | .ptr c k off m => if n ≤ m then match rdRow h c k off n with
        | some cs => mkv agg cs
        | none => none
      else none
    | _ => none
def resL (e : Env) (h : AH) : List Res → Option (List AV)
  | [] => some []
  | r :: rs => match res1 e h r, resL e h rs with
    | some v, some vs => some (v :: vs)
    | _, _ => none
def resV (e : Env) (h : AH) (rs : List Res) : Option AV :=
  match resL e h rs with
  | some [v] => some v
  | some vs => some (.tup vs)
  | none => none

abbrev Ext := Nat → Option (CF → List AV → AH → Option (AV × AH))

noncomputable def evF (T : Nat → Option FI) (E : Ext) : Nat → CF
  | 0 => fun _ _ _ => none
  | n + 1 => fun f xs h => match E f with
    | some F => F (evF T E n) xs h
    | none => match T f with
      | some fi => match evC (evF T E n) n fi.body (Env.init 0 xs) h with
        | some (.normal, e, h') => (resV e h' fi.res).map (·, h')
        | some (.ret, e, h') => (resV e h' fi.res).map (·, h')
        | _ => none
      | none => none

end Go.Proofs.YtejhhdpfndiliaaDoor.Ab

/- BODIES of functions as compact literals, written by gen.py. -/
namespace Go.Proofs.YtejhhdpfndiliaaDoor.Ab
open Go

-- lp23_0 HEAD [1, 5, 6, 7, 13, 132, 133, 134] | exit 0: [1, 5, 6, 7, 13] | ret: [4]
-- lp23_1 HEAD [1, 5, 6, 13, 143, 144, 145] | exit 2: [1] | ret: [4]
-- lp23_2 HEAD [40, 41, 59, 372, 373, 374] | exit 4: [41, 59] | ret: [4]
/-- laws.FnRulesMove -/
def lb23_2 : C := .kl [388] (.seq (.reg [⟨some 375, .bin .lss (.t 374) (.t 373), none⟩]) (.seq (.cond (.t 375) (.skip) (.kl [40, 372, 373, 374, 375] (.exit 4))) (.kl [375] (.seq (.blk 5 (.seq (.reg [⟨some 376, .iaddr 2 (.t 372) (.t 374), none⟩, ⟨some 377, .load true 2 (.t 376), none⟩, ⟨some 61, .new [.int .i64 0, .int .i64 0], none⟩, ⟨none, .store 2 (.t 61) (.t 377), none⟩]) (.kl [376, 377] (.seq (.reg [⟨some 379, .mov (.t 59), none⟩, ⟨some 380, .load true 2 (.t 61), none⟩, ⟨some 381, .load true 3 (.t 40), none⟩, ⟨some 382, .call 1 [.t 379, .t 380, .t 381], none⟩, ⟨some 378, .mov (.t 382), none⟩, ⟨some 383, .prj 0 (.t 378), none⟩, ⟨some 384, .prj 1 (.t 378), none⟩, ⟨some 62, .mov (.t 383), none⟩, ⟨some 63, .mov (.t 384), none⟩]) (.kl [59, 61, 378, 379, 380, 381, 382, 383, 384] (.seq (.seq (.reg [⟨some 385, .mov (.t 63), none⟩, ⟨some 386, .un .not (.t 385), none⟩]) (.kl [63, 385] (.cond (.t 386) (.kl [40, 41, 62, 372, 373, 374, 386] (.seq (.reg [⟨some 4, .mov (.c (.bool false)), none⟩]) (.ret))) (.skip)))) (.kl [386] (.reg [⟨some 387, .mov (.t 62), none⟩, ⟨some 59, .mov (.t 387), none⟩])))))))) (.kl [62, 387] (.reg [⟨some 388, .bin .add (.t 374) (.c (.int .i64 1)), none⟩, ⟨some 374, .mov (.t 388), none⟩]))))))
def lp23_2 : C := lb23_2
def lb23_1 : C := .kl [206] (.seq (.reg [⟨some 146, .bin .lss (.t 145) (.t 144), none⟩]) (.seq (.cond (.t 146) (.skip) (.kl [5, 6, 13, 143, 144, 145, 146] (.exit 2))) (.kl [146] (.seq (.blk 3 (.seq (.reg [⟨some 147, .iaddr 2 (.t 143) (.t 145), none⟩, ⟨some 148, .load true 2 (.t 147), none⟩, ⟨some 20, .new [.int .i64 0, .int .i64 0], none⟩, ⟨none, .store 2 (.t 20) (.t 148), none⟩]) (.kl [147, 148] (.seq (.reg [⟨some 150, .mov (.t 5), none⟩, ⟨some 151, .load true 2 (.t 20), none⟩, ⟨some 152, .load true 3 (.t 6), none⟩, ⟨some 153, .call 13 [.t 150, .t 151, .t 152], none⟩, ⟨some 149, .mov (.t 153), none⟩, ⟨some 154, .prj 0 (.t 149), none⟩, ⟨some 155, .prj 1 (.t 149), none⟩, ⟨some 21, .mov (.t 154), none⟩, ⟨some 22, .mov (.t 155), none⟩]) (.kl [149, 150, 151, 152, 153, 154, 155] (.seq (.reg [⟨some 157, .mov (.t 5), none⟩, ⟨some 158, .load true 2 (.t 20), none⟩, ⟨some 159, .load true 3 (.t 6), none⟩, ⟨some 160, .call 1 [.t 157, .t 158, .t 159], none⟩, ⟨some 156, .mov (.t 160), none⟩, ⟨some 161, .prj 0 (.t 156), none⟩, ⟨some 162, .prj 1 (.t 156), none⟩, ⟨some 23, .mov (.t 161), none⟩, ⟨some 24, .mov (.t 162), none⟩]) (.kl [156, 157, 158, 159, 160, 161, 162] (.seq (.seq (.reg [⟨some 163, .mov (.t 13), none⟩, ⟨some 164, .load true 2 (.t 20), none⟩, ⟨some 165, .call 15 [.t 163, .t 164], none⟩, ⟨some 166, .un .not (.t 165), none⟩, ⟨some 167, .mov (.t 166), none⟩, ⟨some 168, .mov (.t 22), some (167, false)⟩, ⟨some 169, .un .not (.t 168), some (167, false)⟩, ⟨some 170, .pick (.t 167) (.c (.bool true)) (.t 169), none⟩, ⟨some 171, .mov (.t 170), none⟩, ⟨some 172, .mov (.t 21), some (171, false)⟩, ⟨some 173, .un .not (.t 172), some (171, false)⟩, ⟨some 174, .pick (.t 171) (.c (.bool true)) (.t 173), none⟩, ⟨some 175, .mov (.t 174), none⟩, ⟨some 176, .mov (.t 24), some (175, false)⟩, ⟨some 177, .un .not (.t 176), some (175, false)⟩, ⟨some 178, .pick (.t 175) (.c (.bool true)) (.t 177), none⟩, ⟨some 179, .mov (.t 178), none⟩, ⟨some 180, .mov (.t 23), some (179, false)⟩, ⟨some 181, .lenS (.t 180), some (179, false)⟩, ⟨some 182, .mov (.t 5), some (179, false)⟩, ⟨some 183, .lenS (.t 182), some (179, false)⟩, ⟨some 184, .bin .neq (.t 181) (.t 183), some (179, false)⟩, ⟨some 185, .pick (.t 179) (.c (.bool true)) (.t 184), none⟩]) (.kl [21, 22, 24, 163, 164, 165, 166, 167, 168, 169, 170, 171, 172, 173, 174, 175, 176, 177, 178, 179, 180, 181, 182, 183, 184] (.cond (.t 185) (.kl [1, 5, 6, 13, 20, 23, 143, 144, 145, 185] (.seq (.reg [⟨some 4, .mov (.c (.bool false)), none⟩]) (.ret))) (.skip)))) (.kl [185] (.seq (.reg [⟨some 186, .faddr 1 1 (.t 6), none⟩, ⟨some 187, .load false 1 (.t 186), none⟩]) (.kl [186] (.cond (.t 187) (.kl [187] (.seq (.reg [⟨some 189, .mov (.t 23), none⟩, ⟨some 190, .faddr 1 1 (.t 20), none⟩, ⟨some 191, .load false 1 (.t 190), none⟩, ⟨some 192, .faddr 0 1 (.t 20), none⟩, ⟨some 193, .load false 1 (.t 192), none⟩, ⟨some 194, .build [.int .i64 0, .int .i64 0] [(0, 1, .t 191), (1, 1, .t 193)], none⟩, ⟨some 195, .load true 3 (.t 6), none⟩, ⟨some 196, .call 1 [.t 189, .t 194, .t 195], none⟩, ⟨some 188, .mov (.t 196), none⟩, ⟨some 197, .prj 0 (.t 188), none⟩, ⟨some 198, .prj 1 (.t 188), none⟩, ⟨some 25, .mov (.t 197), none⟩, ⟨some 26, .mov (.t 198), none⟩]) (.kl [20, 23, 188, 189, 190, 191, 192, 193, 194, 195, 196, 197, 198] (.seq (.reg [⟨some 199, .mov (.t 26), none⟩, ⟨some 200, .un .not (.t 199), none⟩, ⟨some 201, .mov (.t 200), none⟩, ⟨some 202, .mov (.t 25), some (201, false)⟩, ⟨some 203, .mov (.t 5), some (201, false)⟩, ⟨some 204, .bin .neq (.t 202) (.t 203), some (201, false)⟩, ⟨some 205, .pick (.t 201) (.c (.bool true)) (.t 204), none⟩]) (.kl [25, 26, 199, 200, 201, 202, 203, 204] (.cond (.t 205) (.kl [1, 5, 6, 13, 143, 144, 145, 205] (.seq (.reg [⟨some 4, .mov (.c (.bool false)), none⟩]) (.ret))) (.skip))))))) (.skip))))))))))))) (.kl [20, 23, 187, 205] (.reg [⟨some 206, .bin .add (.t 145) (.c (.int .i64 1)), none⟩, ⟨some 145, .mov (.t 206), none⟩]))))))
def lp23_1 : C := lb23_1
def lb23_0 : C := .kl [142] (.seq (.reg [⟨some 135, .bin .lss (.t 134) (.t 133), none⟩]) (.seq (.cond (.t 135) (.skip) (.kl [132, 133, 134, 135] (.exit 0))) (.kl [135] (.seq (.blk 1 (.seq (.reg [⟨some 136, .iaddr 2 (.t 132) (.t 134), none⟩, ⟨some 137, .load true 2 (.t 136), none⟩, ⟨some 18, .new [.int .i64 0, .int .i64 0], none⟩, ⟨none, .store 2 (.t 18) (.t 137), none⟩]) (.kl [136, 137] (.seq (.reg [⟨some 138, .mov (.t 7), none⟩, ⟨some 139, .load true 2 (.t 18), none⟩, ⟨some 140, .call 15 [.t 138, .t 139], none⟩, ⟨some 141, .un .not (.t 140), none⟩]) (.kl [18, 138, 139, 140] (.cond (.t 141) (.kl [1, 5, 6, 7, 13, 132, 133, 134, 141] (.seq (.reg [⟨some 4, .mov (.c (.bool false)), none⟩]) (.ret))) (.skip))))))) (.kl [141] (.reg [⟨some 142, .bin .add (.t 134) (.c (.int .i64 1)), none⟩, ⟨some 134, .mov (.t 142), none⟩]))))))
def lp23_0 : C := lb23_0
def fi23 : FI := ⟨.seq (.reg [⟨some 4, .mov (.c (.bool false)), none⟩]) (.kl [4] (.seq (.seq (.reg [⟨some 64, .mov (.t 0), none⟩, ⟨some 65, .mov (.t 1), none⟩, ⟨some 66, .call 22 [.t 64, .t 65], none⟩]) (.kl [64, 65] (.cond (.t 66) (.kl [0, 1, 66] (.seq (.reg [⟨some 4, .mov (.c (.bool true)), none⟩]) (.ret))) (.skip)))) (.kl [66] (.seq (.reg [⟨some 68, .mov (.t 0), none⟩, ⟨some 69, .call 21 [.t 68], none⟩, ⟨some 67, .mov (.t 69), none⟩, ⟨some 70, .prj 0 (.t 67), none⟩, ⟨some 71, .prj 1 (.t 67), none⟩, ⟨some 6, .new [.bool false, .bool false, .bool false], none⟩, ⟨some 5, .mov (.t 70), none⟩, ⟨none, .store 3 (.t 6) (.t 71), none⟩]) (.kl [0, 67, 68, 69, 70, 71] (.seq (.reg [⟨some 73, .mov (.t 5), none⟩, ⟨some 74, .load true 3 (.t 6), none⟩, ⟨some 75, .call 18 [.t 73, .t 74], none⟩, ⟨some 72, .mov (.t 75), none⟩, ⟨some 76, .prj 0 (.t 72), none⟩, ⟨some 77, .prj 1 (.t 72), none⟩, ⟨some 7, .mov (.t 76), none⟩, ⟨some 8, .mov (.t 77), none⟩]) (.kl [72, 73, 74, 75, 76, 77] (.seq (.reg [⟨some 79, .mov (.t 5), none⟩, ⟨some 80, .load true 3 (.t 6), none⟩, ⟨some 81, .call 20 [.t 79, .t 80], none⟩, ⟨some 78, .mov (.t 81), none⟩, ⟨some 82, .prj 0 (.t 78), none⟩, ⟨some 83, .prj 1 (.t 78), none⟩, ⟨some 9, .mov (.t 82), none⟩, ⟨some 10, .mov (.t 83), none⟩]) (.kl [78, 79, 80, 81, 82, 83] (.seq (.seq (.reg [⟨some 84, .mov (.t 8), none⟩, ⟨some 85, .mov (.t 10), none⟩, ⟨some 86, .beq true (.t 84) (.t 85), none⟩, ⟨some 87, .mov (.t 86), none⟩, ⟨some 88, .mov (.t 7), some (87, false)⟩, ⟨some 89, .mov (.t 9), some (87, false)⟩, ⟨some 90, .call 16 [.t 88, .t 89], some (87, false)⟩, ⟨some 91, .un .not (.t 90), some (87, false)⟩, ⟨some 92, .pick (.t 87) (.c (.bool true)) (.t 91), none⟩]) (.kl [9, 10, 84, 85, 86, 87, 88, 89, 90, 91] (.cond (.t 92) (.kl [1, 5, 6, 7, 8, 92] (.seq (.reg [⟨some 4, .mov (.c (.bool false)), none⟩]) (.ret))) (.skip)))) (.kl [92] (.seq (.seq (.reg [⟨some 93, .mov (.t 8), none⟩]) (.kl [8] (.cond (.t 93) (.kl [93] (.seq (.reg [⟨some 95, .mov (.t 5), none⟩, ⟨some 96, .call 19 [.t 95], none⟩, ⟨some 94, .mov (.t 96), none⟩, ⟨some 97, .prj 0 (.t 94), none⟩, ⟨some 98, .prj 1 (.t 94), none⟩, ⟨some 11, .mov (.t 97), none⟩, ⟨some 12, .mov (.t 98), none⟩]) (.kl [94, 95, 96, 97, 98] (.seq (.reg [⟨some 100, .mov (.t 5), none⟩, ⟨some 101, .build [.bool false, .bool false, .bool false] [(0, 1, .c (.bool true)), (1, 1, .c (.bool true)), (2, 1, .c (.bool true))], none⟩, ⟨some 102, .call 18 [.t 100, .t 101], none⟩, ⟨some 99, .mov (.t 102), none⟩, ⟨some 103, .prj 0 (.t 99), none⟩, ⟨some 104, .prj 1 (.t 99), none⟩, ⟨some 13, .mov (.t 103), none⟩, ⟨some 14, .mov (.t 104), none⟩]) (.kl [99, 100, 101, 102, 103, 104] (.seq (.reg [⟨some 106, .mov (.t 5), none⟩, ⟨some 107, .build [.bool false, .bool false, .bool false] [], none⟩, ⟨some 108, .call 18 [.t 106, .t 107], none⟩, ⟨some 105, .mov (.t 108), none⟩, ⟨some 109, .prj 0 (.t 105), none⟩, ⟨some 110, .prj 1 (.t 105), none⟩, ⟨some 15, .mov (.t 109), none⟩, ⟨some 16, .mov (.t 110), none⟩]) (.kl [105, 106, 107, 108, 109, 110] (.seq (.seq (.reg [⟨some 111, .mov (.t 12), none⟩, ⟨some 112, .un .not (.t 111), none⟩, ⟨some 113, .mov (.t 112), none⟩, ⟨some 114, .mov (.t 14), some (113, false)⟩, ⟨some 115, .un .not (.t 114), some (113, false)⟩, ⟨some 116, .pick (.t 113) (.c (.bool true)) (.t 115), none⟩, ⟨some 117, .mov (.t 116), none⟩, ⟨some 118, .mov (.t 16), some (117, false)⟩, ⟨some 119, .un .not (.t 118), some (117, false)⟩, ⟨some 120, .pick (.t 117) (.c (.bool true)) (.t 119), none⟩, ⟨some 121, .mov (.t 120), none⟩, ⟨some 122, .mov (.t 15), some (121, false)⟩, ⟨some 123, .mov (.t 11), some (121, false)⟩, ⟨some 124, .call 16 [.t 122, .t 123], some (121, false)⟩, ⟨some 125, .un .not (.t 124), some (121, false)⟩, ⟨some 126, .pick (.t 121) (.c (.bool true)) (.t 125), none⟩, ⟨some 127, .mov (.t 126), none⟩, ⟨some 128, .mov (.t 7), some (127, false)⟩, ⟨some 129, .call 17 [.t 128], some (127, false)⟩, ⟨some 130, .un .not (.t 129), some (127, false)⟩, ⟨some 131, .pick (.t 127) (.c (.bool true)) (.t 130), none⟩]) (.kl [12, 14, 15, 16, 111, 112, 113, 114, 115, 116, 117, 118, 119, 120, 121, 122, 123, 124, 125, 126, 127, 128, 129, 130] (.cond (.t 131) (.kl [1, 5, 6, 7, 11, 13, 131] (.seq (.reg [⟨some 4, .mov (.c (.bool false)), none⟩]) (.ret))) (.skip)))) (.kl [131] (.seq (.seq (.reg [⟨some 132, .mov (.t 11), none⟩, ⟨some 133, .lenV (.t 132), none⟩, ⟨some 134, .mov (.c (.int .i64 0)), none⟩]) (.kl [11] (.blk 0 (.loop lp23_0)))) (.seq (.reg [⟨some 143, .mov (.t 7), none⟩, ⟨some 144, .lenV (.t 143), none⟩, ⟨some 145, .mov (.c (.int .i64 0)), none⟩]) (.kl [7] (.blk 2 (.loop lp23_1)))))))))))))) (.skip)))) (.kl [5, 6, 7, 93] (.seq (.reg [⟨some 208, .mov (.t 1), none⟩, ⟨some 209, .call 14 [.t 208], none⟩, ⟨some 207, .mov (.t 209), none⟩, ⟨some 210, .prj 0 (.t 207), none⟩, ⟨some 211, .prj 1 (.t 207), none⟩, ⟨some 212, .prj 2 (.t 207), none⟩, ⟨some 28, .new [.int .i64 0, .int .i64 0], none⟩, ⟨some 29, .new [.bool false, .bool false, .bool false], none⟩, ⟨some 27, .mov (.t 210), none⟩, ⟨none, .store 2 (.t 28) (.t 211), none⟩, ⟨none, .store 3 (.t 29) (.t 212), none⟩]) (.kl [207, 208, 209, 210, 211, 212] (.seq (.reg [⟨some 214, .mov (.t 27), none⟩, ⟨some 215, .load true 2 (.t 28), none⟩, ⟨some 216, .load true 3 (.t 29), none⟩, ⟨some 217, .call 13 [.t 214, .t 215, .t 216], none⟩, ⟨some 213, .mov (.t 217), none⟩, ⟨some 218, .prj 0 (.t 213), none⟩, ⟨some 219, .prj 1 (.t 213), none⟩, ⟨some 30, .mov (.t 218), none⟩, ⟨some 31, .mov (.t 219), none⟩]) (.kl [213, 214, 215, 216, 217, 218, 219] (.seq (.reg [⟨some 221, .mov (.t 27), none⟩, ⟨some 222, .load true 2 (.t 28), none⟩, ⟨some 223, .load true 3 (.t 29), none⟩, ⟨some 224, .call 12 [.t 221, .t 222, .t 223], none⟩, ⟨some 220, .mov (.t 224), none⟩, ⟨some 225, .prj 0 (.t 220), none⟩, ⟨some 226, .prj 1 (.t 220), none⟩, ⟨some 32, .mov (.t 225), none⟩, ⟨some 33, .mov (.t 226), none⟩]) (.kl [220, 221, 222, 223, 224, 225, 226] (.seq (.reg [⟨some 228, .mov (.t 27), none⟩, ⟨some 229, .load true 2 (.t 28), none⟩, ⟨some 230, .load true 3 (.t 29), none⟩, ⟨some 231, .call 1 [.t 228, .t 229, .t 230], none⟩, ⟨some 227, .mov (.t 231), none⟩, ⟨some 232, .prj 0 (.t 227), none⟩, ⟨some 233, .prj 1 (.t 227), none⟩, ⟨some 34, .mov (.t 232), none⟩, ⟨some 35, .mov (.t 233), none⟩]) (.kl [227, 228, 229, 230, 231, 232, 233] (.seq (.reg [⟨some 235, .mov (.t 27), none⟩, ⟨some 236, .load true 2 (.t 28), none⟩, ⟨some 237, .load true 3 (.t 29), none⟩, ⟨some 238, .call 11 [.t 235, .t 236, .t 237], none⟩, ⟨some 234, .mov (.t 238), none⟩, ⟨some 239, .prj 0 (.t 234), none⟩, ⟨some 240, .prj 1 (.t 234), none⟩, ⟨some 36, .mov (.t 239), none⟩, ⟨some 37, .mov (.t 240), none⟩]) (.kl [27, 28, 29, 234, 235, 236, 237, 238, 239, 240] (.seq (.reg [⟨some 242, .mov (.t 1), none⟩, ⟨some 243, .call 10 [.t 242], none⟩, ⟨some 241, .mov (.t 243), none⟩, ⟨some 244, .prj 0 (.t 241), none⟩, ⟨some 245, .prj 1 (.t 241), none⟩, ⟨some 246, .prj 2 (.t 241), none⟩, ⟨some 40, .new [.bool false, .bool false, .bool false], none⟩, ⟨some 38, .mov (.t 244), none⟩, ⟨some 39, .mov (.t 245), none⟩, ⟨none, .store 3 (.t 40) (.t 246), none⟩]) (.kl [241, 242, 243, 244, 245, 246] (.seq (.reg [⟨some 248, .mov (.t 38), none⟩, ⟨some 249, .mov (.t 39), none⟩, ⟨some 250, .load true 3 (.t 40), none⟩, ⟨some 251, .call 9 [.t 248, .t 249, .t 250], none⟩, ⟨some 247, .mov (.t 251), none⟩, ⟨some 252, .prj 0 (.t 247), none⟩, ⟨some 253, .prj 1 (.t 247), none⟩, ⟨some 41, .mov (.t 252), none⟩, ⟨some 42, .mov (.t 253), none⟩]) (.kl [247, 248, 249, 250, 251, 252, 253] (.seq (.reg [⟨some 255, .mov (.t 38), none⟩, ⟨some 256, .mov (.t 39), none⟩, ⟨some 257, .load true 3 (.t 40), none⟩, ⟨some 258, .call 8 [.t 255, .t 256, .t 257], none⟩, ⟨some 254, .mov (.t 258), none⟩, ⟨some 259, .prj 0 (.t 254), none⟩, ⟨some 260, .prj 1 (.t 254), none⟩, ⟨some 43, .mov (.t 259), none⟩, ⟨some 44, .mov (.t 260), none⟩]) (.kl [254, 255, 256, 257, 258, 259, 260] (.seq (.reg [⟨some 261, .mov (.t 1), none⟩, ⟨some 262, .call 7 [.t 261], none⟩, ⟨some 45, .new [.bool false, .bool false, .bool false], none⟩, ⟨none, .store 3 (.t 45) (.t 262), none⟩]) (.kl [261, 262] (.seq (.reg [⟨some 264, .load true 3 (.t 45), none⟩, ⟨some 265, .call 2 [.t 264], none⟩, ⟨some 263, .mov (.t 265), none⟩, ⟨some 266, .prj 0 (.t 263), none⟩, ⟨some 267, .prj 1 (.t 263), none⟩, ⟨some 46, .mov (.t 266), none⟩, ⟨some 47, .mov (.t 267), none⟩]) (.kl [263, 264, 265, 266, 267] (.seq (.reg [⟨some 269, .load true 3 (.t 45), none⟩, ⟨some 270, .call 6 [.t 269], none⟩, ⟨some 268, .mov (.t 270), none⟩, ⟨some 271, .prj 0 (.t 268), none⟩, ⟨some 272, .prj 1 (.t 268), none⟩, ⟨some 48, .mov (.t 271), none⟩, ⟨some 49, .mov (.t 272), none⟩]) (.kl [268, 269, 270, 271, 272] (.seq (.reg [⟨some 273, .mov (.t 1), none⟩, ⟨some 274, .call 5 [.t 273], none⟩, ⟨some 50, .mov (.t 274), none⟩]) (.kl [1, 273, 274] (.seq (.reg [⟨some 276, .mov (.t 50), none⟩, ⟨some 277, .call 3 [.t 276], none⟩, ⟨some 275, .mov (.t 277), none⟩, ⟨some 278, .prj 0 (.t 275), none⟩, ⟨some 279, .prj 1 (.t 275), none⟩, ⟨some 51, .new [.bool false, .bool false, .bool false], none⟩, ⟨none, .store 3 (.t 51) (.t 278), none⟩, ⟨some 52, .mov (.t 279), none⟩]) (.kl [275, 276, 277, 278, 279] (.seq (.reg [⟨some 281, .mov (.t 50), none⟩, ⟨some 282, .call 4 [.t 281], none⟩, ⟨some 280, .mov (.t 282), none⟩, ⟨some 283, .prj 0 (.t 280), none⟩, ⟨some 284, .prj 1 (.t 280), none⟩, ⟨some 53, .new [.bool false, .bool false, .bool false], none⟩, ⟨none, .store 3 (.t 53) (.t 283), none⟩, ⟨some 54, .mov (.t 284), none⟩]) (.kl [280, 281, 282, 283, 284] (.seq (.seq (.reg [⟨some 285, .mov (.t 31), none⟩, ⟨some 286, .mov (.t 33), none⟩, ⟨some 287, .beq true (.t 285) (.t 286), none⟩, ⟨some 288, .mov (.t 287), none⟩, ⟨some 289, .mov (.t 30), some (288, false)⟩, ⟨some 290, .mov (.t 32), some (288, false)⟩, ⟨some 291, .beq true (.t 289) (.t 290), some (288, false)⟩, ⟨some 292, .pick (.t 288) (.c (.bool true)) (.t 291), none⟩, ⟨some 293, .mov (.t 292), none⟩, ⟨some 294, .mov (.t 35), some (293, false)⟩, ⟨some 295, .mov (.t 37), some (293, false)⟩, ⟨some 296, .beq true (.t 294) (.t 295), some (293, false)⟩, ⟨some 297, .pick (.t 293) (.c (.bool true)) (.t 296), none⟩, ⟨some 298, .mov (.t 297), none⟩, ⟨some 299, .mov (.t 34), some (298, false)⟩, ⟨some 300, .mov (.t 36), some (298, false)⟩, ⟨some 301, .bin .neq (.t 299) (.t 300), some (298, false)⟩, ⟨some 302, .pick (.t 298) (.c (.bool true)) (.t 301), none⟩, ⟨some 303, .mov (.t 302), none⟩, ⟨some 304, .mov (.t 42), some (303, false)⟩, ⟨some 305, .mov (.t 44), some (303, false)⟩, ⟨some 306, .beq true (.t 304) (.t 305), some (303, false)⟩, ⟨some 307, .pick (.t 303) (.c (.bool true)) (.t 306), none⟩, ⟨some 308, .mov (.t 307), none⟩, ⟨some 309, .mov (.t 41), some (308, false)⟩, ⟨some 310, .mov (.t 43), some (308, false)⟩, ⟨some 311, .bin .neq (.t 309) (.t 310), some (308, false)⟩, ⟨some 312, .pick (.t 308) (.c (.bool true)) (.t 311), none⟩, ⟨some 313, .mov (.t 312), none⟩, ⟨some 314, .mov (.t 47), some (313, false)⟩, ⟨some 315, .mov (.t 49), some (313, false)⟩, ⟨some 316, .beq true (.t 314) (.t 315), some (313, false)⟩, ⟨some 317, .pick (.t 313) (.c (.bool true)) (.t 316), none⟩, ⟨some 318, .mov (.t 317), none⟩, ⟨some 319, .mov (.t 46), some (318, false)⟩, ⟨some 320, .mov (.t 48), some (318, false)⟩, ⟨some 321, .bin .neq (.t 319) (.t 320), some (318, false)⟩, ⟨some 322, .pick (.t 318) (.c (.bool true)) (.t 321), none⟩, ⟨some 323, .mov (.t 322), none⟩, ⟨some 324, .mov (.t 52), some (323, false)⟩, ⟨some 325, .mov (.t 54), some (323, false)⟩, ⟨some 326, .beq true (.t 324) (.t 325), some (323, false)⟩, ⟨some 327, .pick (.t 323) (.c (.bool true)) (.t 326), none⟩, ⟨some 328, .mov (.t 327), none⟩, ⟨some 329, .load true 3 (.t 51), some (328, false)⟩, ⟨some 330, .load true 3 (.t 53), some (328, false)⟩, ⟨some 331, .aeq true [2, 2, 2] (.t 329) (.t 330), some (328, false)⟩, ⟨some 332, .pick (.t 328) (.c (.bool true)) (.t 331), none⟩, ⟨some 333, .mov (.t 332), none⟩, ⟨some 334, .mov (.t 35), some (333, false)⟩, ⟨some 335, .mov (.t 31), some (333, false)⟩, ⟨some 336, .mov (.t 335), some (333, false)⟩, ⟨some 337, .mov (.t 30), some (336, true)⟩, ⟨some 338, .pick (.t 336) (.t 337) (.c (.bool false)), some (333, false)⟩, ⟨some 339, .beq true (.t 334) (.t 338), some (333, false)⟩, ⟨some 340, .pick (.t 333) (.c (.bool true)) (.t 339), none⟩, ⟨some 341, .mov (.t 340), none⟩, ⟨some 342, .mov (.t 47), some (341, false)⟩, ⟨some 343, .un .not (.t 342), some (341, false)⟩, ⟨some 344, .pick (.t 341) (.c (.bool true)) (.t 343), none⟩]) (.kl [30, 31, 32, 33, 34, 35, 36, 37, 43, 44, 47, 48, 49, 53, 54, 285, 286, 287, 288, 289, 290, 291, 292, 293, 294, 295, 296, 297, 298, 299, 300, 301, 302, 303, 304, 305, 306, 307, 308, 309, 310, 311, 312, 313, 314, 315, 316, 317, 318, 319, 320, 321, 322, 323, 324, 325, 326, 327, 328, 329, 330, 331, 332, 333, 334, 335, 336, 337, 338, 339, 340, 341, 342, 343] (.cond (.t 344) (.kl [38, 39, 40, 41, 42, 45, 46, 50, 51, 52, 344] (.seq (.reg [⟨some 4, .mov (.c (.bool false)), none⟩]) (.ret))) (.skip)))) (.kl [344] (.seq (.reg [⟨some 346, .mov (.t 46), none⟩, ⟨some 347, .call 3 [.t 346], none⟩, ⟨some 345, .mov (.t 347), none⟩, ⟨some 348, .prj 0 (.t 345), none⟩, ⟨some 349, .prj 1 (.t 345), none⟩, ⟨some 55, .new [.bool false, .bool false, .bool false], none⟩, ⟨none, .store 3 (.t 55) (.t 348), none⟩, ⟨some 56, .mov (.t 349), none⟩]) (.kl [46, 345, 346, 347, 348, 349] (.seq (.seq (.reg [⟨some 350, .mov (.t 56), none⟩, ⟨some 351, .un .not (.t 350), none⟩, ⟨some 352, .mov (.t 351), none⟩, ⟨some 353, .load true 3 (.t 55), some (352, false)⟩, ⟨some 354, .load true 3 (.t 45), some (352, false)⟩, ⟨some 355, .aeq true [2, 2, 2] (.t 353) (.t 354), some (352, false)⟩, ⟨some 356, .pick (.t 352) (.c (.bool true)) (.t 355), none⟩]) (.kl [45, 55, 56, 350, 351, 352, 353, 354, 355] (.cond (.t 356) (.kl [38, 39, 40, 41, 42, 50, 51, 52, 356] (.seq (.reg [⟨some 4, .mov (.c (.bool false)), none⟩]) (.ret))) (.skip)))) (.kl [356] (.seq (.seq (.reg [⟨some 357, .mov (.t 52), none⟩]) (.kl [52] (.cond (.t 357) (.kl [357] (.seq (.reg [⟨some 359, .load true 3 (.t 51), none⟩, ⟨some 360, .call 2 [.t 359], none⟩, ⟨some 358, .mov (.t 360), none⟩, ⟨some 361, .prj 0 (.t 358), none⟩, ⟨some 362, .prj 1 (.t 358), none⟩, ⟨some 57, .mov (.t 361), none⟩, ⟨some 58, .mov (.t 362), none⟩]) (.kl [51, 358, 359, 360, 361, 362] (.seq (.reg [⟨some 363, .mov (.t 58), none⟩, ⟨some 364, .un .not (.t 363), none⟩, ⟨some 365, .mov (.t 364), none⟩, ⟨some 366, .mov (.t 57), some (365, false)⟩, ⟨some 367, .mov (.t 50), some (365, false)⟩, ⟨some 368, .bin .neq (.t 366) (.t 367), some (365, false)⟩, ⟨some 369, .pick (.t 365) (.c (.bool true)) (.t 368), none⟩]) (.kl [50, 57, 58, 363, 364, 365, 366, 367, 368] (.cond (.t 369) (.kl [38, 39, 40, 41, 42, 369] (.seq (.reg [⟨some 4, .mov (.c (.bool false)), none⟩]) (.ret))) (.skip))))))) (.skip)))) (.kl [50, 51, 357, 369] (.seq (.seq (.reg [⟨some 370, .mov (.t 42), none⟩]) (.kl [42] (.cond (.t 370) (.kl [370] (.seq (.reg [⟨some 371, .mov (.t 38), none⟩, ⟨some 59, .mov (.t 371), none⟩]) (.kl [38, 371] (.seq (.seq (.reg [⟨some 372, .mov (.t 39), none⟩, ⟨some 373, .lenV (.t 372), none⟩, ⟨some 374, .mov (.c (.int .i64 0)), none⟩]) (.kl [39] (.blk 4 (.loop lp23_2)))) (.seq (.reg [⟨some 389, .mov (.t 59), none⟩, ⟨some 390, .mov (.t 41), none⟩, ⟨some 391, .bin .eql (.t 389) (.t 390), none⟩, ⟨some 4, .mov (.t 391), none⟩]) (.kl [41, 59, 389, 390, 391] (.ret))))))) (.skip)))) (.kl [38, 39, 40, 41, 370] (.seq (.reg [⟨some 4, .mov (.c (.bool true)), none⟩]) (.ret))))))))))))))))))))))))))))))))))))))))))))))))))))), [.tmp 4]⟩
/-- laws.big -/
def fi22 : FI := ⟨.seq (.reg [⟨some 4, .mov (.c (.bool false)), none⟩]) (.kl [4] (.seq (.reg [⟨some 5, .mov (.t 0), none⟩, ⟨some 6, .lenV (.t 5), none⟩, ⟨some 7, .bin .gtr (.t 6) (.c (.int .i64 1048576)), none⟩, ⟨some 8, .mov (.t 7), none⟩, ⟨some 9, .mov (.t 1), some (8, false)⟩, ⟨some 10, .lenV (.t 9), some (8, false)⟩, ⟨some 11, .mov (.t 0), some (8, false)⟩, ⟨some 12, .lenV (.t 11), some (8, false)⟩, ⟨some 13, .bin .sub (.c (.int .i64 1048576)) (.t 12), some (8, false)⟩, ⟨some 14, .bin .gtr (.t 10) (.t 13), some (8, false)⟩, ⟨some 15, .pick (.t 8) (.c (.bool true)) (.t 14), none⟩, ⟨some 4, .mov (.t 15), none⟩]) (.kl [0, 1, 5, 6, 7, 8, 9, 10, 11, 12, 13, 14, 15] (.ret)))), [.tmp 4]⟩
/-- spec.DrawRuleMoves -/
def fi21 : FI := ⟨.seq (.reg [⟨some 2, .mov (.c (.str [])), none⟩, ⟨some 3, .new [.bool false, .bool false, .bool false], none⟩]) (.kl [2] (.seq (.reg [⟨some 6, .mov (.t 0), none⟩, ⟨some 7, .build [.nilS, .int .i64 0, .int .u64 0] [(0, 1, .t 6)], none⟩, ⟨some 8, .box (.t 7), none⟩, ⟨some 4, .mov (.t 8), none⟩]) (.kl [0, 6, 7, 8] (.seq (.reg [⟨some 9, .mov (.t 4), none⟩, ⟨some 10, .call 54 [.t 9], none⟩, ⟨some 5, .mov (.t 10), none⟩]) (.kl [9, 10] (.seq (.reg [⟨some 11, .mov (.t 5), none⟩, ⟨some 12, .mov (.t 4), none⟩, ⟨some 13, .call 53 [.t 12], none⟩, ⟨some 2, .mov (.t 11), none⟩, ⟨none, .store 3 (.t 3) (.t 13), none⟩]) (.kl [4, 5, 11, 12, 13] (.ret)))))))), [.tmp 2, .cell true 3 3]⟩
/-- impl.RuleMoves -/
def fi18 : FI := ⟨.seq (.reg [⟨some 3, .box (.t 1), none⟩, ⟨some 4, .mov (.c (.nilS)), none⟩, ⟨some 5, .mov (.c (.bool false)), none⟩]) (.kl [1, 4, 5] (.seq (.seq (.reg [⟨some 6, .mov (.t 0), none⟩, ⟨some 7, .call 56 [.t 6], none⟩, ⟨some 8, .un .not (.t 7), none⟩]) (.kl [6, 7] (.cond (.t 8) (.kl [0, 3, 8] (.seq (.reg [⟨some 4, .mov (.c (.nilS)), none⟩, ⟨some 5, .mov (.c (.bool false)), none⟩]) (.ret))) (.skip)))) (.kl [8] (.seq (.reg [⟨some 9, .mov (.t 0), none⟩, ⟨some 10, .load true 3 (.t 3), none⟩, ⟨some 11, .call 55 [.t 9, .t 10], none⟩, ⟨some 4, .mov (.t 11), none⟩, ⟨some 5, .mov (.c (.bool true)), none⟩]) (.kl [0, 3, 9, 10, 11] (.ret)))))), [.tmp 4, .tmp 5]⟩
/-- spec.RuleMoves -/
def fi20 : FI := ⟨.seq (.reg [⟨some 3, .box (.t 1), none⟩, ⟨some 4, .mov (.c (.nilS)), none⟩, ⟨some 5, .mov (.c (.bool false)), none⟩]) (.kl [1, 4, 5] (.seq (.seq (.reg [⟨some 6, .mov (.t 0), none⟩, ⟨some 7, .call 58 [.t 6], none⟩, ⟨some 8, .un .not (.t 7), none⟩]) (.kl [6, 7] (.cond (.t 8) (.kl [0, 3, 8] (.seq (.reg [⟨some 4, .mov (.c (.nilS)), none⟩, ⟨some 5, .mov (.c (.bool false)), none⟩]) (.ret))) (.skip)))) (.kl [8] (.seq (.reg [⟨some 9, .mov (.t 0), none⟩, ⟨some 10, .load true 3 (.t 3), none⟩, ⟨some 11, .call 57 [.t 9, .t 10], none⟩, ⟨some 4, .mov (.t 11), none⟩, ⟨some 5, .mov (.c (.bool true)), none⟩]) (.kl [0, 3, 9, 10, 11] (.ret)))))), [.tmp 4, .tmp 5]⟩
-- lp16_0 HEAD [0, 1, 12, 13] | exit 0: [] | ret: [4]
/-- laws.yMoves -/
def lb16_0 : C := .kl [25] (.seq (.reg [⟨some 14, .bin .lss (.t 13) (.t 12), none⟩]) (.seq (.cond (.t 14) (.skip) (.kl [0, 1, 12, 13, 14] (.exit 0))) (.kl [14] (.seq (.blk 1 (.seq (.reg [⟨some 15, .mov (.t 13), none⟩, ⟨some 5, .mov (.t 15), none⟩]) (.kl [15] (.seq (.drw [⟨some 16, .mov (.t 0), none⟩, ⟨some 17, .mov (.t 5), none⟩, ⟨some 18, .iaddr 2 (.t 16) (.t 17), none⟩, ⟨some 19, .load true 2 (.t 18), none⟩, ⟨some 20, .mov (.t 1), none⟩, ⟨some 21, .mov (.t 5), none⟩, ⟨some 22, .iaddr 2 (.t 20) (.t 21), none⟩, ⟨some 23, .load true 2 (.t 22), none⟩, ⟨some 24, .aeq true [0, 0] (.t 19) (.t 23), none⟩] []) (.kl [5, 16, 17, 18, 19, 20, 21, 22, 23] (.cond (.t 24) (.kl [0, 1, 12, 13, 24] (.seq (.reg [⟨some 4, .mov (.c (.bool false)), none⟩]) (.ret))) (.skip))))))) (.kl [24] (.reg [⟨some 25, .bin .add (.t 13) (.c (.int .i64 1)), none⟩, ⟨some 13, .mov (.t 25), none⟩]))))))
def lp16_0 : C := lb16_0
def fi16 : FI := ⟨.seq (.reg [⟨some 4, .mov (.c (.bool false)), none⟩]) (.kl [4] (.seq (.seq (.reg [⟨some 6, .mov (.t 0), none⟩, ⟨some 7, .lenV (.t 6), none⟩, ⟨some 8, .mov (.t 1), none⟩, ⟨some 9, .lenV (.t 8), none⟩, ⟨some 10, .bin .neq (.t 7) (.t 9), none⟩]) (.kl [6, 7, 8, 9] (.cond (.t 10) (.kl [0, 1, 10] (.seq (.reg [⟨some 4, .mov (.c (.bool false)), none⟩]) (.ret))) (.skip)))) (.kl [10] (.seq (.seq (.reg [⟨some 11, .mov (.t 0), none⟩, ⟨some 12, .lenV (.t 11), none⟩, ⟨some 13, .mov (.c (.int .i64 0)), none⟩]) (.kl [11] (.blk 0 (.loop lp16_0)))) (.seq (.reg [⟨some 4, .mov (.c (.bool true)), none⟩]) (.ret)))))), [.tmp 4]⟩
/-- impl.MovesOf -/
def fi19 : FI := ⟨.seq (.reg [⟨some 2, .mov (.c (.nilS)), none⟩, ⟨some 3, .mov (.c (.bool false)), none⟩]) (.kl [2, 3] (.seq (.reg [⟨some 4, .mov (.t 0), none⟩, ⟨some 5, .call 59 [.t 4, .c (.str [84, 70])], none⟩, ⟨some 6, .prj 0 (.t 5), none⟩, ⟨some 7, .prj 1 (.t 5), none⟩, ⟨some 2, .mov (.t 6), none⟩, ⟨some 3, .mov (.t 7), none⟩]) (.kl [0, 4, 5, 6, 7] (.ret)))), [.tmp 2, .tmp 3]⟩
-- lp17_0 HEAD [0, 3] | exit 0: [] | ret: [2]
/-- laws.yOrder -/
def lb17_0 : C := .kl [8, 9] (.seq (.seq (.reg [⟨some 4, .mov (.t 3), none⟩, ⟨some 5, .mov (.t 0), none⟩, ⟨some 6, .lenV (.t 5), none⟩, ⟨some 7, .bin .lss (.t 4) (.t 6), none⟩]) (.kl [4, 5, 6] (.cond (.t 7) (.skip) (.kl [0, 3, 7] (.exit 0))))) (.kl [7] (.seq (.blk 1 (.seq (.drw [⟨some 10, .mov (.t 0), none⟩, ⟨some 11, .mov (.t 3), none⟩, ⟨some 12, .bin .sub (.t 11) (.c (.int .i64 1)), none⟩, ⟨some 13, .iaddr 2 (.t 10) (.t 12), none⟩, ⟨some 14, .faddr 0 1 (.t 13), none⟩, ⟨some 15, .load false 1 (.t 14), none⟩, ⟨some 16, .mov (.t 0), none⟩, ⟨some 17, .mov (.t 3), none⟩, ⟨some 18, .iaddr 2 (.t 16) (.t 17), none⟩, ⟨some 19, .faddr 0 1 (.t 18), none⟩, ⟨some 20, .load false 1 (.t 19), none⟩, ⟨some 21, .bin .gtr (.t 15) (.t 20), none⟩, ⟨some 22, .mov (.t 21), none⟩, ⟨some 23, .mov (.t 0), some (22, false)⟩, ⟨some 24, .mov (.t 3), some (22, false)⟩, ⟨some 25, .bin .sub (.t 24) (.c (.int .i64 1)), some (22, false)⟩, ⟨some 26, .iaddr 2 (.t 23) (.t 25), some (22, false)⟩, ⟨some 27, .faddr 0 1 (.t 26), some (22, false)⟩, ⟨some 28, .load false 1 (.t 27), some (22, false)⟩, ⟨some 29, .mov (.t 0), some (22, false)⟩, ⟨some 30, .mov (.t 3), some (22, false)⟩, ⟨some 31, .iaddr 2 (.t 29) (.t 30), some (22, false)⟩, ⟨some 32, .faddr 0 1 (.t 31), some (22, false)⟩, ⟨some 33, .load false 1 (.t 32), some (22, false)⟩, ⟨some 34, .bin .eql (.t 28) (.t 33), some (22, false)⟩, ⟨some 35, .mov (.t 34), some (22, false)⟩, ⟨some 36, .mov (.t 0), some (35, true)⟩, ⟨some 37, .mov (.t 3), some (35, true)⟩, ⟨some 38, .bin .sub (.t 37) (.c (.int .i64 1)), some (35, true)⟩, ⟨some 39, .iaddr 2 (.t 36) (.t 38), some (35, true)⟩, ⟨some 40, .faddr 1 1 (.t 39), some (35, true)⟩, ⟨some 41, .load false 1 (.t 40), some (35, true)⟩, ⟨some 42, .mov (.t 0), some (35, true)⟩, ⟨some 43, .mov (.t 3), some (35, true)⟩, ⟨some 44, .iaddr 2 (.t 42) (.t 43), some (35, true)⟩, ⟨some 45, .faddr 1 1 (.t 44), some (35, true)⟩, ⟨some 46, .load false 1 (.t 45), some (35, true)⟩, ⟨some 47, .bin .geq (.t 41) (.t 46), some (35, true)⟩, ⟨some 48, .pick (.t 35) (.t 47) (.c (.bool false)), some (22, false)⟩, ⟨some 49, .pick (.t 22) (.c (.bool true)) (.t 48), none⟩] []) (.kl [10, 11, 12, 13, 14, 15, 16, 17, 18, 19, 20, 21, 22, 23, 24, 25, 26, 27, 28, 29, 30, 31, 32, 33, 34, 35, 36, 37, 38, 39, 40, 41, 42, 43, 44, 45, 46, 47, 48] (.cond (.t 49) (.kl [0, 3, 49] (.seq (.reg [⟨some 2, .mov (.c (.bool false)), none⟩]) (.ret))) (.skip))))) (.kl [49] (.reg [⟨some 8, .mov (.t 3), none⟩, ⟨some 9, .bin .add (.t 8) (.c (.int .i64 1)), none⟩, ⟨some 3, .mov (.t 9), none⟩])))))
def lp17_0 : C := lb17_0
def fi17 : FI := ⟨.seq (.reg [⟨some 2, .mov (.c (.bool false)), none⟩]) (.kl [2] (.seq (.seq (.reg [⟨some 3, .mov (.c (.int .i64 1)), none⟩]) (.blk 0 (.loop lp17_0))) (.seq (.reg [⟨some 2, .mov (.c (.bool true)), none⟩]) (.ret)))), [.tmp 2]⟩
-- lp15_0 HEAD [3, 7, 8, 9] | exit 0: [] | ret: [4]
/-- laws.yIn -/
def lb15_0 : C := .kl [16] (.seq (.reg [⟨some 10, .bin .lss (.t 9) (.t 8), none⟩]) (.seq (.cond (.t 10) (.skip) (.kl [3, 7, 8, 9, 10] (.exit 0))) (.kl [10] (.seq (.blk 1 (.seq (.reg [⟨some 11, .iaddr 2 (.t 7) (.t 9), none⟩, ⟨some 12, .load true 2 (.t 11), none⟩, ⟨some 6, .new [.int .i64 0, .int .i64 0], none⟩, ⟨none, .store 2 (.t 6) (.t 12), none⟩]) (.kl [11, 12] (.seq (.reg [⟨some 13, .load true 2 (.t 6), none⟩, ⟨some 14, .load true 2 (.t 3), none⟩, ⟨some 15, .aeq false [0, 0] (.t 13) (.t 14), none⟩]) (.kl [6, 13, 14] (.cond (.t 15) (.kl [3, 7, 8, 9, 15] (.seq (.reg [⟨some 4, .mov (.c (.bool true)), none⟩]) (.ret))) (.skip))))))) (.kl [15] (.reg [⟨some 16, .bin .add (.t 9) (.c (.int .i64 1)), none⟩, ⟨some 9, .mov (.t 16), none⟩]))))))
def lp15_0 : C := lb15_0
def fi15 : FI := ⟨.seq (.reg [⟨some 3, .box (.t 1), none⟩, ⟨some 4, .mov (.c (.bool false)), none⟩]) (.kl [1, 4] (.seq (.seq (.reg [⟨some 7, .mov (.t 0), none⟩, ⟨some 8, .lenV (.t 7), none⟩, ⟨some 9, .mov (.c (.int .i64 0)), none⟩]) (.kl [0] (.blk 0 (.loop lp15_0)))) (.seq (.reg [⟨some 4, .mov (.c (.bool false)), none⟩]) (.ret)))), [.tmp 4]⟩
/-- impl.CanByRule -/
def fi13 : FI := ⟨.seq (.reg [⟨some 4, .box (.t 1), none⟩, ⟨some 5, .box (.t 2), none⟩, ⟨some 6, .mov (.c (.bool false)), none⟩, ⟨some 7, .mov (.c (.bool false)), none⟩]) (.kl [1, 2, 6, 7] (.seq (.seq (.reg [⟨some 8, .mov (.t 0), none⟩, ⟨some 9, .call 56 [.t 8], none⟩, ⟨some 10, .un .not (.t 9), none⟩]) (.kl [8, 9] (.cond (.t 10) (.kl [0, 4, 5, 10] (.seq (.reg [⟨some 6, .mov (.c (.bool false)), none⟩, ⟨some 7, .mov (.c (.bool false)), none⟩]) (.ret))) (.skip)))) (.kl [10] (.seq (.drw [⟨some 11, .mov (.t 0), none⟩, ⟨some 12, .load true 3 (.t 5), none⟩, ⟨some 13, .call 55 [.t 11, .t 12], none⟩, ⟨some 14, .load true 2 (.t 4), none⟩, ⟨some 15, .call 60 [.t 13, .t 14], none⟩, ⟨some 6, .mov (.t 15), none⟩, ⟨some 7, .mov (.c (.bool true)), none⟩] [(3, 2)]) (.kl [0, 4, 5, 11, 12, 13, 14, 15] (.ret)))))), [.tmp 6, .tmp 7]⟩
/-- impl.MakeByRule -/
def fi1 : FI := ⟨.seq (.reg [⟨some 4, .box (.t 1), none⟩, ⟨some 5, .box (.t 2), none⟩, ⟨some 6, .mov (.c (.str [])), none⟩, ⟨some 7, .mov (.c (.bool false)), none⟩]) (.kl [1, 2, 6, 7] (.seq (.seq (.reg [⟨some 11, .mov (.t 0), none⟩, ⟨some 12, .load true 2 (.t 4), none⟩, ⟨some 13, .load true 3 (.t 5), none⟩, ⟨some 14, .call 13 [.t 11, .t 12, .t 13], none⟩, ⟨some 10, .mov (.t 14), none⟩, ⟨some 15, .prj 0 (.t 10), none⟩, ⟨some 16, .prj 1 (.t 10), none⟩, ⟨some 8, .mov (.t 15), none⟩, ⟨some 9, .mov (.t 16), none⟩]) (.kl [5, 9, 10, 11, 12, 13, 14, 15, 16] (.seq (.reg [⟨some 17, .mov (.t 8), none⟩, ⟨some 18, .un .not (.t 17), none⟩]) (.kl [8, 17] (.cond (.t 18) (.kl [0, 4, 18] (.seq (.reg [⟨some 6, .mov (.c (.str [])), none⟩, ⟨some 7, .mov (.c (.bool false)), none⟩]) (.ret))) (.skip)))))) (.kl [18] (.seq (.reg [⟨some 19, .mov (.t 0), none⟩, ⟨some 20, .load true 2 (.t 4), none⟩, ⟨some 21, .call 61 [.t 19, .t 20], none⟩, ⟨some 6, .mov (.t 21), none⟩, ⟨some 7, .mov (.c (.bool true)), none⟩]) (.kl [0, 4, 19, 20, 21] (.ret)))))), [.tmp 6, .tmp 7]⟩
/-- spec.DrawCanByRule -/
def fi14 : FI := ⟨.seq (.reg [⟨some 2, .mov (.c (.str [])), none⟩, ⟨some 3, .new [.int .i64 0, .int .i64 0], none⟩, ⟨some 4, .new [.bool false, .bool false, .bool false], none⟩]) (.kl [2] (.seq (.reg [⟨some 9, .mov (.t 0), none⟩, ⟨some 10, .build [.nilS, .int .i64 0, .int .u64 0] [(0, 1, .t 9)], none⟩, ⟨some 11, .box (.t 10), none⟩, ⟨some 5, .mov (.t 11), none⟩]) (.kl [0, 9, 10, 11] (.seq (.reg [⟨some 12, .mov (.t 5), none⟩, ⟨some 13, .call 54 [.t 12], none⟩, ⟨some 6, .mov (.t 13), none⟩]) (.kl [12, 13] (.seq (.reg [⟨some 14, .mov (.t 5), none⟩, ⟨some 15, .call 53 [.t 14], none⟩, ⟨some 7, .new [.bool false, .bool false, .bool false], none⟩, ⟨none, .store 3 (.t 7) (.t 15), none⟩]) (.kl [14, 15] (.seq (.seq (.reg [⟨some 16, .mov (.t 6), none⟩, ⟨some 17, .call 58 [.t 16], none⟩, ⟨some 18, .mov (.t 17), none⟩, ⟨some 19, .mov (.t 5), some (18, true)⟩, ⟨some 20, .call 64 [.t 19, .c (.int .i64 3)], some (18, true)⟩, ⟨some 21, .un .not (.t 20), some (18, true)⟩, ⟨some 22, .pick (.t 18) (.t 21) (.c (.bool false)), none⟩]) (.kl [16, 17, 18, 19, 20, 21] (.cond (.t 22) (.kl [22] (.seq (.reg [⟨some 23, .mov (.t 6), none⟩, ⟨some 24, .load true 3 (.t 7), none⟩, ⟨some 25, .call 57 [.t 23, .t 24], none⟩, ⟨some 8, .mov (.t 25), none⟩]) (.kl [23, 24, 25] (.seq (.reg [⟨some 26, .mov (.t 8), none⟩, ⟨some 27, .lenV (.t 26), none⟩, ⟨some 28, .bin .gtr (.t 27) (.c (.int .i64 0)), none⟩]) (.kl [26, 27] (.cond (.t 28) (.kl [28] (.seq (.drw [⟨some 29, .mov (.t 6), none⟩, ⟨some 30, .mov (.t 8), none⟩, ⟨some 31, .mov (.t 5), none⟩, ⟨some 32, .mov (.t 8), none⟩, ⟨some 33, .lenV (.t 32), none⟩, ⟨some 34, .call 63 [.t 31, .t 33], none⟩, ⟨some 35, .iaddr 2 (.t 30) (.t 34), none⟩, ⟨some 36, .load true 2 (.t 35), none⟩, ⟨some 37, .load true 3 (.t 7), none⟩, ⟨some 2, .mov (.t 29), none⟩, ⟨none, .store 2 (.t 3) (.t 36), none⟩, ⟨none, .store 3 (.t 4) (.t 37), none⟩] [(8, 5), (8, 10)]) (.kl [5, 6, 7, 8, 29, 30, 31, 32, 33, 34, 35, 36, 37] (.ret)))) (.skip))))))) (.skip)))) (.kl [8, 22, 28] (.seq (.drw [⟨some 38, .mov (.t 6), none⟩, ⟨some 39, .mov (.t 5), none⟩, ⟨some 40, .lit 1 6 [.int .i64 0, .int .i64 0, .int .i64 0, .int .i64 0, .int .i64 0, .int .i64 0] [(0, 1, .c (.int .i64 0)), (1, 1, .c (.int .i64 1)), (2, 1, .c (.int .i64 2)), (3, 1, .c (.int .i64 3)), (4, 1, .c (.int .i64 (-1))), (5, 1, .c (.int .i64 12))], none⟩, ⟨some 41, .call 62 [.t 39, .t 40], none⟩, ⟨some 42, .mov (.t 5), none⟩, ⟨some 43, .lit 1 7 [.int .i64 0, .int .i64 0, .int .i64 0, .int .i64 0, .int .i64 0, .int .i64 0, .int .i64 0] [(0, 1, .c (.int .i64 0)), (1, 1, .c (.int .i64 1)), (2, 1, .c (.int .i64 2)), (3, 1, .c (.int .i64 3)), (4, 1, .c (.int .i64 4)), (5, 1, .c (.int .i64 (-1))), (6, 1, .c (.int .i64 4611686018427387904))], none⟩, ⟨some 44, .call 62 [.t 42, .t 43], none⟩, ⟨some 45, .build [.int .i64 0, .int .i64 0] [(0, 1, .t 41), (1, 1, .t 44)], none⟩, ⟨some 46, .load true 3 (.t 7), none⟩, ⟨some 2, .mov (.t 38), none⟩, ⟨none, .store 2 (.t 3) (.t 45), none⟩, ⟨none, .store 3 (.t 4) (.t 46), none⟩] [(5, 5), (8, 2), (8, 3), (8, 5), (8, 6), (8, 10)]) (.kl [5, 6, 7, 38, 39, 40, 41, 42, 43, 44, 45, 46] (.ret)))))))))))), [.tmp 2, .cell true 2 3, .cell true 3 4]⟩
/-- spec.CanByRule -/
def fi12 : FI := ⟨.seq (.reg [⟨some 4, .box (.t 1), none⟩, ⟨some 5, .box (.t 2), none⟩, ⟨some 6, .mov (.c (.bool false)), none⟩, ⟨some 7, .mov (.c (.bool false)), none⟩]) (.kl [1, 2, 6, 7] (.seq (.seq (.reg [⟨some 8, .mov (.t 0), none⟩, ⟨some 9, .call 58 [.t 8], none⟩, ⟨some 10, .un .not (.t 9), none⟩]) (.kl [8, 9] (.cond (.t 10) (.kl [0, 4, 5, 10] (.seq (.reg [⟨some 6, .mov (.c (.bool false)), none⟩, ⟨some 7, .mov (.c (.bool false)), none⟩]) (.ret))) (.skip)))) (.kl [10] (.seq (.reg [⟨some 11, .mov (.t 0), none⟩, ⟨some 12, .load true 2 (.t 4), none⟩, ⟨some 13, .load true 3 (.t 5), none⟩, ⟨some 14, .call 65 [.t 11, .t 12, .t 13], none⟩, ⟨some 6, .mov (.t 14), none⟩, ⟨some 7, .mov (.c (.bool true)), none⟩]) (.kl [0, 4, 5, 11, 12, 13, 14] (.ret)))))), [.tmp 6, .tmp 7]⟩
/-- spec.MakeByRule -/
def fi11 : FI := ⟨.seq (.reg [⟨some 4, .box (.t 1), none⟩, ⟨some 5, .box (.t 2), none⟩, ⟨some 6, .mov (.c (.str [])), none⟩, ⟨some 7, .mov (.c (.bool false)), none⟩]) (.kl [1, 2, 6, 7] (.seq (.seq (.reg [⟨some 8, .mov (.t 0), none⟩, ⟨some 9, .call 58 [.t 8], none⟩, ⟨some 10, .un .not (.t 9), none⟩, ⟨some 11, .mov (.t 10), none⟩, ⟨some 12, .mov (.t 0), some (11, false)⟩, ⟨some 13, .load true 2 (.t 4), some (11, false)⟩, ⟨some 14, .load true 3 (.t 5), some (11, false)⟩, ⟨some 15, .call 65 [.t 12, .t 13, .t 14], some (11, false)⟩, ⟨some 16, .un .not (.t 15), some (11, false)⟩, ⟨some 17, .pick (.t 11) (.c (.bool true)) (.t 16), none⟩]) (.kl [5, 8, 9, 10, 11, 12, 13, 14, 15, 16] (.cond (.t 17) (.kl [0, 4, 17] (.seq (.reg [⟨some 6, .mov (.c (.str [])), none⟩, ⟨some 7, .mov (.c (.bool false)), none⟩]) (.ret))) (.skip)))) (.kl [17] (.seq (.reg [⟨some 18, .mov (.t 0), none⟩, ⟨some 19, .load true 2 (.t 4), none⟩, ⟨some 20, .call 66 [.t 18, .t 19], none⟩, ⟨some 6, .mov (.t 20), none⟩, ⟨some 7, .mov (.c (.bool true)), none⟩]) (.kl [0, 4, 18, 19, 20] (.ret)))))), [.tmp 6, .tmp 7]⟩
-- lp10_0 HEAD [4, 5, 6, 7, 8, 9, 10] | exit 0: [4, 5, 6, 7, 8]
/-- spec.DrawPlayByRule -/
def lb10_0 : C := .kl [29, 30] (.seq (.seq (.reg [⟨some 23, .mov (.t 10), none⟩, ⟨some 24, .bin .gtr (.t 23) (.c (.int .i64 0)), none⟩, ⟨some 25, .mov (.t 24), none⟩, ⟨some 26, .mov (.t 6), some (25, true)⟩, ⟨some 27, .call 58 [.t 26], some (25, true)⟩, ⟨some 28, .pick (.t 25) (.t 27) (.c (.bool false)), none⟩]) (.kl [23, 24, 25, 26, 27] (.cond (.t 28) (.skip) (.kl [9, 10, 28] (.exit 0))))) (.kl [28] (.seq (.blk 1 (.seq (.reg [⟨some 31, .mov (.t 9), none⟩, ⟨some 32, .load true 3 (.t 7), none⟩, ⟨some 33, .call 57 [.t 31, .t 32], none⟩, ⟨some 11, .mov (.t 33), none⟩]) (.kl [31, 32, 33] (.seq (.seq (.reg [⟨some 34, .mov (.t 11), none⟩, ⟨some 35, .lenV (.t 34), none⟩, ⟨some 36, .bin .eql (.t 35) (.c (.int .i64 0)), none⟩]) (.kl [34, 35] (.cond (.t 36) (.kl [9, 10, 11, 36] (.exit 0)) (.skip)))) (.kl [36] (.seq (.reg [⟨some 37, .mov (.t 11), none⟩, ⟨some 38, .mov (.t 5), none⟩, ⟨some 39, .mov (.t 11), none⟩, ⟨some 40, .lenV (.t 39), none⟩, ⟨some 41, .call 63 [.t 38, .t 40], none⟩, ⟨some 42, .iaddr 2 (.t 37) (.t 41), none⟩, ⟨some 43, .load true 2 (.t 42), none⟩, ⟨some 12, .new [.int .i64 0, .int .i64 0], none⟩, ⟨none, .store 2 (.t 12) (.t 43), none⟩]) (.kl [11, 37, 38, 39, 40, 41, 42, 43] (.seq (.reg [⟨some 44, .mov (.t 8), none⟩, ⟨some 45, .load true 2 (.t 12), none⟩, ⟨some 46, .lit 2 1 [.int .i64 0, .int .i64 0] [(0, 2, .t 45)], none⟩, ⟨some 47, .app 2 (.t 44) (.t 46), none⟩, ⟨some 8, .mov (.t 47), none⟩]) (.kl [44, 45, 46, 47] (.reg [⟨some 48, .mov (.t 9), none⟩, ⟨some 49, .load true 2 (.t 12), none⟩, ⟨some 50, .call 66 [.t 48, .t 49], none⟩, ⟨some 9, .mov (.t 50), none⟩])))))))))) (.kl [12, 48, 49, 50] (.reg [⟨some 29, .mov (.t 10), none⟩, ⟨some 30, .bin .sub (.t 29) (.c (.int .i64 1)), none⟩, ⟨some 10, .mov (.t 30), none⟩])))))
def lp10_0 : C := lb10_0
def fi10 : FI := ⟨.seq (.reg [⟨some 2, .mov (.c (.str [])), none⟩, ⟨some 3, .mov (.c (.nilS)), none⟩, ⟨some 4, .new [.bool false, .bool false, .bool false], none⟩]) (.kl [2, 3] (.seq (.reg [⟨some 13, .mov (.t 0), none⟩, ⟨some 14, .build [.nilS, .int .i64 0, .int .u64 0] [(0, 1, .t 13)], none⟩, ⟨some 15, .box (.t 14), none⟩, ⟨some 5, .mov (.t 15), none⟩]) (.kl [0, 13, 14, 15] (.seq (.reg [⟨some 16, .mov (.t 5), none⟩, ⟨some 17, .call 54 [.t 16], none⟩, ⟨some 6, .mov (.t 17), none⟩]) (.kl [16, 17] (.seq (.reg [⟨some 18, .mov (.t 5), none⟩, ⟨some 19, .call 53 [.t 18], none⟩, ⟨some 7, .new [.bool false, .bool false, .bool false], none⟩, ⟨none, .store 3 (.t 7) (.t 19), none⟩]) (.kl [18, 19] (.seq (.reg [⟨some 8, .mov (.c (.nilS)), none⟩]) (.seq (.reg [⟨some 20, .mov (.t 6), none⟩, ⟨some 9, .mov (.t 20), none⟩]) (.kl [20] (.seq (.seq (.reg [⟨some 21, .mov (.t 5), none⟩, ⟨some 22, .call 63 [.t 21, .c (.int .i64 8)], none⟩, ⟨some 10, .mov (.t 22), none⟩]) (.kl [21, 22] (.blk 0 (.loop lp10_0)))) (.seq (.seq (.reg [⟨some 51, .mov (.t 5), none⟩, ⟨some 52, .call 64 [.t 51, .c (.int .i64 8)], none⟩]) (.kl [51] (.cond (.t 52) (.kl [52] (.reg [⟨some 53, .mov (.t 8), none⟩, ⟨some 54, .mov (.t 5), none⟩, ⟨some 55, .call 63 [.t 54, .c (.int .i64 4)], none⟩, ⟨some 56, .mov (.t 5), none⟩, ⟨some 57, .call 63 [.t 56, .c (.int .i64 6)], none⟩, ⟨some 58, .bin .sub (.t 57) (.c (.int .i64 1)), none⟩, ⟨some 59, .build [.int .i64 0, .int .i64 0] [(0, 1, .t 55), (1, 1, .t 58)], none⟩, ⟨some 60, .lit 2 1 [.int .i64 0, .int .i64 0] [(0, 2, .t 59)], none⟩, ⟨some 61, .app 2 (.t 53) (.t 60), none⟩, ⟨some 8, .mov (.t 61), none⟩])) (.skip)))) (.kl [5, 52, 53, 54, 55, 56, 57, 58, 59, 60, 61] (.seq (.drw [⟨some 62, .mov (.t 6), none⟩, ⟨some 63, .mov (.t 8), none⟩, ⟨some 64, .load true 3 (.t 7), none⟩, ⟨some 2, .mov (.t 62), none⟩, ⟨some 3, .mov (.t 63), none⟩, ⟨none, .store 3 (.t 4) (.t 64), none⟩] []) (.kl [6, 7, 8, 62, 63, 64] (.ret)))))))))))))))), [.tmp 2, .tmp 3, .cell true 3 4]⟩
/-- impl.PlayByRule -/
def fi9 : FI := ⟨.seq (.reg [⟨some 5, .box (.t 2), none⟩, ⟨some 6, .mov (.c (.str [])), none⟩, ⟨some 7, .mov (.c (.bool false)), none⟩]) (.kl [2, 6, 7] (.seq (.seq (.reg [⟨some 10, .mov (.t 0), none⟩, ⟨some 11, .call 56 [.t 10], none⟩, ⟨some 12, .un .not (.t 11), none⟩, ⟨some 13, .mov (.t 12), none⟩, ⟨some 14, .mov (.t 1), some (13, false)⟩, ⟨some 15, .lenV (.t 14), some (13, false)⟩, ⟨some 16, .bin .gtr (.t 15) (.c (.int .i64 100)), some (13, false)⟩, ⟨some 17, .pick (.t 13) (.c (.bool true)) (.t 16), none⟩]) (.kl [10, 11, 12, 13, 14, 15, 16] (.cond (.t 17) (.kl [0, 1, 5, 17] (.seq (.reg [⟨some 6, .mov (.c (.str [])), none⟩, ⟨some 7, .mov (.c (.bool false)), none⟩]) (.ret))) (.skip)))) (.kl [17] (.seq (.reg [⟨some 19, .mov (.t 0), none⟩, ⟨some 20, .mov (.t 1), none⟩, ⟨some 21, .mkfn 67 [.t 5], none⟩, ⟨some 22, .call 68 [.t 19, .t 20, .t 21], none⟩, ⟨some 18, .mov (.t 22), none⟩, ⟨some 23, .prj 0 (.t 18), none⟩, ⟨some 24, .prj 1 (.t 18), none⟩, ⟨some 8, .mov (.t 23), none⟩, ⟨some 9, .mov (.t 24), none⟩]) (.kl [0, 5, 18, 19, 20, 21, 22, 23, 24] (.seq (.reg [⟨some 25, .mov (.t 8), none⟩, ⟨some 26, .mov (.t 9), none⟩, ⟨some 27, .mov (.t 1), none⟩, ⟨some 28, .lenV (.t 27), none⟩, ⟨some 29, .bin .eql (.t 26) (.t 28), none⟩, ⟨some 6, .mov (.t 25), none⟩, ⟨some 7, .mov (.t 29), none⟩]) (.kl [1, 8, 9, 25, 26, 27, 28, 29] (.ret)))))))), [.tmp 6, .tmp 7]⟩
-- lp8_0 HEAD [0, 5, 18, 19, 20] | exit 0: [0] | ret: [6, 7]
/-- spec.PlayByRule -/
def lb8_0 : C := .kl [32] (.seq (.reg [⟨some 21, .bin .lss (.t 20) (.t 19), none⟩]) (.seq (.cond (.t 21) (.skip) (.kl [5, 18, 19, 20, 21] (.exit 0))) (.kl [21] (.seq (.blk 1 (.seq (.reg [⟨some 22, .iaddr 2 (.t 18) (.t 20), none⟩, ⟨some 23, .load true 2 (.t 22), none⟩, ⟨some 9, .new [.int .i64 0, .int .i64 0], none⟩, ⟨none, .store 2 (.t 9) (.t 23), none⟩]) (.kl [22, 23] (.seq (.seq (.reg [⟨some 24, .mov (.t 0), none⟩, ⟨some 25, .load true 2 (.t 9), none⟩, ⟨some 26, .load true 3 (.t 5), none⟩, ⟨some 27, .call 65 [.t 24, .t 25, .t 26], none⟩, ⟨some 28, .un .not (.t 27), none⟩]) (.kl [24, 25, 26, 27] (.cond (.t 28) (.kl [0, 5, 9, 18, 19, 20, 28] (.seq (.reg [⟨some 6, .mov (.c (.str [])), none⟩, ⟨some 7, .mov (.c (.bool false)), none⟩]) (.ret))) (.skip)))) (.kl [28] (.reg [⟨some 29, .mov (.t 0), none⟩, ⟨some 30, .load true 2 (.t 9), none⟩, ⟨some 31, .call 66 [.t 29, .t 30], none⟩, ⟨some 0, .mov (.t 31), none⟩])))))) (.kl [9, 29, 30, 31] (.reg [⟨some 32, .bin .add (.t 20) (.c (.int .i64 1)), none⟩, ⟨some 20, .mov (.t 32), none⟩]))))))
def lp8_0 : C := lb8_0
def fi8 : FI := ⟨.seq (.reg [⟨some 5, .box (.t 2), none⟩, ⟨some 6, .mov (.c (.str [])), none⟩, ⟨some 7, .mov (.c (.bool false)), none⟩]) (.kl [2, 6, 7] (.seq (.seq (.reg [⟨some 10, .mov (.t 0), none⟩, ⟨some 11, .call 58 [.t 10], none⟩, ⟨some 12, .un .not (.t 11), none⟩, ⟨some 13, .mov (.t 12), none⟩, ⟨some 14, .mov (.t 1), some (13, false)⟩, ⟨some 15, .lenV (.t 14), some (13, false)⟩, ⟨some 16, .bin .gtr (.t 15) (.c (.int .i64 100)), some (13, false)⟩, ⟨some 17, .pick (.t 13) (.c (.bool true)) (.t 16), none⟩]) (.kl [10, 11, 12, 13, 14, 15, 16] (.cond (.t 17) (.kl [0, 1, 5, 17] (.seq (.reg [⟨some 6, .mov (.c (.str [])), none⟩, ⟨some 7, .mov (.c (.bool false)), none⟩]) (.ret))) (.skip)))) (.kl [17] (.seq (.seq (.reg [⟨some 18, .mov (.t 1), none⟩, ⟨some 19, .lenV (.t 18), none⟩, ⟨some 20, .mov (.c (.int .i64 0)), none⟩]) (.kl [1] (.blk 0 (.loop lp8_0)))) (.seq (.reg [⟨some 33, .mov (.t 0), none⟩, ⟨some 6, .mov (.t 33), none⟩, ⟨some 7, .mov (.c (.bool true)), none⟩]) (.kl [0, 33] (.ret))))))), [.tmp 6, .tmp 7]⟩
/-- spec.DrawRuleText -/
def fi7 : FI := ⟨.seq (.reg [⟨some 2, .new [.bool false, .bool false, .bool false], none⟩]) (.seq (.reg [⟨some 4, .mov (.t 0), none⟩, ⟨some 5, .build [.nilS, .int .i64 0, .int .u64 0] [(0, 1, .t 4)], none⟩, ⟨some 6, .box (.t 5), none⟩, ⟨some 3, .mov (.t 6), none⟩]) (.kl [0, 4, 5, 6] (.seq (.reg [⟨some 7, .mov (.t 3), none⟩, ⟨some 8, .call 53 [.t 7], none⟩, ⟨none, .store 3 (.t 2) (.t 8), none⟩]) (.kl [3, 7, 8] (.ret))))), [.cell true 3 2]⟩
/-- impl.RuleText -/
def fi2 : FI := ⟨.seq (.reg [⟨some 1, .box (.t 0), none⟩, ⟨some 2, .mov (.c (.str [])), none⟩, ⟨some 3, .mov (.c (.bool false)), none⟩]) (.kl [0, 2, 3] (.seq (.reg [⟨some 4, .load true 3 (.t 1), none⟩, ⟨some 5, .call 69 [.t 4], none⟩, ⟨some 2, .mov (.t 5), none⟩, ⟨some 3, .mov (.c (.bool true)), none⟩]) (.kl [1, 4, 5] (.ret)))), [.tmp 2, .tmp 3]⟩
/-- spec.RuleText -/
def fi6 : FI := ⟨.seq (.reg [⟨some 1, .box (.t 0), none⟩, ⟨some 2, .mov (.c (.str [])), none⟩, ⟨some 3, .mov (.c (.bool false)), none⟩]) (.kl [0, 2, 3] (.seq (.reg [⟨some 4, .load true 3 (.t 1), none⟩, ⟨some 5, .call 70 [.t 4], none⟩, ⟨some 2, .mov (.t 5), none⟩, ⟨some 3, .mov (.c (.bool true)), none⟩]) (.kl [1, 4, 5] (.ret)))), [.tmp 2, .tmp 3]⟩
/-- spec.DrawParseRule -/
def fi5 : FI := ⟨.seq (.reg [⟨some 2, .mov (.c (.str [])), none⟩]) (.kl [2] (.seq (.reg [⟨some 4, .mov (.t 0), none⟩, ⟨some 5, .build [.nilS, .int .i64 0, .int .u64 0] [(0, 1, .t 4)], none⟩, ⟨some 6, .box (.t 5), none⟩, ⟨some 3, .mov (.t 6), none⟩]) (.kl [0, 4, 5, 6] (.seq (.seq (.reg [⟨some 7, .mov (.t 3), none⟩, ⟨some 8, .call 64 [.t 7, .c (.int .i64 3)], none⟩]) (.kl [7] (.cond (.t 8) (.kl [8] (.seq (.reg [⟨some 9, .mov (.t 3), none⟩, ⟨some 10, .lit 1 7 [.str [], .str [], .str [], .str [], .str [], .str [], .str []] [(0, 1, .c (.str [])), (1, 1, .c (.str [108, 111])), (2, 1, .c (.str [111, 111])), (3, 1, .c (.str [120])), (4, 1, .c (.str [45, 45])), (5, 1, .c (.str [111, 98, 108])), (6, 1, .c (.str [98, 108]))], none⟩, ⟨some 11, .call 71 [.t 9, .t 10], none⟩, ⟨some 2, .mov (.t 11), none⟩]) (.kl [3, 9, 10, 11] (.ret)))) (.skip)))) (.kl [8] (.seq (.reg [⟨some 12, .mov (.t 3), none⟩, ⟨some 13, .call 53 [.t 12], none⟩, ⟨some 14, .call 70 [.t 13], none⟩, ⟨some 2, .mov (.t 14), none⟩]) (.kl [3, 12, 13, 14] (.ret)))))))), [.tmp 2]⟩
-- lp3_0 HEAD [0, 2, 6] | exit 0: [2] | ret: [2, 3]
/-- impl.ParseRule -/
def lb3_0 : C := .kl [24] (.seq (.reg [⟨some 7, .bin .lss (.t 6) (.c (.int .i64 8)), none⟩]) (.seq (.cond (.t 7) (.skip) (.kl [0, 6, 7] (.exit 0))) (.kl [7] (.seq (.blk 1 (.seq (.reg [⟨some 8, .mov (.t 6), none⟩, ⟨some 4, .mov (.t 8), none⟩]) (.kl [8] (.seq (.reg [⟨some 9, .mov (.t 4), none⟩, ⟨some 10, .bin .and (.t 9) (.c (.int .i64 1)), none⟩, ⟨some 11, .bin .gtr (.t 10) (.c (.int .i64 0)), none⟩, ⟨some 12, .mov (.t 4), none⟩, ⟨some 13, .bin .and (.t 12) (.c (.int .i64 2)), none⟩, ⟨some 14, .bin .gtr (.t 13) (.c (.int .i64 0)), none⟩, ⟨some 15, .mov (.t 4), none⟩, ⟨some 16, .bin .and (.t 15) (.c (.int .i64 4)), none⟩, ⟨some 17, .bin .gtr (.t 16) (.c (.int .i64 0)), none⟩, ⟨some 18, .build [.bool false, .bool false, .bool false] [(0, 1, .t 11), (1, 1, .t 14), (2, 1, .t 17)], none⟩, ⟨some 5, .new [.bool false, .bool false, .bool false], none⟩, ⟨none, .store 3 (.t 5) (.t 18), none⟩]) (.kl [4, 9, 10, 11, 12, 13, 14, 15, 16, 17, 18] (.seq (.reg [⟨some 19, .load true 3 (.t 5), none⟩, ⟨some 20, .call 69 [.t 19], none⟩, ⟨some 21, .mov (.t 0), none⟩, ⟨some 22, .bin .eql (.t 20) (.t 21), none⟩]) (.kl [19, 20, 21] (.cond (.t 22) (.kl [0, 6, 22] (.seq (.reg [⟨some 23, .load true 3 (.t 5), none⟩, ⟨none, .store 3 (.t 2) (.t 23), none⟩, ⟨some 3, .mov (.c (.bool true)), none⟩]) (.kl [5, 23] (.ret)))) (.skip))))))))) (.kl [5, 22] (.reg [⟨some 24, .bin .add (.t 6) (.c (.int .i64 1)), none⟩, ⟨some 6, .mov (.t 24), none⟩]))))))
def lp3_0 : C := lb3_0
def fi3 : FI := ⟨.seq (.reg [⟨some 2, .new [.bool false, .bool false, .bool false], none⟩, ⟨some 3, .mov (.c (.bool false)), none⟩]) (.kl [3] (.seq (.seq (.reg [⟨some 6, .mov (.c (.int .i64 0)), none⟩]) (.blk 0 (.loop lp3_0))) (.seq (.reg [⟨some 25, .build [.bool false, .bool false, .bool false] [], none⟩, ⟨none, .store 3 (.t 2) (.t 25), none⟩, ⟨some 3, .mov (.c (.bool false)), none⟩]) (.kl [25] (.ret))))), [.cell true 3 2, .tmp 3]⟩
/-- spec.ParseRule -/
def fi4 : FI := ⟨.seq (.reg [⟨some 2, .new [.bool false, .bool false, .bool false], none⟩, ⟨some 3, .mov (.c (.bool false)), none⟩]) (.kl [3] (.seq (.reg [⟨some 4, .mov (.t 0), none⟩, ⟨some 5, .call 72 [.t 4], none⟩, ⟨some 6, .prj 0 (.t 5), none⟩, ⟨some 7, .prj 1 (.t 5), none⟩, ⟨none, .store 3 (.t 2) (.t 6), none⟩, ⟨some 3, .mov (.t 7), none⟩]) (.kl [0, 4, 5, 6, 7] (.ret)))), [.cell true 3 2, .tmp 3]⟩
/-- (*spec.l1Cur).few -/
def fi54 : FI := ⟨.seq (.reg [⟨some 2, .mov (.c (.str [])), none⟩]) (.kl [2] (.seq (.seq (.reg [⟨some 3, .mov (.t 0), none⟩, ⟨some 4, .call 64 [.t 3, .c (.int .i64 8)], none⟩]) (.kl [3] (.cond (.t 4) (.kl [4] (.seq (.reg [⟨some 5, .mov (.t 0), none⟩, ⟨some 6, .call 101 [.t 5], none⟩, ⟨some 2, .mov (.t 6), none⟩]) (.kl [0, 5, 6] (.ret)))) (.skip)))) (.kl [4] (.seq (.seq (.reg [⟨some 7, .mov (.t 0), none⟩, ⟨some 8, .call 64 [.t 7, .c (.int .i64 3)], none⟩]) (.kl [7] (.cond (.t 8) (.kl [8] (.seq (.reg [⟨some 9, .mov (.t 0), none⟩, ⟨some 10, .call 63 [.t 9, .c (.int .i64 2)], none⟩, ⟨some 11, .bin .add (.c (.int .i64 1)) (.t 10), none⟩, ⟨some 12, .mov (.t 0), none⟩, ⟨some 13, .call 63 [.t 12, .c (.int .i64 2)], none⟩, ⟨some 14, .bin .add (.c (.int .i64 1)) (.t 13), none⟩, ⟨some 15, .call 100 [.t 11, .c (.int .i64 1), .t 14], none⟩, ⟨some 2, .mov (.t 15), none⟩]) (.kl [0, 9, 10, 11, 12, 13, 14, 15] (.ret)))) (.skip)))) (.kl [8] (.seq (.reg [⟨some 16, .mov (.t 0), none⟩, ⟨some 17, .call 99 [.t 16, .c (.int .i64 7)], none⟩, ⟨some 2, .mov (.t 17), none⟩]) (.kl [0, 16, 17] (.ret)))))))), [.tmp 2]⟩
/-- (*spec.l1Cur).rule -/
def fi53 : FI := ⟨.seq (.reg [⟨some 2, .new [.bool false, .bool false, .bool false], none⟩]) (.seq (.reg [⟨some 3, .mov (.t 0), none⟩, ⟨some 4, .call 64 [.t 3, .c (.int .i64 2)], none⟩, ⟨some 5, .mov (.t 0), none⟩, ⟨some 6, .call 64 [.t 5, .c (.int .i64 3)], none⟩, ⟨some 7, .mov (.t 0), none⟩, ⟨some 8, .call 64 [.t 7, .c (.int .i64 3)], none⟩, ⟨some 9, .build [.bool false, .bool false, .bool false] [(0, 1, .t 4), (1, 1, .t 6), (2, 1, .t 8)], none⟩, ⟨none, .store 3 (.t 2) (.t 9), none⟩]) (.kl [0, 3, 4, 5, 6, 7, 8, 9] (.ret))), [.cell true 3 2]⟩
/-- impl.isReachLine -/
def fi56 : FI := ⟨.seq (.reg [⟨some 2, .mov (.c (.bool false)), none⟩]) (.kl [2] (.seq (.reg [⟨some 3, .mov (.t 0), none⟩, ⟨some 4, .call 82 [.t 3, .c (.int .i64 10)], none⟩, ⟨some 2, .mov (.t 4), none⟩]) (.kl [0, 3, 4] (.ret)))), [.tmp 2]⟩
-- lp55_0 HEAD [0, 3, 5, 14, 15] | exit 0: [5] | exit 2: [0, 3, 5, 14, 15] | exit 3: [0, 3, 5, 6, 14, 15, 18, 19, 20]
-- lp55_1 HEAD [0, 3, 5, 6, 14, 15, 18, 19, 20] | exit 2: [0, 3, 5, 14, 15] | exit 3: [0, 3, 5, 6, 14, 15, 18, 19, 20]
/-- impl.movesBy -/
def lb55_1 : C := .kl [55] (.seq (.reg [⟨some 21, .bin .lss (.t 20) (.t 19), none⟩]) (.seq (.cond (.t 21) (.skip) (.kl [6, 18, 19, 20, 21] (.exit 2))) (.kl [21] (.seq (.blk 3 (.seq (.reg [⟨some 22, .iaddr 1 (.t 18) (.t 20), none⟩, ⟨some 23, .load false 1 (.t 22), none⟩, ⟨some 8, .mov (.t 23), none⟩]) (.kl [22, 23] (.seq (.seq (.reg [⟨some 24, .mov (.t 0), none⟩, ⟨some 25, .mov (.t 6), none⟩, ⟨some 26, .idxS (.t 24) (.t 25), none⟩, ⟨some 27, .call 103 [.t 26], none⟩, ⟨some 9, .mov (.t 27), none⟩]) (.kl [24, 25, 26, 27] (.seq (.reg [⟨some 28, .mov (.t 9), none⟩, ⟨some 29, .bin .eql (.t 28) (.c (.int .i64 0)), none⟩, ⟨some 30, .mov (.t 29), none⟩, ⟨some 31, .mov (.t 9), some (30, false)⟩, ⟨some 32, .mov (.t 8), some (30, false)⟩, ⟨some 33, .bin .neq (.t 31) (.t 32), some (30, false)⟩, ⟨some 34, .mov (.t 33), some (30, false)⟩, ⟨some 35, .faddr 1 1 (.t 3), some (34, true)⟩, ⟨some 36, .load false 1 (.t 35), some (34, true)⟩, ⟨some 37, .un .not (.t 36), some (34, true)⟩, ⟨some 38, .pick (.t 34) (.t 37) (.c (.bool false)), some (30, false)⟩, ⟨some 39, .pick (.t 30) (.c (.bool true)) (.t 38), none⟩]) (.kl [9, 28, 29, 30, 31, 32, 33, 34, 35, 36, 37, 38] (.cond (.t 39) (.kl [8, 39] (.exit 3)) (.skip)))))) (.kl [39] (.seq (.reg [⟨some 41, .mov (.t 0), none⟩, ⟨some 42, .mov (.t 6), none⟩, ⟨some 43, .mov (.t 8), none⟩, ⟨some 44, .load true 3 (.t 3), none⟩, ⟨some 45, .call 102 [.t 41, .t 42, .t 43, .t 44], none⟩, ⟨some 40, .mov (.t 45), none⟩, ⟨some 46, .prj 0 (.t 40), none⟩, ⟨some 47, .prj 1 (.t 40), none⟩, ⟨some 10, .mov (.t 46), none⟩, ⟨some 11, .mov (.t 47), none⟩]) (.kl [8, 40, 41, 42, 43, 44, 45, 46, 47] (.seq (.reg [⟨some 48, .mov (.t 11), none⟩]) (.kl [11] (.cond (.t 48) (.kl [48] (.reg [⟨some 49, .mov (.t 5), none⟩, ⟨some 50, .mov (.t 6), none⟩, ⟨some 51, .mov (.t 10), none⟩, ⟨some 52, .build [.int .i64 0, .int .i64 0] [(0, 1, .t 50), (1, 1, .t 51)], none⟩, ⟨some 53, .lit 2 1 [.int .i64 0, .int .i64 0] [(0, 2, .t 52)], none⟩, ⟨some 54, .app 2 (.t 49) (.t 53), none⟩, ⟨some 5, .mov (.t 54), none⟩])) (.skip))))))))))) (.kl [10, 48, 49, 50, 51, 52, 53, 54] (.reg [⟨some 55, .bin .add (.t 20) (.c (.int .i64 1)), none⟩, ⟨some 20, .mov (.t 55), none⟩]))))))
def lp55_1 : C := lb55_1
def lb55_0 : C := .kl [56] (.seq (.reg [⟨some 16, .bin .lss (.t 15) (.t 14), none⟩]) (.seq (.cond (.t 16) (.skip) (.kl [0, 3, 14, 15, 16] (.exit 0))) (.kl [16] (.seq (.blk 1 (.seq (.reg [⟨some 17, .mov (.t 15), none⟩, ⟨some 6, .mov (.t 17), none⟩]) (.kl [17] (.seq (.reg [⟨some 18, .lit 1 2 [.int .i64 0, .int .i64 0] [(0, 1, .c (.int .i64 (-1))), (1, 1, .c (.int .i64 1))], none⟩, ⟨some 19, .lenV (.t 18), none⟩, ⟨some 20, .mov (.c (.int .i64 0)), none⟩]) (.blk 2 (.loop lp55_1)))))) (.reg [⟨some 56, .bin .add (.t 15) (.c (.int .i64 1)), none⟩, ⟨some 15, .mov (.t 56), none⟩])))))
def lp55_0 : C := lb55_0
def fi55 : FI := ⟨.seq (.reg [⟨some 3, .box (.t 1), none⟩, ⟨some 4, .mov (.c (.nilS)), none⟩]) (.kl [1, 4] (.seq (.reg [⟨some 12, .lit0, none⟩, ⟨some 5, .mov (.t 12), none⟩]) (.kl [12] (.seq (.seq (.reg [⟨some 13, .mov (.t 0), none⟩, ⟨some 14, .lenS (.t 13), none⟩, ⟨some 15, .mov (.c (.int .i64 0)), none⟩]) (.kl [13] (.blk 0 (.loop lp55_0)))) (.seq (.reg [⟨some 57, .mov (.t 5), none⟩, ⟨some 4, .mov (.t 57), none⟩]) (.kl [5, 57] (.ret))))))), [.tmp 4]⟩
/-- spec.reFew -/
def fi58 : FI := ⟨.seq (.reg [⟨some 2, .mov (.c (.bool false)), none⟩]) (.kl [2] (.seq (.reg [⟨some 3, .mov (.t 0), none⟩, ⟨some 4, .call 104 [.t 3], none⟩, ⟨some 5, .mov (.t 4), none⟩, ⟨some 6, .mov (.t 0), some (5, true)⟩, ⟨some 7, .lenS (.t 6), some (5, true)⟩, ⟨some 8, .bin .leq (.t 7) (.c (.int .i64 10)), some (5, true)⟩, ⟨some 9, .pick (.t 5) (.t 8) (.c (.bool false)), none⟩, ⟨some 2, .mov (.t 9), none⟩]) (.kl [0, 3, 4, 5, 6, 7, 8, 9] (.ret)))), [.tmp 2]⟩
-- lp57_0 HEAD [0, 3, 5, 10] | exit 0: [5] | exit 2: [0, 3, 5, 10]
-- lp57_1 HEAD [0, 3, 5, 6, 10, 15] | exit 2: [0, 3, 5, 10]
/-- spec.ruMoves -/
def lb57_1 : C := .kl [8, 25, 26, 27, 28, 29] (.seq (.reg [⟨some 16, .nxt (.t 15), none⟩, ⟨some 17, .prj 0 (.t 16), none⟩]) (.seq (.cond (.t 17) (.skip) (.kl [6, 15, 16, 17] (.exit 2))) (.kl [17] (.blk 3 (.seq (.reg [⟨some 18, .prj 1 (.t 16), none⟩, ⟨some 7, .mov (.t 18), none⟩]) (.kl [16, 18] (.seq (.reg [⟨some 19, .mov (.t 6), none⟩, ⟨some 20, .mov (.t 7), none⟩, ⟨some 21, .build [.int .i64 0, .int .i64 0] [(0, 1, .t 19), (1, 1, .t 20)], none⟩, ⟨some 8, .new [.int .i64 0, .int .i64 0], none⟩, ⟨none, .store 2 (.t 8) (.t 21), none⟩]) (.kl [7, 19, 20, 21] (.seq (.reg [⟨some 22, .mov (.t 0), none⟩, ⟨some 23, .load true 2 (.t 8), none⟩, ⟨some 24, .load true 3 (.t 3), none⟩, ⟨some 25, .call 65 [.t 22, .t 23, .t 24], none⟩]) (.kl [22, 23, 24] (.cond (.t 25) (.kl [25] (.reg [⟨some 26, .mov (.t 5), none⟩, ⟨some 27, .load true 2 (.t 8), none⟩, ⟨some 28, .lit 2 1 [.int .i64 0, .int .i64 0] [(0, 2, .t 27)], none⟩, ⟨some 29, .app 2 (.t 26) (.t 28), none⟩, ⟨some 5, .mov (.t 29), none⟩])) (.skip))))))))))))
def lp57_1 : C := lb57_1
def lb57_0 : C := .kl [] (.seq (.reg [⟨some 11, .nxt (.t 10), none⟩, ⟨some 12, .prj 0 (.t 11), none⟩]) (.seq (.cond (.t 12) (.skip) (.kl [0, 3, 10, 11, 12] (.exit 0))) (.kl [12] (.blk 1 (.seq (.reg [⟨some 13, .prj 1 (.t 11), none⟩, ⟨some 6, .mov (.t 13), none⟩]) (.kl [11, 13] (.seq (.reg [⟨some 14, .mov (.t 0), none⟩, ⟨some 15, .rng (.t 14), none⟩]) (.kl [14] (.blk 2 (.loop lp57_1))))))))))
def lp57_0 : C := lb57_0
def fi57 : FI := ⟨.seq (.reg [⟨some 3, .box (.t 1), none⟩, ⟨some 4, .mov (.c (.nilS)), none⟩]) (.kl [1, 4] (.seq (.reg [⟨some 5, .mov (.c (.nilS)), none⟩]) (.seq (.seq (.reg [⟨some 9, .mov (.t 0), none⟩, ⟨some 10, .rng (.t 9), none⟩]) (.kl [9] (.blk 0 (.loop lp57_0)))) (.seq (.reg [⟨some 30, .mov (.t 5), none⟩, ⟨some 4, .mov (.t 30), none⟩]) (.kl [5, 30] (.ret)))))), [.tmp 4]⟩
/-- impl.movesIn -/
def fi59 : FI := ⟨.seq (.reg [⟨some 4, .mov (.c (.nilS)), none⟩, ⟨some 5, .mov (.c (.bool false)), none⟩]) (.kl [4, 5] (.seq (.seq (.reg [⟨some 6, .mov (.t 0), none⟩, ⟨some 7, .call 106 [.t 6], none⟩, ⟨some 8, .un .not (.t 7), none⟩]) (.kl [6, 7] (.cond (.t 8) (.kl [0, 1, 8] (.seq (.reg [⟨some 4, .mov (.c (.nilS)), none⟩, ⟨some 5, .mov (.c (.bool false)), none⟩]) (.ret))) (.skip)))) (.kl [8] (.seq (.reg [⟨some 9, .mov (.t 0), none⟩, ⟨some 10, .mov (.t 1), none⟩, ⟨some 11, .call 105 [.t 9, .t 10], none⟩, ⟨some 4, .mov (.t 11), none⟩, ⟨some 5, .mov (.c (.bool true)), none⟩]) (.kl [0, 1, 9, 10, 11] (.ret)))))), [.tmp 4, .tmp 5]⟩
/-- slices.Contains[[]impl.Move,impl.Move] -/
def fi60 : FI := ⟨.seq (.reg [⟨some 3, .box (.t 1), none⟩, ⟨some 4, .mov (.c (.bool false)), none⟩]) (.kl [1, 4] (.seq (.reg [⟨some 5, .mov (.t 0), none⟩, ⟨some 6, .load true 2 (.t 3), none⟩, ⟨some 7, .call 133 [.t 5, .t 6], none⟩, ⟨some 8, .bin .geq (.t 7) (.c (.int .i64 0)), none⟩, ⟨some 4, .mov (.t 8), none⟩]) (.kl [0, 3, 5, 6, 7, 8] (.ret)))), [.tmp 4]⟩
/-- impl.made -/
def fi61 : FI := ⟨.seq (.reg [⟨some 3, .box (.t 1), none⟩, ⟨some 4, .mov (.c (.str [])), none⟩]) (.kl [1, 4] (.seq (.reg [⟨some 6, .mov (.t 0), none⟩, ⟨some 7, .toB (.t 6), none⟩, ⟨some 5, .mov (.t 7), none⟩]) (.kl [0, 6, 7] (.seq (.drw [⟨some 8, .mov (.t 5), none⟩, ⟨some 9, .faddr 1 1 (.t 3), none⟩, ⟨some 10, .load false 1 (.t 9), none⟩, ⟨some 11, .mov (.t 5), none⟩, ⟨some 12, .faddr 0 1 (.t 3), none⟩, ⟨some 13, .load false 1 (.t 12), none⟩, ⟨some 14, .mov (.t 5), none⟩, ⟨some 15, .faddr 0 1 (.t 3), none⟩, ⟨some 16, .load false 1 (.t 15), none⟩, ⟨some 17, .iaddr 1 (.t 14) (.t 16), none⟩, ⟨some 18, .load false 1 (.t 17), none⟩, ⟨some 19, .iaddr 1 (.t 8) (.t 10), none⟩, ⟨none, .store 1 (.t 19) (.t 18), none⟩, ⟨some 20, .iaddr 1 (.t 11) (.t 13), none⟩, ⟨none, .store 1 (.t 20) (.c (.int .u8 46)), none⟩] [(5, 12)]) (.kl [3, 8, 9, 10, 11, 12, 13, 14, 15, 16, 17, 18, 19, 20] (.seq (.reg [⟨some 21, .mov (.t 5), none⟩, ⟨some 22, .ofB (.t 21), none⟩, ⟨some 4, .mov (.t 22), none⟩]) (.kl [5, 21, 22] (.ret)))))))), [.tmp 4]⟩
/-- (*spec.l1Cur).one -/
def fi64 : FI := ⟨.seq (.reg [⟨some 4, .mov (.c (.bool false)), none⟩]) (.kl [4] (.seq (.reg [⟨some 5, .mov (.t 0), none⟩, ⟨some 6, .mov (.t 1), none⟩, ⟨some 7, .call 63 [.t 5, .t 6], none⟩, ⟨some 8, .bin .eql (.t 7) (.c (.int .i64 0)), none⟩, ⟨some 4, .mov (.t 8), none⟩]) (.kl [0, 1, 5, 6, 7, 8] (.ret)))), [.tmp 4]⟩
/-- (*spec.l1Cur).pick -/
def fi63 : FI := ⟨.seq (.reg [⟨some 4, .mov (.c (.int .i64 0)), none⟩]) (.kl [4] (.seq (.seq (.reg [⟨some 6, .mov (.t 1), none⟩, ⟨some 7, .bin .leq (.t 6) (.c (.int .i64 1)), none⟩]) (.kl [6] (.cond (.t 7) (.kl [0, 1, 7] (.seq (.reg [⟨some 4, .mov (.c (.int .i64 0)), none⟩]) (.ret))) (.skip)))) (.kl [7] (.seq (.reg [⟨some 8, .mov (.t 0), none⟩, ⟨some 9, .call 107 [.t 8], none⟩, ⟨some 5, .mov (.t 9), none⟩]) (.kl [8, 9] (.seq (.seq (.reg [⟨some 10, .mov (.t 1), none⟩, ⟨some 11, .bin .gtr (.t 10) (.c (.int .i64 200)), none⟩]) (.kl [10] (.cond (.t 11) (.kl [11] (.reg [⟨some 12, .mov (.t 5), none⟩, ⟨some 13, .bin .mul (.t 12) (.c (.int .i64 256)), none⟩, ⟨some 14, .mov (.t 0), none⟩, ⟨some 15, .call 107 [.t 14], none⟩, ⟨some 16, .bin .add (.t 13) (.t 15), none⟩, ⟨some 5, .mov (.t 16), none⟩])) (.skip)))) (.kl [0, 11, 12, 13, 14, 15, 16] (.seq (.reg [⟨some 17, .mov (.t 5), none⟩, ⟨some 18, .mov (.t 1), none⟩, ⟨some 19, .bin .rem (.t 17) (.t 18), none⟩, ⟨some 4, .mov (.t 19), none⟩]) (.kl [1, 5, 17, 18, 19] (.ret)))))))))), [.tmp 4]⟩
/-- (*spec.l1Cur).among -/
def fi62 : FI := ⟨.seq (.reg [⟨some 4, .mov (.c (.int .i64 0)), none⟩]) (.kl [4] (.seq (.reg [⟨some 5, .mov (.t 1), none⟩, ⟨some 6, .mov (.t 0), none⟩, ⟨some 7, .mov (.t 1), none⟩, ⟨some 8, .lenV (.t 7), none⟩, ⟨some 9, .call 63 [.t 6, .t 8], none⟩, ⟨some 10, .iaddr 1 (.t 5) (.t 9), none⟩, ⟨some 11, .load false 1 (.t 10), none⟩, ⟨some 4, .mov (.t 11), none⟩]) (.kl [0, 1, 5, 6, 7, 8, 9, 10, 11] (.ret)))), [.tmp 4]⟩
-- lp65_0 HEAD [0, 4, 5, 7, 8, 9] | exit 0: [] | ret: [6]
/-- spec.ruCan -/
def lb65_0 : C := .kl [76, 77] (.seq (.seq (.reg [⟨some 73, .mov (.t 9), none⟩, ⟨some 74, .mov (.t 8), none⟩, ⟨some 75, .bin .lss (.t 73) (.t 74), none⟩]) (.kl [73, 74] (.cond (.t 75) (.skip) (.kl [0, 4, 5, 7, 8, 9, 75] (.exit 0))))) (.kl [75] (.seq (.blk 1 (.seq (.reg [⟨some 78, .mov (.t 0), none⟩, ⟨some 79, .faddr 0 1 (.t 4), none⟩, ⟨some 80, .load false 1 (.t 79), none⟩, ⟨some 81, .mov (.t 9), none⟩, ⟨some 82, .mov (.t 7), none⟩, ⟨some 83, .bin .mul (.t 81) (.t 82), none⟩, ⟨some 84, .bin .add (.t 80) (.t 83), none⟩, ⟨some 85, .idxS (.t 78) (.t 84), none⟩, ⟨some 10, .mov (.t 85), none⟩]) (.kl [78, 79, 80, 81, 82, 83, 84, 85] (.seq (.reg [⟨some 86, .mov (.t 10), none⟩, ⟨some 87, .bin .eql (.t 86) (.c (.int .u8 46)), none⟩, ⟨some 88, .mov (.t 87), none⟩, ⟨some 89, .mov (.t 10), some (88, false)⟩, ⟨some 90, .mov (.t 0), some (88, false)⟩, ⟨some 91, .faddr 0 1 (.t 4), some (88, false)⟩, ⟨some 92, .load false 1 (.t 91), some (88, false)⟩, ⟨some 93, .idxS (.t 90) (.t 92), some (88, false)⟩, ⟨some 94, .bin .eql (.t 89) (.t 93), some (88, false)⟩, ⟨some 95, .mov (.t 94), some (88, false)⟩, ⟨some 96, .faddr 0 1 (.t 5), some (95, true)⟩, ⟨some 97, .load false 1 (.t 96), some (95, true)⟩, ⟨some 98, .un .not (.t 97), some (95, true)⟩, ⟨some 99, .pick (.t 95) (.t 98) (.c (.bool false)), some (88, false)⟩, ⟨some 100, .pick (.t 88) (.c (.bool true)) (.t 99), none⟩]) (.kl [10, 86, 87, 88, 89, 90, 91, 92, 93, 94, 95, 96, 97, 98, 99] (.cond (.t 100) (.kl [0, 4, 5, 7, 8, 9, 100] (.seq (.reg [⟨some 6, .mov (.c (.bool false)), none⟩]) (.ret))) (.skip))))))) (.kl [100] (.reg [⟨some 76, .mov (.t 9), none⟩, ⟨some 77, .bin .add (.t 76) (.c (.int .i64 1)), none⟩, ⟨some 9, .mov (.t 77), none⟩])))))
def lp65_0 : C := lb65_0
def fi65 : FI := ⟨.seq (.reg [⟨some 4, .box (.t 1), none⟩, ⟨some 5, .box (.t 2), none⟩, ⟨some 6, .mov (.c (.bool false)), none⟩]) (.kl [1, 2, 6] (.seq (.seq (.reg [⟨some 11, .faddr 0 1 (.t 4), none⟩, ⟨some 12, .load false 1 (.t 11), none⟩, ⟨some 13, .mov (.t 0), none⟩, ⟨some 14, .lenS (.t 13), none⟩, ⟨some 15, .bin .sub (.t 14) (.c (.int .i64 1)), none⟩, ⟨some 16, .call 77 [.t 12, .c (.int .i64 0), .t 15], none⟩, ⟨some 17, .un .not (.t 16), none⟩, ⟨some 18, .mov (.t 17), none⟩, ⟨some 19, .faddr 1 1 (.t 4), some (18, false)⟩, ⟨some 20, .load false 1 (.t 19), some (18, false)⟩, ⟨some 21, .mov (.t 0), some (18, false)⟩, ⟨some 22, .lenS (.t 21), some (18, false)⟩, ⟨some 23, .bin .sub (.t 22) (.c (.int .i64 1)), some (18, false)⟩, ⟨some 24, .call 77 [.t 20, .c (.int .i64 0), .t 23], some (18, false)⟩, ⟨some 25, .un .not (.t 24), some (18, false)⟩, ⟨some 26, .pick (.t 18) (.c (.bool true)) (.t 25), none⟩, ⟨some 27, .mov (.t 26), none⟩, ⟨some 28, .mov (.t 0), some (27, false)⟩, ⟨some 29, .faddr 0 1 (.t 4), some (27, false)⟩, ⟨some 30, .load false 1 (.t 29), some (27, false)⟩, ⟨some 31, .idxS (.t 28) (.t 30), some (27, false)⟩, ⟨some 32, .bin .eql (.t 31) (.c (.int .u8 46)), some (27, false)⟩, ⟨some 33, .pick (.t 27) (.c (.bool true)) (.t 32), none⟩, ⟨some 34, .mov (.t 33), none⟩, ⟨some 35, .mov (.t 0), some (34, false)⟩, ⟨some 36, .faddr 1 1 (.t 4), some (34, false)⟩, ⟨some 37, .load false 1 (.t 36), some (34, false)⟩, ⟨some 38, .idxS (.t 35) (.t 37), some (34, false)⟩, ⟨some 39, .bin .neq (.t 38) (.c (.int .u8 46)), some (34, false)⟩, ⟨some 40, .pick (.t 34) (.c (.bool true)) (.t 39), none⟩]) (.kl [11, 12, 13, 14, 15, 16, 17, 18, 19, 20, 21, 22, 23, 24, 25, 26, 27, 28, 29, 30, 31, 32, 33, 34, 35, 36, 37, 38, 39] (.cond (.t 40) (.kl [0, 4, 5, 40] (.seq (.reg [⟨some 6, .mov (.c (.bool false)), none⟩]) (.ret))) (.skip)))) (.kl [40] (.seq (.reg [⟨some 7, .mov (.c (.int .i64 1)), none⟩]) (.seq (.seq (.reg [⟨some 41, .faddr 1 1 (.t 4), none⟩, ⟨some 42, .load false 1 (.t 41), none⟩, ⟨some 43, .faddr 0 1 (.t 4), none⟩, ⟨some 44, .load false 1 (.t 43), none⟩, ⟨some 45, .bin .lss (.t 42) (.t 44), none⟩]) (.kl [41, 42, 43, 44] (.cond (.t 45) (.kl [7, 45] (.reg [⟨some 7, .mov (.c (.int .i64 (-1))), none⟩])) (.skip)))) (.kl [45] (.seq (.seq (.reg [⟨some 46, .mov (.t 0), none⟩, ⟨some 47, .faddr 0 1 (.t 4), none⟩, ⟨some 48, .load false 1 (.t 47), none⟩, ⟨some 49, .idxS (.t 46) (.t 48), none⟩, ⟨some 50, .bin .eql (.t 49) (.c (.int .u8 84)), none⟩, ⟨some 51, .mov (.t 7), none⟩, ⟨some 52, .bin .gtr (.t 51) (.c (.int .i64 0)), none⟩, ⟨some 53, .beq true (.t 50) (.t 52), none⟩, ⟨some 54, .mov (.t 53), none⟩, ⟨some 55, .faddr 1 1 (.t 5), some (54, true)⟩, ⟨some 56, .load false 1 (.t 55), some (54, true)⟩, ⟨some 57, .un .not (.t 56), some (54, true)⟩, ⟨some 58, .pick (.t 54) (.t 57) (.c (.bool false)), none⟩]) (.kl [46, 47, 48, 49, 50, 51, 52, 53, 54, 55, 56, 57] (.cond (.t 58) (.kl [0, 4, 5, 7, 58] (.seq (.reg [⟨some 6, .mov (.c (.bool false)), none⟩]) (.ret))) (.skip)))) (.kl [58] (.seq (.reg [⟨some 59, .faddr 1 1 (.t 4), none⟩, ⟨some 60, .load false 1 (.t 59), none⟩, ⟨some 61, .faddr 0 1 (.t 4), none⟩, ⟨some 62, .load false 1 (.t 61), none⟩, ⟨some 63, .bin .sub (.t 60) (.t 62), none⟩, ⟨some 64, .mov (.t 7), none⟩, ⟨some 65, .bin .mul (.t 63) (.t 64), none⟩, ⟨some 8, .mov (.t 65), none⟩]) (.kl [59, 60, 61, 62, 63, 64, 65] (.seq (.seq (.reg [⟨some 66, .mov (.t 8), none⟩, ⟨some 67, .bin .gtr (.t 66) (.c (.int .i64 2)), none⟩, ⟨some 68, .mov (.t 67), none⟩, ⟨some 69, .faddr 2 1 (.t 5), some (68, true)⟩, ⟨some 70, .load false 1 (.t 69), some (68, true)⟩, ⟨some 71, .un .not (.t 70), some (68, true)⟩, ⟨some 72, .pick (.t 68) (.t 71) (.c (.bool false)), none⟩]) (.kl [66, 67, 68, 69, 70, 71] (.cond (.t 72) (.kl [0, 4, 5, 7, 8, 72] (.seq (.reg [⟨some 6, .mov (.c (.bool false)), none⟩]) (.ret))) (.skip)))) (.kl [72] (.seq (.seq (.reg [⟨some 9, .mov (.c (.int .i64 1)), none⟩]) (.blk 0 (.loop lp65_0))) (.seq (.reg [⟨some 6, .mov (.c (.bool true)), none⟩]) (.ret))))))))))))))), [.tmp 6]⟩
/-- spec.liMake -/
def fi66 : FI := ⟨.seq (.reg [⟨some 3, .box (.t 1), none⟩, ⟨some 4, .mov (.c (.str [])), none⟩]) (.kl [1, 4] (.seq (.reg [⟨some 6, .mov (.t 0), none⟩, ⟨some 7, .faddr 0 1 (.t 3), none⟩, ⟨some 8, .load false 1 (.t 7), none⟩, ⟨some 9, .faddr 0 1 (.t 3), none⟩, ⟨some 10, .load false 1 (.t 9), none⟩, ⟨some 11, .bin .add (.t 10) (.c (.int .i64 1)), none⟩, ⟨some 12, .subS (.t 6) (some (.t 8)) (some (.t 11)), none⟩, ⟨some 5, .mov (.t 12), none⟩]) (.kl [6, 7, 8, 9, 10, 11, 12] (.seq (.drw [⟨some 13, .mov (.t 0), none⟩, ⟨some 14, .faddr 0 1 (.t 3), none⟩, ⟨some 15, .load false 1 (.t 14), none⟩, ⟨some 16, .call 108 [.t 13, .t 15, .c (.str [46])], none⟩, ⟨some 17, .faddr 1 1 (.t 3), none⟩, ⟨some 18, .load false 1 (.t 17), none⟩, ⟨some 19, .mov (.t 5), none⟩, ⟨some 20, .call 108 [.t 16, .t 18, .t 19], none⟩, ⟨some 4, .mov (.t 20), none⟩] [(5, 3)]) (.kl [0, 3, 5, 13, 14, 15, 16, 17, 18, 19, 20] (.ret)))))), [.tmp 4]⟩
-- lp68_0 HEAD [0, 1, 2, 10, 11, 12] | exit 0: [0, 1] | ret: [6, 7]
/-- impl.played -/
def lb68_0 : C := .kl [26] (.seq (.reg [⟨some 13, .bin .lss (.t 12) (.t 11), none⟩]) (.seq (.cond (.t 13) (.skip) (.kl [2, 10, 11, 12, 13] (.exit 0))) (.kl [13] (.seq (.blk 1 (.seq (.reg [⟨some 14, .mov (.t 12), none⟩, ⟨some 15, .iaddr 2 (.t 10) (.t 12), none⟩, ⟨some 16, .load true 2 (.t 15), none⟩, ⟨some 9, .new [.int .i64 0, .int .i64 0], none⟩, ⟨some 8, .mov (.t 14), none⟩, ⟨none, .store 2 (.t 9) (.t 16), none⟩]) (.kl [14, 15, 16] (.seq (.seq (.reg [⟨some 17, .mov (.t 2), none⟩, ⟨some 18, .mov (.t 0), none⟩, ⟨some 19, .load true 2 (.t 9), none⟩, ⟨some 20, .callv (.t 17) [.t 18, .t 19], none⟩, ⟨some 21, .un .not (.t 20), none⟩]) (.kl [17, 18, 19, 20] (.cond (.t 21) (.kl [0, 1, 2, 9, 10, 11, 12, 21] (.seq (.reg [⟨some 22, .mov (.t 8), none⟩, ⟨some 6, .mov (.c (.str [])), none⟩, ⟨some 7, .mov (.t 22), none⟩]) (.kl [8, 22] (.ret)))) (.skip)))) (.kl [8, 21] (.reg [⟨some 23, .mov (.t 0), none⟩, ⟨some 24, .load true 2 (.t 9), none⟩, ⟨some 25, .call 61 [.t 23, .t 24], none⟩, ⟨some 0, .mov (.t 25), none⟩])))))) (.kl [9, 23, 24, 25] (.reg [⟨some 26, .bin .add (.t 12) (.c (.int .i64 1)), none⟩, ⟨some 12, .mov (.t 26), none⟩]))))))
def lp68_0 : C := lb68_0
def fi68 : FI := ⟨.seq (.reg [⟨some 6, .mov (.c (.str [])), none⟩, ⟨some 7, .mov (.c (.int .i64 0)), none⟩]) (.kl [6, 7] (.seq (.seq (.reg [⟨some 10, .mov (.t 1), none⟩, ⟨some 11, .lenV (.t 10), none⟩, ⟨some 12, .mov (.c (.int .i64 0)), none⟩]) (.blk 0 (.loop lp68_0))) (.seq (.reg [⟨some 27, .mov (.t 0), none⟩, ⟨some 28, .mov (.t 1), none⟩, ⟨some 29, .lenV (.t 28), none⟩, ⟨some 6, .mov (.t 27), none⟩, ⟨some 7, .mov (.t 29), none⟩]) (.kl [0, 1, 27, 28, 29] (.ret))))), [.tmp 6, .tmp 7]⟩
/-- impl.PlayByRule$1 -/
def fi67 : FI := ⟨.seq (.reg [⟨some 4, .box (.t 1), none⟩, ⟨some 5, .mov (.c (.bool false)), none⟩]) (.kl [1, 5] (.seq (.drw [⟨some 6, .mov (.t 0), none⟩, ⟨some 7, .load true 3 (.t 2), none⟩, ⟨some 8, .call 55 [.t 6, .t 7], none⟩, ⟨some 9, .load true 2 (.t 4), none⟩, ⟨some 10, .call 60 [.t 8, .t 9], none⟩, ⟨some 5, .mov (.t 10), none⟩] [(3, 2)]) (.kl [0, 2, 4, 6, 7, 8, 9, 10] (.ret)))), [.tmp 5]⟩
-- lp69_0 HEAD [3, 12, 13, 14] | exit 0: [3]
/-- (impl.Rule).text -/
def lb69_0 : C := .kl [26] (.seq (.reg [⟨some 15, .bin .lss (.t 14) (.t 13), none⟩]) (.seq (.cond (.t 15) (.skip) (.kl [12, 13, 14, 15] (.exit 0))) (.kl [15] (.seq (.blk 1 (.seq (.reg [⟨some 16, .mov (.t 14), none⟩, ⟨some 17, .iaddr 1 (.t 12) (.t 14), none⟩, ⟨some 18, .load false 1 (.t 17), none⟩, ⟨some 4, .mov (.t 16), none⟩, ⟨some 5, .mov (.t 18), none⟩]) (.kl [16, 17, 18] (.seq (.reg [⟨some 19, .mov (.t 5), none⟩]) (.kl [5] (.cond (.t 19) (.kl [19] (.reg [⟨some 20, .mov (.t 3), none⟩, ⟨some 21, .mov (.t 4), none⟩, ⟨some 22, .mov (.t 4), none⟩, ⟨some 23, .bin .add (.t 22) (.c (.int .i64 1)), none⟩, ⟨some 24, .subS (.c (.str [111, 98, 108])) (some (.t 21)) (some (.t 23)), none⟩, ⟨some 25, .bin .add (.t 20) (.t 24), none⟩, ⟨some 3, .mov (.t 25), none⟩])) (.skip))))))) (.kl [4, 19, 20, 21, 22, 23, 24, 25] (.reg [⟨some 26, .bin .add (.t 14) (.c (.int .i64 1)), none⟩, ⟨some 14, .mov (.t 26), none⟩]))))))
def lp69_0 : C := lb69_0
def fi69 : FI := ⟨.seq (.reg [⟨some 1, .box (.t 0), none⟩, ⟨some 2, .mov (.c (.str [])), none⟩]) (.kl [0, 2] (.seq (.reg [⟨some 3, .mov (.c (.str [])), none⟩]) (.seq (.seq (.reg [⟨some 6, .faddr 0 1 (.t 1), none⟩, ⟨some 7, .load false 1 (.t 6), none⟩, ⟨some 8, .faddr 1 1 (.t 1), none⟩, ⟨some 9, .load false 1 (.t 8), none⟩, ⟨some 10, .faddr 2 1 (.t 1), none⟩, ⟨some 11, .load false 1 (.t 10), none⟩, ⟨some 12, .lit 1 3 [.bool false, .bool false, .bool false] [(0, 1, .t 7), (1, 1, .t 9), (2, 1, .t 11)], none⟩, ⟨some 13, .lenV (.t 12), none⟩, ⟨some 14, .mov (.c (.int .i64 0)), none⟩]) (.kl [1, 6, 7, 8, 9, 10, 11] (.blk 0 (.loop lp69_0)))) (.seq (.seq (.reg [⟨some 27, .mov (.t 3), none⟩, ⟨some 28, .bin .eql (.t 27) (.c (.str [])), none⟩]) (.kl [27] (.cond (.t 28) (.kl [3, 28] (.seq (.reg [⟨some 2, .mov (.c (.str [45])), none⟩]) (.ret))) (.skip)))) (.kl [28] (.seq (.reg [⟨some 29, .mov (.t 3), none⟩, ⟨some 2, .mov (.t 29), none⟩]) (.kl [3, 29] (.ret)))))))), [.tmp 2]⟩
/-- spec.ruText -/
def fi70 : FI := ⟨.seq (.reg [⟨some 1, .box (.t 0), none⟩, ⟨some 2, .mov (.c (.str [])), none⟩]) (.kl [0, 2] (.seq (.reg [⟨some 3, .mov (.c (.str [])), none⟩]) (.seq (.seq (.reg [⟨some 4, .faddr 0 1 (.t 1), none⟩, ⟨some 5, .load false 1 (.t 4), none⟩]) (.kl [4] (.cond (.t 5) (.kl [5] (.reg [⟨some 6, .mov (.t 3), none⟩, ⟨some 7, .bin .add (.t 6) (.c (.str [111])), none⟩, ⟨some 3, .mov (.t 7), none⟩])) (.skip)))) (.kl [5, 6, 7] (.seq (.seq (.reg [⟨some 8, .faddr 1 1 (.t 1), none⟩, ⟨some 9, .load false 1 (.t 8), none⟩]) (.kl [8] (.cond (.t 9) (.kl [9] (.reg [⟨some 10, .mov (.t 3), none⟩, ⟨some 11, .bin .add (.t 10) (.c (.str [98])), none⟩, ⟨some 3, .mov (.t 11), none⟩])) (.skip)))) (.kl [9, 10, 11] (.seq (.seq (.reg [⟨some 12, .faddr 2 1 (.t 1), none⟩, ⟨some 13, .load false 1 (.t 12), none⟩]) (.kl [1, 12] (.cond (.t 13) (.kl [13] (.reg [⟨some 14, .mov (.t 3), none⟩, ⟨some 15, .bin .add (.t 14) (.c (.str [108])), none⟩, ⟨some 3, .mov (.t 15), none⟩])) (.skip)))) (.kl [13, 14, 15] (.seq (.seq (.reg [⟨some 16, .mov (.t 3), none⟩, ⟨some 17, .bin .eql (.t 16) (.c (.str [])), none⟩]) (.kl [16] (.cond (.t 17) (.kl [3, 17] (.seq (.reg [⟨some 2, .mov (.c (.str [45])), none⟩]) (.ret))) (.skip)))) (.kl [17] (.seq (.reg [⟨some 18, .mov (.t 3), none⟩, ⟨some 2, .mov (.t 18), none⟩]) (.kl [3, 18] (.ret))))))))))))), [.tmp 2]⟩
/-- (*spec.l1Cur).of -/
def fi71 : FI := ⟨.seq (.reg [⟨some 4, .mov (.c (.str [])), none⟩]) (.kl [4] (.seq (.reg [⟨some 5, .mov (.t 1), none⟩, ⟨some 6, .mov (.t 0), none⟩, ⟨some 7, .mov (.t 1), none⟩, ⟨some 8, .lenV (.t 7), none⟩, ⟨some 9, .call 63 [.t 6, .t 8], none⟩, ⟨some 10, .iaddr 1 (.t 5) (.t 9), none⟩, ⟨some 11, .load false 1 (.t 10), none⟩, ⟨some 4, .mov (.t 11), none⟩]) (.kl [0, 1, 5, 6, 7, 8, 9, 10, 11] (.ret)))), [.tmp 4]⟩
-- lp72_0 HEAD [0, 2, 4] | exit 0: [2] | ret: [2, 3]
/-- spec.ruParse -/
def lb72_0 : C := .kl [8, 9] (.seq (.seq (.reg [⟨some 6, .mov (.t 4), none⟩, ⟨some 7, .bin .lss (.t 6) (.c (.int .i64 8)), none⟩]) (.kl [6] (.cond (.t 7) (.skip) (.kl [0, 4, 7] (.exit 0))))) (.kl [7] (.seq (.blk 1 (.seq (.reg [⟨some 10, .mov (.t 4), none⟩, ⟨some 11, .bin .and (.t 10) (.c (.int .i64 1)), none⟩, ⟨some 12, .bin .gtr (.t 11) (.c (.int .i64 0)), none⟩, ⟨some 13, .mov (.t 4), none⟩, ⟨some 14, .bin .and (.t 13) (.c (.int .i64 2)), none⟩, ⟨some 15, .bin .gtr (.t 14) (.c (.int .i64 0)), none⟩, ⟨some 16, .mov (.t 4), none⟩, ⟨some 17, .bin .and (.t 16) (.c (.int .i64 4)), none⟩, ⟨some 18, .bin .gtr (.t 17) (.c (.int .i64 0)), none⟩, ⟨some 19, .build [.bool false, .bool false, .bool false] [(0, 1, .t 12), (1, 1, .t 15), (2, 1, .t 18)], none⟩, ⟨some 5, .new [.bool false, .bool false, .bool false], none⟩, ⟨none, .store 3 (.t 5) (.t 19), none⟩]) (.kl [10, 11, 12, 13, 14, 15, 16, 17, 18, 19] (.seq (.reg [⟨some 20, .load true 3 (.t 5), none⟩, ⟨some 21, .call 70 [.t 20], none⟩, ⟨some 22, .mov (.t 0), none⟩, ⟨some 23, .bin .eql (.t 21) (.t 22), none⟩]) (.kl [20, 21, 22] (.cond (.t 23) (.kl [0, 4, 23] (.seq (.reg [⟨some 24, .load true 3 (.t 5), none⟩, ⟨none, .store 3 (.t 2) (.t 24), none⟩, ⟨some 3, .mov (.c (.bool true)), none⟩]) (.kl [5, 24] (.ret)))) (.skip))))))) (.kl [5, 23] (.reg [⟨some 8, .mov (.t 4), none⟩, ⟨some 9, .bin .add (.t 8) (.c (.int .i64 1)), none⟩, ⟨some 4, .mov (.t 9), none⟩])))))
def lp72_0 : C := lb72_0
def fi72 : FI := ⟨.seq (.reg [⟨some 2, .new [.bool false, .bool false, .bool false], none⟩, ⟨some 3, .mov (.c (.bool false)), none⟩]) (.kl [3] (.seq (.seq (.reg [⟨some 4, .mov (.c (.int .i64 0)), none⟩]) (.blk 0 (.loop lp72_0))) (.seq (.reg [⟨some 25, .build [.bool false, .bool false, .bool false] [], none⟩, ⟨none, .store 3 (.t 2) (.t 25), none⟩, ⟨some 3, .mov (.c (.bool false)), none⟩]) (.kl [25] (.ret))))), [.cell true 3 2, .tmp 3]⟩
-- lp105_0 HEAD [0, 1, 5, 11, 12] | exit 0: [5]
/-- impl.moves -/
def lb105_0 : C := .kl [37] (.seq (.reg [⟨some 13, .bin .lss (.t 12) (.t 11), none⟩]) (.seq (.cond (.t 13) (.skip) (.kl [0, 1, 11, 12, 13] (.exit 0))) (.kl [13] (.seq (.blk 1 (.seq (.reg [⟨some 14, .mov (.t 12), none⟩, ⟨some 6, .mov (.t 14), none⟩]) (.kl [14] (.seq (.reg [⟨some 16, .mov (.t 0), none⟩, ⟨some 17, .mov (.t 6), none⟩, ⟨some 18, .call 127 [.t 16, .t 17], none⟩, ⟨some 15, .mov (.t 18), none⟩, ⟨some 19, .prj 0 (.t 15), none⟩, ⟨some 20, .prj 1 (.t 15), none⟩, ⟨some 7, .mov (.t 19), none⟩, ⟨some 8, .mov (.t 20), none⟩]) (.kl [15, 16, 17, 18, 19, 20] (.seq (.reg [⟨some 21, .mov (.t 8), none⟩, ⟨some 22, .mov (.t 21), none⟩, ⟨some 23, .mov (.t 1), some (22, true)⟩, ⟨some 24, .mov (.t 0), some (22, true)⟩, ⟨some 25, .mov (.t 6), some (22, true)⟩, ⟨some 26, .mov (.t 6), some (22, true)⟩, ⟨some 27, .bin .add (.t 26) (.c (.int .i64 1)), some (22, true)⟩, ⟨some 28, .subS (.t 24) (some (.t 25)) (some (.t 27)), some (22, true)⟩, ⟨some 29, .call 126 [.t 23, .t 28], some (22, true)⟩, ⟨some 30, .pick (.t 22) (.t 29) (.c (.bool false)), none⟩]) (.kl [8, 21, 22, 23, 24, 25, 26, 27, 28, 29] (.cond (.t 30) (.kl [30] (.reg [⟨some 31, .mov (.t 5), none⟩, ⟨some 32, .mov (.t 6), none⟩, ⟨some 33, .mov (.t 7), none⟩, ⟨some 34, .build [.int .i64 0, .int .i64 0] [(0, 1, .t 32), (1, 1, .t 33)], none⟩, ⟨some 35, .lit 2 1 [.int .i64 0, .int .i64 0] [(0, 2, .t 34)], none⟩, ⟨some 36, .app 2 (.t 31) (.t 35), none⟩, ⟨some 5, .mov (.t 36), none⟩])) (.skip))))))))) (.kl [6, 7, 30, 31, 32, 33, 34, 35, 36] (.reg [⟨some 37, .bin .add (.t 12) (.c (.int .i64 1)), none⟩, ⟨some 12, .mov (.t 37), none⟩]))))))
def lp105_0 : C := lb105_0
def fi105 : FI := ⟨.seq (.reg [⟨some 4, .mov (.c (.nilS)), none⟩]) (.kl [4] (.seq (.reg [⟨some 9, .lit0, none⟩, ⟨some 5, .mov (.t 9), none⟩]) (.kl [9] (.seq (.seq (.reg [⟨some 10, .mov (.t 0), none⟩, ⟨some 11, .lenS (.t 10), none⟩, ⟨some 12, .mov (.c (.int .i64 0)), none⟩]) (.kl [10] (.blk 0 (.loop lp105_0)))) (.seq (.reg [⟨some 38, .mov (.t 5), none⟩, ⟨some 4, .mov (.t 38), none⟩]) (.kl [5, 38] (.ret))))))), [.tmp 4]⟩
/-- impl.IsLine -/
def fi106 : FI := ⟨.seq (.reg [⟨some 2, .mov (.c (.bool false)), none⟩]) (.kl [2] (.seq (.reg [⟨some 3, .mov (.t 0), none⟩, ⟨some 4, .call 82 [.t 3, .c (.int .i64 12)], none⟩, ⟨some 2, .mov (.t 4), none⟩]) (.kl [0, 3, 4] (.ret)))), [.tmp 2]⟩
/-- impl.within -/
def fi74 : FI := ⟨.seq (.reg [⟨some 6, .mov (.c (.bool false)), none⟩]) (.kl [6] (.seq (.reg [⟨some 7, .mov (.t 1), none⟩, ⟨some 8, .mov (.t 0), none⟩, ⟨some 9, .bin .leq (.t 7) (.t 8), none⟩, ⟨some 10, .mov (.t 9), none⟩, ⟨some 11, .mov (.t 0), some (10, true)⟩, ⟨some 12, .mov (.t 2), some (10, true)⟩, ⟨some 13, .bin .leq (.t 11) (.t 12), some (10, true)⟩, ⟨some 14, .pick (.t 10) (.t 13) (.c (.bool false)), none⟩, ⟨some 6, .mov (.t 14), none⟩]) (.kl [0, 1, 2, 7, 8, 9, 10, 11, 12, 13, 14] (.ret)))), [.tmp 6]⟩
/-- (*spec.l1Cur).line -/
def fi101 : FI := ⟨.seq (.reg [⟨some 2, .mov (.c (.str [])), none⟩]) (.kl [2] (.seq (.seq (.reg [⟨some 3, .mov (.t 0), none⟩, ⟨some 4, .call 63 [.t 3, .c (.int .i64 16)], none⟩]) (.kl [3] (.blk 0 (.seq (.reg [⟨some 6, .bin .eql (.t 4) (.c (.int .i64 0)), none⟩, ⟨some 5, .mov (.t 6), none⟩]) (.kl [6] (.cond (.t 5) (.kl [4, 5] (.seq (.reg [⟨some 7, .mov (.t 0), none⟩, ⟨some 8, .lit 1 5 [.str [], .str [], .str [], .str [], .str []] [(0, 1, .c (.str [])), (1, 1, .c (.str [120])), (2, 1, .c (.str [84, 32, 70])), (3, 1, .c (.str [84, 46, 70, 46, 84, 46, 70, 46, 84, 46, 70, 46, 84])), (4, 1, .c (.str [116, 46, 102]))], none⟩, ⟨some 9, .call 71 [.t 7, .t 8], none⟩, ⟨some 2, .mov (.t 9), none⟩]) (.kl [0, 7, 8, 9] (.ret)))) (.kl [5] (.seq (.seq (.reg [⟨some 11, .bin .eql (.t 4) (.c (.int .i64 1)), none⟩, ⟨some 10, .mov (.t 11), none⟩]) (.kl [11] (.cond (.t 10) (.skip) (.kl [10] (.seq (.reg [⟨some 12, .bin .eql (.t 4) (.c (.int .i64 2)), none⟩, ⟨some 10, .mov (.t 12), none⟩]) (.kl [12] (.cond (.t 10) (.skip) (.kl [10] (.reg [⟨some 13, .bin .eql (.t 4) (.c (.int .i64 3)), none⟩, ⟨some 10, .mov (.t 13), none⟩]))))))))) (.kl [4, 13] (.cond (.t 10) (.kl [10] (.seq (.reg [⟨some 14, .mov (.t 0), none⟩, ⟨some 15, .call 63 [.t 14, .c (.int .i64 3)], none⟩, ⟨some 16, .bin .add (.c (.int .i64 1)) (.t 15), none⟩, ⟨some 17, .mov (.t 0), none⟩, ⟨some 18, .call 63 [.t 17, .c (.int .i64 2)], none⟩, ⟨some 19, .bin .add (.c (.int .i64 1)) (.t 18), none⟩, ⟨some 20, .mov (.t 0), none⟩, ⟨some 21, .call 63 [.t 20, .c (.int .i64 3)], none⟩, ⟨some 22, .bin .add (.c (.int .i64 1)) (.t 21), none⟩, ⟨some 23, .call 100 [.t 16, .t 19, .t 22], none⟩, ⟨some 2, .mov (.t 23), none⟩]) (.kl [0, 14, 15, 16, 17, 18, 19, 20, 21, 22, 23] (.ret)))) (.skip))))))))))) (.kl [10] (.seq (.reg [⟨some 24, .mov (.t 0), none⟩, ⟨some 25, .call 99 [.t 24, .c (.int .i64 9)], none⟩, ⟨some 2, .mov (.t 25), none⟩]) (.kl [0, 24, 25] (.ret)))))), [.tmp 2]⟩
/-- spec.liFirst -/
def fi100 : FI := ⟨.seq (.reg [⟨some 6, .mov (.c (.str [])), none⟩]) (.kl [6] (.seq (.reg [⟨some 7, .mov (.t 0), none⟩, ⟨some 8, .call 124 [.c (.str [84]), .t 7], none⟩, ⟨some 9, .mov (.t 1), none⟩, ⟨some 10, .call 124 [.c (.str [46]), .t 9], none⟩, ⟨some 11, .bin .add (.t 8) (.t 10), none⟩, ⟨some 12, .mov (.t 2), none⟩, ⟨some 13, .call 124 [.c (.str [70]), .t 12], none⟩, ⟨some 14, .bin .add (.t 11) (.t 13), none⟩, ⟨some 6, .mov (.t 14), none⟩]) (.kl [0, 1, 2, 7, 8, 9, 10, 11, 12, 13, 14] (.ret)))), [.tmp 6]⟩
-- lp99_0 HEAD [0, 5, 6] | exit 0: [0, 5]
/-- (*spec.l1Cur).sureLine -/
def lb99_0 : C := .kl [13, 14] (.seq (.seq (.reg [⟨some 11, .mov (.t 6), none⟩, ⟨some 12, .bin .gtr (.t 11) (.c (.int .i64 0)), none⟩]) (.kl [11] (.cond (.t 12) (.skip) (.kl [6, 12] (.exit 0))))) (.kl [12] (.seq (.blk 1 (.reg [⟨some 15, .mov (.t 5), none⟩, ⟨some 16, .mov (.t 0), none⟩, ⟨some 17, .lit 1 5 [.str [], .str [], .str [], .str [], .str []] [(0, 1, .c (.str [84])), (1, 1, .c (.str [70])), (2, 1, .c (.str [46])), (3, 1, .c (.str [84])), (4, 1, .c (.str [70]))], none⟩, ⟨some 18, .call 71 [.t 16, .t 17], none⟩, ⟨some 19, .bin .add (.t 15) (.t 18), none⟩, ⟨some 5, .mov (.t 19), none⟩])) (.kl [15, 16, 17, 18, 19] (.reg [⟨some 13, .mov (.t 6), none⟩, ⟨some 14, .bin .sub (.t 13) (.c (.int .i64 1)), none⟩, ⟨some 6, .mov (.t 14), none⟩])))))
def lp99_0 : C := lb99_0
def fi99 : FI := ⟨.seq (.reg [⟨some 4, .mov (.c (.str [])), none⟩]) (.kl [4] (.seq (.reg [⟨some 5, .mov (.c (.str [])), none⟩]) (.seq (.seq (.reg [⟨some 7, .mov (.t 0), none⟩, ⟨some 8, .mov (.t 1), none⟩, ⟨some 9, .call 63 [.t 7, .t 8], none⟩, ⟨some 10, .bin .add (.c (.int .i64 1)) (.t 9), none⟩, ⟨some 6, .mov (.t 10), none⟩]) (.kl [1, 7, 8, 9, 10] (.blk 0 (.loop lp99_0)))) (.seq (.seq (.reg [⟨some 20, .mov (.t 5), none⟩, ⟨some 21, .call 116 [.t 20, .c (.int .u8 46)], none⟩, ⟨some 22, .bin .eql (.t 21) (.c (.int .i64 0)), none⟩, ⟨some 23, .mov (.t 22), none⟩, ⟨some 24, .mov (.t 0), some (23, true)⟩, ⟨some 25, .call 64 [.t 24, .c (.int .i64 8)], some (23, true)⟩, ⟨some 26, .un .not (.t 25), some (23, true)⟩, ⟨some 27, .pick (.t 23) (.t 26) (.c (.bool false)), none⟩]) (.kl [20, 21, 22, 23, 24, 25, 26] (.cond (.t 27) (.kl [27] (.seq (.reg [⟨some 28, .mov (.t 5), none⟩, ⟨some 29, .mov (.t 0), none⟩, ⟨some 30, .mov (.t 5), none⟩, ⟨some 31, .lenS (.t 30), none⟩, ⟨some 32, .call 63 [.t 29, .t 31], none⟩, ⟨some 33, .call 108 [.t 28, .t 32, .c (.str [46])], none⟩, ⟨some 4, .mov (.t 33), none⟩]) (.kl [0, 5, 28, 29, 30, 31, 32, 33] (.ret)))) (.skip)))) (.kl [0, 27] (.seq (.reg [⟨some 34, .mov (.t 5), none⟩, ⟨some 4, .mov (.t 34), none⟩]) (.kl [5, 34] (.ret)))))))), [.tmp 4]⟩
/-- impl.isLineOf -/
def fi82 : FI := ⟨.seq (.reg [⟨some 4, .mov (.c (.bool false)), none⟩]) (.kl [4] (.seq (.reg [⟨some 5, .mov (.t 0), none⟩, ⟨some 6, .lenS (.t 5), none⟩, ⟨some 7, .mov (.t 1), none⟩, ⟨some 8, .call 74 [.t 6, .c (.int .i64 1), .t 7], none⟩, ⟨some 9, .mov (.t 8), none⟩, ⟨some 10, .mov (.t 0), some (9, true)⟩, ⟨some 11, .call 111 [.t 10, .c (.str [46, 70, 84])], some (9, true)⟩, ⟨some 12, .bin .eql (.t 11) (.c (.str [])), some (9, true)⟩, ⟨some 13, .pick (.t 9) (.t 12) (.c (.bool false)), none⟩, ⟨some 4, .mov (.t 13), none⟩]) (.kl [0, 1, 5, 6, 7, 8, 9, 10, 11, 12, 13] (.ret)))), [.tmp 4]⟩
/-- impl.stepOf -/
def fi103 : FI := ⟨.seq (.reg [⟨some 2, .mov (.c (.int .i64 0)), none⟩]) (.kl [2] (.seq (.seq (.reg [⟨some 3, .mov (.t 0), none⟩]) (.kl [0] (.blk 0 (.seq (.reg [⟨some 5, .bin .eql (.t 3) (.c (.int .u8 84)), none⟩, ⟨some 4, .mov (.t 5), none⟩]) (.kl [5] (.cond (.t 4) (.kl [3, 4] (.seq (.reg [⟨some 2, .mov (.c (.int .i64 1)), none⟩]) (.ret))) (.kl [4] (.seq (.reg [⟨some 7, .bin .eql (.t 3) (.c (.int .u8 70)), none⟩, ⟨some 6, .mov (.t 7), none⟩]) (.kl [3, 7] (.cond (.t 6) (.kl [6] (.seq (.reg [⟨some 2, .mov (.c (.int .i64 (-1))), none⟩]) (.ret))) (.skip))))))))))) (.kl [6] (.seq (.reg [⟨some 2, .mov (.c (.int .i64 0)), none⟩]) (.ret))))), [.tmp 2]⟩
-- lp102_0 HEAD [0, 1, 2, 7, 10] | exit 0: [0, 1, 2, 7, 10]
/-- impl.goalBy -/
def lb102_0 : C := .kl [36, 37, 38] (.seq (.seq (.drw [⟨some 15, .mov (.t 0), none⟩, ⟨some 16, .mov (.t 10), none⟩, ⟨some 17, .call 125 [.t 15, .t 16], none⟩, ⟨some 18, .mov (.t 0), none⟩, ⟨some 19, .mov (.t 1), none⟩, ⟨some 20, .idxS (.t 18) (.t 19), none⟩, ⟨some 21, .call 109 [.t 20], none⟩, ⟨some 22, .bin .eql (.t 17) (.t 21), none⟩, ⟨some 23, .mov (.t 22), none⟩, ⟨some 24, .faddr 0 1 (.t 7), some (23, false)⟩, ⟨some 25, .load false 1 (.t 24), some (23, false)⟩, ⟨some 26, .mov (.t 25), some (23, false)⟩, ⟨some 27, .mov (.t 0), some (26, true)⟩, ⟨some 28, .mov (.t 10), some (26, true)⟩, ⟨some 29, .call 125 [.t 27, .t 28], some (26, true)⟩, ⟨some 30, .mov (.t 0), some (26, true)⟩, ⟨some 31, .mov (.t 1), some (26, true)⟩, ⟨some 32, .idxS (.t 30) (.t 31), some (26, true)⟩, ⟨some 33, .bin .eql (.t 29) (.t 32), some (26, true)⟩, ⟨some 34, .pick (.t 26) (.t 33) (.c (.bool false)), some (23, false)⟩, ⟨some 35, .pick (.t 23) (.c (.bool true)) (.t 34), none⟩] []) (.kl [15, 16, 17, 18, 19, 20, 21, 22, 23, 24, 25, 26, 27, 28, 29, 30, 31, 32, 33, 34] (.cond (.t 35) (.skip) (.kl [35] (.exit 0))))) (.kl [35] (.blk 1 (.reg [⟨some 36, .mov (.t 10), none⟩, ⟨some 37, .mov (.t 2), none⟩, ⟨some 38, .bin .add (.t 36) (.t 37), none⟩, ⟨some 10, .mov (.t 38), none⟩]))))
def lp102_0 : C := lb102_0
def fi102 : FI := ⟨.seq (.reg [⟨some 7, .box (.t 3), none⟩, ⟨some 8, .mov (.c (.int .i64 0)), none⟩, ⟨some 9, .mov (.c (.bool false)), none⟩]) (.kl [3, 8, 9] (.seq (.reg [⟨some 12, .mov (.t 1), none⟩, ⟨some 13, .mov (.t 2), none⟩, ⟨some 14, .bin .add (.t 12) (.t 13), none⟩, ⟨some 10, .mov (.t 14), none⟩]) (.kl [12, 13, 14] (.seq (.blk 0 (.loop lp102_0)) (.seq (.reg [⟨some 39, .mov (.t 10), none⟩, ⟨some 40, .mov (.t 1), none⟩, ⟨some 41, .bin .sub (.t 39) (.t 40), none⟩, ⟨some 42, .mov (.t 2), none⟩, ⟨some 43, .bin .mul (.t 41) (.t 42), none⟩, ⟨some 44, .bin .sub (.t 43) (.c (.int .i64 1)), none⟩, ⟨some 11, .mov (.t 44), none⟩]) (.kl [1, 2, 39, 40, 41, 42, 43, 44] (.seq (.drw [⟨some 45, .mov (.t 10), none⟩, ⟨some 46, .mov (.t 0), none⟩, ⟨some 47, .mov (.t 10), none⟩, ⟨some 48, .call 125 [.t 46, .t 47], none⟩, ⟨some 49, .bin .eql (.t 48) (.c (.int .u8 46)), none⟩, ⟨some 50, .mov (.t 49), none⟩, ⟨some 51, .mov (.t 11), some (50, true)⟩, ⟨some 52, .bin .leq (.t 51) (.c (.int .i64 1)), some (50, true)⟩, ⟨some 53, .mov (.t 52), some (50, true)⟩, ⟨some 54, .faddr 2 1 (.t 7), some (53, false)⟩, ⟨some 55, .load false 1 (.t 54), some (53, false)⟩, ⟨some 56, .pick (.t 53) (.c (.bool true)) (.t 55), some (50, true)⟩, ⟨some 57, .pick (.t 50) (.t 56) (.c (.bool false)), none⟩, ⟨some 8, .mov (.t 45), none⟩, ⟨some 9, .mov (.t 57), none⟩] []) (.kl [0, 7, 10, 11, 45, 46, 47, 48, 49, 50, 51, 52, 53, 54, 55, 56, 57] (.ret))))))))), [.tmp 8, .tmp 9]⟩
-- lp104_0 HEAD [0, 3] | exit 0: [] | ret: [2]
/-- spec.liGood -/
def lb104_0 : C := .kl [12, 13] (.seq (.seq (.reg [⟨some 8, .mov (.t 3), none⟩, ⟨some 9, .mov (.t 0), none⟩, ⟨some 10, .lenS (.t 9), none⟩, ⟨some 11, .bin .lss (.t 8) (.t 10), none⟩]) (.kl [8, 9, 10] (.cond (.t 11) (.skip) (.kl [0, 3, 11] (.exit 0))))) (.kl [11] (.seq (.blk 1 (.seq (.reg [⟨some 14, .mov (.t 0), none⟩, ⟨some 15, .mov (.t 3), none⟩, ⟨some 16, .idxS (.t 14) (.t 15), none⟩, ⟨some 17, .bin .neq (.t 16) (.c (.int .u8 84)), none⟩, ⟨some 18, .mov (.t 17), none⟩, ⟨some 19, .mov (.t 0), some (18, true)⟩, ⟨some 20, .mov (.t 3), some (18, true)⟩, ⟨some 21, .idxS (.t 19) (.t 20), some (18, true)⟩, ⟨some 22, .bin .neq (.t 21) (.c (.int .u8 70)), some (18, true)⟩, ⟨some 23, .pick (.t 18) (.t 22) (.c (.bool false)), none⟩, ⟨some 24, .mov (.t 23), none⟩, ⟨some 25, .mov (.t 0), some (24, true)⟩, ⟨some 26, .mov (.t 3), some (24, true)⟩, ⟨some 27, .idxS (.t 25) (.t 26), some (24, true)⟩, ⟨some 28, .bin .neq (.t 27) (.c (.int .u8 46)), some (24, true)⟩, ⟨some 29, .pick (.t 24) (.t 28) (.c (.bool false)), none⟩]) (.kl [14, 15, 16, 17, 18, 19, 20, 21, 22, 23, 24, 25, 26, 27, 28] (.cond (.t 29) (.kl [0, 3, 29] (.seq (.reg [⟨some 2, .mov (.c (.bool false)), none⟩]) (.ret))) (.skip))))) (.kl [29] (.reg [⟨some 12, .mov (.t 3), none⟩, ⟨some 13, .bin .add (.t 12) (.c (.int .i64 1)), none⟩, ⟨some 3, .mov (.t 13), none⟩])))))
def lp104_0 : C := lb104_0
def fi104 : FI := ⟨.seq (.reg [⟨some 2, .mov (.c (.bool false)), none⟩]) (.kl [2] (.seq (.seq (.reg [⟨some 4, .mov (.t 0), none⟩, ⟨some 5, .lenS (.t 4), none⟩, ⟨some 6, .call 77 [.t 5, .c (.int .i64 1), .c (.int .i64 12)], none⟩, ⟨some 7, .un .not (.t 6), none⟩]) (.kl [4, 5, 6] (.cond (.t 7) (.kl [0, 7] (.seq (.reg [⟨some 2, .mov (.c (.bool false)), none⟩]) (.ret))) (.skip)))) (.kl [7] (.seq (.seq (.reg [⟨some 3, .mov (.c (.int .i64 0)), none⟩]) (.blk 0 (.loop lp104_0))) (.seq (.reg [⟨some 2, .mov (.c (.bool true)), none⟩]) (.ret)))))), [.tmp 2]⟩
-- lp133_0 HEAD [0, 3, 7, 8] | exit 0: [] | ret: [4]
/-- slices.Index[[]impl.Move,impl.Move] -/
def lb133_0 : C := .kl [18] (.seq (.reg [⟨some 9, .bin .lss (.t 8) (.t 7), none⟩]) (.seq (.cond (.t 9) (.skip) (.kl [0, 3, 7, 8, 9] (.exit 0))) (.kl [9] (.seq (.blk 1 (.seq (.reg [⟨some 10, .mov (.t 8), none⟩, ⟨some 5, .mov (.t 10), none⟩]) (.kl [10] (.seq (.drw [⟨some 11, .load true 2 (.t 3), none⟩, ⟨some 12, .mov (.t 0), none⟩, ⟨some 13, .mov (.t 5), none⟩, ⟨some 14, .iaddr 2 (.t 12) (.t 13), none⟩, ⟨some 15, .load true 2 (.t 14), none⟩, ⟨some 16, .aeq false [0, 0] (.t 11) (.t 15), none⟩] []) (.kl [11, 12, 13, 14, 15] (.cond (.t 16) (.kl [0, 3, 7, 8, 16] (.seq (.reg [⟨some 17, .mov (.t 5), none⟩, ⟨some 4, .mov (.t 17), none⟩]) (.kl [5, 17] (.ret)))) (.skip))))))) (.kl [5, 16] (.reg [⟨some 18, .bin .add (.t 8) (.c (.int .i64 1)), none⟩, ⟨some 8, .mov (.t 18), none⟩]))))))
def lp133_0 : C := lb133_0
def fi133 : FI := ⟨.seq (.reg [⟨some 3, .box (.t 1), none⟩, ⟨some 4, .mov (.c (.int .i64 0)), none⟩]) (.kl [1, 4] (.seq (.seq (.reg [⟨some 6, .mov (.t 0), none⟩, ⟨some 7, .lenV (.t 6), none⟩, ⟨some 8, .mov (.c (.int .i64 0)), none⟩]) (.kl [6] (.blk 0 (.loop lp133_0)))) (.seq (.reg [⟨some 4, .mov (.c (.int .i64 (-1))), none⟩]) (.ret)))), [.tmp 4]⟩
/-- (*spec.l1Cur).next -/
def fi107 : FI := ⟨.seq (.reg [⟨some 2, .mov (.c (.int .i64 0)), none⟩]) (.kl [2] (.seq (.reg [⟨some 3, .mov (.c (.int .i64 0)), none⟩]) (.seq (.seq (.drw [⟨some 4, .mov (.t 0), none⟩, ⟨some 5, .nck (.t 4), none⟩, ⟨some 6, .faddr 1 1 (.t 5), none⟩, ⟨some 7, .load false 1 (.t 6), none⟩, ⟨some 8, .mov (.t 0), none⟩, ⟨some 9, .nck (.t 8), none⟩, ⟨some 10, .faddr 0 1 (.t 9), none⟩, ⟨some 11, .load false 1 (.t 10), none⟩, ⟨some 12, .lenV (.t 11), none⟩, ⟨some 13, .bin .lss (.t 7) (.t 12), none⟩] []) (.kl [4, 5, 6, 7, 8, 9, 10, 11, 12] (.cond (.t 13) (.kl [3, 13] (.drw [⟨some 14, .mov (.t 0), none⟩, ⟨some 15, .nck (.t 14), none⟩, ⟨some 16, .faddr 0 1 (.t 15), none⟩, ⟨some 17, .load false 1 (.t 16), none⟩, ⟨some 18, .mov (.t 0), none⟩, ⟨some 19, .nck (.t 18), none⟩, ⟨some 20, .faddr 1 1 (.t 19), none⟩, ⟨some 21, .load false 1 (.t 20), none⟩, ⟨some 22, .iaddr 1 (.t 17) (.t 21), none⟩, ⟨some 23, .load false 1 (.t 22), none⟩, ⟨some 24, .conv .i64 (.t 23), none⟩, ⟨some 3, .mov (.t 24), none⟩] [])) (.skip)))) (.kl [13, 14, 15, 16, 17, 18, 19, 20, 21, 22, 23, 24] (.seq (.reg [⟨some 25, .mov (.t 0), none⟩, ⟨some 26, .nck (.t 25), none⟩, ⟨some 27, .faddr 1 1 (.t 26), none⟩, ⟨some 28, .load false 1 (.t 27), none⟩, ⟨some 29, .bin .add (.t 28) (.c (.int .i64 1)), none⟩, ⟨some 30, .nck (.t 25), none⟩, ⟨some 31, .faddr 1 1 (.t 30), none⟩, ⟨none, .store 1 (.t 31) (.t 29), none⟩]) (.kl [25, 26, 27, 28, 29, 30, 31] (.seq (.reg [⟨some 32, .mov (.t 0), none⟩, ⟨some 33, .mov (.t 0), none⟩, ⟨some 34, .nck (.t 33), none⟩, ⟨some 35, .faddr 2 1 (.t 34), none⟩, ⟨some 36, .load false 1 (.t 35), none⟩, ⟨some 37, .bin .mul (.t 36) (.c (.int .u64 6364136223846793005)), none⟩, ⟨some 38, .mov (.t 3), none⟩, ⟨some 39, .conv .u64 (.t 38), none⟩, ⟨some 40, .bin .add (.t 37) (.t 39), none⟩, ⟨some 41, .bin .add (.t 40) (.c (.int .u64 1442695040888963407)), none⟩, ⟨some 42, .nck (.t 32), none⟩, ⟨some 43, .faddr 2 1 (.t 42), none⟩, ⟨none, .store 1 (.t 43) (.t 41), none⟩]) (.kl [32, 33, 34, 35, 36, 37, 38, 39, 40, 41, 42, 43] (.seq (.seq (.drw [⟨some 44, .mov (.t 0), none⟩, ⟨some 45, .nck (.t 44), none⟩, ⟨some 46, .faddr 1 1 (.t 45), none⟩, ⟨some 47, .load false 1 (.t 46), none⟩, ⟨some 48, .mov (.t 0), none⟩, ⟨some 49, .nck (.t 48), none⟩, ⟨some 50, .faddr 0 1 (.t 49), none⟩, ⟨some 51, .load false 1 (.t 50), none⟩, ⟨some 52, .lenV (.t 51), none⟩, ⟨some 53, .bin .leq (.t 47) (.t 52), none⟩] []) (.kl [44, 45, 46, 47, 48, 49, 50, 51, 52] (.cond (.t 53) (.kl [0, 53] (.seq (.reg [⟨some 54, .mov (.t 3), none⟩, ⟨some 2, .mov (.t 54), none⟩]) (.kl [3, 54] (.ret)))) (.skip)))) (.kl [3, 53] (.seq (.reg [⟨some 55, .mov (.t 0), none⟩, ⟨some 56, .nck (.t 55), none⟩, ⟨some 57, .faddr 2 1 (.t 56), none⟩, ⟨some 58, .load false 1 (.t 57), none⟩, ⟨some 59, .bin .shr (.t 58) (.c (.int .u64 40)), none⟩, ⟨some 60, .bin .and (.t 59) (.c (.int .u64 255)), none⟩, ⟨some 61, .conv .i64 (.t 60), none⟩, ⟨some 2, .mov (.t 61), none⟩]) (.kl [0, 55, 56, 57, 58, 59, 60, 61] (.ret))))))))))))), [.tmp 2]⟩
/-- spec.l1In -/
def fi77 : FI := ⟨.seq (.reg [⟨some 6, .mov (.c (.bool false)), none⟩]) (.kl [6] (.seq (.reg [⟨some 7, .mov (.t 0), none⟩, ⟨some 8, .mov (.t 1), none⟩, ⟨some 9, .bin .geq (.t 7) (.t 8), none⟩, ⟨some 10, .mov (.t 9), none⟩, ⟨some 11, .mov (.t 0), some (10, true)⟩, ⟨some 12, .mov (.t 2), some (10, true)⟩, ⟨some 13, .bin .leq (.t 11) (.t 12), some (10, true)⟩, ⟨some 14, .pick (.t 10) (.t 13) (.c (.bool false)), none⟩, ⟨some 6, .mov (.t 14), none⟩]) (.kl [0, 1, 2, 7, 8, 9, 10, 11, 12, 13, 14] (.ret)))), [.tmp 6]⟩
/-- spec.liPut -/
def fi108 : FI := ⟨.seq (.reg [⟨some 6, .mov (.c (.str [])), none⟩]) (.kl [6] (.seq (.drw [⟨some 7, .mov (.t 0), none⟩, ⟨some 8, .mov (.t 1), none⟩, ⟨some 9, .subS (.t 7) none (some (.t 8)), none⟩, ⟨some 10, .mov (.t 2), none⟩, ⟨some 11, .bin .add (.t 9) (.t 10), none⟩, ⟨some 12, .mov (.t 0), none⟩, ⟨some 13, .mov (.t 1), none⟩, ⟨some 14, .bin .add (.t 13) (.c (.int .i64 1)), none⟩, ⟨some 15, .subS (.t 12) (some (.t 14)) none, none⟩, ⟨some 16, .bin .add (.t 11) (.t 15), none⟩, ⟨some 6, .mov (.t 16), none⟩] []) (.kl [0, 1, 2, 7, 8, 9, 10, 11, 12, 13, 14, 15, 16] (.ret)))), [.tmp 6]⟩
/-- impl.goal -/
def fi127 : FI := ⟨.seq (.reg [⟨some 4, .mov (.c (.int .i64 0)), none⟩, ⟨some 5, .mov (.c (.bool false)), none⟩]) (.kl [4, 5] (.seq (.reg [⟨some 7, .mov (.t 0), none⟩, ⟨some 8, .mov (.t 1), none⟩, ⟨some 9, .idxS (.t 7) (.t 8), none⟩, ⟨some 10, .call 103 [.t 9], none⟩, ⟨some 6, .mov (.t 10), none⟩]) (.kl [7, 8, 9, 10] (.seq (.blk 0 (.seq (.reg [⟨some 12, .mov (.t 6), none⟩, ⟨some 13, .bin .eql (.t 12) (.c (.int .i64 0)), none⟩, ⟨some 11, .mov (.t 13), none⟩]) (.kl [12, 13] (.cond (.t 11) (.skip) (.kl [11] (.seq (.reg [⟨some 15, .mov (.t 0), none⟩, ⟨some 16, .mov (.t 1), none⟩, ⟨some 17, .mov (.t 6), none⟩, ⟨some 18, .bin .add (.t 16) (.t 17), none⟩, ⟨some 19, .call 125 [.t 15, .t 18], none⟩, ⟨some 20, .bin .eql (.t 19) (.c (.int .u8 46)), none⟩, ⟨some 14, .mov (.t 20), none⟩]) (.kl [15, 16, 17, 18, 19, 20] (.cond (.t 14) (.kl [0, 14] (.seq (.reg [⟨some 21, .mov (.t 1), none⟩, ⟨some 22, .mov (.t 6), none⟩, ⟨some 23, .bin .add (.t 21) (.t 22), none⟩, ⟨some 4, .mov (.t 23), none⟩, ⟨some 5, .mov (.c (.bool true)), none⟩]) (.kl [1, 6, 21, 22, 23] (.ret)))) (.kl [14] (.seq (.drw [⟨some 25, .mov (.t 0), none⟩, ⟨some 26, .mov (.t 1), none⟩, ⟨some 27, .mov (.t 6), none⟩, ⟨some 28, .bin .add (.t 26) (.t 27), none⟩, ⟨some 29, .call 125 [.t 25, .t 28], none⟩, ⟨some 30, .mov (.t 0), none⟩, ⟨some 31, .mov (.t 1), none⟩, ⟨some 32, .idxS (.t 30) (.t 31), none⟩, ⟨some 33, .call 109 [.t 32], none⟩, ⟨some 34, .bin .eql (.t 29) (.t 33), none⟩, ⟨some 35, .mov (.t 34), none⟩, ⟨some 36, .mov (.t 0), some (35, true)⟩, ⟨some 37, .mov (.t 1), some (35, true)⟩, ⟨some 38, .mov (.t 6), some (35, true)⟩, ⟨some 39, .bin .mul (.c (.int .i64 2)) (.t 38), some (35, true)⟩, ⟨some 40, .bin .add (.t 37) (.t 39), some (35, true)⟩, ⟨some 41, .call 125 [.t 36, .t 40], some (35, true)⟩, ⟨some 42, .bin .eql (.t 41) (.c (.int .u8 46)), some (35, true)⟩, ⟨some 43, .pick (.t 35) (.t 42) (.c (.bool false)), none⟩, ⟨some 24, .mov (.t 43), none⟩] []) (.kl [0, 25, 26, 27, 28, 29, 30, 31, 32, 33, 34, 35, 36, 37, 38, 39, 40, 41, 42, 43] (.cond (.t 24) (.kl [24] (.seq (.reg [⟨some 44, .mov (.t 1), none⟩, ⟨some 45, .mov (.t 6), none⟩, ⟨some 46, .bin .mul (.c (.int .i64 2)) (.t 45), none⟩, ⟨some 47, .bin .add (.t 44) (.t 46), none⟩, ⟨some 4, .mov (.t 47), none⟩, ⟨some 5, .mov (.c (.bool true)), none⟩]) (.kl [1, 6, 44, 45, 46, 47] (.ret)))) (.skip))))))))))))) (.kl [0, 1, 6, 11, 24] (.seq (.reg [⟨some 4, .mov (.c (.int .i64 0)), none⟩, ⟨some 5, .mov (.c (.bool false)), none⟩]) (.ret))))))), [.tmp 4, .tmp 5]⟩
-- lp124_0 HEAD [0, 1, 5] | exit 0: [5]
/-- spec.liTimes -/
def lb124_0 : C := .kl [8, 9] (.seq (.seq (.reg [⟨some 6, .mov (.t 1), none⟩, ⟨some 7, .bin .gtr (.t 6) (.c (.int .i64 0)), none⟩]) (.kl [6] (.cond (.t 7) (.skip) (.kl [0, 1, 7] (.exit 0))))) (.kl [7] (.seq (.blk 1 (.reg [⟨some 10, .mov (.t 5), none⟩, ⟨some 11, .mov (.t 0), none⟩, ⟨some 12, .bin .add (.t 10) (.t 11), none⟩, ⟨some 5, .mov (.t 12), none⟩])) (.kl [10, 11, 12] (.reg [⟨some 8, .mov (.t 1), none⟩, ⟨some 9, .bin .sub (.t 8) (.c (.int .i64 1)), none⟩, ⟨some 1, .mov (.t 9), none⟩])))))
def lp124_0 : C := lb124_0
def fi124 : FI := ⟨.seq (.reg [⟨some 4, .mov (.c (.str [])), none⟩]) (.kl [4] (.seq (.reg [⟨some 5, .mov (.c (.str [])), none⟩]) (.seq (.blk 0 (.loop lp124_0)) (.seq (.reg [⟨some 13, .mov (.t 5), none⟩, ⟨some 4, .mov (.t 13), none⟩]) (.kl [5, 13] (.ret)))))), [.tmp 4]⟩
-- lp116_0 HEAD [0, 1, 5, 6] | exit 0: [5]
/-- spec.liCount -/
def lb116_0 : C := .kl [11, 12] (.seq (.seq (.reg [⟨some 7, .mov (.t 6), none⟩, ⟨some 8, .mov (.t 0), none⟩, ⟨some 9, .lenS (.t 8), none⟩, ⟨some 10, .bin .lss (.t 7) (.t 9), none⟩]) (.kl [7, 8, 9] (.cond (.t 10) (.skip) (.kl [0, 1, 6, 10] (.exit 0))))) (.kl [10] (.seq (.blk 1 (.seq (.reg [⟨some 13, .mov (.t 0), none⟩, ⟨some 14, .mov (.t 6), none⟩, ⟨some 15, .idxS (.t 13) (.t 14), none⟩, ⟨some 16, .mov (.t 1), none⟩, ⟨some 17, .bin .eql (.t 15) (.t 16), none⟩]) (.kl [13, 14, 15, 16] (.cond (.t 17) (.kl [17] (.reg [⟨some 18, .mov (.t 5), none⟩, ⟨some 19, .bin .add (.t 18) (.c (.int .i64 1)), none⟩, ⟨some 5, .mov (.t 19), none⟩])) (.skip))))) (.kl [17, 18, 19] (.reg [⟨some 11, .mov (.t 6), none⟩, ⟨some 12, .bin .add (.t 11) (.c (.int .i64 1)), none⟩, ⟨some 6, .mov (.t 12), none⟩])))))
def lp116_0 : C := lb116_0
def fi116 : FI := ⟨.seq (.reg [⟨some 4, .mov (.c (.int .i64 0)), none⟩]) (.kl [4] (.seq (.reg [⟨some 5, .mov (.c (.int .i64 0)), none⟩]) (.seq (.seq (.reg [⟨some 6, .mov (.c (.int .i64 0)), none⟩]) (.blk 0 (.loop lp116_0))) (.seq (.reg [⟨some 20, .mov (.t 5), none⟩, ⟨some 4, .mov (.t 20), none⟩]) (.kl [5, 20] (.ret)))))), [.tmp 4]⟩
/-- impl.at -/
def fi125 : FI := ⟨.seq (.reg [⟨some 4, .mov (.c (.int .u8 0)), none⟩]) (.kl [4] (.seq (.seq (.reg [⟨some 5, .mov (.t 1), none⟩, ⟨some 6, .bin .lss (.t 5) (.c (.int .i64 0)), none⟩, ⟨some 7, .mov (.t 6), none⟩, ⟨some 8, .mov (.t 1), some (7, false)⟩, ⟨some 9, .mov (.t 0), some (7, false)⟩, ⟨some 10, .lenS (.t 9), some (7, false)⟩, ⟨some 11, .bin .geq (.t 8) (.t 10), some (7, false)⟩, ⟨some 12, .pick (.t 7) (.c (.bool true)) (.t 11), none⟩]) (.kl [5, 6, 7, 8, 9, 10, 11] (.cond (.t 12) (.kl [0, 1, 12] (.seq (.reg [⟨some 4, .mov (.c (.int .u8 0)), none⟩]) (.ret))) (.skip)))) (.kl [12] (.seq (.reg [⟨some 13, .mov (.t 0), none⟩, ⟨some 14, .mov (.t 1), none⟩, ⟨some 15, .idxS (.t 13) (.t 14), none⟩, ⟨some 4, .mov (.t 15), none⟩]) (.kl [0, 1, 13, 14, 15] (.ret)))))), [.tmp 4]⟩
/-- impl.other -/
def fi109 : FI := ⟨.seq (.reg [⟨some 2, .mov (.c (.int .u8 0)), none⟩]) (.kl [2] (.seq (.seq (.reg [⟨some 3, .mov (.t 0), none⟩]) (.blk 0 (.seq (.reg [⟨some 5, .bin .eql (.t 3) (.c (.int .u8 84)), none⟩, ⟨some 4, .mov (.t 5), none⟩]) (.kl [5] (.cond (.t 4) (.kl [0, 3, 4] (.seq (.reg [⟨some 2, .mov (.c (.int .u8 70)), none⟩]) (.ret))) (.kl [4] (.seq (.reg [⟨some 7, .bin .eql (.t 3) (.c (.int .u8 70)), none⟩, ⟨some 6, .mov (.t 7), none⟩]) (.kl [3, 7] (.cond (.t 6) (.kl [0, 6] (.seq (.reg [⟨some 2, .mov (.c (.int .u8 84)), none⟩]) (.ret))) (.skip)))))))))) (.kl [6] (.seq (.reg [⟨some 8, .mov (.t 0), none⟩, ⟨some 2, .mov (.t 8), none⟩]) (.kl [0, 8] (.ret)))))), [.tmp 2]⟩

def tab : List (Nat × FI) := [(23, fi23), (22, fi22), (21, fi21), (18, fi18), (20, fi20), (16, fi16), (19, fi19), (17, fi17), (15, fi15), (13, fi13), (1, fi1), (14, fi14), (12, fi12), (11, fi11), (10, fi10), (9, fi9), (8, fi8), (7, fi7), (2, fi2), (6, fi6), (5, fi5), (3, fi3), (4, fi4), (54, fi54), (53, fi53), (56, fi56), (55, fi55), (58, fi58), (57, fi57), (59, fi59), (60, fi60), (61, fi61), (64, fi64), (63, fi63), (62, fi62), (65, fi65), (66, fi66), (68, fi68), (67, fi67), (69, fi69), (70, fi70), (71, fi71), (72, fi72), (105, fi105), (106, fi106), (74, fi74), (101, fi101), (100, fi100), (99, fi99), (82, fi82), (103, fi103), (102, fi102), (104, fi104), (133, fi133), (107, fi107), (77, fi77), (108, fi108), (127, fi127), (124, fi124), (116, fi116), (125, fi125), (109, fi109)]
def T (f : Nat) : Option FI := (tab.find? fun x => x.1 == f).map (·.2)
theorem T23 : T 23 = some fi23 := rfl
theorem T22 : T 22 = some fi22 := rfl
theorem T21 : T 21 = some fi21 := rfl
theorem T18 : T 18 = some fi18 := rfl
theorem T20 : T 20 = some fi20 := rfl
theorem T16 : T 16 = some fi16 := rfl
theorem T19 : T 19 = some fi19 := rfl
theorem T17 : T 17 = some fi17 := rfl
theorem T15 : T 15 = some fi15 := rfl
theorem T13 : T 13 = some fi13 := rfl
theorem T1 : T 1 = some fi1 := rfl
theorem T14 : T 14 = some fi14 := rfl
theorem T12 : T 12 = some fi12 := rfl
theorem T11 : T 11 = some fi11 := rfl
theorem T10 : T 10 = some fi10 := rfl
theorem T9 : T 9 = some fi9 := rfl
theorem T8 : T 8 = some fi8 := rfl
theorem T7 : T 7 = some fi7 := rfl
theorem T2 : T 2 = some fi2 := rfl
theorem T6 : T 6 = some fi6 := rfl
theorem T5 : T 5 = some fi5 := rfl
theorem T3 : T 3 = some fi3 := rfl
theorem T4 : T 4 = some fi4 := rfl
theorem T54 : T 54 = some fi54 := rfl
theorem T53 : T 53 = some fi53 := rfl
theorem T56 : T 56 = some fi56 := rfl
theorem T55 : T 55 = some fi55 := rfl
theorem T58 : T 58 = some fi58 := rfl
theorem T57 : T 57 = some fi57 := rfl
theorem T59 : T 59 = some fi59 := rfl
theorem T60 : T 60 = some fi60 := rfl
theorem T61 : T 61 = some fi61 := rfl
theorem T64 : T 64 = some fi64 := rfl
theorem T63 : T 63 = some fi63 := rfl
theorem T62 : T 62 = some fi62 := rfl
theorem T65 : T 65 = some fi65 := rfl
theorem T66 : T 66 = some fi66 := rfl
theorem T68 : T 68 = some fi68 := rfl
theorem T67 : T 67 = some fi67 := rfl
theorem T69 : T 69 = some fi69 := rfl
theorem T70 : T 70 = some fi70 := rfl
theorem T71 : T 71 = some fi71 := rfl
theorem T72 : T 72 = some fi72 := rfl
theorem T105 : T 105 = some fi105 := rfl
theorem T106 : T 106 = some fi106 := rfl
theorem T74 : T 74 = some fi74 := rfl
theorem T101 : T 101 = some fi101 := rfl
theorem T100 : T 100 = some fi100 := rfl
theorem T99 : T 99 = some fi99 := rfl
theorem T82 : T 82 = some fi82 := rfl
theorem T103 : T 103 = some fi103 := rfl
theorem T102 : T 102 = some fi102 := rfl
theorem T104 : T 104 = some fi104 := rfl
theorem T133 : T 133 = some fi133 := rfl
theorem T107 : T 107 = some fi107 := rfl
theorem T77 : T 77 = some fi77 := rfl
theorem T108 : T 108 = some fi108 := rfl
theorem T127 : T 127 = some fi127 := rfl
theorem T124 : T 124 = some fi124 := rfl
theorem T116 : T 116 = some fi116 := rfl
theorem T125 : T 125 = some fi125 := rfl
theorem T109 : T 109 = some fi109 := rfl
end Go.Proofs.YtejhhdpfndiliaaDoor.Ab
-- EXT strings.Contains
-- EXT strings.Trim
-- XF main.main|0|
-- XF gosem.cut|1|
-- XF laws.yMoves|10|
-- XF slices.Index[[]impl.Move,impl.Move]|100|28, 35
-- XF (*spec.l1Cur).next|101|
-- XF spec.l1In|102|
-- XF spec.liPut|103|
-- XF spec.reAdd|104|
-- XF spec.liLast|105|
-- XF spec.liSum|106|
-- XF slices.Collect[string]|107|9
-- XF slices.Sort[[]string,string]|108|53, 9
-- XF maps.Keys[map[string]int,string,int]$1|109|
-- XF impl.MovesOf|11|
-- XF cmp.isNaN[int]|110|3
-- XF impl.count|111|
-- XF spec.liCan|112|
-- XF impl.goal|113|
-- XF strings.Contains|114|
-- XF spec.liTimes|115|
-- XF spec.liCount|116|
-- XF strings.Trim|117|
-- XF impl.at|118|
-- XF impl.other|119|
-- XF laws.yOrder|12|
-- XF slices.AppendSeq[[]string,string]|120|53, 9
-- XF slices.pdqsortOrdered[string]|121|9
-- XF math/bits.Len|122|
-- XF strings.Count|123|
-- XF strings.Index|124|
-- XF strings.trimLeftByte|125|
-- XF strings.trimRightByte|126|
-- XF strings.makeASCIISet|127|
-- XF strings.trimLeftASCII|128|
-- XF strings.trimRightASCII|129|
-- XF laws.yIn|13|
-- XF strings.trimLeftUnicode|130|
-- XF strings.trimRightUnicode|131|
-- XF slices.insertionSortOrdered[string]|132|9
-- XF slices.heapSortOrdered[string]|133|9
-- XF slices.breakPatternsOrdered[string]|134|9
-- XF slices.choosePivotOrdered[string]|135|9
-- XF slices.reverseRangeOrdered[string]|136|9
-- XF slices.partialInsertionSortOrdered[string]|137|9
-- XF cmp.Less[string]|138|9
-- XF slices.partitionEqualOrdered[string]|139|9
-- XF impl.CanByRule|14|
-- XF slices.partitionOrdered[string]|140|9
-- XF math/bits.Len32|141|
-- XF math/bits.Len64|142|
-- XF unicode/utf8.RuneCountInString|143|
-- XF internal/bytealg.CountString|144|
-- XF internal/stringslite.Index|145|
-- XF (*strings.asciiSet).contains|146|
-- XF unicode/utf8.DecodeRuneInString|147|
-- XF strings.ContainsRune|148|
-- XF unicode/utf8.DecodeLastRuneInString|149|
-- XF impl.MakeByRule|15|
-- XF slices.siftDownOrdered[string]|150|9
-- XF slices.nextPowerOfTwo|151|
-- XF (*slices.xorshift).Next|152|
-- XF slices.medianAdjacentOrdered[string]|153|9
-- XF slices.medianOrdered[string]|154|9
-- XF cmp.isNaN[string]|155|9
-- XF internal/stringslite.IndexByte|156|
-- XF internal/bytealg.IndexString|157|
-- XF internal/bytealg.Cutover|158|
-- XF internal/bytealg.IndexRabinKarp[string]|159|9
-- XF spec.DrawCanByRule|16|
-- XF unicode/utf8.decodeRuneInStringSlow|160|
-- XF strings.IndexRune|161|
-- XF unicode/utf8.RuneStart|162|
-- XF slices.order2Ordered[string]|163|9
-- XF internal/bytealg.IndexByteString|164|
-- XF internal/bytealg.hashStr[string]|165|9
-- XF strings.IndexByte|166|
-- XF unicode/utf8.ValidRune|167|
-- XF (runtime.boundsError).Error|168|
-- XF (runtime.boundsError).RuntimeError|169|
-- XF spec.CanByRule|17|
-- XF (runtime.errorString).Error|170|
-- XF (runtime.errorString).RuntimeError|171|
-- XF (runtime.plainError).Error|172|
-- XF (runtime.plainError).RuntimeError|173|
-- XF (runtime.errorAddressString).Error|174|
-- XF (runtime.errorAddressString).RuntimeError|175|
-- XF (*runtime.TypeAssertionError).Error|176|
-- XF (*runtime.TypeAssertionError).RuntimeError|177|
-- XF (*runtime.PanicNilError).Error|178|
-- XF (*runtime.PanicNilError).RuntimeError|179|
-- XF spec.MakeByRule|18|
-- XF (*internal/abi.Type).Align|180|
-- XF (internal/runtime/maps.unhashableTypeError).Error|181|
-- XF (internal/runtime/maps.unhashableTypeError).RuntimeError|182|
-- XF (impl.Move).isJump|183|
-- XF (*spec.l1Cur).board|184|
-- XF (internal/abi.Kind).String|185|
-- XF var's door: unicode/utf8.acceptRanges is laid by its own initialiser, plain data (look 11)|188|
-- XF var's door: unicode/utf8.first is laid by its text alone (pinned 1)|189|
-- XF spec.DrawPlayByRule|19|
-- XF gosem.cut.vars|190|
-- XF gosem.cut.init|2|
-- XF impl.PlayByRule|20|
-- XF spec.PlayByRule|21|
-- XF spec.DrawRuleText|22|
-- XF impl.RuleText|23|
-- XF spec.RuleText|24|
-- XF spec.DrawParseRule|25|
-- XF impl.ParseRule|26|
-- XF spec.ParseRule|27|
-- XF spec.NearestLine|28|
-- XF impl.NearestLine|29|
-- XF laws.FnRulesMove|3|
-- XF impl.DeadEnds|30|
-- XF spec.DeadEnds|31|
-- XF impl.LongestPlay|32|
-- XF spec.LongestPlay|33|
-- XF impl.ShortestStop|34|
-- XF spec.ShortestStop|35|
-- XF impl.CountAllPlays|36|
-- XF spec.CountAllPlays|37|
-- XF laws.yTexts|38|
-- XF impl.ReachedFrom|39|
-- XF laws.FnExactNearestLine|4|
-- XF laws.yRises|40|
-- XF impl.IsBlocked|41|
-- XF impl.MovesBetween|42|
-- XF laws.yHas|43|
-- XF impl.CountPlays|44|
-- XF impl.ReachedAfter|45|
-- XF (*spec.l1Cur).few|46|
-- XF (*spec.l1Cur).rule|47|
-- XF impl.isReachLine|48|
-- XF impl.movesBy|49|
-- XF laws.FnPlaysEndOfAll|5|
-- XF spec.reFew|50|
-- XF spec.ruMoves|51|
-- XF impl.movesIn|52|
-- XF slices.Contains[[]impl.Move,impl.Move]|53|28, 35
-- XF impl.made|54|
-- XF (*spec.l1Cur).one|55|
-- XF (*spec.l1Cur).pick|56|
-- XF (*spec.l1Cur).among|57|
-- XF spec.ruCan|58|
-- XF spec.liMake|59|
-- XF laws.big|6|
-- XF impl.played|60|
-- XF impl.PlayByRule$1|61|
-- XF (impl.Rule).text|62|
-- XF spec.ruText|63|
-- XF (*spec.l1Cur).of|64|
-- XF spec.ruParse|65|
-- XF spec.reAll|66|
-- XF spec.liWay|67|
-- XF slices.MinFunc[[]string,string]|68|53, 9
-- XF slices.Sorted[string]|69|9
-- XF spec.DrawRuleMoves|7|
-- XF maps.Keys[map[string]int,string,int]|70|90, 9, 3
-- XF impl.reached|71|
-- XF impl.NearestLine$1|72|
-- XF cmp.Compare[int]|73|3
-- XF impl.way|74|
-- XF impl.someReached|75|
-- XF impl.DeadEnds$1|76|
-- XF impl.isBlocked|77|
-- XF spec.liMoves|78|
-- XF slices.Max[[]int,int]|79|76, 3
-- XF impl.RuleMoves|8|
-- XF impl.ends|80|
-- XF spec.reLayers|81|
-- XF slices.Min[[]int,int]|82|76, 3
-- XF impl.CountAllPlays$1|83|
-- XF impl.moves|84|
-- XF spec.reCounts|85|
-- XF impl.ReachedFrom$1|86|
-- XF impl.IsLine|87|
-- XF impl.between|88|
-- XF impl.to|89|
-- XF spec.RuleMoves|9|
-- XF (impl.swaps).from|90|
-- XF impl.within|91|
-- XF impl.ReachedAfter$1|92|
-- XF (*spec.l1Cur).line|93|
-- XF spec.liFirst|94|
-- XF (*spec.l1Cur).sureLine|95|
-- XF impl.isLineOf|96|
-- XF impl.stepOf|97|
-- XF impl.goalBy|98|
-- XF spec.liGood|99|

/- RULES for reckoning with the evaluator: fuel is bounded by no one. -/
namespace Go.Proofs.YtejhhdpfndiliaaDoor.Ab
open Go

def CF.le (a b : CF) : Prop := ∀ f xs h r, a f xs h = some r → b f xs h = some r
theorem CF.le_refl (a : CF) : a.le a := fun _ _ _ _ h => h

def AOp.isCall : AOp → Bool
  | .call .. | .callv .. => true
  | _ => false

section
variable {cf cf' : CF} {ρ : Opd → AV} {h : AH} {e : Env}

theorem evOp_mono (hle : cf.le cf') {i : AOp} {x : AV × AH} (hev : evOp cf ρ h i = some x) : evOp cf' ρ h i = some x := by
  cases i <;> first
    | exact hev
    | (simp only [evOp] at hev ⊢; exact hle _ _ _ _ hev)
    | (simp only [evOp] at hev ⊢
       split at hev
       · exact hle _ _ _ _ hev
       · cases hev)
theorem evOp_any {i : AOp} (hi : i.isCall = false) (cf cf' : CF) : evOp cf ρ h i = evOp cf' ρ h i := by
  cases i <;> first
    | rfl
    | (simp [AOp.isCall] at hi; done)

theorem evI_mono (hle : cf.le cf') {i : I} {x : Env × AH} (hev : evI cf i e h = some x) : evI cf' i e h = some x := by
  have key : ∀ x, (evOp cf (env e) h i.op).map (fun (v, h') => (put e i.dst v, h')) = some x → (evOp cf' (env e) h i.op).map (fun (v, h') => (put e i.dst v, h')) = some x := by
    intro x hx
    simp only [Option.map_eq_some_iff] at hx ⊢
    obtain ⟨y, hy, he⟩ := hx
    exact ⟨y, evOp_mono hle hy, he⟩
  unfold evI at hev ⊢
  split at hev
  · exact key _ hev
  · split at hev
    · split at hev
      · rename_i h1; rw [if_pos h1]; exact key _ hev
      · rename_i h1; rw [if_neg h1]; exact hev
    · exact hev
    · cases hev

theorem evR_mono (hle : cf.le cf') : ∀ {is : List I} {e : Env} {h : AH} {x : Env × AH}, evR cf is e h = some x → evR cf' is e h = some x
  | [], _, _, _, hev => hev
  | i :: is, e, h, x, hev => by
    simp only [evR] at hev ⊢
    split at hev
    · rename_i e1 h1 h2
      rw [evI_mono hle h2]
      exact evR_mono hle hev
    · cases hev

theorem state_some : ∀ {is : List I} {e : Env} {h : AH} {x : Env × AH}, evR cf is e h = some x → ∀ i, ∃ s, stateAt cf is i e h = some s
  | [], e, h, x, hev, i => ⟨(e, h), by simp [stateAt, evR]⟩
  | j :: is, e, h, x, hev, i => by
    cases i with
    | zero => exact ⟨(e, h), by simp [stateAt, evR]⟩
    | succ i =>
      simp only [evR] at hev
      split at hev
      · rename_i e1 h1 h2
        obtain ⟨s, hs⟩ := state_some hev i
        refine ⟨s, ?_⟩
        simp only [stateAt, List.take_succ_cons, evR, h2]
        exact hs
      · cases hev

theorem evDraw_mono (hle : cf.le cf') {is : List I} {ps : List (Nat × Nat)} {x : Env × AH} (hev : evDraw cf is ps e h = some x) : evDraw cf' is ps e h = some x := by
  unfold evDraw at hev ⊢
  split at hev
  · rename_i hst
    rw [if_pos]
    · exact evR_mono hle hev
    · intro p hp
      rcases hst p hp with hpe | hst
      · exact .inl hpe
      refine .inr ?_
      intro o e1 h1 e2 h2 e3 h3 k0 k1 k2 k3
      obtain ⟨s1, g1⟩ := state_some hev p.1
      obtain ⟨s2, g2⟩ := state_some hev p.2
      obtain ⟨s3, g3⟩ := state_some hev (p.2 + 1)
      have m1 := evR_mono hle g1
      have m2 := evR_mono hle g2
      have m3 := evR_mono hle g3
      unfold stateAt at k1 k2 k3
      rw [m1] at k1; rw [m2] at k2; rw [m3] at k3
      cases k1; cases k2; cases k3
      exact hst o e1 h1 e2 h2 e3 h3 k0 g1 g2 g3
  · cases hev

theorem evLoop_mono {s s' : Env → AH → Option (X × Env × AH)} (hs : ∀ e h x, s e h = some x → s' e h = some x) : ∀ {n n' : Nat}, n ≤ n' → ∀ {e : Env} {h : AH} {x}, evLoop s n e h = some x → evLoop s' n' e h = some x
  | 0, _, _, _, _, _, hev => by simp [evLoop] at hev
  | n + 1, 0, hn, _, _, _, _ => by omega
  | n + 1, n' + 1, hn, e, h, x, hev => by
    simp only [evLoop] at hev ⊢
    cases hst : s e h with
    | none => rw [hst] at hev; simp at hev
    | some y =>
      rw [hst] at hev
      rw [hs _ _ _ hst]
      obtain ⟨x1, e1, h1⟩ := y
      cases x1 with
      | normal => exact evLoop_mono hs (by omega) hev
      | exit i => exact hev
      | ret => exact hev

theorem evC_mono (hle : cf.le cf') {n n' : Nat} (hn : n ≤ n') : ∀ (c : C) {e : Env} {h : AH} {x}, evC cf n c e h = some x → evC cf' n' c e h = some x := by
  intro c
  induction c with
  | skip => intro e h x hev; exact hev
  | reg is =>
    intro e h x hev
    simp only [evC, Option.map_eq_some_iff] at hev ⊢
    obtain ⟨y, hy, he⟩ := hev
    exact ⟨y, evR_mono hle hy, he⟩
  | drw is ps =>
    intro e h x hev
    simp only [evC, Option.map_eq_some_iff] at hev ⊢
    obtain ⟨y, hy, he⟩ := hev
    exact ⟨y, evDraw_mono hle hy, he⟩
  | kl ts c ih => intro e h x hev; simp only [evC] at hev ⊢; exact ih hev
  | seq a b iha ihb =>
    intro e h x hev
    simp only [evC] at hev ⊢
    cases ha : evC cf n a e h with
    | none => rw [ha] at hev; simp at hev
    | some y =>
      rw [ha] at hev
      rw [iha ha]
      obtain ⟨x1, e1, h1⟩ := y
      cases x1 with
      | normal => exact ihb hev
      | exit i => exact hev
      | ret => exact hev
  | cond y a b iha ihb =>
    intro e h x hev
    simp only [evC] at hev ⊢
    split at hev
    · rename_i t ht
      split at hev
      · rename_i h1; rw [if_pos h1]; exact iha hev
      · rename_i h1; rw [if_neg h1]; exact ihb hev
    · cases hev
  | blk id a ih =>
    intro e h x hev
    simp only [evC] at hev ⊢
    cases ha : evC cf n a e h with
    | none => rw [ha] at hev; simp at hev
    | some y =>
      rw [ha] at hev
      rw [ih ha]
      exact hev
  | loop a ih =>
    intro e h x hev
    simp only [evC] at hev ⊢
    exact evLoop_mono (fun _ _ _ hh => ih hh) hn hev
  | exit i => intro e h x hev; exact hev
  | ret => intro e h x hev; exact hev
  | bad => intro e h x hev; simp [evC] at hev
end

def EMono (E : Ext) : Prop := ∀ f G, E f = some G → ∀ cf cf' : CF, cf.le cf' → ∀ xs h r, G cf xs h = some r → G cf' xs h = some r

theorem evF_mono {T : Nat → Option FI} {E : Ext} (hE : EMono E) : ∀ {n n' : Nat}, n ≤ n' → (evF T E n).le (evF T E n')
  | 0, _, _ => by intro f xs h r hev; simp [evF] at hev
  | n + 1, 0, hn => by omega
  | n + 1, n' + 1, hn => by
    intro f xs h r hev
    have ih := evF_mono (T := T) hE (show n ≤ n' by omega)
    simp only [evF] at hev ⊢
    split at hev
    · rename_i G hG
      exact hE f G hG _ _ ih _ _ _ hev
    · split at hev
      · rename_i fi hfi
        cases hc : evC (evF T E n) n fi.body (Env.init 0 xs) h with
        | none => rw [hc] at hev; cases hev
        | some y => rw [hc] at hev; rw [evC_mono ih (by omega) _ hc]; exact hev
      · cases hev

/-! ### The rules -/
section
variable (T : Nat → Option FI) (E : Ext)

def Spec (f : Nat) (xs : List AV) (h : AH) (post : AV → AH → Prop) : Prop := ∃ n r h', evF T E n f xs h = some (r, h') ∧ post r h'
def WC (c : C) (e : Env) (h : AH) (Q : X → Env → AH → Prop) : Prop := ∃ n x e' h', evC (evF T E n) n c e h = some (x, e', h') ∧ Q x e' h'
def WR (is : List I) (e : Env) (h : AH) (Q : Env → AH → Prop) : Prop := ∃ n e' h', evR (evF T E n) is e h = some (e', h') ∧ Q e' h'
def WO {α : Type} (o : Option (α × AH)) (K : α → AH → Prop) : Prop := match o with
  | some (v, h) => K v h
  | none => False
end
@[simp] theorem WO_some {α : Type} {v : α} {h : AH} {K : α → AH → Prop} : WO (some (v, h)) K ↔ K v h := Iff.rfl
@[simp] theorem WO_none {α : Type} {K : α → AH → Prop} : WO none K ↔ False := Iff.rfl
theorem WO_iff {α : Type} {o : Option (α × AH)} {K : α → AH → Prop} : WO o K ↔ ∃ v h, o = some (v, h) ∧ K v h := by
  cases o with
  | none => simp
  | some x =>
    obtain ⟨v, h⟩ := x
    exact ⟨fun hk => ⟨v, h, rfl, hk⟩, fun ⟨_, _, he, hk⟩ => by cases he; exact hk⟩

section
variable {T : Nat → Option FI} {E : Ext} (hE : EMono E) {e : Env} {h : AH} {Q : Env → AH → Prop} {R : X → Env → AH → Prop}
include hE

omit hE in
theorem WR_nil : WR T E [] e h Q ↔ Q e h := by
  constructor
  · rintro ⟨n, e', h', hev, hq⟩
    simp only [evR, Option.some.injEq, Prod.mk.injEq] at hev
    obtain ⟨rfl, rfl⟩ := hev
    exact hq
  · intro hq; exact ⟨0, e, h, rfl, hq⟩

omit hE in
/-- An operation that calls no one. -/
theorem WR_op {d : Option Nat} {op : AOp} {is : List I} (hi : op.isCall = false) : WR T E (⟨d, op, none⟩ :: is) e h Q ↔ WO (evOp noCall (env e) h op) fun v h' => WR T E is (put e d v) h' Q := by
  rw [WO_iff]
  constructor
  · rintro ⟨n, e', h', hev, hq⟩
    simp only [evR, evI] at hev
    rw [evOp_any hi (evF T E n) noCall] at hev
    cases ho : evOp noCall (env e) h op with
    | none => rw [ho] at hev; simp at hev
    | some y =>
      rw [ho] at hev
      obtain ⟨v, h1⟩ := y
      exact ⟨v, h1, rfl, n, e', h', hev, hq⟩
  · rintro ⟨v, h1, ho, n, e', h', hev, hq⟩
    refine ⟨n, e', h', ?_, hq⟩
    simp only [evR, evI]
    rw [evOp_any hi (evF T E n) noCall, ho]
    exact hev

theorem WR_call {d : Option Nat} {f : Nat} {xs : List Opd} {is : List I} : WR T E (⟨d, .call f xs, none⟩ :: is) e h Q ↔ Spec T E f (xs.map (env e)) h fun v h' => WR T E is (put e d v) h' Q := by
  constructor
  · rintro ⟨n, e', h', hev, hq⟩
    simp only [evR, evI, evOp] at hev
    cases ho : evF T E n f (xs.map (env e)) h with
    | none => rw [ho] at hev; simp at hev
    | some y =>
      rw [ho] at hev
      obtain ⟨v, h1⟩ := y
      exact ⟨n, v, h1, ho, n, e', h', hev, hq⟩
  · rintro ⟨n, v, h1, ho, n', e', h', hev, hq⟩
    refine ⟨max n n', e', h', ?_, hq⟩
    simp only [evR, evI, evOp]
    rw [evF_mono hE (Nat.le_max_left n n') _ _ _ _ ho]
    exact evR_mono (evF_mono hE (Nat.le_max_right n n')) hev

theorem WR_callv {d : Option Nat} {x : Opd} {xs : List Opd} {is : List I} {f : Nat} {cap : List AV} (hx : env e x = .fn f cap) : WR T E (⟨d, .callv x xs, none⟩ :: is) e h Q ↔ Spec T E f (xs.map (env e) ++ cap) h fun v h' => WR T E is (put e d v) h' Q := by
  constructor
  · rintro ⟨n, e', h', hev, hq⟩
    simp only [evR, evI, evOp, hx] at hev
    cases ho : evF T E n f (xs.map (env e) ++ cap) h with
    | none => rw [ho] at hev; simp at hev
    | some y =>
      rw [ho] at hev
      obtain ⟨v, h1⟩ := y
      exact ⟨n, v, h1, ho, n, e', h', hev, hq⟩
  · rintro ⟨n, v, h1, ho, n', e', h', hev, hq⟩
    refine ⟨max n n', e', h', ?_, hq⟩
    simp only [evR, evI, evOp, hx]
    rw [evF_mono hE (Nat.le_max_left n n') _ _ _ _ ho]
    exact evR_mono (evF_mono hE (Nat.le_max_right n n')) hev

omit hE in
/-- A guard that is heard, one that is not. -/
theorem WR_grd {d : Option Nat} {op : AOp} {is : List I} {t : Nat} {want b : Bool} (hb : e.get t = .bool b) : WR T E (⟨d, op, some (t, want)⟩ :: is) e h Q ↔ if b = want then WR T E (⟨d, op, none⟩ :: is) e h Q else WR T E is (put e d (.tup [])) h Q := by
  have key : ∀ n, evR (evF T E n) (⟨d, op, some (t, want)⟩ :: is) e h = if b = want then evR (evF T E n) (⟨d, op, none⟩ :: is) e h else evR (evF T E n) is (put e d (.tup [])) h := by
    intro n
    simp only [evR, evI, hb]
    by_cases hbw : b = want <;> simp [hbw]
  unfold WR
  simp only [key]
  by_cases hbw : b = want <;> simp [hbw]

omit hE in
/-- A guard on what was not done. -/
theorem WR_grd0 {d : Option Nat} {op : AOp} {is : List I} {t : Nat} {want : Bool} (hb : e.get t = .tup []) : WR T E (⟨d, op, some (t, want)⟩ :: is) e h Q ↔ WR T E is (put e d (.tup [])) h Q := by
  have key : ∀ n, evR (evF T E n) (⟨d, op, some (t, want)⟩ :: is) e h = evR (evF T E n) is (put e d (.tup [])) h := by
    intro n
    simp only [evR, evI, hb]
  unfold WR
  simp only [key]

omit hE in
theorem WC_reg {is : List I} : WC T E (.reg is) e h R ↔ WR T E is e h (R .normal) := by
  constructor
  · rintro ⟨n, x, e', h', hev, hq⟩
    simp only [evC, Option.map_eq_some_iff, Prod.mk.injEq] at hev
    obtain ⟨⟨e1, h1⟩, hev, rfl, rfl, rfl⟩ := hev
    exact ⟨n, e1, h1, hev, hq⟩
  · rintro ⟨n, e', h', hev, hq⟩
    exact ⟨n, .normal, e', h', by simp only [evC, hev]; rfl, hq⟩
omit hE in
theorem WC_skip : WC T E .skip e h R ↔ R .normal e h :=
  ⟨by rintro ⟨n, x, e', h', hev, hq⟩; simp only [evC, Option.some.injEq, Prod.mk.injEq] at hev; obtain ⟨rfl, rfl, rfl⟩ := hev; exact hq, fun hq => ⟨0, _, _, _, rfl, hq⟩⟩
omit hE in
theorem WC_ret : WC T E .ret e h R ↔ R .ret e h :=
  ⟨by rintro ⟨n, x, e', h', hev, hq⟩; simp only [evC, Option.some.injEq, Prod.mk.injEq] at hev; obtain ⟨rfl, rfl, rfl⟩ := hev; exact hq, fun hq => ⟨0, _, _, _, rfl, hq⟩⟩
omit hE in
theorem WC_exit {i : Nat} : WC T E (.exit i) e h R ↔ R (.exit i) e h :=
  ⟨by rintro ⟨n, x, e', h', hev, hq⟩; simp only [evC, Option.some.injEq, Prod.mk.injEq] at hev; obtain ⟨rfl, rfl, rfl⟩ := hev; exact hq, fun hq => ⟨0, _, _, _, rfl, hq⟩⟩
omit hE in
theorem WC_kl {ts : List Nat} {c : C} : WC T E (.kl ts c) e h R ↔ WC T E c (e.dels ts) h R := by
  unfold WC; simp only [evC]

/-- Behind a first piece: go on, or out. -/
def then' (K : Env → AH → Prop) (R : X → Env → AH → Prop) : X → Env → AH → Prop
  | .normal, e, h => K e h
  | x, e, h => R x e h
def inBlk (i : Nat) (R : X → Env → AH → Prop) : X → Env → AH → Prop
  | .exit j, e, h => if j = i then R .normal e h else R (.exit j) e h
  | x, e, h => R x e h
omit hE in
@[simp] theorem then_normal {K : Env → AH → Prop} {R : X → Env → AH → Prop} : then' K R .normal e h = K e h := rfl
omit hE in
@[simp] theorem then_exit {K : Env → AH → Prop} {R : X → Env → AH → Prop} {i : Nat} : then' K R (.exit i) e h = R (.exit i) e h := rfl
omit hE in
@[simp] theorem then_ret {K : Env → AH → Prop} {R : X → Env → AH → Prop} : then' K R .ret e h = R .ret e h := rfl
omit hE in
@[simp] theorem inBlk_normal {i : Nat} {R : X → Env → AH → Prop} : inBlk i R .normal e h = R .normal e h := rfl
omit hE in
@[simp] theorem inBlk_ret {i : Nat} {R : X → Env → AH → Prop} : inBlk i R .ret e h = R .ret e h := rfl
omit hE in
@[simp] theorem inBlk_exit {i j : Nat} {R : X → Env → AH → Prop} : inBlk i R (.exit j) e h = if j = i then R .normal e h else R (.exit j) e h := rfl

theorem WC_seq {a b : C} : WC T E (.seq a b) e h R ↔ WC T E a e h (then' (fun e' h' => WC T E b e' h' R) R) := by
  constructor
  · rintro ⟨n, x, e', h', hev, hq⟩
    simp only [evC] at hev
    cases ha : evC (evF T E n) n a e h with
    | none => rw [ha] at hev; simp at hev
    | some y =>
      rw [ha] at hev
      obtain ⟨x1, e1, h1⟩ := y
      refine ⟨n, x1, e1, h1, ha, ?_⟩
      cases x1 with
      | normal => exact ⟨n, x, e', h', hev, hq⟩
      | exit i => cases hev; exact hq
      | ret => cases hev; exact hq
  · rintro ⟨n, x1, e1, h1, ha, hq⟩
    cases x1 with
    | normal =>
      obtain ⟨n', x, e', h', hev, hq⟩ := hq
      refine ⟨max n n', x, e', h', ?_, hq⟩
      simp only [evC]
      rw [evC_mono (evF_mono hE (Nat.le_max_left n n')) (Nat.le_max_left n n') _ ha]
      exact evC_mono (evF_mono hE (Nat.le_max_right n n')) (Nat.le_max_right n n') _ hev
    | exit i => exact ⟨n, _, e1, h1, by simp only [evC, ha], hq⟩
    | ret => exact ⟨n, _, e1, h1, by simp only [evC, ha], hq⟩

omit hE in
theorem WC_cond {x : Opd} {a b : C} {t : Bool} (ht : env e x = .bool t) : WC T E (.cond x a b) e h R ↔ if t then WC T E a e h R else WC T E b e h R := by
  unfold WC
  simp only [evC, ht]
  cases t <;> simp

omit hE in
theorem WC_blk {i : Nat} {c : C} : WC T E (.blk i c) e h R ↔ WC T E c e h (inBlk i R) := by
  constructor
  · rintro ⟨n, x, e', h', hev, hq⟩
    simp only [evC] at hev
    cases ha : evC (evF T E n) n c e h with
    | none => rw [ha] at hev; simp at hev
    | some y =>
      rw [ha] at hev
      obtain ⟨x1, e1, h1⟩ := y
      refine ⟨n, x1, e1, h1, ha, ?_⟩
      cases x1 with
      | normal => cases hev; exact hq
      | exit j =>
        simp only at hev
        simp only [inBlk]
        split at hev
        · rename_i hj; rw [if_pos hj]; cases hev; exact hq
        · rename_i hj; rw [if_neg hj]; cases hev; exact hq
      | ret => cases hev; exact hq
  · rintro ⟨n, x1, e1, h1, ha, hq⟩
    cases x1 with
    | normal => exact ⟨n, _, e1, h1, by simp only [evC, ha], hq⟩
    | exit j =>
      simp only [inBlk] at hq
      by_cases hj : j = i
      · rw [if_pos hj] at hq
        exact ⟨n, _, e1, h1, by simp only [evC, ha, if_pos hj], hq⟩
      · rw [if_neg hj] at hq
        exact ⟨n, _, e1, h1, by simp only [evC, ha, if_neg hj], hq⟩
    | ret => exact ⟨n, _, e1, h1, by simp only [evC, ha], hq⟩

/-- A loop, one round unrolled. -/
theorem WC_loop {c : C} : WC T E (.loop c) e h R ↔ WC T E c e h (then' (fun e' h' => WC T E (.loop c) e' h' R) R) := by
  constructor
  · rintro ⟨n, x, e', h', hev, hq⟩
    simp only [evC] at hev
    cases n with
    | zero => simp [evLoop] at hev
    | succ n =>
      simp only [evLoop] at hev
      cases ha : evC (evF T E (n + 1)) (n + 1) c e h with
      | none => rw [ha] at hev; simp at hev
      | some y =>
        rw [ha] at hev
        obtain ⟨x1, e1, h1⟩ := y
        refine ⟨n + 1, x1, e1, h1, ha, ?_⟩
        cases x1 with
        | normal =>
          refine ⟨n + 1, x, e', h', ?_, hq⟩
          simp only [evC]
          exact evLoop_mono (fun _ _ _ hh => hh) (Nat.le_succ n) hev
        | exit i => cases hev; exact hq
        | ret => cases hev; exact hq
  · rintro ⟨n, x1, e1, h1, ha, hq⟩
    cases x1 with
    | normal =>
      obtain ⟨n', x, e', h', hev, hq⟩ := hq
      simp only [evC] at hev
      refine ⟨max n n' + 1, x, e', h', ?_, hq⟩
      simp only [evC, evLoop]
      rw [evC_mono (evF_mono hE (show n ≤ max n n' + 1 by omega)) (show n ≤ max n n' + 1 by omega) _ ha]
      exact evLoop_mono (fun _ _ _ hh => evC_mono (evF_mono hE (show n' ≤ max n n' + 1 by omega)) (show n' ≤ max n n' + 1 by omega) _ hh) (show n' ≤ max n n' by omega) hev
    | exit i =>
      refine ⟨n + 1, _, e1, h1, ?_, hq⟩
      simp only [evC, evLoop]
      rw [evC_mono (evF_mono hE (Nat.le_succ n)) (Nat.le_succ n) _ ha]
    | ret =>
      refine ⟨n + 1, _, e1, h1, ?_, hq⟩
      simp only [evC, evLoop]
      rw [evC_mono (evF_mono hE (Nat.le_succ n)) (Nat.le_succ n) _ ha]

omit hE in
/-- Into a function of the table. -/
theorem Spec_of {f : Nat} {xs : List AV} {post : AV → AH → Prop} {fi : FI} (hEf : E f = none) (hT : T f = some fi)
    (hw : WC T E fi.body (Env.init 0 xs) h fun x e' h' => (x = .normal ∨ x = .ret) ∧ ∃ r, resV e' h' fi.res = some r ∧ post r h') : Spec T E f xs h post := by
  obtain ⟨n, x, e', h', hev, hx, r, hr, hq⟩ := hw
  refine ⟨n + 1, r, h', ?_, hq⟩
  simp only [evF, hEf, hT, hev]
  rcases hx with rfl | rfl <;> simp [hr]
omit hE in
theorem Spec_ext {f : Nat} {xs : List AV} {post : AV → AH → Prop} {G : CF → List AV → AH → Option (AV × AH)} (hEf : E f = some G) {r : AV} {h' : AH} (n : Nat) (hG : G (evF T E n) xs h = some (r, h')) (hp : post r h') : Spec T E f xs h post :=
  ⟨n + 1, r, h', by simp only [evF, hEf, hG], hp⟩
omit hE in
theorem Spec.mono {f : Nat} {xs : List AV} {post post' : AV → AH → Prop} (hs : Spec T E f xs h post) (hp : ∀ r h', post r h' → post' r h') : Spec T E f xs h post' := by
  obtain ⟨n, r, h', hev, hq⟩ := hs
  exact ⟨n, r, h', hev, hp _ _ hq⟩
omit hE in
theorem WC.mono {c : C} {R' : X → Env → AH → Prop} (hs : WC T E c e h R) (hp : ∀ x e' h', R x e' h' → R' x e' h') : WC T E c e h R' := by
  obtain ⟨n, x, e', h', hev, hq⟩ := hs
  exact ⟨n, x, e', h', hev, hp _ _ _ hq⟩
end
end Go.Proofs.YtejhhdpfndiliaaDoor.Ab

/- DEMONIC RUNS: pieces of code of the machine, and steps of an iterator over a map, whose order is not known. -/
namespace Go.Proofs.YtejhhdpfndiliaaDoor.Ab
open Go

inductive D where
  | c (c : C)
  | nxt (it dst ok : Nat)
  | kl (ts : List Nat) (d : D)
  | seq (a b : D)
  | blk (id : Nat) (d : D)
  | loop (d : D)

abbrev RP := X → Env → AH → Prop
abbrev WCt := C → Env → AH → RP → Prop
def dRounds (W : Env → AH → RP → Prop) (R : RP) : Nat → Env → AH → Prop
  | 0, _, _ => False
  | k + 1, e, h => W e h (then' (fun e' h' => dRounds W R k e' h') R)
def dW (Wc : WCt) : D → Env → AH → RP → Prop
  | .c c, e, h, R => Wc c e h R
  | .nxt it dst ok, e, h, R => ∃ c cm seen es, e.get it = .iter c ∧ h[c]? = some (.mit cm es.length seen) ∧ h[cm]? = some (.map es) ∧
      (∀ (i : Nat) k v, es[i]? = some (k, v) → i ∉ seen → R .normal ((e.set dst (.tup [.bool true, k, v])).set ok (.bool true)) (h.set c (.mit cm es.length (seen ++ [i])))) ∧
      ((∀ i, i < es.length → i ∈ seen) → R .normal ((e.set dst (.tup [.bool false])).set ok (.bool false)) h)
  | .kl ts d, e, h, R => dW Wc d (e.dels ts) h R
  | .seq a b, e, h, R => dW Wc a e h (then' (fun e' h' => dW Wc b e' h' R) R)
  | .blk id d, e, h, R => dW Wc d e h (inBlk id R)
  | .loop d, e, h, R => ∃ n, dRounds (dW Wc d) R n e h

def WMono (Wc : WCt) : Prop := ∀ c e h (R R' : RP), (∀ x e' h', R x e' h' → R' x e' h') → Wc c e h R → Wc c e h R'
theorem then_mono {K K' : Env → AH → Prop} {R R' : RP} (hk : ∀ e h, K e h → K' e h) (hr : ∀ x e h, R x e h → R' x e h) : ∀ x e h, then' K R x e h → then' K' R' x e h := by
  intro x e h
  cases x <;> simp only [then'] <;> first | exact hk _ _ | exact hr _ _ _
theorem inBlk_mono {id : Nat} {R R' : RP} (hr : ∀ x e h, R x e h → R' x e h) : ∀ x e h, inBlk id R x e h → inBlk id R' x e h := by
  intro x e h
  cases x <;> simp only [inBlk] <;> first
    | exact hr _ _ _
    | (split <;> exact hr _ _ _)
theorem dW_mono {Wc : WCt} (hW : WMono Wc) : ∀ (d : D) (e : Env) (h : AH) (R R' : RP), (∀ x e' h', R x e' h' → R' x e' h') → dW Wc d e h R → dW Wc d e h R'
  | .c c, e, h, R, R', hr, hw => hW c e h R R' hr hw
  | .nxt it dst ok, e, h, R, R', hr, ⟨c, cm, seen, es, h1, h2, h3, h4, h5⟩ => ⟨c, cm, seen, es, h1, h2, h3, fun i k v a b => hr _ _ _ (h4 i k v a b), fun a => hr _ _ _ (h5 a)⟩
  | .kl ts d, e, h, R, R', hr, hw => dW_mono hW d _ h R R' hr hw
  | .seq a b, e, h, R, R', hr, hw => dW_mono hW a e h _ _ (then_mono (fun e' h' => dW_mono hW b e' h' R R' hr) hr) hw
  | .blk id d, e, h, R, R', hr, hw => dW_mono hW d e h _ _ (inBlk_mono hr) hw
  | .loop d, e, h, R, R', hr, ⟨n, hn⟩ => by
    refine ⟨n, ?_⟩
    induction n generalizing e h with
    | zero => exact hn
    | succ n ih => exact dW_mono hW d e h _ _ (then_mono (fun e' h' => ih e' h') hr) hn
theorem dW_imp {Wc Wc' : WCt} (hm : WMono Wc') (hi : ∀ c e h R, Wc c e h R → Wc' c e h R) : ∀ (d : D) (e : Env) (h : AH) (R : RP), dW Wc d e h R → dW Wc' d e h R
  | .c c, e, h, R, hw => hi c e h R hw
  | .nxt _ _ _, _, _, _, hw => hw
  | .kl ts d, e, h, R, hw => dW_imp hm hi d _ h R hw
  | .seq a b, e, h, R, hw => dW_mono hm a e h _ _ (then_mono (fun e' h' => dW_imp hm hi b e' h' R) fun _ _ _ x => x) (dW_imp hm hi a e h _ hw)
  | .blk id d, e, h, R, hw => dW_imp hm hi d e h _ hw
  | .loop d, e, h, R, ⟨n, hn⟩ => by
    refine ⟨n, ?_⟩
    induction n generalizing e h with
    | zero => exact hn
    | succ n ih => exact dW_mono hm d e h _ _ (then_mono (fun e' h' => ih e' h') fun _ _ _ x => x) (dW_imp hm hi d e h _ hn)

/-! ### Two answers of one run meet -/
def WBoth (Wc : WCt) : Prop := ∀ c e h (R R' : RP), Wc c e h R → Wc c e h R' → ∃ x e' h', R x e' h' ∧ R' x e' h'
theorem then_both {K K' : Env → AH → Prop} {R R' : RP} (hk : ∀ e h, K e h → K' e h → ∃ x e' h', R x e' h' ∧ R' x e' h') {x : X} {e : Env} {h : AH} (h1 : then' K R x e h) (h2 : then' K' R' x e h) : ∃ x e' h', R x e' h' ∧ R' x e' h' := by
  cases x <;> simp only [then'] at h1 h2 <;> first | exact hk _ _ h1 h2 | exact ⟨_, _, _, h1, h2⟩
theorem dW_both {Wc : WCt} (hW : WBoth Wc) : ∀ (d : D) (e : Env) (h : AH) (R R' : RP), dW Wc d e h R → dW Wc d e h R' → ∃ x e' h', R x e' h' ∧ R' x e' h'
  | .c c, e, h, R, R', h1, h2 => hW c e h R R' h1 h2
  | .nxt it dst ok, e, h, R, R', ⟨c, cm, seen, es, a1, a2, a3, a4, a5⟩, ⟨c', cm', seen', es', b1, b2, b3, b4, b5⟩ => by
    rw [a1] at b1; cases b1
    rw [a2] at b2
    simp only [Option.some.injEq, AO.mit.injEq] at b2
    obtain ⟨rfl, _, rfl⟩ := b2
    rw [a3] at b3; cases b3
    by_cases hall : ∀ i, i < es.length → i ∈ seen
    · exact ⟨_, _, _, a5 hall, b5 hall⟩
    · simp only [Classical.not_forall] at hall
      obtain ⟨i, hi, hs⟩ := hall
      have he : es[i]? = some (es[i].1, es[i].2) := List.getElem?_eq_getElem hi
      exact ⟨_, _, _, a4 i _ _ he hs, b4 i _ _ he hs⟩
  | .kl ts d, e, h, R, R', h1, h2 => dW_both hW d _ h R R' h1 h2
  | .seq a b, e, h, R, R', h1, h2 => by
    obtain ⟨x, e', h', k1, k2⟩ := dW_both hW a e h _ _ h1 h2
    exact then_both (fun e' h' => dW_both hW b e' h' R R') k1 k2
  | .blk id d, e, h, R, R', h1, h2 => by
    obtain ⟨x, e', h', k1, k2⟩ := dW_both hW d e h _ _ h1 h2
    cases x <;> simp only [inBlk] at k1 k2
    · exact ⟨_, _, _, k1, k2⟩
    · split at k1
      · rename_i hid; rw [if_pos hid] at k2; exact ⟨_, _, _, k1, k2⟩
      · rename_i hid; rw [if_neg hid] at k2; exact ⟨_, _, _, k1, k2⟩
    · exact ⟨_, _, _, k1, k2⟩
  | .loop d, e, h, R, R', ⟨n, h1⟩, ⟨n', h2⟩ => by
    induction n generalizing e h n' with
    | zero => exact h1.elim
    | succ n ih =>
      cases n' with
      | zero => exact h2.elim
      | succ n' =>
        obtain ⟨x, e', h', k1, k2⟩ := dW_both hW d e h _ _ h1 h2
        exact then_both (fun e' h' a b => ih e' h' a n' b) k1 k2

/-! ### One fuel is enough: a step has few ways on -/
def Wcf (cf : CF) : WCt := fun c e h R => ∃ n x e' h', evC cf n c e h = some (x, e', h') ∧ R x e' h'
theorem Wcf_mono (cf : CF) : WMono (Wcf cf) := fun _ _ _ _ _ hr ⟨n, x, e', h', h1, h2⟩ => ⟨n, x, e', h', h1, hr _ _ _ h2⟩
theorem Wcf_both (cf : CF) : WBoth (Wcf cf) := by
  rintro c e h R R' ⟨n, x, e', h', h1, h2⟩ ⟨n', y, f, g, k1, k2⟩
  have a := evC_mono (CF.le_refl cf) (Nat.le_max_left n n') c h1
  have b := evC_mono (CF.le_refl cf) (Nat.le_max_right n n') c k1
  rw [a] at b; cases b
  exact ⟨_, _, _, h2, k2⟩
theorem Wcf_le {cf cf' : CF} (hle : cf.le cf') (c : C) (e : Env) (h : AH) (R : RP) (hw : Wcf cf c e h R) : Wcf cf' c e h R := by
  obtain ⟨n, x, e', h', h1, h2⟩ := hw
  exact ⟨n, x, e', h', evC_mono hle (Nat.le_refl n) c h1, h2⟩
theorem up_fin {n : Nat} {Q : Nat → Nat → Prop} (hm : ∀ i N N', N ≤ N' → Q i N → Q i N') (h : ∀ i, i < n → ∃ N, Q i N) : ∃ N, ∀ i, i < n → Q i N := by
  induction n with
  | zero => exact ⟨0, fun i hi => by omega⟩
  | succ n ih =>
    obtain ⟨N, hN⟩ := ih fun i hi => h i (by omega)
    obtain ⟨M, hM⟩ := h n (by omega)
    refine ⟨max N M, fun i hi => ?_⟩
    by_cases e : i = n
    · subst e; exact hm _ _ _ (Nat.le_max_right N M) hM
    · exact hm _ _ _ (Nat.le_max_left N M) (hN i (by omega))
theorem dW_fuel {T : Nat → Option FI} {E : Ext} (hE : EMono E) : ∀ (d : D) (e : Env) (h : AH) (R : Nat → RP), (∀ N N', N ≤ N' → ∀ x e' h', R N x e' h' → R N' x e' h') → dW (WC T E) d e h (fun x e' h' => ∃ N, R N x e' h') → ∃ N, dW (Wcf (evF T E N)) d e h (R N) := by
  have le : ∀ {N N' : Nat}, N ≤ N' → (evF T E N).le (evF T E N') := fun hn => evF_mono hE hn
  have up : ∀ {N N' : Nat} (d : D) (e : Env) (h : AH) (R R' : RP), N ≤ N' → (∀ x e' h', R x e' h' → R' x e' h') → dW (Wcf (evF T E N)) d e h R → dW (Wcf (evF T E N')) d e h R' := fun d e h R R' hn hr hw => dW_mono (Wcf_mono _) d e h R R' hr (dW_imp (Wcf_mono _) (fun c e h R => Wcf_le (le hn) c e h R) d e h R hw)
  have tup : ∀ {K : Nat → Env → AH → Prop} {R : Nat → RP}, (∀ N N', N ≤ N' → ∀ e' h', K N e' h' → K N' e' h') → (∀ N N', N ≤ N' → ∀ x e' h', R N x e' h' → R N' x e' h') → ∀ N N', N ≤ N' → ∀ x e' h', then' (K N) (R N) x e' h' → then' (K N') (R N') x e' h' :=
    fun hk hr N N' hn => then_mono (hk N N' hn) (hr N N' hn)
  intro d
  induction d with
  | c c =>
    rintro e h R hm ⟨n, x, e', h', h1, N, h2⟩
    exact ⟨max n N, n, x, e', h', evC_mono (le (Nat.le_max_left n N)) (Nat.le_refl n) c h1, hm _ _ (Nat.le_max_right n N) _ _ _ h2⟩
  | nxt it dst ok =>
    rintro e h R hm ⟨c, cm, seen, es, h1, h2, h3, h4, h5⟩
    have a : ∃ N, ∀ i, i < es.length → ∀ k v, es[i]? = some (k, v) → i ∉ seen → R N .normal ((e.set dst (.tup [.bool true, k, v])).set ok (.bool true)) (h.set c (.mit cm es.length (seen ++ [i]))) := by
      refine up_fin (Q := fun i N => ∀ k v, es[i]? = some (k, v) → i ∉ seen → R N .normal ((e.set dst (.tup [.bool true, k, v])).set ok (.bool true)) (h.set c (.mit cm es.length (seen ++ [i])))) (fun i N N' hn hq k v a b => hm N N' hn _ _ _ (hq k v a b)) fun i hi => ?_
      by_cases hs : i ∈ seen
      · exact ⟨0, fun _ _ _ hns => absurd hs hns⟩
      · obtain ⟨N, hN⟩ := h4 i es[i].1 es[i].2 (List.getElem?_eq_getElem hi) hs
        refine ⟨N, fun k v hkv _ => ?_⟩
        have : es[i]? = some (es[i].1, es[i].2) := List.getElem?_eq_getElem hi
        rw [this] at hkv; cases hkv
        exact hN
    have b : ∃ N, (∀ i, i < es.length → i ∈ seen) → R N .normal ((e.set dst (.tup [.bool false])).set ok (.bool false)) h := by
      by_cases hall : ∀ i, i < es.length → i ∈ seen
      · obtain ⟨N, hN⟩ := h5 hall
        exact ⟨N, fun _ => hN⟩
      · exact ⟨0, fun x => absurd x hall⟩
    obtain ⟨N, hN⟩ := a
    obtain ⟨M, hM⟩ := b
    exact ⟨max N M, c, cm, seen, es, h1, h2, h3, fun i k v hk hs => hm _ _ (Nat.le_max_left N M) _ _ _ (hN i (List.getElem?_eq_some_iff.1 hk).1 k v hk hs), fun hall => hm _ _ (Nat.le_max_right N M) _ _ _ (hM hall)⟩
  | kl ts d ih => intro e h R hm hw; exact ih _ h R hm hw
  | seq a b iha ihb =>
    intro e h R hm hw
    refine iha e h (fun N => then' (fun e' h' => dW (Wcf (evF T E N)) b e' h' (R N)) (R N)) (tup (fun N N' hn e' h' => up b e' h' _ _ hn (hm N N' hn)) hm) ?_
    refine dW_mono (fun c e h R R' hr ⟨n, x, e', h', h1, h2⟩ => ⟨n, x, e', h', h1, hr _ _ _ h2⟩) a e h _ _ ?_ hw
    intro x e' h' hx
    cases x <;> simp only [then'] at hx ⊢
    · exact ihb e' h' R hm hx
    · exact hx
    · exact hx
  | blk id d ih =>
    intro e h R hm hw
    refine ih e h (fun N => inBlk id (R N)) (fun N N' hn => inBlk_mono (hm N N' hn)) ?_
    refine dW_mono (fun c e h R R' hr ⟨n, x, e', h', h1, h2⟩ => ⟨n, x, e', h', h1, hr _ _ _ h2⟩) d e h _ _ ?_ hw
    intro x e' h' hx
    cases x <;> simp only [inBlk] at hx ⊢
    · exact hx
    · split at hx
      · rename_i hid
        obtain ⟨N, hN⟩ := hx
        exact ⟨N, by rw [if_pos hid]; exact hN⟩
      · rename_i hid
        obtain ⟨N, hN⟩ := hx
        exact ⟨N, by rw [if_neg hid]; exact hN⟩
    · exact hx
  | loop d ih =>
    intro e h R hm ⟨n, hn⟩
    have main : ∀ n e h, dRounds (dW (WC T E) d) (fun x e' h' => ∃ N, R N x e' h') n e h → ∃ N, dRounds (dW (Wcf (evF T E N)) d) (R N) n e h := by
      intro n
      induction n with
      | zero => intro e h hw; exact hw.elim
      | succ n ihn =>
        intro e h hw
        have upr : ∀ N N', N ≤ N' → ∀ e' h', dRounds (dW (Wcf (evF T E N)) d) (R N) n e' h' → dRounds (dW (Wcf (evF T E N')) d) (R N') n e' h' := by
          intro N N' hn'
          clear ihn hw hn
          induction n with
          | zero => intro e' h' hx; exact hx
          | succ n ih2 => intro e' h' hx; exact up d e' h' _ _ hn' (then_mono (fun e2 h2 => ih2 e2 h2) (hm N N' hn')) hx
        refine ih e h (fun N => then' (fun e' h' => dRounds (dW (Wcf (evF T E N)) d) (R N) n e' h') (R N)) (tup upr hm) ?_
        refine dW_mono (fun c e h R R' hr ⟨n, x, e', h', h1, h2⟩ => ⟨n, x, e', h', h1, hr _ _ _ h2⟩) d e h _ _ ?_ hw
        intro x e' h' hx
        cases x <;> simp only [then'] at hx ⊢
        · exact ihn e' h' hx
        · exact hx
        · exact hx
    obtain ⟨N, hN⟩ := main n e h hn
    exact ⟨N, n, hN⟩
end Go.Proofs.YtejhhdpfndiliaaDoor.Ab

/- CONTRACTS outside the table of bodies: functions of strings, by what they answer. -/
namespace Go.Proofs.YtejhhdpfndiliaaDoor.Ab
open Go

/-- Functions that turn nothing: of strings and numbers, or of what a slice holds. -/
def pureX (G : List AV → AH → Option AV) : CF → List AV → AH → Option (AV × AH) := fun _ xs h => (G xs h).map (·, h)
def low (s : List UInt8) : Bool := s.all fun b => decide (b.toNat < 128)
def xTrim : List AV → Option AV
  | [.str s, .str c] => if s.length ≤ 4294967280 ∧ c.length ≤ 4294967280 ∧ low c = true then some (.str (Go.Lib.trimS s c)) else none
  | _ => none
def xIndexByte : List AV → Option AV
  | [.str s, .int .u8 c] => some (.int .i64 (Go.Lib.indexByte s c.toNat.toUInt8))
  | _ => none
def xIndex : List AV → Option AV
  | [.str s, .str [c]] => some (.int .i64 (Go.Lib.indexByte s c))
  | _ => none
def xContains : List AV → Option AV
  | [.str s, .str [c]] => some (.bool (decide (0 ≤ Go.Lib.indexByte s c)))
  | _ => none
def xCount : List AV → Option AV
  | [.str s, .str [c]] => some (.int .i64 (Go.Lib.countByte s c))
  | _ => none

def strsOf : List AV → Option (List (List UInt8))
  | [] => some []
  | .str s :: l => (strsOf l).map (s :: ·)
  | _ :: _ => none
def xJoin : List AV → AH → Option AV
  | [.slice c k off len e, .str sep], h => if e = 1 then match rdRow h c k off len with
    | some cs => match strsOf cs with
      | some xs => if (Go.Lib.join xs sep).length ≤ 140737488355328 ∧ len ≤ 140737488355328 then some (.str (Go.Lib.join xs sep)) else none
      | none => none
    | none => none
    else none
  | _, _ => none
def xRepeat : List AV → Option AV
  | [.str s, .int .i64 n] => if 0 ≤ n ∧ n ≤ 9223372036854775807 ∧ s.length * n.toNat ≤ 140737488355328 then some (.str (Go.Lib.repeatL s n.toNat)) else none
  | _ => none

/-- What stands ahead of i and from j on, the rest laid to zero (elements of three numbers). -/
def xDelete3 : List AV → AH → Option (AV × AH)
  | [.slice c k off n e, .int .i64 i, .int .i64 j], h => if e = 3 ∧ 0 ≤ i ∧ i < j ∧ j ≤ (n : Int) ∧ n ≤ 1099511627776 then match rdRow h c k (off + j.toNat * 3) ((n - j.toNat) * 3) with
    | some cs => match wrRow h c k (off + i.toNat * 3) cs with
      | some h1 => match wrRow h1 c k (off + (i.toNat + (n - j.toNat)) * 3) (List.replicate ((j.toNat - i.toNat) * 3) (.int .i64 0)) with
        | some h2 => some (.slice c k off (n - (j.toNat - i.toNat)) 3, h2)
        | none => none
      | none => none
    | none => none
    else none
  | _, _ => none

/-- A slice of texts in order. -/
def xSortS : List AV → AH → Option (AV × AH)
  | [.nilS], h => some (.tup [], h)
  | [.empS], h => some (.tup [], h)
  | [.slice c k off n e], h => if e = 1 ∧ 1 ≤ n ∧ n ≤ 1099511627776 then match rdRow h c k off n with
    | some cs => match strsOf cs with
      | some ss => (wrRow h c k off ((ss.mergeSort fun x y => decide (x ≤ y)).map AV.str)).map fun h' => (.tup [], h')
      | none => none
    | none => none
    else none
  | _, _ => none

/-! ### Texts parted, a sign struck, moves put in order -/
def splA (c : UInt8) : List UInt8 → List UInt8 → List (List UInt8)
  | cur, [] => [cur]
  | cur, b :: s => if b = c then cur :: splA c [] s else splA c (cur ++ [b]) s
theorem splA_cons (c : UInt8) (cur : List UInt8) (b : UInt8) (s : List UInt8) : splA c cur (b :: s) = if b = c then cur :: splA c [] s else splA c (cur ++ [b]) s := rfl
def xSplit : List AV → AH → Option (AV × AH)
  | [.str s, .str [c]], h => if s.length ≤ 4294967280 then some (.slice h.length 0 0 (splA c [] s).length 1, h ++ [.row ((splA c [] s).map AV.str) 0 0 false]) else none
  | _, _ => none
abbrev noB (c : UInt8) (s : List UInt8) : List UInt8 := s.filter fun b => !(b == c)
def xReplaceAll : List AV → Option AV
  | [.str s, .str [c], .str []] => if s.length ≤ 4294967280 then some (.str (noB c s)) else none
  | _ => none
abbrev Mo := Int × Int
def ltMo (a b : Mo) : Prop := a.1 < b.1 ∨ (a.1 = b.1 ∧ a.2 < b.2)
instance (a b : Mo) : Decidable (ltMo a b) := by unfold ltMo; infer_instance
/-- Sorted as the program sorts. -/
def srtMo (l : List Mo) : List Mo := l.mergeSort fun x y => !decide (ltMo y x)
def mosOf : List AV → Option (List Mo)
  | [] => some []
  | .int .i64 a :: .int .i64 b :: l => (mosOf l).map ((a, b) :: ·)
  | _ => none
abbrev moC (l : List Mo) : List AV := l.flatMap fun m => [.int .i64 m.1, .int .i64 m.2]
/-- A slice of moves in order, by the function f. -/
def xSortM (f : Nat) : List AV → AH → Option (AV × AH)
  | [.nilS, .fn g []], h => if g = f then some (.tup [], h) else none
  | [.empS, .fn g []], h => if g = f then some (.tup [], h) else none
  | [.slice c k off n e, .fn g []], h => if g = f ∧ n = 0 then some (.tup [], h) else if g = f ∧ e = 2 ∧ n ≤ 1099511627776 then match rdRow h c k off (n * 2) with
    | some cs => match mosOf cs with
      | some ms => (wrRow h c k off (moC (srtMo ms))).map fun h' => (.tup [], h')
      | none => none
    | none => none
    else none
  | _, _ => none

/-! ### Texts gathered from a map, whose order is not known -/
/-- impl.someReached: the code, its steps over the map left open. -/
def dSome3 : D := .kl [8, 21, 22, 23] (.c (.cond (.t 24) (.reg [⟨some 25, .mov (.t 6), none⟩, ⟨some 26, .mov (.t 7), none⟩, ⟨some 27, .lit 1 1 [.str []] [(0, 1, .t 26)], none⟩, ⟨some 28, .app 1 (.t 25) (.t 27), none⟩, ⟨some 6, .mov (.t 28), none⟩]) .skip))
def dSome2 : D := .seq (.c (.reg [⟨some 21, .mov (.t 1), none⟩, ⟨some 22, .mov (.t 7), none⟩, ⟨some 23, .mov (.t 8), none⟩, ⟨some 24, .callv (.t 21) [.t 22, .t 23], none⟩])) dSome3
def dSome1 : D := .seq (.c (.reg [⟨some 18, .ent (.t 15), none⟩, ⟨some 19, .prj 0 (.t 18), none⟩, ⟨some 20, .prj 1 (.t 18), none⟩, ⟨some 7, .mov (.t 19), none⟩, ⟨some 8, .mov (.t 20), none⟩])) (.kl [18, 19, 20] dSome2)
def dSomeL : D := .kl [7, 8, 16, 17, 18, 19, 20, 21, 22, 23, 24, 25, 26, 27, 28] (.seq (.nxt 15 16 17) (.kl [16] (.seq (.c (.cond (.t 17) .skip (.kl [1, 15, 17] (.exit 0)))) (.kl [17] (.blk 1 dSome1)))))
def dSomeT : D := .seq (.c (.reg [⟨some 29, .mov (.t 6), none⟩, ⟨some 30, .call 275 [.t 29], none⟩])) (.kl [29, 30] (.c (.seq (.reg [⟨some 31, .mov (.t 6), none⟩, ⟨some 4, .mov (.t 31), none⟩, ⟨some 5, .mov (.c (.bool true)), none⟩]) .ret)))
def dSomeM : D := .seq (.seq (.c (.reg [⟨some 13, .mov (.t 0), none⟩, ⟨some 14, .call 273 [.t 13], none⟩, ⟨some 15, .rngM (.t 14), none⟩])) (.kl [0, 13, 14] (.blk 0 (.loop dSomeL)))) dSomeT
def dSome : D :=
  .seq (.c (.reg [⟨some 4, .mov (.c .nilS), none⟩, ⟨some 5, .mov (.c (.bool false)), none⟩]))
  (.seq (.c (.seq (.reg [⟨some 9, .mov (.t 0), none⟩, ⟨some 10, .call 56 [.t 9], none⟩, ⟨some 11, .un .not (.t 10), none⟩]) (.kl [9, 10] (.cond (.t 11) (.seq (.reg [⟨some 4, .mov (.c .nilS), none⟩, ⟨some 5, .mov (.c (.bool false)), none⟩]) .ret) .skip))))
  (.kl [4, 5, 11] (.seq (.c (.reg [⟨some 12, .lit0, none⟩, ⟨some 6, .mov (.t 12), none⟩])) (.kl [12] dSomeM))))
/-- What comes of it: nil, or nothing, or a slice of one's own; a yes or no. -/
def FinR (ra rb : Nat) (h : AH) (q : Nat × Bool × List (List UInt8)) : RP := fun x e' h' => x = .ret ∧ e'.get rb = .bool q.2.1 ∧ (∀ i, i < h.length → h'[i]? = h[i]?) ∧
  ((q.1 = 0 ∧ q.2.2 = [] ∧ e'.get ra = .nilS) ∨ (q.1 = 1 ∧ q.2.2 = [] ∧ e'.get ra = .empS) ∨
   (q.1 = 2 ∧ ∃ r k off n cells fl, e'.get ra = .slice r k off n 1 ∧ h.length ≤ r ∧ h'[r]? = some (.row cells k fl false) ∧ fl ≤ k ∧ n = q.2.2.length ∧ 1 ≤ n ∧ off + n * 1 = cells.length ∧ cells.drop off = q.2.2.map AV.str))
theorem strs_inj : ∀ {a b : List (List UInt8)}, a.map AV.str = b.map AV.str → a = b
  | [], [], _ => rfl
  | [], _ :: _, h => by simp at h
  | _ :: _, [], h => by simp at h
  | x :: a, y :: b, h => by
    simp only [List.map_cons, List.cons.injEq, AV.str.injEq] at h
    rw [h.1, strs_inj h.2]
theorem FinR.uniq {ra rb : Nat} {h h' : AH} {q q' : Nat × Bool × List (List UInt8)} {x : X} {e' : Env} (a : FinR ra rb h q x e' h') (b : FinR ra rb h q' x e' h') : q = q' := by
  obtain ⟨q1, q2, q3⟩ := q
  obtain ⟨p1, p2, p3⟩ := q'
  obtain ⟨_, a1, _, a2⟩ := a
  obtain ⟨_, b1, _, b2⟩ := b
  simp only at a1 b1 a2 b2
  rw [a1] at b1
  simp only [AV.bool.injEq] at b1
  subst b1
  rcases a2 with ⟨rfl, rfl, a3⟩ | ⟨rfl, rfl, a3⟩ | ⟨rfl, r, k, off, n, cells, fl, a3, a4, a5, a6, a7, a8, a9, a10⟩ <;> rcases b2 with ⟨rfl, rfl, b3⟩ | ⟨rfl, rfl, b3⟩ | ⟨rfl, r', k', off', n', cells', fl', b3, b4, b5, b6, b7, b8, b9, b10⟩ <;> rw [a3] at b3 <;> first
    | rfl
    | (cases b3; done)
    | (simp only [AV.slice.injEq] at b3
       obtain ⟨rfl, rfl, rfl, rfl, _⟩ := b3
       rw [a5] at b5
       simp only [Option.some.injEq, AO.row.injEq] at b5
       obtain ⟨rfl, _⟩ := b5
       rw [a10] at b10
       rw [strs_inj b10])
def ansR (h : AH) (q : Nat × Bool × List (List UInt8)) : AV × AH := match q.1 with
  | 0 => (.tup [.nilS, .bool q.2.1], h)
  | 1 => (.tup [.empS, .bool q.2.1], h)
  | _ => (.tup [.slice h.length 0 0 q.2.2.length 1, .bool q.2.1], h ++ [.row (q.2.2.map AV.str) 0 0 false])
open Classical in
noncomputable def xGather (d : D) (ra rb : Nat) : CF → List AV → AH → Option (AV × AH) := fun cf xs h =>
  if H : ∃ q, dW (Wcf cf) d (Env.init 0 xs) h (FinR ra rb h q) then some (ansR h (Classical.choose H)) else none
theorem xGather_at {d : D} {ra rb : Nat} {cf : CF} {xs : List AV} {h : AH} {q : Nat × Bool × List (List UInt8)} (hq : dW (Wcf cf) d (Env.init 0 xs) h (FinR ra rb h q)) : xGather d ra rb cf xs h = some (ansR h q) := by
  have H : ∃ q, dW (Wcf cf) d (Env.init 0 xs) h (FinR ra rb h q) := ⟨q, hq⟩
  unfold xGather
  rw [dif_pos H]
  obtain ⟨x, e', h', a, b⟩ := dW_both (Wcf_both cf) d _ _ _ _ (Classical.choose_spec H) hq
  rw [FinR.uniq a b]
theorem xGather_some {d : D} {ra rb : Nat} {cf : CF} {xs : List AV} {h : AH} {r : AV × AH} (hr : xGather d ra rb cf xs h = some r) : ∃ q, dW (Wcf cf) d (Env.init 0 xs) h (FinR ra rb h q) ∧ r = ansR h q := by
  unfold xGather at hr
  split at hr
  · rename_i H
    cases hr
    exact ⟨_, Classical.choose_spec H, rfl⟩
  · cases hr
theorem xGather_mono {d : D} {ra rb : Nat} {cf cf' : CF} (hle : cf.le cf') {xs : List AV} {h : AH} {r : AV × AH} (hr : xGather d ra rb cf xs h = some r) : xGather d ra rb cf' xs h = some r := by
  obtain ⟨q, hq, rfl⟩ := xGather_some hr
  exact xGather_at (dW_imp (Wcf_mono _) (fun c e h R => Wcf_le hle c e h R) d _ _ _ hq)
noncomputable def xSome : CF → List AV → AH → Option (AV × AH) := xGather dSome 4 5

/-- impl.LinesHalfway: the code, its steps over the map left open. -/
def dHalfB : C := .seq (.cond (.t 29) (.skip) (.kl [8, 27, 29] (.exit 0))) (.kl [29] (.blk 1 (.seq (.reg [⟨some 30, .ent (.t 27), none⟩, ⟨some 31, .prj 0 (.t 30), none⟩, ⟨some 32, .prj 1 (.t 30), none⟩, ⟨some 11, .mov (.t 31), none⟩, ⟨some 12, .mov (.t 32), none⟩]) (.kl [30, 31, 32] (.seq (.reg [⟨some 33, .mov (.t 12), none⟩, ⟨some 34, .mov (.t 8), none⟩, ⟨some 35, .bin .quo (.t 34) (.c (.int .i64 2)), none⟩, ⟨some 36, .bin .eql (.t 33) (.t 35), none⟩]) (.kl [12, 33, 34, 35] (.cond (.t 36) (.kl [36] (.reg [⟨some 37, .mov (.t 10), none⟩, ⟨some 38, .mov (.t 11), none⟩, ⟨some 39, .lit 1 1 [.str []] [(0, 1, .t 38)], none⟩, ⟨some 40, .app 1 (.t 37) (.t 39), none⟩, ⟨some 10, .mov (.t 40), none⟩])) (.skip))))))))
def dHalfL : D := .kl [11, 36, 37, 38, 39, 40] (.seq (.nxt 27 28 29) (.kl [28] (.c dHalfB)))
def dHalfT : C := .seq (.reg [⟨some 41, .mov (.t 10), none⟩, ⟨some 42, .call 275 [.t 41], none⟩]) (.kl [41, 42] (.seq (.reg [⟨some 43, .mov (.t 10), none⟩, ⟨some 6, .mov (.t 43), none⟩, ⟨some 7, .mov (.c (.bool true)), none⟩]) (.kl [10, 43] (.ret))))
def dHalfM : D := .seq (.seq (.c (.reg [⟨some 23, .mov (.t 0), none⟩, ⟨some 24, .mov (.t 1), none⟩, ⟨some 25, .mov (.t 2), none⟩, ⟨some 26, .call 314 [.t 23, .t 24, .t 25], none⟩, ⟨some 27, .rngM (.t 26), none⟩])) (.kl [0, 1, 2, 23, 24, 25, 26] (.blk 0 (.loop dHalfL)))) (.c dHalfT)
def dHalf : D := .seq (.c (.reg [⟨some 6, .mov (.c (.nilS)), none⟩, ⟨some 7, .mov (.c (.bool false)), none⟩])) (.kl [6, 7] (.seq (.c (.reg [⟨some 14, .mov (.t 0), none⟩, ⟨some 15, .mov (.t 1), none⟩, ⟨some 16, .mov (.t 2), none⟩, ⟨some 17, .call 313 [.t 14, .t 15, .t 16], none⟩, ⟨some 13, .mov (.t 17), none⟩, ⟨some 18, .prj 0 (.t 13), none⟩, ⟨some 19, .prj 1 (.t 13), none⟩, ⟨some 8, .mov (.t 18), none⟩, ⟨some 9, .mov (.t 19), none⟩])) (.kl [13, 14, 15, 16, 17, 18, 19] (.seq (.c (.seq (.reg [⟨some 20, .mov (.t 9), none⟩, ⟨some 21, .un .not (.t 20), none⟩]) (.kl [9, 20] (.cond (.t 21) (.kl [0, 1, 2, 8, 21] (.seq (.reg [⟨some 6, .mov (.c (.nilS)), none⟩, ⟨some 7, .mov (.c (.bool false)), none⟩]) (.ret))) (.skip))))) (.kl [21] (.seq (.c (.reg [⟨some 22, .lit0, none⟩, ⟨some 10, .mov (.t 22), none⟩])) (.kl [22] dHalfM)))))))
noncomputable def xHalf : CF → List AV → AH → Option (AV × AH) := xGather dHalf 6 7

def xtab : List (Nat × (List AV → AH → Option AV)) := [(111, fun xs _ => xTrim xs), (126, fun xs _ => xContains xs)]
def ytab : List (Nat × (List AV → AH → Option (AV × AH))) := []
noncomputable def ztab : List (Nat × (CF → List AV → AH → Option (AV × AH))) := []
noncomputable def E : Ext := fun f => match xtab.find? fun x => x.1 == f with
  | some x => some (pureX x.2)
  | none => match ytab.find? fun x => x.1 == f with
    | some x => some fun _ xs h => x.2 xs h
    | none => (ztab.find? fun x => x.1 == f).map fun x => x.2
theorem ztab_mono : ∀ x ∈ ztab, ∀ cf cf' : CF, cf.le cf' → ∀ xs h r, x.2 cf xs h = some r → x.2 cf' xs h = some r := by
  intro x hx
  simp only [ztab, List.mem_cons, List.not_mem_nil, or_false] at hx
  all_goals cases hx
theorem hE : EMono E := by
  intro f G h cf cf' _ xs hh r hr
  unfold E at h
  split at h
  · cases h; exact hr
  · split at h
    · cases h; exact hr
    · simp only [Option.map_eq_some_iff] at h
      obtain ⟨x, hx, rfl⟩ := h
      exact ztab_mono x (List.mem_of_find?_eq_some hx) cf cf' ‹_› xs hh r hr
end Go.Proofs.YtejhhdpfndiliaaDoor.Ab

/- THE RELATION between the abstract machine's states and the model's. -/
namespace Go.Proofs.YtejhhdpfndiliaaDoor.Ab
open Go Go.RowKit

structure Place where
  blk : Nat
  base : Nat
  lo : Nat
  ext : Nat
  siz : Nat

structure Emb where
  row : Nat → Nat → Option Place
  obj : Nat → Option Nat

mutual
def RelV (F : Nat → Nat) (m : Emb) : AV → Value → Prop
  | .int k n, v => v = .int k n
  | .bool b, v => v = .bool b
  | .str s, v => v = .string ⟨s.toArray⟩
  | .nilS, v => v = .slice none 0 0
  | .empS, v => ∃ a, v = .slice (some a) 0 0
  | .slice c k off len esz, v => ∃ p o cap, m.row c k = some p ∧ v = .slice (some ⟨p.blk, o, none⟩) len cap ∧ len ≤ cap ∧
      (cap = 0 ∨ (p.lo ≤ off ∧ o = p.base + (off - p.lo) ∧ off + len * esz ≤ p.ext ∧ p.base + (off - p.lo) + cap * esz ≤ p.siz))
  | .nilP, v => v = .pointer none
  | .ptr c k off n, v => ∃ p, m.row c k = some p ∧ v = .pointer (some ⟨p.blk, p.base + (off - p.lo), none⟩) ∧ p.lo ≤ off ∧ off + n ≤ p.ext
  | .nilM, v => v = .map none
  | .map c, v => ∃ b, m.obj c = some b ∧ v = .map (some b)
  | .iter c, v => ∃ b, m.obj c = some b ∧ v = .pointer (some ⟨b, 0, none⟩)
  | .fn f cap, v => ∃ vs, v = .func (.func (F f)) #[] vs ∧ RelL F m cap vs.toList
  | .nilF, v => v = .nilFunc
  | .agg xs, v => ∃ vs, v = .agg vs ∧ RelL F m xs vs.toList
  | .tup xs, v => ∃ vs, v = .tuple vs ∧ RelL F m xs vs.toList
  | .nilI, v => v = .nilIface
  | .ifc, v => ∃ t u, v = .iface t u
  | .undef, _ => True
def RelL (F : Nat → Nat) (m : Emb) : List AV → List Value → Prop
  | [], l => l = []
  | x :: xs, l => ∃ v vs, l = v :: vs ∧ RelV F m x v ∧ RelL F m xs vs
end

def RelE (F : Nat → Nat) (m : Emb) : List (AV × AV) → List MapEntry → Prop
  | [], l => l = []
  | (k, v) :: es, l => ∃ e l', l = e :: l' ∧ RelV F m k e.key ∧ RelV F m v e.val ∧ RelE F m es l'

def Emb.le (m m' : Emb) : Prop := (∀ c k p, m.row c k = some p → m'.row c k = some p) ∧ ∀ c b, m.obj c = some b → m'.obj c = some b
theorem Emb.le_refl (m : Emb) : m.le m := ⟨fun _ _ _ h => h, fun _ _ h => h⟩
theorem Emb.le_trans {m m' m'' : Emb} (h : m.le m') (h' : m'.le m'') : m.le m'' := ⟨fun _ _ _ x => h'.1 _ _ _ (h.1 _ _ _ x), fun _ _ x => h'.2 _ _ (h.2 _ _ x)⟩

mutual
theorem RelV.mono {F : Nat → Nat} {m m' : Emb} (hm : m.le m') : ∀ (x : AV) (v : Value), RelV F m x v → RelV F m' x v
  | .int .., _, h | .bool _, _, h | .str _, _, h | .nilS, _, h | .empS, _, h | .nilP, _, h | .nilM, _, h | .nilF, _, h | .nilI, _, h | .ifc, _, h | .undef, _, h => by simp only [RelV] at h ⊢ <;> exact h
  | .slice .., _, h => by
    simp only [RelV] at h ⊢
    obtain ⟨p, o, cap, h1, h2⟩ := h
    exact ⟨p, o, cap, hm.1 _ _ _ h1, h2⟩
  | .ptr .., _, h => by
    simp only [RelV] at h ⊢
    obtain ⟨p, h1, h2⟩ := h
    exact ⟨p, hm.1 _ _ _ h1, h2⟩
  | .map _, _, h => by
    simp only [RelV] at h ⊢
    obtain ⟨b, h1, h2⟩ := h
    exact ⟨b, hm.2 _ _ h1, h2⟩
  | .iter _, _, h => by
    simp only [RelV] at h ⊢
    obtain ⟨b, h1, h2⟩ := h
    exact ⟨b, hm.2 _ _ h1, h2⟩
  | .fn _ cap, _, h => by
    simp only [RelV] at h ⊢
    obtain ⟨vs, h1, h2⟩ := h
    exact ⟨vs, h1, RelL.mono hm cap _ h2⟩
  | .agg xs, _, h => by
    simp only [RelV] at h ⊢
    obtain ⟨vs, h1, h2⟩ := h
    exact ⟨vs, h1, RelL.mono hm xs _ h2⟩
  | .tup xs, _, h => by
    simp only [RelV] at h ⊢
    obtain ⟨vs, h1, h2⟩ := h
    exact ⟨vs, h1, RelL.mono hm xs _ h2⟩
theorem RelL.mono {F : Nat → Nat} {m m' : Emb} (hm : m.le m') : ∀ (xs : List AV) (l : List Value), RelL F m xs l → RelL F m' xs l
  | [], _, h => by simpa only [RelL] using h
  | x :: xs, _, h => by
    simp only [RelL] at h ⊢
    obtain ⟨v, vs, h1, h2, h3⟩ := h
    exact ⟨v, vs, h1, RelV.mono hm x v h2, RelL.mono hm xs vs h3⟩
end

theorem RelE.mono {F : Nat → Nat} {m m' : Emb} (hm : m.le m') : ∀ (es : List (AV × AV)) (l : List MapEntry), RelE F m es l → RelE F m' es l
  | [], _, h => h
  | (k, v) :: es, l, h => by
    obtain ⟨e, l', h1, h2, h3, h4⟩ := h
    exact ⟨e, l', h1, RelV.mono hm _ _ h2, RelV.mono hm _ _ h3, RelE.mono hm es l' h4⟩

/-! ### Lists -/
theorem RelL.length {F : Nat → Nat} {m : Emb} : ∀ {xs : List AV} {l : List Value}, RelL F m xs l → l.length = xs.length
  | [], _, h => by simp only [RelL] at h; subst h; rfl
  | x :: xs, _, h => by
    simp only [RelL] at h
    obtain ⟨v, vs, rfl, _, h3⟩ := h
    simp [RelL.length h3]
theorem RelL.get {F : Nat → Nat} {m : Emb} : ∀ {xs : List AV} {l : List Value}, RelL F m xs l → ∀ (i : Nat) (x : AV), xs[i]? = some x → ∃ v, l[i]? = some v ∧ RelV F m x v
  | [], _, _, i, x, hx => by simp at hx
  | y :: xs, _, h, i, x, hx => by
    simp only [RelL] at h
    obtain ⟨v, vs, rfl, h2, h3⟩ := h
    cases i with
    | zero => simp at hx; subst hx; exact ⟨v, rfl, h2⟩
    | succ i => simp at hx; simpa using RelL.get h3 i x hx
theorem RelL.of {F : Nat → Nat} {m : Emb} : ∀ {xs : List AV} {l : List Value}, l.length = xs.length → (∀ (i : Nat) (x : AV) (v : Value), xs[i]? = some x → l[i]? = some v → RelV F m x v) → RelL F m xs l
  | [], l, hl, _ => by simp only [RelL]; exact List.eq_nil_of_length_eq_zero (by simpa using hl)
  | x :: xs, [], hl, _ => by simp at hl
  | x :: xs, v :: l, hl, h => by
    simp only [RelL]
    exact ⟨v, l, rfl, h 0 x v rfl rfl, RelL.of (by simpa using hl) fun i y u hy hu => h (i + 1) y u (by simpa using hy) (by simpa using hu)⟩
theorem RelL.append {F : Nat → Nat} {m : Emb} : ∀ {xs ys : List AV} {l l' : List Value}, RelL F m xs l → RelL F m ys l' → RelL F m (xs ++ ys) (l ++ l')
  | [], _, _, _, h, h' => by simp only [RelL] at h; subst h; simpa using h'
  | x :: xs, _, _, _, h, h' => by
    simp only [RelL] at h
    obtain ⟨v, vs, rfl, h2, h3⟩ := h
    simp only [List.cons_append, RelL]
    exact ⟨v, _, rfl, h2, h3.append h'⟩
theorem RelL.take {F : Nat → Nat} {m : Emb} (n : Nat) : ∀ {xs : List AV} {l : List Value}, RelL F m xs l → RelL F m (xs.take n) (l.take n)
  | [], _, h => by simp only [RelL] at h; subst h; simp [RelL]
  | x :: xs, _, h => by
    simp only [RelL] at h
    obtain ⟨v, vs, rfl, h2, h3⟩ := h
    cases n with
    | zero => simp [RelL]
    | succ n => simp only [List.take_succ_cons, RelL]; exact ⟨v, _, rfl, h2, h3.take n⟩
theorem RelL.drop {F : Nat → Nat} {m : Emb} (n : Nat) : ∀ {xs : List AV} {l : List Value}, RelL F m xs l → RelL F m (xs.drop n) (l.drop n)
  | [], _, h => by simp only [RelL] at h; subst h; simp [RelL]
  | x :: xs, _, h => by
    cases n with
    | zero => simpa using h
    | succ n =>
      simp only [RelL] at h
      obtain ⟨v, vs, rfl, h2, h3⟩ := h
      simpa using h3.drop n

/-- The cells of related values are related. -/
theorem RelV.cells {F : Nat → Nat} {m : Emb} {x : AV} {v : Value} (h : RelV F m x v) (hx : ∀ xs, x ≠ .tup xs) (hu : x ≠ .undef) : RelL F m x.cells v.cells.toList := by
  cases x <;> first
    | exact absurd rfl hu
    | exact absurd rfl (hx _)
    | (simp only [RelV] at h; obtain ⟨vs, rfl, h2⟩ := h; exact h2)
    | (have h' := h; simp only [RelV] at h'
       first
         | (subst h'; simp only [AV.cells, Value.cells, RelL]; exact ⟨_, _, rfl, h, rfl⟩)
         | (obtain ⟨a, rfl⟩ := h'; simp only [AV.cells, Value.cells, RelL]; exact ⟨_, _, rfl, h, rfl⟩)
         | (obtain ⟨a, b, rfl⟩ := h'; simp only [AV.cells, Value.cells, RelL]; exact ⟨_, _, rfl, h, rfl⟩)
         | (obtain ⟨a, h1, rfl⟩ := h'; simp only [AV.cells, Value.cells, RelL]; exact ⟨_, _, rfl, h, rfl⟩)
         | (obtain ⟨a, rfl, h1⟩ := h'; simp only [AV.cells, Value.cells, RelL]; exact ⟨_, _, rfl, h, rfl⟩)
         | (obtain ⟨a, h1, rfl, h2⟩ := h'; simp only [AV.cells, Value.cells, RelL]; exact ⟨_, _, rfl, h, rfl⟩)
         | (obtain ⟨a, b, c, h1, rfl, h2⟩ := h'; simp only [AV.cells, Value.cells, RelL]; exact ⟨_, _, rfl, h, rfl⟩))

theorem RelV.one {F : Nat → Nat} {m : Emb} {x : AV} {v : Value} (h : RelV F m x v) (hx : x.sc = true) : v.oneCell' = true := by
  cases x <;> simp only [AV.sc] at hx <;> first
    | (cases hx; done)
    | (simp only [RelV] at h
       first
         | (subst h; rfl)
         | (obtain ⟨a, rfl⟩ := h; rfl)
         | (obtain ⟨a, b, rfl⟩ := h; rfl)
         | (obtain ⟨a, h1, rfl⟩ := h; rfl)
         | (obtain ⟨a, rfl, h1⟩ := h; rfl)
         | (obtain ⟨a, h1, rfl, h2⟩ := h; rfl)
         | (obtain ⟨a, b, c, h1, rfl, h2⟩ := h; rfl))

/-! ### Heaps -/
def ObjRel (F : Nat → Nat) (base : Nat) (m : Emb) (w : World) (c : Nat) : AO → Prop
  | .row cs ver fl ro => ∀ k p, m.row c k = some p → fl ≤ k → k ≤ ver ∧ p.ext ≤ cs.length ∧ (k = ver → p.ext = cs.length) ∧ (ro = false → base ≤ p.blk) ∧
      ∃ C e fr, w.heap[p.blk]? = some (.cells C e fr) ∧ C.size = p.siz ∧ p.base + (p.ext - p.lo) ≤ p.siz ∧ (ro = false → p.siz ≤ fr.1 ∨ fr.2 ≤ fr.1) ∧
        ∀ j, p.lo ≤ j → j < p.ext → ∃ x v, cs[j]? = some x ∧ C[p.base + (j - p.lo)]? = some v ∧ RelV F m x v
  | .map es => ∀ b, m.obj c = some b → base ≤ b ∧ ∃ E clk, w.heap[b]? = some (.map E clk) ∧ RelE F m es E.toList ∧ clk = E.size ∧ ∀ (i : Nat) (e : MapEntry), E[i]? = some e → e.born = i
  | .iter s pos => ∀ b, m.obj c = some b → base ≤ b ∧ w.heap[b]? = some (.stringIter ⟨s.toArray⟩ pos)
  | .mit cm since seen => ∀ b, m.obj c = some b → base ≤ b ∧ ∃ bm sn, m.obj cm = some bm ∧ w.heap[b]? = some (.mapIter (some bm) since sn since) ∧ sn.toList = seen

def AO.isRow : AO → Bool
  | .row .. => true
  | _ => false

structure RelH (F : Nat → Nat) (base : Nat) (m : Emb) (h : AH) (w : World) : Prop where
  rowc : ∀ c k p, m.row c k = some p → ∃ o, h[c]? = some o ∧ o.isRow = true
  objc : ∀ c b, m.obj c = some b → ∃ o, h[c]? = some o ∧ o.isRow = false
  ob : ∀ c o, h[c]? = some o → ObjRel F base m w c o
  inj : ∀ c k p c' k' p', m.row c k = some p → m.row c' k' = some p' → base ≤ p.blk → p.blk = p'.blk → c = c' ∧ p.base + p'.lo = p'.base + p.lo ∧ p.siz = p'.siz
  injo : ∀ c c' b, m.obj c = some b → m.obj c' = some b → c = c'
  injr : ∀ c k p c' b, m.row c k = some p → m.obj c' = some b → p.blk ≠ b
  ltr : ∀ c k p, m.row c k = some p → p.blk < w.heap.size
  lto : ∀ c b, m.obj c = some b → b < w.heap.size
  vers : ∀ c cs ver fl ro k p, h[c]? = some (.row cs ver fl ro) → m.row c k = some p → k ≤ ver
  le : base ≤ w.heap.size

def Emb.has (m : Emb) (b : Nat) : Prop := (∃ c k p, m.row c k = some p ∧ p.blk = b) ∨ ∃ c, m.obj c = some b
def Emb.placed (m : Emb) (c : Nat) : Prop := (∃ k p, m.row c k = some p) ∨ ∃ b, m.obj c = some b

/-- What a piece of the run does. -/
structure StepR (F : Nat → Nat) (base : Nat) (m : Emb) (h : AH) (w : World) (m' : Emb) (h' : AH) (w' : World) : Prop where
  le : m.le m'
  rel : RelH F base m' h' w'
  os : w'.os = w.os
  tape : w'.tape = w.tape
  out : w'.output = w.output
  size : w.heap.size ≤ w'.heap.size
  frame : ∀ b, b < w.heap.size → (b < base ∨ ¬ m.has b) → w'.heap[b]? = w.heap[b]?
  newr : ∀ c k p, m'.row c k = some p → m.row c k = some p ∨ ((h.length ≤ c ∨ ∃ k0 p0, m.row c k0 = some p0) ∧ (w.heap.size ≤ p.blk ∨ ∃ k0 p0, m.row c k0 = some p0 ∧ p0.blk = p.blk))
  newo : ∀ c b, m'.obj c = some b → m.obj c = some b ∨ (h.length ≤ c ∧ w.heap.size ≤ b)
  unpl : ∀ c, c < h.length → ¬ m.placed c → h'[c]? = h[c]?
  len : h.length ≤ h'.length

theorem StepR.refl {F : Nat → Nat} {base : Nat} {m : Emb} {h : AH} {w : World} (hr : RelH F base m h w) : StepR F base m h w m h w :=
  ⟨Emb.le_refl m, hr, rfl, rfl, rfl, Nat.le_refl _, fun _ _ _ => rfl, fun _ _ _ h => .inl h, fun _ _ h => .inl h, fun _ _ _ => rfl, Nat.le_refl _⟩

theorem StepR.trans {F : Nat → Nat} {base : Nat} {m m' m'' : Emb} {h h' h'' : AH} {w w' w'' : World} (a : StepR F base m h w m' h' w') (b : StepR F base m' h' w' m'' h'' w'') :
    StepR F base m h w m'' h'' w'' where
  le := Emb.le_trans a.le b.le
  rel := b.rel
  os := b.os.trans a.os
  tape := b.tape.trans a.tape
  out := b.out.trans a.out
  size := Nat.le_trans a.size b.size
  frame := by
    intro i hi hb
    rw [b.frame i (Nat.lt_of_lt_of_le hi a.size) ?_, a.frame i hi hb]
    rcases hb with hb | hb
    · exact .inl hb
    · refine .inr fun hh => hb ?_
      rcases hh with ⟨c, k, p, h1, h2⟩ | ⟨c, h1⟩
      · rcases a.newr c k p h1 with h3 | ⟨_, h3 | ⟨k0, p0, h3, h4⟩⟩
        · exact .inl ⟨c, k, p, h3, h2⟩
        · omega
        · exact .inl ⟨c, k0, p0, h3, h4.trans h2⟩
      · rcases a.newo c i h1 with h3 | ⟨_, h3⟩
        · exact .inr ⟨c, h3⟩
        · omega
  newr := by
    intro c k p h1
    rcases b.newr c k p h1 with h2 | ⟨h2, h3⟩
    · exact a.newr c k p h2
    · refine .inr ⟨?_, ?_⟩
      · rcases h2 with h2 | ⟨k0, p0, h2⟩
        · exact .inl (Nat.le_trans a.len h2)
        · rcases a.newr c k0 p0 h2 with h4 | ⟨h4, _⟩
          · exact .inr ⟨k0, p0, h4⟩
          · exact h4
      · rcases h3 with h3 | ⟨k0, p0, h3, h4⟩
        · exact .inl (Nat.le_trans a.size h3)
        · rcases a.newr c k0 p0 h3 with h5 | ⟨_, h5 | ⟨k1, p1, h5, h6⟩⟩
          · exact .inr ⟨k0, p0, h5, h4⟩
          · exact .inl (h4 ▸ h5)
          · exact .inr ⟨k1, p1, h5, h6.trans h4⟩
  newo := by
    intro c i h1
    rcases b.newo c i h1 with h2 | ⟨h2, h3⟩
    · exact a.newo c i h2
    · exact .inr ⟨Nat.le_trans a.len h2, Nat.le_trans a.size h3⟩
  unpl := by
    intro c hc hn
    rw [b.unpl c (Nat.lt_of_lt_of_le hc a.len) ?_, a.unpl c hc hn]
    rintro (⟨k, p, h1⟩ | ⟨i, h1⟩)
    · rcases a.newr c k p h1 with h2 | ⟨h2 | ⟨k0, p0, h2⟩, _⟩
      · exact hn (.inl ⟨k, p, h2⟩)
      · omega
      · exact hn (.inl ⟨k0, p0, h2⟩)
    · rcases a.newo c i h1 with h2 | ⟨h2, _⟩
      · exact hn (.inr ⟨i, h2⟩)
      · omega
  len := Nat.le_trans a.len b.len

theorem StepR.below {F : Nat → Nat} {base : Nat} {m m' : Emb} {h h' : AH} {w w' : World} (a : StepR F base m h w m' h' w') (hb : base ≤ w.heap.size) : Below base w w' :=
  ⟨a.os, a.tape, a.out, a.size, fun i hi => a.frame i (Nat.lt_of_lt_of_le hi hb) (.inl hi)⟩

/-! ### Environments -/
def RelEnv (F : Nat → Nat) (m : Emb) (e : Env) (tmps : Array Value) : Prop := ∀ t, RelV F m (e.get t) (tmps.getD t undef)
theorem RelEnv.mono {F : Nat → Nat} {m m' : Emb} {e : Env} {tmps : Array Value} (hm : m.le m') (h : RelEnv F m e tmps) : RelEnv F m' e tmps := fun t => RelV.mono hm _ _ (h t)
theorem Env.get_set (e : Env) (t u : Nat) (v : AV) : (e.set t v).get u = if t = u then v else e.get u := by
  induction e with
  | nil => simp only [Env.set, Env.get]
  | cons x e ih =>
    obtain ⟨k, y⟩ := x
    simp only [Env.set]
    by_cases h : k = t
    · simp only [if_pos h, Env.get]; subst h; split <;> rfl
    · simp only [if_neg h]
      split
      · simp only [Env.get]
      · simp only [Env.get, ih]
        by_cases h1 : k = u
        · simp only [if_pos h1]; rw [if_neg]; omega
        · simp only [if_neg h1]
theorem Env.get_del (e : Env) (t u : Nat) : (e.del t).get u = if t = u then .undef else e.get u := by
  induction e with
  | nil => simp [Env.del, Env.get]
  | cons x e ih =>
    obtain ⟨k, y⟩ := x
    simp only [Env.del]
    by_cases h : k = t
    · simp only [if_pos h, ih, Env.get]; subst h; split <;> rfl
    · simp only [if_neg h, Env.get, ih]
      by_cases h1 : k = u
      · simp only [if_pos h1]; rw [if_neg]; omega
      · simp only [if_neg h1]
theorem RelEnv.del {F : Nat → Nat} {m : Emb} {e : Env} {tmps : Array Value} (h : RelEnv F m e tmps) (t : Nat) : RelEnv F m (e.del t) tmps := by
  intro u
  rw [Env.get_del]
  split
  · simp only [RelV]
  · exact h u
theorem RelEnv.dels {F : Nat → Nat} {m : Emb} {tmps : Array Value} : ∀ (ts : List Nat) {e : Env}, RelEnv F m e tmps → RelEnv F m (e.dels ts) tmps
  | [], _, h => h
  | t :: ts, _, h => RelEnv.dels ts (h.del t)
theorem getD_set (tmps : Array Value) (t u : Nat) (v : Value) : (tmps.setIfInBounds t v).getD u undef = if t = u ∧ t < tmps.size then v else tmps.getD u undef := by
  simp only [Array.getD_eq_getD_getElem?, Array.getElem?_setIfInBounds]
  by_cases h : t = u
  · subst h
    by_cases h2 : t < tmps.size <;> simp [h2]
  · simp [h]
theorem RelEnv.put {F : Nat → Nat} {m : Emb} {e : Env} {a : Act} (h : RelEnv F m e a.tmps) {r : AV} {v : Value} (hv : RelV F m r v) (d : Option Nat) (hd : ∀ t, d = some t → t < a.tmps.size) :
    RelEnv F m (Ab.put e d r) (a.put d v).tmps := by
  cases d with
  | none => exact h
  | some t =>
    intro u
    simp only [Ab.put, Act.put, Env.get_set]
    rw [getD_set]
    have := hd t rfl
    by_cases h1 : t = u
    · simp only [if_pos h1, if_pos (And.intro h1 this)]; exact hv
    · simp only [if_neg h1, h1, false_and, if_false]; exact h u
theorem init_get : ∀ (xs : List AV) (i t : Nat), (Env.init i xs).get t = if i ≤ t ∧ t < i + xs.length then xs.getD (t - i) .undef else .undef
  | [], i, t => by simp [Env.init, Env.get]
  | x :: xs, i, t => by
    simp only [Env.init, Env.get, init_get xs (i + 1) t, List.length_cons]
    by_cases h : i = t
    · subst h; simp
    · simp only [if_neg h]
      by_cases h1 : i + 1 ≤ t ∧ t < i + 1 + xs.length
      · rw [if_pos h1, if_pos (by omega)]
        obtain ⟨d, rfl⟩ : ∃ d, t = i + 1 + d := ⟨t - (i + 1), by omega⟩
        rw [show i + 1 + d - i = d + 1 by omega, show i + 1 + d - (i + 1) = d by omega]; simp
      · rw [if_neg h1, if_neg (by omega)]

end Go.Proofs.YtejhhdpfndiliaaDoor.Ab

/- THE CHECKER: is a compact literal the model's code? Evaluated by the kernel. -/
namespace Go.Proofs.YtejhhdpfndiliaaDoor.Ab
open Go

def nilSv : Value → Bool
  | .slice none 0 0 => true
  | _ => false
def nilPv : Value → Bool
  | .pointer none => true
  | _ => false
def nilMv : Value → Bool
  | .map none => true
  | _ => false
theorem nilSv_eq {v : Value} (h : nilSv v = true) : v = .slice none 0 0 := by
  unfold nilSv at h; split at h
  · rfl
  · cases h
theorem nilPv_eq {v : Value} (h : nilPv v = true) : v = .pointer none := by
  unfold nilPv at h; split at h
  · rfl
  · cases h
theorem nilMv_eq {v : Value} (h : nilMv v = true) : v = .map none := by
  unfold nilMv at h; split at h
  · rfl
  · cases h

mutual
def chkV (F : Nat → Nat) : AV → Value → Bool
  | .int k n, .int k' n' => decide (k = k') && decide (n = n')
  | .bool b, .bool b' => b == b'
  | .str s, .string t => decide (t.data.toList = s)
  | .nilS, v => nilSv v
  | .nilP, v => nilPv v
  | .nilM, v => nilMv v
  | .nilF, .nilFunc => true
  | .nilI, .nilIface => true
  | .agg xs, .agg vs => chkVs F xs vs.toList
  | .tup xs, .tuple vs => chkVs F xs vs.toList
  | _, _ => false
def chkVs (F : Nat → Nat) : List AV → List Value → Bool
  | [], [] => true
  | x :: xs, v :: vs => chkV F x v && chkVs F xs vs
  | _, _ => false
end

def chkO (F : Nat → Nat) : Operand → Opd → Bool
  | .tmp t, .t n => decide (t = n)
  | .const v, .c x => chkV F x v
  | .func f, .c (.fn g []) => decide (F g = f)
  | _, _ => false
def chkOs (F : Nat → Nat) : List Operand → List Opd → Bool
  | [], [] => true
  | x :: xs, y :: ys => chkO F x y && chkOs F xs ys
  | _, _ => false
def chkOo (F : Nat → Nat) : Option Operand → Option Opd → Bool
  | none, none => true
  | some x, some y => chkO F x y
  | _, _ => false

section
variable (P : Program) (F : Nat → Nat)
def isB (t : TypeId) : Bool := match P.underlying t with | some .bool => true | _ => false
def isI (t : TypeId) (k : IntKind) : Bool := match P.underlying t with | some (.int k') => decide (k' = k) | _ => false
def isS (t : TypeId) : Bool := match P.underlying t with | some .string => true | _ => false
def isM (t : TypeId) : Bool := match P.underlying t with | some (.map ..) => true | _ => false
def sz (t : TypeId) (n : Nat) : Bool := match P.info? t with | some i => decide (i.size = n) | none => false
def by64 (t : TypeId) : Bool := match P.info? t with | some i => decide (i.bytes ≤ 64) | none => false
def zer (t : TypeId) (z : List AV) : Bool := match P.info? t with
  | some i => match i.zero with
    | some v => chkVs F z v.cells.toList && z.all AV.sc
    | none => false
  | none => false
def isAg (t : TypeId) (agg : Bool) : Bool := match P.underlying t with
  | some (.struct _) | some (.array _ _) => agg
  | some _ => !agg
  | none => false
/-- a type's value: aggregate or not, so many cells -/
def shp (t : TypeId) (agg : Bool) (n : Nat) : Bool := isAg P t agg && sz P t n && (agg || decide (n = 1))
def hasT (t : TypeId) : Bool := (P.underlying t).isSome
def sliceOf (t : TypeId) (esz : Nat) : Bool := match P.underlying t with | some (.slice e) => sz P e esz | _ => false
def arrOf (t : TypeId) (len esz : Nat) : Bool := match P.underlying t with | some (.array n e) => decide (n = len) && sz P e esz | _ => false
def placesF (fs : Array Field) : List (Nat × Operand) → List (Nat × Nat × Opd) → Bool
  | [], [] => true
  | (i, x) :: ps, (off, n, y) :: qs => (match fs[i]? with | some f => decide (f.offset = off) && sz P f.type n | none => false) && chkO F x y && placesF fs ps qs
  | _, _ => false
def placesA (esz : Nat) : List (Nat × Operand) → List (Nat × Nat × Opd) → Bool
  | [], [] => true
  | (i, x) :: ps, (off, n, y) :: qs => decide (i * esz = off) && decide (n = esz) && chkO F x y && placesA esz ps qs
  | _, _ => false
def szAll (fs : Array Field) : Bool := fs.toList.all fun f => (P.info? f.type).isSome
def nilT (t : TypeId) (kd : Nat) : Operand → Bool
  | .const v => match P.underlying t with
    | some (.slice _) => decide (kd = 0) && nilSv v
    | some (.pointer _) => decide (kd = 1) && nilPv v
    | some (.map _ _) => decide (kd = 2) && nilMv v
    | some (.func _ _ _) => decide (kd = 3) && (match v with | .nilFunc => true | _ => false)
    | some (.interface _) => decide (kd = 4) && (match v with | .nilIface => true | _ => false)
    | _ => false
  | _ => false
def keyD (kd : Nat) : TypeDesc → Bool
  | .int _ => decide (kd = 0)
  | .string => decide (kd = 1)
  | .bool => decide (kd = 2)
  | _ => false
/-- a struct all of whose fields are numbers, bools and strings, each in its cell -/
def flatFs : List Field → Nat → List Nat → Bool
  | [], _, [] => true
  | f :: fs, i, kd :: kds => decide (f.offset = i) && (match P.underlying f.type with | some d => keyD kd d | none => false) && sz P f.type 1 && decide (f.name ≠ "_") && flatFs fs (i + 1) kds
  | _, _, _ => false
def flatAgg (t : TypeId) (kds : List Nat) : Bool := match P.underlying t with
  | some (.struct fs) => flatFs P fs.toList 0 kds && !P.stoodInHeld t && !P.eqGuardType P.depth t
  | _ => false
def keyT (kd : Nat) (t : TypeId) : Bool := match P.underlying t with
  | some (.map k _) => match P.underlying k with
    | some d => keyD kd d
    | none => false
  | _ => false
def fnOk (f : FuncId) : Bool := match P.funcs[f]? with
  | some fn => fn.body.isSome && !(fn.name == "runtime.NumGoroutine")
  | none => false
def seqT (t : TypeId) : Bool := match P.underlying t with | some (.slice _) | some .string => true | _ => false

def zerN (t : TypeId) (n : Nat) : Bool := match P.info? t with
  | some i => match i.zero with
    | some v => decide (v.cells.size = n)
    | none => false
  | none => false
def chkCall (c : Call) : AOp → Bool
  | .call g xs => match c.callee with
    | .value (.func f) => decide (F g = f) && chkOs F c.args.toList xs
    | _ => false
  | .callv x xs => match c.callee with
    | .value y => chkO F y x && chkOs F c.args.toList xs
    | _ => false
  | .lenS x => match c.callee with
    | .builtin .len => match c.argTypes[0]?, c.args.toList with
      | some t, [y] => isS P t && chkO F y x
      | _, _ => false
    | _ => false
  | .lenV x => match c.callee with
    | .builtin .len => match c.argTypes[0]?, c.args.toList with
      | some t, [y] => (match P.underlying t with | some (.slice _) => true | _ => false) && chkO F y x
      | _, _ => false
    | _ => false
  | .mlen x => match c.callee with
    | .builtin .len => match c.argTypes[0]?, c.args.toList with
      | some t, [y] => (match P.underlying t with | some (.map _ _) => true | _ => false) && chkO F y x
      | _, _ => false
    | _ => false
  | .app esz s x => match c.callee with
    | .builtin .append => match c.argTypes[0]?, c.argTypes[1]?, c.args.toList with
      | some t, some t2, [y, z] => (match P.underlying t with | some (.slice e) => sz P e esz && by64 P e && zerN P e esz | _ => false) && seqT P t2 && chkO F y s && chkO F z x
      | _, _, _ => false
    | _ => false
  | .appS s x => match c.callee with
    | .builtin .append => match c.argTypes[0]?, c.argTypes[1]?, c.args.toList with
      | some t, some t2, [y, z] => (match P.underlying t with | some (.slice e) => sz P e 1 && by64 P e && zerN P e 1 | _ => false) && seqT P t2 && chkO F y s && chkO F z x
      | _, _, _ => false
    | _ => false
  | .copy esz s x => match c.callee with
    | .builtin .copy => match c.argTypes[0]?, c.args.toList with
      | some t, [y, z] => sliceOf P t esz && chkO F y s && chkO F z x
      | _, _ => false
    | _ => false
  | .clr z x => match c.callee with
    | .builtin .clear => match c.argTypes[0]?, c.args.toList with
      | some t, [y] => (match P.underlying t with | some (.slice e) => zer P F e z && decide (0 < z.length) | _ => false) && chkO F y x
      | _, _ => false
    | _ => false
  | .mmx mx x y => match c.callee with
    | .builtin b => (match b, mx with | .max, true | .min, false => true | _, _ => false) && chkOs F c.args.toList [x, y]
    | _ => false
  | _ => false

def chkOp : Op → AOp → Bool
  | .move x, .mov y | .assign x, .mov y => chkO F x y
  | .pick a b c, .pick x y z => chkO F a x && chkO F b y && chkO F c z
  | .binOp op _ a b _, .bin op' x y => decide (op = op') && chkO F a x && chkO F b y
  | .binOp op t a b _, .beq neg x y => decide (op = if neg then .neq else .eql) && isB P t && chkO F a x && chkO F b y
  | .binOp op t a b _, .aeq neg n x y => decide (op = if neg then .neq else .eql) && flatAgg P t n && chkO F a x && chkO F b y
  | .binOp op t a b _, .niq neg kd x => decide (op = if neg then .neq else .eql) && nilT P t kd b && chkO F a x
  | .unOp op _ a, .un op' x => decide (op = op') && chkO F a x
  | .convert s d a, .conv k x => hasT P s && isI P d k && chkO F a x
  | .convert s d a, .toB x => hasT P s && (match P.underlying d with | some (.slice e) => isI P e .u8 | _ => false) && chkO F a x
  | .convert s d a, .ofB x => (match P.underlying s with | some (.slice e) => isI P e .u8 | _ => false) && isS P d && chkO F a x
  | .convert s d a, .ofR x => hasT P s && isS P d && chkO F a x
  | .alloc t, .new z => zer P F t z
  | .box _ a, .box x => chkO F a x
  | .build t ps, .build z qs => zer P F t z && (match P.underlying t with
      | some (.struct fs) => szAll P fs && placesF P F fs ps.toList qs
      | some (.array _ e) => (match P.info? e with | some i => placesA F i.size ps.toList qs | none => false)
      | _ => false)
  | .buildSlice t n ps, .lit esz n' z qs => decide (n = n') && (match P.underlying t with
      | some (.slice e) => sz P e esz && decide (0 < esz) && decide (n * esz ≤ 2 ^ 24) && (match P.info? e with
        | some i => (match i.zero with | some v => chkVs F z ((Array.range (n * esz)).map (v.cells[· % v.cells.size]!)).toList && z.all AV.sc && decide (0 < n) | none => false)
        | none => false) && placesA F esz ps.toList qs
      | _ => false)
  | .buildSlice t 0 ps, .lit0 => ps.isEmpty && (match P.underlying t with
      | some (.slice e) => (P.info? e).isSome
      | _ => false)
  | .load t a, .load agg n x => shp P t agg n && chkO F a x
  | .store t a v, .store n x y => sz P t n && chkO F a x && chkO F v y
  | .nilCheck a, .nck x => chkO F a x
  | .fieldAddr t a f, .faddr off n x => (match P.underlying t with
      | some (.struct fs) => (match fs[f]? with | some g => decide (g.offset = off) && sz P g.type n && decide (0 < n) | none => false)
      | _ => false) && chkO F a x
  | .field t a f, .fld agg off n x => (match P.underlying t with
      | some (.struct fs) => (match fs[f]? with | some g => decide (g.offset = off) && shp P g.type agg n | none => false)
      | _ => false) && chkO F a x
  | .indexAddr t a i, .iaddr esz x y => sliceOf P t esz && chkO F a x && chkO F i y
  | .indexAddr t a i, .iaddrA len esz x y => arrOf P t len esz && chkO F a x && chkO F i y
  | .index t a i, .idx agg len esz x y => (match P.underlying t with | some (.array n e) => decide (n = len) && shp P e agg esz | _ => false) && chkO F a x && chkO F i y
  | .index t a i, .idxS x y => isS P t && chkO F a x && chkO F i y
  | .slice t a lo hi none, .sub esz x lo' hi' => sliceOf P t esz && decide (0 < esz) && chkO F a x && chkOo F lo lo' && chkOo F hi hi'
  | .slice t a none (some hi) (some mx), .sub0 x hi' mx' => (match P.underlying t with | some (.slice e) => (P.info? e).isSome | _ => false) && chkO F a x && chkO F hi hi' && chkO F mx mx'
  | .slice t a lo hi none, .subS x lo' hi' => isS P t && chkO F a x && chkOo F lo lo' && chkOo F hi hi'
  | .slice t a lo hi none, .subA len esz x lo' hi' => arrOf P t len esz && decide (0 < esz) && chkO F a x && chkOo F lo lo' && chkOo F hi hi'
  | .makeSlice t a b, .make esz z x y => (match P.underlying t with | some (.slice e) => sz P e esz && by64 P e && zer P F e z && decide (0 < esz) | _ => false) && chkO F a x && chkO F b y
  | .makeMap _ none, .mkmap => true
  | .makeMap t (some (.const (.int _ _))), .mkmap => (match P.underlying t with | some (.map _ _) => true | _ => false)
  | .makeFunc (.func f) first caps, .mkfn g ys => first.isEmpty && decide (F g = f) && chkOs F caps.toList ys
  | .lookup t a k ok, .look kd z ok' x y => decide (ok = ok') && keyT P kd t && (match P.underlying t with
      | some (.map _ e) => (match P.info? e with
        | some i => (match i.zero with | some v => chkV F z v | none => false)
        | none => false)
      | _ => false) && chkO F a x && chkO F k y
  | .mapUpdate t a k v, .mset kd x y z | .insert t a k v, .mset kd x y z => keyT P kd t && chkO F a x && chkO F k y && chkO F v z
  | .range t a, .rng x => isS P t && chkO F a x
  | .range t a, .rngM x => isM P t && chkO F a x
  | .entry a, .ent x => chkO F a x
  | .next a s, .nxt x => s && chkO F a x
  | .extract a i, .prj j x => decide (i = j) && chkO F a x
  | .call c, ao => chkCall P F c ao
  | _, _ => false

def chkG (ops : Array Oper) (o : Oper) (i : I) : Bool :=
  match o.guard, i.grd with
  | none, none => true
  | some (j, want), some (t, want') => decide (want = want') && decide ((ops[j]?).bind (·.dst) = some t)
  | _, _ => false
def chkD (nt : Nat) (d d' : Option Nat) : Bool := decide (d = d') && (match d with | some t => decide (t < nt) | none => true)
def chkI (nt : Nat) (ops : Array Oper) (o : Oper) (i : I) : Bool := chkD nt o.dst i.dst && chkG ops o i && chkOp P F o.op i.op
def chkIs (nt : Nat) (ops : Array Oper) : List Oper → List I → Bool
  | [], [] => true
  | o :: os, i :: is => chkI P F nt ops o i && chkIs nt ops os is
  | _, _ => false
end

end Go.Proofs.YtejhhdpfndiliaaDoor.Ab
